/- The program's DigestOfLog returns what the reference's returns, for every log that can be read. -/
import Derived.Test.YtopdflppdpmblaaDoorXFnExactDigestOfLogx14
import Derived.Test.YtopdflppdpmblaaDoorVFnExactDigestOfLogXP
namespace Go.Proofs.YtopdflppdpmblaaDoor.Pure
open Go.RowKit Go.Proofs.YtopdflppdpmblaaDoor.XFnExactDigestOfLog Go.Proofs.YtopdflppdpmblaaDoorW.PrintWords Go.Proofs.YtopdflppdpmblaaDoorW.PrintLast Go.Proofs.YtopdflppdpmblaaDoor.XP Go.Proofs.YtopdflppdpmblaaDoor.XP Go.Proofs.YtopdflppdpmblaaDoor.XP Go.Proofs.YtopdflppdpmblaaDoor.XP
set_option linter.unusedVariables false
set_option linter.unusedSimpArgs false

theorem toInt64S_from (l : List Int) (h : l.length ≤ 1073741824) : From (fun k => laws_toInt64S.f k l) l := by
  obtain ⟨K, hK⟩ := fill_all (F := laws_toInt64S.l0) (fun x : Int => x) 0 0 (fun k xs ys i h0 h1 h2 h3 => by
      simp only [laws_toInt64S.l0, h0, h1, h2, if_true, wsucc h0 h3]; rfl) (fun k xs ys i h => by simp only [laws_toInt64S.l0, h, if_false]) l (by omega)
  refine ⟨K, fun k hk => ?_⟩
  simp only [laws_toInt64S.f, Int.toNat_natCast]
  rw [if_pos (by omega), if_pos (by omega)]
  simpa using hK k hk
theorem eqInt64S_from (l : List Int) (h : l.length ≤ 1073741824) : From (fun k => laws_eqInt64S.f k l l) true := by
  obtain ⟨K, hK⟩ := all_loop (fun k i => laws_eqInt64S.l0 k l l i) l.length (by omega) 0 true (fun k i _ h0 h1 => by
      simp only [laws_eqInt64S.l0, h0, h1, if_true, wsucc h0 (by omega)]) (fun k i _ h _ => by simp only [laws_eqInt64S.l0, h, if_false])
  refine ⟨K, fun k hk => ?_⟩
  simp only [laws_eqInt64S.f, if_true]
  exact hK k hk
theorem szN (n : Nat) (a : Int) (hl : n ≤ 9223372036854775807) (ha : 0 ≤ a) (ha2 : a ≤ 1048576) : wrap64 (a - (n : Int)) = a - n := w64 (by omega) (by omega)
theorem szMessage_tells (a0 a1 a2 : Int) (s : ByteArray) (a4 : Int) (b : Bool) (a6 : Int) (l : List Int) (a : Int) (ha : 0 ≤ a) (ha2 : a ≤ 1048576) (h1 : s.size ≤ 9223372036854775807) (h2 : l.length ≤ 9223372036854775807) :
    ∃ r, laws_szMessage.f a0 a1 a2 s a4 b a6 l a = some r ∧ (r < 0 ∨ (s.size ≤ 1048576 ∧ l.length ≤ 1048576 ∧ 0 ≤ r ∧ r ≤ a)) := by
  unfold laws_szMessage.f laws_szInt64S.f
  rw [szN s.size a h1 ha ha2]
  by_cases c1 : a - (s.size : Int) < 0
  · rw [if_pos c1]; exact ⟨_, rfl, .inl (by omega)⟩
  rw [if_neg c1, szN l.length (a - s.size) h2 (by omega) (by omega)]
  by_cases c2 : a - (s.size : Int) - l.length < 0
  · rw [if_pos c2]; exact ⟨-1, rfl, .inl (by omega)⟩
  rw [if_neg c2, Option.bind_some, if_neg c2]
  exact ⟨_, rfl, .inr (by omega)⟩
theorem toMessage_from (a0 a1 a2 : Int) (s : ByteArray) (a4 : Int) (b : Bool) (a6 : Int) (l : List Int) (h : l.length ≤ 1048576) : From (fun k => laws_toMessage.f k a0 a1 a2 s a4 b a6 l) (a0, a1, a2, s, a4, b, a6, l) := by
  obtain ⟨K, hK⟩ := toInt64S_from l (by omega)
  exact ⟨K, fun k hk => by simp only [laws_toMessage.f, hK k hk, Option.bind_some]⟩
theorem eqMessage_from (a0 a1 a2 : Int) (s : ByteArray) (a4 : Int) (b : Bool) (a6 : Int) (l : List Int) (h : l.length ≤ 1048576) : From (fun k => laws_eqMessage.f k a0 a1 a2 s a4 b a6 l a0 a1 a2 s a4 b a6 l) true := by
  obtain ⟨K, hK⟩ := eqInt64S_from l (by omega)
  exact ⟨K, fun k hk => by simp [laws_eqMessage.f, hK k hk]⟩
abbrev zM := z81
abbrev zL := z108
def okL (b : S108) : Prop := b.f3.size ≤ 1048576 ∧ b.f7.length ≤ 1048576
def okM (b : S81) : Prop := b.f3.size ≤ 1048576 ∧ b.f7.length ≤ 1048576
theorem szMessageS_tells (l : List S108) (a : Int) (ha : 0 ≤ a) (ha2 : a ≤ 1048576) (h1 : l.length ≤ 9223372036854775807) (hq : ∀ y ∈ l, Q108 y) :
    ∃ r, From (fun k => laws_szMessageS.f k l a) r ∧ (r < 0 ∨ (l.length ≤ 1048576 ∧ (∀ y ∈ l, okL y) ∧ 0 ≤ r ∧ r ≤ a)) := by
  unfold laws_szMessageS.f
  rw [szN l.length a h1 ha ha2]
  by_cases c1 : a - (l.length : Int) < 0
  · simp only [if_pos c1]; exact ⟨-1, from_now fun _ => rfl, .inl (by omega)⟩
  simp only [if_neg c1]
  obtain ⟨r, hr, h⟩ := pay_loop (F := fun k a i => laws_szMessageS.l0 k l a i) l.length (fun j => okL (l.getD j z108)) (fun a i h0 h2 h3 h4 => by
      have hm := getD_mem z108 (show i.toNat < l.length by omega)
      have hq2 := hq _ hm
      obtain ⟨t, ht, hc⟩ := szMessage_tells (l.getD i.toNat z108).f0 (l.getD i.toNat z108).f1 (l.getD i.toNat z108).f2 (l.getD i.toNat z108).f3 (l.getD i.toNat z108).f4 (l.getD i.toNat z108).f5 (l.getD i.toNat z108).f6 (l.getD i.toNat z108).f7 a h3 h4 hq2.2.2.2.1 hq2.2.2.2.2.2.2.2.1
      refine ⟨0, ?_⟩
      rcases hc with hc | ⟨b1, b2, b3, b4⟩
      · left; intro k _; simp only [laws_szMessageS.l0, h0, h2, if_true, rd_T108, ht, Option.bind_some, hc]
      · right; refine ⟨t, b3, b4, ⟨b1, b2⟩, fun k _ => ?_⟩
        have hn : ¬ t < 0 := by omega
        simp only [laws_szMessageS.l0, h0, h2, if_true, rd_T108, ht, Option.bind_some, hn, if_false, wsucc h0 (by omega)]) (fun k a => by simp only [laws_szMessageS.l0, Int.lt_irrefl, if_false]) (a - l.length) (by omega) (by omega)
  refine ⟨r, hr, h.imp id fun ⟨r0, r1, hj⟩ => ⟨by omega, fun y hy => ?_, r0, by omega⟩⟩
  obtain ⟨j, hj2, rfl⟩ := List.mem_iff_getElem.1 hy
  have := hj j hj2
  rwa [List.getD_eq_getElem?_getD, List.getElem?_eq_getElem hj2] at this
theorem szLog_tells (m : Int) (l : List S108) (a : Int) (ha : 0 ≤ a) (ha2 : a ≤ 1048576) (h1 : l.length ≤ 9223372036854775807) (hq : ∀ y ∈ l, Q108 y) :
    ∃ r, From (fun k => laws_szLog.f k m l a) r ∧ (r < 0 ∨ (l.length ≤ 1048576 ∧ (∀ y ∈ l, okL y) ∧ 0 ≤ r ∧ r ≤ a)) := by
  obtain ⟨r, ⟨K, hK⟩, h⟩ := szMessageS_tells l a ha ha2 h1 hq
  rcases h with h | h
  · exact ⟨-1, ⟨K, fun k hk => by simp only [laws_szLog.f, hK k hk, Option.bind_some, h, if_true]⟩, .inl (by omega)⟩
  · have hn : ¬ r < 0 := by omega
    exact ⟨r, ⟨K, fun k hk => by simp only [laws_szLog.f, hK k hk, Option.bind_some, hn, if_false]⟩, .inr h⟩
def convMessage (x : S108) : S81 := ⟨x.f0, x.f1, x.f2, x.f3, x.f4, x.f5, x.f6, x.f7⟩
theorem toMessageS_from (l : List S108) (h : l.length ≤ 1048576) (hb : ∀ y ∈ l, okL y) : From (fun k => laws_toMessageS.f k l) (l.map convMessage) := by
  obtain ⟨K, hK⟩ := from_all (g := fun k j => laws_toInt64S.f k (l.getD j z108).f7) (fun j => (l.getD j z108).f7) l.length fun j hj => toInt64S_from _ (by have := (hb _ (getD_mem z108 hj)).2; omega)
  obtain ⟨L, hL⟩ := fill_allK (F := fun k ys i => laws_toMessageS.l0 k l ys i) convMessage z108 z81 l K (fun k ys i hk h0 h1 h2 => by
      simp only [laws_toMessageS.l0, h0, h1, h2, if_true, laws_toMessage.f, rd_T108, hK k hk i.toNat (by omega), Option.bind_some, wsucc h0 (by omega)]; rfl) (fun k ys i _ h => by simp only [laws_toMessageS.l0, h, if_false])
  refine ⟨L, fun k hk => ?_⟩
  simp only [laws_toMessageS.f, Int.toNat_natCast]
  rw [if_pos (by omega), if_pos (by omega)]
  exact hL k hk
theorem eqMessageS_from (l : List S81) (h : l.length ≤ 1048576) (hb : ∀ y ∈ l, okM y) : From (fun k => laws_eqMessageS.f k l l) true := by
  obtain ⟨K, hK⟩ := from_all (g := fun k j => laws_eqMessage.f k (l.getD j z81).f0 (l.getD j z81).f1 (l.getD j z81).f2 (l.getD j z81).f3 (l.getD j z81).f4 (l.getD j z81).f5 (l.getD j z81).f6 (l.getD j z81).f7 (l.getD j z81).f0 (l.getD j z81).f1 (l.getD j z81).f2 (l.getD j z81).f3 (l.getD j z81).f4 (l.getD j z81).f5 (l.getD j z81).f6 (l.getD j z81).f7) (fun j => true) l.length fun j hj => eqMessage_from _ _ _ _ _ _ _ _ (hb _ (getD_mem z81 hj)).2
  obtain ⟨L, hL⟩ := all_loop (fun k i => laws_eqMessageS.l0 k l l i) l.length (by omega) K true (fun k i hk h0 h1 => by
      simp only [laws_eqMessageS.l0, h0, h1, if_true, rd_T81, hK k hk i.toNat (by omega), Option.bind_some, wsucc h0 (by omega)]) (fun k i _ h _ => by simp only [laws_eqMessageS.l0, h, if_false])
  refine ⟨L, fun k hk => ?_⟩
  simp only [laws_eqMessageS.f, if_true]
  exact hL k hk
theorem okM_conv {l : List S108} (hb : ∀ y ∈ l, okL y) : ∀ y ∈ l.map convMessage, okM y := by
  intro y hy
  obtain ⟨x, hx, rfl⟩ := List.mem_map.1 hy
  exact hb x hx
theorem toLog_from (m : Int) (l : List S108) (h : l.length ≤ 1048576) (hb : ∀ y ∈ l, okL y) : From (fun k => laws_toLog.f k m l) (m, l.map convMessage) := by
  obtain ⟨K, hK⟩ := toMessageS_from l h hb
  exact ⟨K, fun k hk => by simp only [laws_toLog.f, hK k hk, Option.bind_some]⟩
theorem eqLog_from (m : Int) (l : List S81) (h : l.length ≤ 1048576) (hb : ∀ y ∈ l, okM y) : From (fun k => laws_eqLog.f k m l m l) true := by
  obtain ⟨K, hK⟩ := eqMessageS_from l h hb
  exact ⟨K, fun k hk => by simp only [laws_eqLog.f, hK k hk, Option.bind_some, if_true]⟩
theorem in_eq (a b c : Int) : spec_l00In.f a b c = impl_in.f a b c := rfl
theorem in_some (a b c : Int) : impl_in.f a b c = some (decide (b ≤ a ∧ a ≤ c)) := by
  unfold impl_in.f
  split
  · congr 1; rw [decide_eq_decide]; omega
  · congr 1; symm; rw [decide_eq_false_iff_not]; omega

def risesB (l : List Int) : Bool := (List.range l.length).all fun j => decide (1 ≤ l.getD j 0 ∧ l.getD j 0 ≤ 1000) && (decide (j = 0) || decide (l.getD (j - 1) 0 < l.getD j 0))
theorem prev_of {i : Int} (h0 : 0 ≤ i) (h1 : i ≤ 4611686018427387904) (hp : i > 0) : wrap64 (i - 1) = i - 1 ∧ (i - 1).toNat = i.toNat - 1 ∧ 0 ≤ i - 1 := ⟨wpred h0 h1, by omega, by omega⟩
theorem l00Rises_from (l : List Int) (h : l.length ≤ 1073741824) : From (fun k => spec_l00Rises.f k l 1 1000) (risesB l) := by
  obtain ⟨K, hK⟩ := test_loopB (fun k i => spec_l00Rises.l0 k l 1 1000 i) l.length 0 (fun j => decide (1 ≤ l.getD j 0 ∧ l.getD j 0 ≤ 1000) && (decide (j = 0) || decide (l.getD (j - 1) 0 < l.getD j 0))) true (fun k i _ h0 h1 => by
    simp only [spec_l00Rises.l0, in_eq, in_some, h0, h1, if_true, Option.bind_some, wsucc h0 (by omega), rd]
    by_cases c : 1 ≤ l.getD i.toNat 0 ∧ l.getD i.toNat 0 ≤ 1000
    · by_cases c5 : i > 0
      · obtain ⟨p1, p2, p3⟩ := prev_of h0 (by omega) c5
        have p4 : i - 1 < l.length := by omega
        have p5 : ¬ i.toNat = 0 := by omega
        by_cases c6 : l.getD (i.toNat - 1) 0 < l.getD i.toNat 0
        · have c7 : ¬ l.getD (i.toNat - 1) 0 ≥ l.getD i.toNat 0 := by omega
          simp only [c, c5, c6, c7, p1, p2, p3, p4, p5, if_true, if_false, decide_true, decide_false, and_self, Bool.true_and, Bool.false_or]
        · have c7 : l.getD (i.toNat - 1) 0 ≥ l.getD i.toNat 0 := by omega
          simp only [c, c5, c6, c7, p1, p2, p3, p4, p5, if_true, if_false, decide_true, decide_false, and_self, Bool.true_and, Bool.false_or, Bool.false_eq_true]
      · have p5 : i.toNat = 0 := by omega
        rw [p5] at c ⊢
        simp only [c, c5, if_true, if_false, decide_true, and_self, Bool.true_and, Bool.true_or]
    · simp [c, -List.getD_eq_getElem?_getD]) (fun k _ => by simp only [spec_l00Rises.l0, Int.lt_irrefl, if_false])
  exact ⟨K, fun k hk => by simpa [risesB, spec_l00Rises.f] using hK k hk⟩
theorem rising_from (l : List Int) (h : l.length ≤ 1073741824) : From (fun k => impl_rising_isMember.f k l) (risesB l) := by
  obtain ⟨K, hK⟩ := test_loopB (fun k i => impl_rising_isMember.l0 k l l l.length i) l.length 0 (fun j => decide (1 ≤ l.getD j 0 ∧ l.getD j 0 ≤ 1000) && (decide (j = 0) || decide (l.getD (j - 1) 0 < l.getD j 0))) true (fun k i _ h0 h1 => by
    simp only [impl_rising_isMember.l0, impl_isMember.f, in_some, h0, h1, if_true, Option.bind_some, wsucc h0 (by omega), rd]
    by_cases c : 1 ≤ l.getD i.toNat 0 ∧ l.getD i.toNat 0 ≤ 1000
    · by_cases c5 : i > 0
      · obtain ⟨p1, p2, p3⟩ := prev_of h0 (by omega) c5
        have p4 : i - 1 < l.length := by omega
        have p5 : ¬ i.toNat = 0 := by omega
        by_cases c6 : l.getD (i.toNat - 1) 0 < l.getD i.toNat 0
        · have c7 : ¬ l.getD (i.toNat - 1) 0 ≥ l.getD i.toNat 0 := by omega
          simp only [c, c5, c6, c7, p1, p2, p3, p4, p5, if_true, if_false, decide_true, decide_false, and_self, Bool.true_and, Bool.false_or]
        · have c7 : l.getD (i.toNat - 1) 0 ≥ l.getD i.toNat 0 := by omega
          simp only [c, c5, c6, c7, p1, p2, p3, p4, p5, if_true, if_false, decide_true, decide_false, and_self, Bool.true_and, Bool.false_or, Bool.false_eq_true]
      · have p5 : i.toNat = 0 := by omega
        rw [p5] at c ⊢
        simp only [c, c5, if_true, if_false, decide_true, and_self, Bool.true_and, Bool.true_or]
    · simp [c, -List.getD_eq_getElem?_getD]) (fun k _ => by simp only [impl_rising_isMember.l0, Int.lt_irrefl, if_false])
  exact ⟨K, fun k hk => by simpa [risesB, impl_rising_isMember.f] using hK k hk⟩
theorem text_both (s : ByteArray) (hs : s.size ≤ 1048576) : ∃ r, From (fun k => spec_l01IsText.f k s) r ∧ From (fun k => impl_IsText.f k s) r := by
  obtain ⟨K, hK⟩ := test_loopB (fun k i => spec_l01IsText.l0 k s i) s.size 0 (fun j => decide (32 ≤ bt s j ∧ bt s j ≤ 126)) (decide ((s.size : Int) ≤ 80)) (fun k i _ h0 h1 => by
    simp only [spec_l01IsText.l0, h0, h1, if_true, wsucc h0 (by omega), Int.toNat_of_nonneg h0]
    by_cases c : bt s i < 32
    · have c2 : ¬ (32 ≤ bt s i ∧ bt s i ≤ 126) := by omega
      simp [c, c2]
    · by_cases d : bt s i > 126
      · have c2 : ¬ (32 ≤ bt s i ∧ bt s i ≤ 126) := by omega
        simp [c, d, c2]
      · have c2 : (32 ≤ bt s i ∧ bt s i ≤ 126) := by omega
        simp [c, d, c2]) (fun k _ => by simp only [spec_l01IsText.l0, Int.lt_irrefl, if_false])
  obtain ⟨L, hL⟩ := test_loopB (fun k i => impl_IsText.l0 k s s.size i) s.size 0 (fun j => decide (32 ≤ bt s j ∧ bt s j ≤ 126)) (decide ((s.size : Int) ≤ 80)) (fun k i _ h0 h1 => by
    simp only [impl_IsText.l0, h0, h1, if_true, wsucc h0 (by omega), Int.toNat_of_nonneg h0]
    by_cases c : bt s i < 32
    · have c2 : ¬ (32 ≤ bt s i ∧ bt s i ≤ 126) := by omega
      simp [c, c2]
    · by_cases d : bt s i > 126
      · have c2 : ¬ (32 ≤ bt s i ∧ bt s i ≤ 126) := by omega
        simp [c, d, c2]
      · have c2 : (32 ≤ bt s i ∧ bt s i ≤ 126) := by omega
        simp [c, d, c2]) (fun k _ => by simp only [impl_IsText.l0, Int.lt_irrefl, if_false])
  exact ⟨_, ⟨K, hK⟩, ⟨L, hL⟩⟩
theorem has_both (l : List Int) (x : Int) (hl : l.length ≤ 1048576) : ∃ r, From (fun k => spec_l00Has.f k l x) r ∧ From (fun k => slices_Contains_int64_int64.f k l x) r := by
  obtain ⟨K, h⟩ := find_loop (fun k i => spec_l00Has.l0 k l x i) l.length 0 (fun j => rd l j = x) (fun _ => true) false (fun k i _ h0 h1 => by
    simp only [spec_l00Has.l0, h0, h1, if_true, wsucc h0 (by omega), Int.toNat_of_nonneg h0]) (fun k _ => by simp only [spec_l00Has.l0, Int.lt_irrefl, if_false])
  obtain ⟨L, g⟩ := find_loop (fun k i => slices_Index_int64_int64.l0 k l x l.length i) l.length 0 (fun j => x = rd l j) (fun j => (j : Int)) (-1) (fun k i _ h0 h1 => by
    simp only [slices_Index_int64_int64.l0, h0, h1, if_true, wsucc h0 (by omega), Int.toNat_of_nonneg h0]) (fun k _ => by simp only [slices_Index_int64_int64.l0, Int.lt_irrefl, if_false])
  rcases h with ⟨j, hj, hp, _, e⟩ | ⟨hn, e⟩ <;> rcases g with ⟨i, hi, gp, _, f⟩ | ⟨gn, f⟩
  · refine ⟨true, ⟨K, e⟩, ⟨L, fun k hk => ?_⟩⟩
    simp [slices_Contains_int64_int64.f, slices_Index_int64_int64.f, f k hk]
  · exact absurd hp.symm (gn j hj)
  · exact absurd gp.symm (hn i hi)
  · refine ⟨false, ⟨K, e⟩, ⟨L, fun k hk => ?_⟩⟩
    simp [slices_Contains_int64_int64.f, slices_Index_int64_int64.f, f k hk]
theorem message_both (a0 a1 a2 : Int) (s : ByteArray) (a4 : Int) (b : Bool) (a6 : Int) (l : List Int) (hs : s.size ≤ 1048576) (hl : l.length ≤ 1048576) :
    ∃ r, From (fun k => spec_l03Message.f k a0 a1 a2 s a4 b a6 l) r ∧ From (fun k => impl_ValidMessage.f k a0 a1 a2 s a4 b a6 l) r := by
  obtain ⟨t, ⟨K1, e1⟩, ⟨L1, f1⟩⟩ := text_both s hs
  obtain ⟨h, ⟨K2, e2⟩, ⟨L2, f2⟩⟩ := has_both l a1 hl
  obtain ⟨K3, e3⟩ := l00Rises_from l (by omega)
  obtain ⟨L3, f3⟩ := rising_from l (by omega)
  generalize risesB l = q at e3 f3
  have j : ∃ r, (∀ k, K1 + K2 + K3 ≤ k → spec_l03Message.j0 (k + 1) false a0 a1 a2 s a4 b a6 l = some r) ∧ ∀ k, L1 + L2 + L3 ≤ k → impl_ValidMessage.j0 (k + 1) false a0 a1 a2 s a4 b a6 l = some r := by
    refine ⟨if (l.length : Int) > 20 then false else if q = true then (if h = true then false else if b = true then (if s.toList = [] then (l.length : Int) == 0 else false) else true) else false, fun k hk => ?_, fun k hk => ?_⟩
    · simp only [spec_l03Message.j0, Bool.false_eq_true, if_false, spec_l01Members.f, e3 k (by omega), e2 k (by omega), Option.bind_some]
      split
      · rfl
      · split
        · split
          · rfl
          · split
            · split <;> rfl
            · rfl
        · rfl
    · simp only [impl_ValidMessage.j0, Bool.false_eq_true, if_false, impl_IsMembers.f, f3 k (by omega), f2 k (by omega), Option.bind_some]
      split
      · rfl
      · split
        · split
          · rfl
          · split
            · split <;> rfl
            · rfl
        · rfl
  obtain ⟨r, j1, j2⟩ := j
  have d1 : ∀ k, spec_l03Message.j0 (k + 1) true a0 a1 a2 s a4 b a6 l = some false := fun k => by simp only [spec_l03Message.j0, if_true]
  have d2 : ∀ k, impl_ValidMessage.j0 (k + 1) true a0 a1 a2 s a4 b a6 l = some false := fun k => by simp only [impl_ValidMessage.j0, if_true]
  refine ⟨decide (1 ≤ a0 ∧ a0 ≤ 1000000000) && (decide (1 ≤ a1 ∧ a1 ≤ 1000) && (decide (0 ≤ a2 ∧ a2 ≤ 1000000) && (t && (decide (0 ≤ a4 ∧ a4 ≤ 1000000000) && (decide (0 ≤ a6 ∧ a6 ≤ wrap64 (a0 - 1)) && r))))), ⟨K1 + K2 + K3 + 1, fun k hk => ?_⟩, ⟨L1 + L2 + L3 + 1, fun k hk => ?_⟩⟩
  · obtain ⟨k, rfl⟩ : ∃ n, k = n + 1 := ⟨k - 1, by omega⟩
    simp only [spec_l03Message.f, spec_l01Member.f, spec_l01Tick.f, in_eq, in_some, Option.bind_some, e1 (k + 1) (by omega), d1]
    cases decide (1 ≤ a0 ∧ a0 ≤ 1000000000) <;> cases decide (1 ≤ a1 ∧ a1 ≤ 1000) <;> cases decide (0 ≤ a2 ∧ a2 ≤ 1000000) <;> cases t <;> cases decide (0 ≤ a4 ∧ a4 ≤ 1000000000) <;> cases decide (0 ≤ a6 ∧ a6 ≤ wrap64 (a0 - 1)) <;> simp [d1, j1 k (by omega)]
  · obtain ⟨k, rfl⟩ : ∃ n, k = n + 1 := ⟨k - 1, by omega⟩
    simp only [impl_ValidMessage.f, impl_isMember.f, impl_isTick.f, in_some, Option.bind_some, f1 (k + 1) (by omega), d2]
    cases decide (1 ≤ a0 ∧ a0 ≤ 1000000000) <;> cases decide (1 ≤ a1 ∧ a1 ≤ 1000) <;> cases decide (0 ≤ a2 ∧ a2 ≤ 1000000) <;> cases t <;> cases decide (0 ≤ a4 ∧ a4 ≤ 1000000000) <;> cases decide (0 ≤ a6 ∧ a6 ≤ wrap64 (a0 - 1)) <;> simp [d2, j2 k (by omega)]
theorem valid_both (a : Int) (l : List S81) (hl : l.length ≤ 1048576) (hb : ∀ y ∈ l, okM y) : ∃ r, From (fun k => spec_l03Is.f k a l) r ∧ From (fun k => impl_ValidLog.f k a l) r := by
  have hm : ∃ M : Nat → Bool, ∀ j, j < l.length → From (fun k => spec_l03Message.f k (l.getD j zM).f0 (l.getD j zM).f1 (l.getD j zM).f2 (l.getD j zM).f3 (l.getD j zM).f4 (l.getD j zM).f5 (l.getD j zM).f6 (l.getD j zM).f7) (M j) ∧ From (fun k => impl_ValidMessage.f k (l.getD j zM).f0 (l.getD j zM).f1 (l.getD j zM).f2 (l.getD j zM).f3 (l.getD j zM).f4 (l.getD j zM).f5 (l.getD j zM).f6 (l.getD j zM).f7) (M j) := by
    have h : ∀ j, ∃ b : Bool, j < l.length → From (fun k => spec_l03Message.f k (l.getD j zM).f0 (l.getD j zM).f1 (l.getD j zM).f2 (l.getD j zM).f3 (l.getD j zM).f4 (l.getD j zM).f5 (l.getD j zM).f6 (l.getD j zM).f7) b ∧ From (fun k => impl_ValidMessage.f k (l.getD j zM).f0 (l.getD j zM).f1 (l.getD j zM).f2 (l.getD j zM).f3 (l.getD j zM).f4 (l.getD j zM).f5 (l.getD j zM).f6 (l.getD j zM).f7) b := by
      intro j
      by_cases hj : j < l.length
      · obtain ⟨r, h⟩ := message_both (l.getD j zM).f0 (l.getD j zM).f1 (l.getD j zM).f2 (l.getD j zM).f3 (l.getD j zM).f4 (l.getD j zM).f5 (l.getD j zM).f6 (l.getD j zM).f7 (hb _ (getD_mem zM hj)).1 (hb _ (getD_mem zM hj)).2
        exact ⟨r, fun _ => h⟩
      · exact ⟨true, fun h => absurd h hj⟩
    exact ⟨fun j => (h j).choose, fun j => (h j).choose_spec⟩
  obtain ⟨M, hM⟩ := hm
  obtain ⟨K1, e1⟩ := from_all (g := fun k j => spec_l03Message.f k (l.getD j zM).f0 (l.getD j zM).f1 (l.getD j zM).f2 (l.getD j zM).f3 (l.getD j zM).f4 (l.getD j zM).f5 (l.getD j zM).f6 (l.getD j zM).f7) M l.length fun j hj => (hM j hj).1
  obtain ⟨K2, e2⟩ := from_all (g := fun k j => impl_ValidMessage.f k (l.getD j zM).f0 (l.getD j zM).f1 (l.getD j zM).f2 (l.getD j zM).f3 (l.getD j zM).f4 (l.getD j zM).f5 (l.getD j zM).f6 (l.getD j zM).f7) M l.length fun j hj => (hM j hj).2
  let p : Nat → Bool := fun j => M j && (decide ((l.getD j zM).f0 < a) && (decide (j = 0) || (decide ((l.getD (j - 1) zM).f0 < (l.getD j zM).f0) && decide ((l.getD (j - 1) zM).f2 ≤ (l.getD j zM).f2))))
  obtain ⟨L2, f2⟩ := test_loopB (fun k i => impl_ValidLog.l0 k l l.length i a l) l.length K2 p (decide ((l.length : Int) ≤ 40) && decide (1 ≤ a ∧ a ≤ 1000000000)) (fun k i hk h0 h1 => by
    have w := e2 k hk i.toNat (by omega)
    simp only [impl_ValidLog.l0, h0, h1, if_true, rd_T81, w, Option.bind_some, wsucc h0 (by omega), p]
    rcases Bool.eq_false_or_eq_true (M i.toNat) with c1 | c1
    · by_cases c2 : (l.getD i.toNat zM).f0 < a
      · have c2' : ¬ (l.getD i.toNat zM).f0 ≥ a := by omega
        by_cases c3 : i > 0
        · have p1 : wrap64 (i - 1) = i - 1 := wpred h0 (by omega)
          have p2 : (i - 1).toNat = i.toNat - 1 := by omega
          have p3 : 0 ≤ i - 1 := by omega
          have p4 : i - 1 < l.length := by omega
          have p5 : ¬ i.toNat = 0 := by omega
          by_cases c4 : (l.getD (i.toNat - 1) zM).f0 < (l.getD i.toNat zM).f0
          · have c4' : ¬ (l.getD (i.toNat - 1) zM).f0 ≥ (l.getD i.toNat zM).f0 := by omega
            by_cases c5 : (l.getD (i.toNat - 1) zM).f2 ≤ (l.getD i.toNat zM).f2
            · have c5' : ¬ (l.getD (i.toNat - 1) zM).f2 > (l.getD i.toNat zM).f2 := by omega
              simp only [c1, c2, c2', c3, c4, c4', c5, c5', p1, p2, p3, p4, p5, if_true, if_false, decide_true, decide_false, Bool.true_and, Bool.false_or]
            · have c5' : (l.getD (i.toNat - 1) zM).f2 > (l.getD i.toNat zM).f2 := by omega
              simp only [c1, c2, c2', c3, c4, c4', c5, c5', p1, p2, p3, p4, p5, if_true, if_false, decide_true, decide_false, Bool.true_and, Bool.false_or, Bool.false_eq_true]
          · have c4' : (l.getD (i.toNat - 1) zM).f0 ≥ (l.getD i.toNat zM).f0 := by omega
            simp only [c1, c2, c2', c3, c4, c4', p1, p2, p3, p4, p5, if_true, if_false, decide_true, decide_false, Bool.true_and, Bool.false_and, Bool.false_or, Bool.false_eq_true]
        · have p5 : i.toNat = 0 := by omega
          simp only [p5] at c1 c2 c2' ⊢
          simp only [c1, c2, c2', c3, if_true, if_false, decide_true, Bool.true_and, Bool.true_or]
      · have c2' : (l.getD i.toNat zM).f0 ≥ a := by omega
        simp only [c1, c2, c2', if_true, decide_false, Bool.true_and, Bool.false_and, Bool.false_eq_true, if_false]
    · simp only [c1, Bool.false_and, Bool.false_eq_true, if_false]) (fun k _ => by
    simp only [impl_ValidLog.l0, Int.lt_irrefl, if_false, in_some, Option.bind_some]
    by_cases c : (l.length : Int) ≤ 40 <;> simp [c])
  refine ⟨_, ?_, ⟨L2, f2⟩⟩
  have j0 : ∀ k, spec_l03Is.j0 (k + 1) true a l = some false := fun k => by simp only [spec_l03Is.j0, if_true]
  by_cases c : (l.length : Int) > 40
  · have c' : ¬ (l.length : Int) ≤ 40 := by omega
    refine ⟨1, fun k hk => ?_⟩
    obtain ⟨k, rfl⟩ : ∃ n, k = n + 1 := ⟨k - 1, by omega⟩
    simp only [spec_l03Is.f, c, c', if_true, j0, decide_false, Bool.false_and, Bool.and_false]
  have c' : (l.length : Int) ≤ 40 := by omega
  by_cases d : 1 ≤ a ∧ a ≤ 1000000000
  · obtain ⟨L1, f1⟩ := test_loopC (fun k i => spec_l03Is.l0 k l.length i a l) 2 l.length K1 p true (fun k i hk h0 h1 => by
      have w := e1 (k + 1) (by omega) i.toNat (by omega)
      simp only [spec_l03Is.l0, spec_l03Is.j2, h0, h1, if_true, rd_T81, w, Option.bind_some, wsucc h0 (by omega), p]
      rcases Bool.eq_false_or_eq_true (M i.toNat) with c1 | c1
      · by_cases c2 : (l.getD i.toNat zM).f0 < a
        · have c2' : ¬ (l.getD i.toNat zM).f0 ≥ a := by omega
          by_cases c3 : i > 0
          · have p1 : wrap64 (i - 1) = i - 1 := wpred h0 (by omega)
            have p2 : (i - 1).toNat = i.toNat - 1 := by omega
            have p3 : 0 ≤ i - 1 := by omega
            have p4 : i - 1 < l.length := by omega
            have p5 : ¬ i.toNat = 0 := by omega
            by_cases c4 : (l.getD (i.toNat - 1) zM).f0 < (l.getD i.toNat zM).f0
            · have c4' : ¬ (l.getD (i.toNat - 1) zM).f0 ≥ (l.getD i.toNat zM).f0 := by omega
              by_cases c5 : (l.getD (i.toNat - 1) zM).f2 ≤ (l.getD i.toNat zM).f2
              · have c5' : ¬ (l.getD (i.toNat - 1) zM).f2 > (l.getD i.toNat zM).f2 := by omega
                simp only [c1, c2, c2', c3, c4, c4', c5, c5', p1, p2, p3, p4, p5, if_true, if_false, decide_true, decide_false, Bool.true_and, Bool.false_or, Bool.false_eq_true]
              · have c5' : (l.getD (i.toNat - 1) zM).f2 > (l.getD i.toNat zM).f2 := by omega
                simp only [c1, c2, c2', c3, c4, c4', c5, c5', p1, p2, p3, p4, p5, if_true, if_false, decide_true, decide_false, Bool.true_and, Bool.false_or, Bool.false_eq_true]
            · have c4' : (l.getD (i.toNat - 1) zM).f0 ≥ (l.getD i.toNat zM).f0 := by omega
              simp only [c1, c2, c2', c3, c4, c4', p1, p2, p3, p4, p5, if_true, if_false, decide_true, decide_false, Bool.true_and, Bool.false_and, Bool.false_or, Bool.false_eq_true]
          · have p5 : i.toNat = 0 := by omega
            simp only [p5] at c1 c2 c2' ⊢
            simp only [c1, c2, c2', c3, if_true, if_false, decide_true, decide_false, Bool.true_and, Bool.true_or, Bool.false_eq_true]
        · have c2' : (l.getD i.toNat zM).f0 ≥ a := by omega
          simp only [c1, c2, c2', if_true, decide_true, decide_false, Bool.true_and, Bool.false_and, Bool.false_eq_true, if_false]
      · simp only [c1, Bool.false_and, Bool.false_eq_true, if_false, if_true]) (fun k _ => by simp only [spec_l03Is.l0, Int.lt_irrefl, if_false])
    refine ⟨L1 + 1, fun k hk => ?_⟩
    obtain ⟨k, rfl⟩ : ∃ n, k = n + 1 := ⟨k - 1, by omega⟩
    simp only [spec_l03Is.f, c, c', d, if_false, in_eq, in_some, Option.bind_some, spec_l03Is.j0, and_self, decide_true, Bool.not_true, Bool.false_eq_true, f1 k (by omega), Bool.and_true]
  · refine ⟨1, fun k hk => ?_⟩
    obtain ⟨k, rfl⟩ : ∃ n, k = n + 1 := ⟨k - 1, by omega⟩
    simp only [spec_l03Is.f, c, d, if_false, in_eq, in_some, Option.bind_some, decide_false, Bool.not_false, j0, Bool.and_false]
def digI (u : Nat) : List Int := (Lib.decDigits u).map fun b => (b.toNat : Int)
theorem digI_small {u : Nat} (h : u < 10) : digI u = [48 + (u : Int)] := by
  rw [digI, Lib.decDigits, dif_pos h]
  simp only [List.map_cons, List.map_nil, UInt8.toNat_ofNat']
  congr 1
  omega
theorem digI_big {u : Nat} (h : ¬ u < 10) : digI u = digI (u / 10) ++ [48 + ((u % 10 : Nat) : Int)] := by
  rw [digI, Lib.decDigits, dif_neg h, List.map_append]
  simp only [List.map_cons, List.map_nil, UInt8.toNat_ofNat']
  congr 2
  omega
def signed (n : Int) (xs : List Int) : List Int := if n < 0 then 45 :: xs else xs
theorem tm10 (x : Int) : Int.tmod x 10 = if x < 0 then -((x.natAbs % 10 : Nat) : Int) else ((x.natAbs % 10 : Nat) : Int) := by
  split
  · rename_i h
    obtain ⟨y, rfl⟩ : ∃ y : Int, x = -y := ⟨-x, by omega⟩
    rw [Int.neg_tmod, Int.tmod_eq_emod_of_nonneg (by omega)]; omega
  · rw [Int.tmod_eq_emod_of_nonneg (by omega)]; omega
theorem td10 (x : Int) : Int.tdiv x 10 = if x < 0 then -((x.natAbs / 10 : Nat) : Int) else ((x.natAbs / 10 : Nat) : Int) := by
  split
  · rename_i h
    obtain ⟨y, rfl⟩ : ∃ y : Int, x = -y := ⟨-x, by omega⟩
    rw [Int.neg_tdiv, Int.tdiv_eq_ediv_of_nonneg (by omega)]; omega
  · rw [Int.tdiv_eq_ediv_of_nonneg (by omega)]; omega
theorem wr (x : Int) (h0 : -9223372036854775808 ≤ x) (h1 : x ≤ 9223372036854775807) : wrap64 x = x := by unfold wrap64; omega
theorem dec_step (n : Int) (x3 : List Int) (x : Int) (h0 : -9223372036854775808 ≤ x) (h1 : x ≤ 9223372036854775807) (hl : x3.length ≤ 100) (k : Nat) :
    spec_l01Dec.j1 (k + 1) n x3 x true = spec_l01Dec.l0 k n ((48 + ((x.natAbs % 10 : Nat) : Int)) :: x3) (Int.tdiv x 10) := by
  have ht := tm10 x
  have hd := td10 x
  have hw : wrap64 (Int.tdiv x 10) = Int.tdiv x 10 := by
    rw [hd]; split <;> exact wr _ (by omega) (by omega)
  have hlen : ∀ c : Int, ([c] : List Int).length + x3.length < 140737488355328 := fun c => by simp only [List.length_cons, List.length_nil]; omega
  rw [spec_l01Dec.j1, if_pos rfl, hw]
  by_cases c : Int.tmod x 10 < 0
  · have hx : x < 0 := by rw [ht] at c; split at c <;> omega
    rw [if_pos c, Option.bind_some, if_pos (hlen _), ht, if_pos hx, Int.neg_neg, wr ((x.natAbs % 10 : Nat) : Int) (by omega) (by omega), wr (48 + ((x.natAbs % 10 : Nat) : Int)) (by omega) (by omega)]
    congr 1
    show _ :: x3 = _
    congr 1
    omega
  · have hx : Int.tmod x 10 = ((x.natAbs % 10 : Nat) : Int) := by rw [ht] at c ⊢; split at c <;> split <;> omega
    rw [if_neg c, Option.bind_some, if_pos (hlen _), hx, wr _ (by omega) (by omega)]
    congr 1
    show _ :: x3 = _
    congr 1
    omega
theorem dec_end (n : Int) (x3 : List Int) (h : x3.length ≠ 0) (hl : x3.length ≤ 101) (k : Nat) : spec_l01Dec.l0 (k + 2) n x3 0 = some (strOfNums (signed n x3)) := by
  rw [spec_l01Dec.l0, if_neg (by omega), spec_l01Dec.j1]
  simp only [bne_self_eq_false, Bool.false_eq_true, if_false]
  unfold signed
  split
  · rw [Option.bind_some, if_pos (by simp only [List.length_cons, List.length_nil]; omega)]; rfl
  · rfl
theorem dec_loop (n : Int) : ∀ (m u : Nat), u < 10 ^ m → ∀ (x : Int) (x3 : List Int), x.natAbs = u → (x3.length = 0 ∨ u ≠ 0) → x3.length + m ≤ 100 → -9223372036854775808 ≤ x → x ≤ 9223372036854775807 → ∀ k, 2 * m + 4 ≤ k →
    spec_l01Dec.l0 k n x3 x = some (strOfNums (signed n (digI u ++ x3)))
  | m, u, hm, x, x3, hu, h3, hl, h0, h1, k, hk => by
    obtain ⟨k, rfl⟩ : ∃ j, k = j + 2 := ⟨k - 2, by omega⟩
    have hgo : spec_l01Dec.l0 (k + 2) n x3 x = spec_l01Dec.j1 (k + 1) n x3 x true := by
      rw [spec_l01Dec.l0]
      split
      · rfl
      · rename_i hc
        have : (x != 0) = true := by
          simp only [bne_iff_ne, ne_eq]
          intro e; subst e; simp at hu; omega
        rw [this]
    rw [hgo, dec_step n x3 x h0 h1 (by omega), hu]
    by_cases hs : u < 10
    · have hz : Int.tdiv x 10 = 0 := by rw [td10]; split <;> omega
      obtain ⟨k, rfl⟩ : ∃ j, k = j + 2 := ⟨k - 2, by omega⟩
      rw [hz, dec_end _ _ (by simp) (by simp; omega), digI_small hs, Nat.mod_eq_of_lt hs]
      rfl
    · match m, hm with
      | 0, hm => simp at hm; omega
      | m + 1, hm =>
        have hu2 : (Int.tdiv x 10).natAbs = u / 10 := by rw [td10]; split <;> omega
        rw [dec_loop n m (u / 10) (by rw [Nat.pow_succ] at hm; omega) (Int.tdiv x 10) _ hu2 (Or.inr (by omega)) (by simp; omega) (by rw [td10]; split <;> omega) (by rw [td10]; split <;> omega) k (by omega), digI_big hs, List.append_assoc]
        rfl
theorem nums_bytes (l : List UInt8) : strOfNums (l.map fun b => (b.toNat : Int)) = ⟨l.toArray⟩ := by
  show (⟨((l.map fun b => (b.toNat : Int)).map fun n => UInt8.ofNat n.toNat).toArray⟩ : ByteArray) = _
  congr 2
  rw [List.map_map]
  conv => rhs; rw [← List.map_id l]
  apply List.map_congr_left
  intro b _
  simp
theorem dec_spec (n : Int) (h0 : -9223372036854775808 ≤ n) (h1 : n ≤ 9223372036854775807) (k : Nat) (hk : 100 ≤ k) : spec_l01Dec.f k n = some (decB n) := by
  unfold spec_l01Dec.f
  rw [dec_loop n 19 n.natAbs (by omega) n [] rfl (Or.inl rfl) (by simp) h0 h1 k (by omega), List.append_nil]
  congr 1
  unfold decB Lib.itoa signed
  split
  · rw [← nums_bytes]; rfl
  · rw [← nums_bytes, show n.toNat = n.natAbs by omega]; rfl
theorem dec_impl (n : Int) (h0 : -9223372036854775808 ≤ n) (h1 : n ≤ 9223372036854775807) : impl_Decimal.f n = some (decB n) := by
  unfold impl_Decimal.f; rw [if_pos ⟨h0, h1⟩]
def dstep (a : Nat) (c : UInt8) : Nat := if 48 ≤ c.toNat ∧ c.toNat ≤ 57 then 10 * a + (c.toNat - 48) else a
def foldV (l : List UInt8) (a : Nat) : Nat := l.foldl dstep a
theorem foldV_append (l m : List UInt8) (a : Nat) : foldV (l ++ m) a = foldV m (foldV l a) := List.foldl_append ..
theorem c48 (d : Nat) (h : d < 10) : (UInt8.ofNat (48 + d)).toNat = 48 + d := by
  rw [UInt8.toNat_ofNat']; omega
theorem dig_all : ∀ (n u : Nat), u ≤ n → (∀ c ∈ Lib.decDigits u, 48 ≤ c.toNat ∧ c.toNat ≤ 57) ∧ foldV (Lib.decDigits u) 0 = u ∧ Lib.decDigits u ≠ [] ∧ ∀ m, u < 10 ^ (m + 1) → (Lib.decDigits u).length ≤ m + 1
  | n, u, h => by
    rw [Lib.decDigits]
    by_cases hs : u < 10
    · rw [dif_pos hs]
      have hc := c48 u hs
      refine ⟨?_, ?_, by simp, fun m _ => by simp⟩
      · intro c hm
        simp only [List.mem_cons, List.not_mem_nil, or_false] at hm
        subst hm
        rw [hc]; omega
      · show dstep 0 _ = u
        unfold dstep
        rw [hc, if_pos (by omega)]; omega
    · rw [dif_neg hs]
      match n, h with
      | 0, h => omega
      | n + 1, h =>
        obtain ⟨i1, i2, i3, i4⟩ := dig_all n (u / 10) (by omega)
        have hc := c48 (u % 10) (by omega)
        refine ⟨?_, ?_, by simp, ?_⟩
        · intro c hm
          rcases List.mem_append.1 hm with hm | hm
          · exact i1 c hm
          · simp only [List.mem_cons, List.not_mem_nil, or_false] at hm
            subst hm
            rw [hc]; omega
        · rw [foldV_append, i2]
          show dstep (u / 10) _ = u
          unfold dstep
          rw [hc, if_pos (by omega)]; omega
        · intro m hm
          match m, hm with
          | 0, hm => simp at hm; omega
          | m + 1, hm =>
            have := i4 m (by rw [Nat.pow_succ] at hm; omega)
            simp only [List.length_append, List.length_cons, List.length_nil]
            omega
theorem itoa_len (v : Int) (h0 : -1000000000 ≤ v) (h1 : v ≤ 1000000000) : (Lib.itoa v).length ≤ 11 := by
  obtain ⟨_, _, _, i4⟩ := dig_all v.natAbs v.natAbs (Nat.le_refl _)
  have i5 := i4 9 (by omega)
  unfold Lib.itoa
  split
  · simp only [List.length_cons]; omega
  · rw [show v.toNat = v.natAbs by omega]; omega
theorem itoa_len64 (v : Int) (h0 : -9223372036854775808 ≤ v) (h1 : v ≤ 9223372036854775807) : (Lib.itoa v).length ≤ 20 := by
  obtain ⟨_, _, _, i4⟩ := dig_all v.natAbs v.natAbs (Nat.le_refl _)
  have i5 := i4 18 (by omega)
  unfold Lib.itoa
  split
  · simp only [List.length_cons]; omega
  · rw [show v.toNat = v.natAbs by omega]; omega
def okV (v : Int) : Bool := decide (-1000000000 ≤ v ∧ v ≤ 1000000000)
theorem okV_of {l : List Int} (h : l.all okV = true) {v : Int} (hv : v ∈ l) : -1000000000 ≤ v ∧ v ≤ 1000000000 := by
  have := List.all_eq_true.1 h v hv
  simpa [okV] using this
theorem drop_rdI (l : List Int) (i : Nat) (hi : i < l.length) : l.drop i = rd l (i : Int) :: l.drop (i + 1) := by
  rw [List.drop_eq_getElem_cons hi]
  congr 1
  simp [rd, List.getElem?_eq_getElem hi]
theorem rd_mem (l : List Int) (i : Nat) (hi : i < l.length) : rd l (i : Int) ∈ l := by
  have : rd l (i : Int) = l[i] := by simp [rd, List.getElem?_eq_getElem hi]
  rw [this]; exact List.getElem_mem hi
def bs (l : List UInt8) : ByteArray := ⟨l.toArray⟩
theorem bs_append (a b : List UInt8) : bs a ++ bs b = bs (a ++ b) := by
  apply ByteArray.ext
  rw [ByteArray.data_append]
  show a.toArray ++ b.toArray = (a ++ b).toArray
  simp
theorem bs_size (a : List UInt8) : (bs a).size = a.length := by
  show a.toArray.size = _
  simp
/-- The text of numbers. -/
def textB' : List Int → ByteArray
  | [] => ⟨#[110, 111, 110, 101]⟩
  | x :: r => bs (Lib.itoa x ++ Lib.joinTail [44] (r.map Lib.itoa))
theorem tail_len (r : List Int) (h : ∀ v ∈ r, -9223372036854775808 ≤ v ∧ v ≤ 9223372036854775807) : (Lib.joinTail [44] (r.map Lib.itoa)).length ≤ 21 * r.length := by
  induction r with
  | nil => simp [Lib.joinTail]
  | cons x r ih =>
    have i1 := ih (fun v hv => h v (List.mem_cons_of_mem _ hv))
    have i2 := itoa_len64 x (h x (List.mem_cons_self ..)).1 (h x (List.mem_cons_self ..)).2
    have e : Lib.joinTail [44] ((x :: r).map Lib.itoa) = [44] ++ Lib.itoa x ++ Lib.joinTail [44] (r.map Lib.itoa) := by simp [Lib.joinTail]
    rw [e]
    simp only [List.length_append, List.length_cons, List.length_nil]
    omega
theorem tail_snoc (xs : List (List UInt8)) (y : List UInt8) : Lib.joinTail [44] (xs ++ [y]) = Lib.joinTail [44] xs ++ ([44] ++ y) := by
  unfold Lib.joinTail
  rw [List.map_append, List.flatten_append]
  simp
theorem spec_text_loop (x : Int) (r : List Int) (hl : r.length ≤ 1048576) (h : ∀ v ∈ x :: r, -9223372036854775808 ≤ v ∧ v ≤ 9223372036854775807) : ∀ (d j : Nat), j + d = r.length → ∀ k, 100 ≤ k →
    spec_l01Text.l0 (k + d + 1) (x :: r) (bs (Lib.itoa x ++ Lib.joinTail [44] ((r.take j).map Lib.itoa))) ((j + 1 : Nat) : Int) = some (textB' (x :: r))
  | 0, j, hj, k, hk => by
    have : j = r.length := by omega
    rw [spec_l01Text.l0, if_neg (by simp only [List.length_cons]; omega), this, List.take_length]
    rfl
  | d + 1, j, hj, k, hk => by
    have hjl : j < r.length := by omega
    have hy : r[j]? = some r[j] := List.getElem?_eq_getElem hjl
    have hrd : rd (x :: r) ((j + 1 : Nat) : Int) = r[j] := by
      show (x :: r).getD ((j + 1 : Nat) : Int).toNat 0 = _
      rw [Int.toNat_natCast, List.getD_eq_getElem?_getD, List.getElem?_cons_succ, hy]; rfl
    have hv := h r[j] (List.mem_cons_of_mem _ (List.getElem_mem hjl))
    have hlen := itoa_len64 r[j] hv.1 hv.2
    have hx := itoa_len64 x (h x (List.mem_cons_self ..)).1 (h x (List.mem_cons_self ..)).2
    have htl := tail_len (r.take j) (fun v hv => h v (List.mem_cons_of_mem _ (List.mem_of_mem_take hv)))
    have htk : (r.take j).length ≤ r.length := by rw [List.length_take]; omega
    have hd : decB r[j] = bs (Lib.itoa r[j]) := rfl
    have hc : (⟨#[44]⟩ : ByteArray) = bs [44] := rfl
    rw [show k + (d + 1) + 1 = (k + d + 1) + 1 by omega, spec_l01Text.l0, if_pos (by simp only [List.length_cons]; omega), if_pos (by omega), hrd, dec_spec _ (by omega) (by omega) _ (by omega), Option.bind_some, hd, hc, bs_append, bs_append,
      if_pos (by rw [bs_size]; omega), if_pos (by rw [bs_size, bs_size]; simp only [List.length_append, List.length_cons, List.length_nil]; omega), wsucc (by omega) (by omega)]
    have e : Lib.itoa x ++ Lib.joinTail [44] ((r.take j).map Lib.itoa) ++ ([44] ++ Lib.itoa r[j]) = Lib.itoa x ++ Lib.joinTail [44] ((r.take (j + 1)).map Lib.itoa) := by
      rw [List.take_add_one, hy, List.map_append, show (some r[j]).toList.map Lib.itoa = [Lib.itoa r[j]] from rfl, tail_snoc, List.append_assoc]
    rw [e]
    exact spec_text_loop x r hl h d (j + 1) (by omega) k hk
theorem spec_text (l : List Int) (hl : l.length ≤ 1048576) (h : ∀ v ∈ l, -9223372036854775808 ≤ v ∧ v ≤ 9223372036854775807) : From (fun k => spec_l01Text.f k l) (textB' l) := by
  cases l with
  | nil => exact ⟨0, fun k _ => by simp only [spec_l01Text.f, List.length_nil]; rfl⟩
  | cons x r =>
    refine ⟨100 + r.length + 1, fun k hk => ?_⟩
    have hx := h x (List.mem_cons_self ..)
    obtain ⟨k, rfl⟩ : ∃ n, k = n + r.length + 1 := ⟨k - r.length - 1, by omega⟩
    have hr : rd (x :: r) 0 = x := rfl
    simp only [spec_l01Text.f]
    rw [if_neg (by simp only [List.length_cons]; omega), if_pos (by simp only [List.length_cons]; omega), hr, dec_spec x (by omega) (by omega) _ (by omega), Option.bind_some]
    have := spec_text_loop x r (by simp only [List.length_cons] at hl; omega) h r.length 0 (by omega) k (by omega)
    rw [List.take_zero, show Lib.joinTail [44] (([] : List Int).map Lib.itoa) = [] from rfl, List.append_nil] at this
    exact this
theorem textB'_size (l : List Int) (h : ∀ v ∈ l, -9223372036854775808 ≤ v ∧ v ≤ 9223372036854775807) : (textB' l).size ≤ 21 * l.length + 4 := by
  cases l with
  | nil => show 4 ≤ _; omega
  | cons x r =>
    have hx := itoa_len64 x (h x (List.mem_cons_self ..)).1 (h x (List.mem_cons_self ..)).2
    have ht := tail_len r (fun v hv => h v (List.mem_cons_of_mem _ hv))
    show (bs _).size ≤ _
    rw [bs_size]
    simp only [List.length_append, List.length_cons] at *
    omega
theorem join_text (x : Int) (r : List Int) : joinB ((x :: r).map decB) (⟨#[44]⟩ : ByteArray) = textB' (x :: r) := by
  unfold joinB textB'
  have e : ((x :: r).map decB).map (fun b : ByteArray => b.data.toList) = (x :: r).map Lib.itoa := by
    rw [List.map_map]; rfl
  rw [e, List.map_cons, Lib.join_cons]
  rfl
theorem impl_text (l : List Int) (hl : l.length ≤ 1048576) (h : ∀ v ∈ l, -9223372036854775808 ≤ v ∧ v ≤ 9223372036854775807) : From (fun k => impl_listText.f k l) (textB' l) := by
  have := collect_then (fun k out i => impl_listText.l0 k out l l.length i) l 0 0 (fun v => some (decB v)) (textB' l) (fun k out i _ h0 h1 ho => by
    have hb : out.length < 8796093022208 := by omega
    have hv := h _ (getD_mem 0 (show i.toNat < l.length by omega))
    simp only [impl_listText.l0, h0, h1, hb, if_true, rd, dec_impl _ (show -9223372036854775808 ≤ l.getD i.toNat 0 by omega) (by omega), Option.bind_some, wsucc h0 (by omega), Option.toList]) (fun k _ => by
    simp only [impl_listText.l0, Int.lt_irrefl, if_false]
    rw [List.filterMap_eq_map']
    cases l with
    | nil => rfl
    | cons x r =>
      rw [if_neg (by simp only [List.map_cons, List.length_cons]; omega)]
      have hx := itoa_len64 x (h x (List.mem_cons_self ..)).1 (h x (List.mem_cons_self ..)).2
      have ht := tail_len r (fun v hv => h v (List.mem_cons_of_mem _ hv))
      have e : (Lib.join (((x :: r).map decB).map (·.data.toList)) [44]).length = (Lib.itoa x ++ Lib.joinTail [44] (r.map Lib.itoa)).length := by
        have e2 : ((x :: r).map decB).map (fun b : ByteArray => b.data.toList) = (x :: r).map Lib.itoa := by
          rw [List.map_map]; rfl
        rw [e2, List.map_cons, Lib.join_cons]
      unfold strings_Join.f
      rw [if_pos ⟨by simp only [List.length_map]; omega, by
        show (Lib.join (((x :: r).map decB).map (·.data.toList)) [44]).length ≤ _
        rw [e]; simp only [List.length_append, List.length_cons] at *; omega⟩, Option.bind_some, join_text])
  exact this
theorem w64x (x : Int) (h0 : 0 ≤ x) (h1 : x < 9223372036854775808) : wrap64 x = x := by unfold wrap64; omega
theorem tmodN (m : Nat) : Int.tmod (m : Int) 8 = ((m % 8 : Nat) : Int) := by
  rw [Int.tmod_eq_emod_of_nonneg (by omega)]; omega
theorem dig_word0 (n j : Nat) (hj : j < 8) (hn : n ≤ 1099511627776) : Int.tmod (wrap64 ((wrap64 (2654435769 * (wrap64 ((j : Int) + 1)))) + (n : Int))) 4294967296 = wd0 n j := by
  rw [w64x ((j : Int) + 1) (by omega) (by omega), w64x (2654435769 * _) (by omega) (by omega), w64x _ (by omega) (by omega), Int.tmod_eq_emod_of_nonneg (by omega)]; rfl
theorem dig_l0 (s : ByteArray) (hs : s.size ≤ 1099511627776) : ∀ (d j : Nat), j + d = 8 → ∀ k, spec_l01Digest.l0 (k + d + 1) s ((List.range j).map (wd0 s.size)) (j : Int) = spec_l01Digest.l1 k s ((List.range 8).map (wd0 s.size)) 0
  | 0, j, h, k => by
    obtain rfl : j = 8 := by omega
    rw [spec_l01Digest.l0, if_neg (by omega)]
  | d + 1, j, h, k => by
    have ih := dig_l0 s hs d (j + 1) (by omega) k
    rw [show k + (d + 1) + 1 = (k + d + 1) + 1 by omega, spec_l01Digest.l0, if_pos (by omega), if_pos (by simp; omega), dig_word0 _ _ (by omega) hs, wsucc (by omega) (by omega)]
    rw [List.range_succ, List.map_append] at ih
    exact ih
theorem dig_turn (ws : List Int) (h32 : ∀ x ∈ ws, 0 ≤ x ∧ x < 4294967296) (k : Nat) (b : Int) (hb0 : 0 ≤ b) (hb : b ≤ 255) :
    ws.set (((k % 8 : Nat) : Int)).toNat (Int.tmod (wrap64 (16777619 * (Int.tmod (wrap64 ((wrap64 ((rd ws ((k % 8 : Nat) : Int)) + b)) + (rd ws (((k % 8 + 7) % 8 : Nat) : Int)))) 4294967296))) 4294967296) = turn ws k b := by
  have hg : ∀ j : Nat, 0 ≤ ws.getD j 0 ∧ ws.getD j 0 < 4294967296 := by
    intro j
    rw [List.getD_eq_getElem?_getD]
    by_cases hj : j < ws.length
    · rw [List.getElem?_eq_getElem hj]; exact h32 _ (List.getElem_mem hj)
    · rw [List.getElem?_eq_none (by omega)]; simp
  have h1 := hg (k % 8)
  have h2 := hg ((k % 8 + 7) % 8)
  unfold turn mixV
  simp only [rd, Int.toNat_natCast]
  generalize ws.getD (k % 8) 0 = x at *
  generalize ws.getD ((k % 8 + 7) % 8) 0 = y at *
  congr 1
  rw [w64x (x + b) (by omega) (by omega), w64x (x + b + y) (by omega) (by omega), Int.tmod_eq_emod_of_nonneg (show 0 ≤ x + b + y by omega), w64x _ (by omega) (by omega), Int.tmod_eq_emod_of_nonneg (by omega)]
theorem turn_len (ws : List Int) (k : Nat) (b : Int) : (turn ws k b).length = ws.length := by simp [turn]
theorem st1_len (n k : Nat) : (st1 n k).length = 8 := by simp [st1]
theorem st2_len (s : ByteArray) : ∀ k, (st2 s k).length = 8
  | 0 => st1_len _ _
  | k + 1 => by rw [st2_succ, turn_len]; exact st2_len s k
theorem st3_len (s : ByteArray) : ∀ k, (st3 s k).length = 8
  | 0 => st2_len _ _
  | k + 1 => by rw [st3_succ, turn_len]; exact st3_len s k
theorem bt_255 (s : ByteArray) (i : Int) : 0 ≤ bt s i ∧ bt s i ≤ 255 := by
  unfold bt
  split
  · have := (s[i.toNat]).toNat_lt; omega
  · omega
theorem dig_step2 (s : ByteArray) (hs : s.size ≤ 1099511627776) (i : Nat) (hi : i < s.size) (k : Nat) : spec_l01Digest.l1 (k + 1) s (st2 s i) (i : Int) = spec_l01Digest.l1 k s (st2 s (i + 1)) ((i + 1 : Nat) : Int) := by
  have hl := st2_len s i
  have hb := bt_255 s i
  rw [spec_l01Digest.l1, w64x ((s.size : Int) + 24) (by omega) (by omega), if_pos (by omega), if_pos (by omega), if_pos (by omega)]
  rw [tmodN, if_pos (by omega), if_pos (by omega), w64x (((i % 8 : Nat) : Int) + 7) (by omega) (by omega), show (((i % 8 : Nat) : Int) + 7) = ((i % 8 + 7 : Nat) : Int) from rfl, tmodN, if_pos (by omega), if_pos (by omega), w64x (bt s i) (by omega) (by omega)]
  rw [dig_turn _ (st2_32 s i) i _ hb.1 hb.2, wsucc (by omega) (by omega), st2_succ]
  rfl
theorem dig_step3 (s : ByteArray) (hs : s.size ≤ 1099511627776) (i : Nat) (hi : i < 24) (k : Nat) : spec_l01Digest.l1 (k + 1) s (st3 s i) ((s.size + i : Nat) : Int) = spec_l01Digest.l1 k s (st3 s (i + 1)) ((s.size + (i + 1) : Nat) : Int) := by
  have hl := st3_len s i
  rw [spec_l01Digest.l1, w64x ((s.size : Int) + 24) (by omega) (by omega), if_pos (by omega), if_neg (by omega), w64x (((s.size + i : Nat) : Int) - (s.size : Int)) (by omega) (by omega), show ((s.size + i : Nat) : Int) - (s.size : Int) = (i : Int) by omega]
  rw [tmodN, if_pos (by omega), if_pos (by omega), w64x (((i % 8 : Nat) : Int) + 7) (by omega) (by omega), show (((i % 8 : Nat) : Int) + 7) = ((i % 8 + 7 : Nat) : Int) from rfl, tmodN, if_pos (by omega), if_pos (by omega)]
  rw [dig_turn _ (st3_32 s i) i _ (by omega) (by omega), wsucc (by omega) (by omega), st3_succ]
  rfl
theorem dig_l1a (s : ByteArray) (hs : s.size ≤ 1099511627776) : ∀ (d i : Nat), i + d = s.size → ∀ k, spec_l01Digest.l1 (k + d) s (st2 s i) (i : Int) = spec_l01Digest.l1 k s (st2 s s.size) (s.size : Int)
  | 0, i, h, k => by
    obtain rfl : i = s.size := by omega
    rfl
  | d + 1, i, h, k => by
    rw [show k + (d + 1) = (k + d) + 1 by omega, dig_step2 s hs i (by omega)]
    exact dig_l1a s hs d (i + 1) (by omega) k
theorem dig_l1b (s : ByteArray) (hs : s.size ≤ 1099511627776) : ∀ (d i : Nat), i + d = 24 → ∀ k, spec_l01Digest.l1 (k + d) s (st3 s i) ((s.size + i : Nat) : Int) = spec_l01Digest.l1 k s (st3 s 24) ((s.size + 24 : Nat) : Int)
  | 0, i, h, k => by
    obtain rfl : i = 24 := by omega
    rfl
  | d + 1, i, h, k => by
    rw [show k + (d + 1) = (k + d) + 1 by omega, dig_step3 s hs i (by omega)]
    exact dig_l1b s hs d (i + 1) (by omega) k
theorem dig_word (x : Int) (h0 : 0 ≤ x) (h1 : x < 4294967296) : ([(wrap64 (Int.tdiv x 16777216)) % 256, (Int.tmod (wrap64 (Int.tdiv x 65536)) 256) % 256, (Int.tmod (wrap64 (Int.tdiv x 256)) 256) % 256, (Int.tmod x 256) % 256] : List Int) = wordB x := by
  unfold wordB
  rw [Int.tdiv_eq_ediv_of_nonneg h0, Int.tdiv_eq_ediv_of_nonneg h0, Int.tdiv_eq_ediv_of_nonneg h0, w64x _ (by omega) (by omega), w64x _ (by omega) (by omega), w64x _ (by omega) (by omega), Int.tmod_eq_emod_of_nonneg (by omega), Int.tmod_eq_emod_of_nonneg (by omega), Int.tmod_eq_emod_of_nonneg h0]
  simp only [Int.emod_emod]
theorem dig_l2 (zs : List Int) (hl : zs.length = 8) (h32 : ∀ x ∈ zs, 0 ≤ x ∧ x < 4294967296) : ∀ (d j : Nat), j + d = 8 → ∀ k, spec_l01Digest.l2 (k + d + 1) zs (outW zs j) (zs.length : Int) (j : Int) = some (strOfNums (outW zs 8))
  | 0, j, h, k => by
    obtain rfl : j = 8 := by omega
    rw [spec_l01Digest.l2, if_neg (by omega)]
  | d + 1, j, h, k => by
    have hj : j < zs.length := by omega
    have hx : 0 ≤ zs.getD j 0 ∧ zs.getD j 0 < 4294967296 := by
      rw [List.getD_eq_getElem?_getD, List.getElem?_eq_getElem hj]; exact h32 _ (List.getElem_mem hj)
    have hr : rd zs (j : Int) = zs.getD j 0 := by simp [rd]
    have ho := outW_len zs j
    rw [show k + (d + 1) + 1 = (k + d + 1) + 1 by omega, spec_l01Digest.l2, if_pos (by omega), if_pos (by omega), if_pos (by omega), hr, dig_word _ hx.1 hx.2, Option.bind_some, if_pos (by simp only [wordB, List.length_cons, List.length_nil]; omega), ← outW_succ zs j hj, wsucc (by omega) (by omega)]
    exact dig_l2 zs hl h32 d (j + 1) (by omega) k
def digS (s : ByteArray) : ByteArray := strOfNums (outW (st3 s 24) 8)
theorem digest_spec (s : ByteArray) (hs : s.size ≤ 1099511627776) (k : Nat) (hk : s.size + 60 ≤ k) : spec_l01Digest.f k s = some (digS s) := by
  obtain ⟨n, rfl⟩ : ∃ n, k = (((n + 8 + 1 + 1) + 24) + s.size) + 8 + 1 := ⟨k - s.size - 43, by omega⟩
  have a := dig_l0 s hs 8 0 rfl (((n + 8 + 1 + 1) + 24) + s.size)
  have b := dig_l1a s hs s.size 0 (by omega) ((n + 8 + 1 + 1) + 24)
  have c := dig_l1b s hs 24 0 rfl (n + 8 + 1 + 1)
  have e := dig_l2 (st3 s 24) (st3_len s 24) (st3_32 s 24) 8 0 rfl n
  have f1 : (List.range 8).map (wd0 s.size) = st2 s 0 := by
    show _ = st1 s.size 8
    unfold st1
    apply List.map_congr_left
    intro j hj
    rw [if_pos (List.mem_range.1 hj)]
  unfold spec_l01Digest.f
  refine a.trans ?_
  rw [f1]
  refine b.trans (c.trans ?_)
  rw [spec_l01Digest.l1, w64x ((s.size : Int) + 24) (by omega) (by omega), if_neg (by omega)]
  exact e
theorem digest_impl (s : ByteArray) (hs : s.size ≤ 1099511627776) : impl_digestOf.f s = some (digS s) := by
  unfold impl_digestOf.f
  rw [if_pos hs]
  rfl
theorem strOfNums_size : ∀ xs : List Int, (strOfNums xs).size = xs.length := by
  intro xs
  show (List.map (fun n : Int => UInt8.ofNat n.toNat) xs).toArray.size = _
  simp
theorem digS_size (s : ByteArray) : (digS s).size ≤ 32 := by
  unfold digS
  rw [strOfNums_size]
  exact outW_len _ 8
def inR (v : Int) : Prop := -9223372036854775808 ≤ v ∧ v ≤ 9223372036854775807
theorem inR_wf {v : Int} (h : (Lit.int .i64 v).wf = true) : inR v := by
  unfold inR
  simp only [Lit.wf, IntKind.min, IntKind.max, IntKind.signed, IntKind.bits, Bool.and_eq_true, decide_eq_true_eq, if_true] at h
  omega
def rM (m : S81) : Prop := inR m.f0 ∧ inR m.f1 ∧ inR m.f2 ∧ inR m.f4 ∧ inR m.f6 ∧ ∀ v ∈ m.f7, inR v
def headL (m : S81) : List Int := [m.f0, m.f1, m.f2, m.f4, if m.f5 = true then 1 else 0, m.f6]
theorem headL_in {m : S81} (h : rM m) : ∀ v ∈ headL m, inR v := by
  intro v hv
  obtain ⟨h0, h1, h2, h4, h6, _⟩ := h
  unfold headL at hv
  simp only [List.mem_cons, List.not_mem_nil, or_false] at hv
  rcases hv with rfl | rfl | rfl | rfl | rfl | rfl
  · exact h0
  · exact h1
  · exact h2
  · exact h4
  · unfold inR; split <;> omega
  · exact h6
def lineI (m : S81) : ByteArray := (((textB' (headL m) ++ (⟨#[32]⟩ : ByteArray)) ++ textB' m.f7) ++ (⟨#[32]⟩ : ByteArray)) ++ m.f3
def lineS (m : S81) : ByteArray := lineI m ++ (⟨#[10]⟩ : ByteArray)
theorem one_size (b : UInt8) : (⟨#[b]⟩ : ByteArray).size = 1 := rfl
theorem line_sizes (m : S81) (h : rM m) (hk : okM m) : (textB' (headL m)).size ≤ 1000 ∧ (textB' m.f7).size ≤ 33554432 ∧ m.f3.size ≤ 1048576 := by
  have a := textB'_size (headL m) (headL_in h)
  have b := textB'_size m.f7 h.2.2.2.2.2
  have c := hk.2
  have d : (headL m).length = 6 := rfl
  exact ⟨by omega, by omega, hk.1⟩
theorem lineS_size (m : S81) (h : rM m) (hk : okM m) : (lineS m).size ≤ 67108864 := by
  obtain ⟨a, b, c⟩ := line_sizes m h hk
  unfold lineS lineI
  simp only [ByteArray.size_append, one_size]
  omega
theorem line_spec (m : S81) (h : rM m) (hk : okM m) : From (fun k => spec_l03Line.f k m.f0 m.f1 m.f2 m.f3 m.f4 m.f5 m.f6 m.f7) (lineS m) := by
  obtain ⟨K1, e1⟩ := spec_text (headL m) (by show 6 ≤ _; omega) (headL_in h)
  obtain ⟨K2, e2⟩ := spec_text m.f7 hk.2 h.2.2.2.2.2
  obtain ⟨a, b, c⟩ := line_sizes m h hk
  refine ⟨K1 + K2, fun k hk => ?_⟩
  have E1 : spec_l01Text.f k (headL m) = some (textB' (headL m)) := e1 k (by omega)
  have E2 : spec_l01Text.f k m.f7 = some (textB' m.f7) := e2 k (by omega)
  have s1 : (textB' (headL m)).size + 1 ≤ 9223372036854775807 := by omega
  have s2 : (textB' (headL m) ++ (⟨#[32]⟩ : ByteArray)).size + (textB' m.f7).size ≤ 9223372036854775807 := by simp only [ByteArray.size_append, one_size]; omega
  have s3 : ((textB' (headL m) ++ (⟨#[32]⟩ : ByteArray)) ++ textB' m.f7).size + 1 ≤ 9223372036854775807 := by simp only [ByteArray.size_append, one_size]; omega
  have s4 : (((textB' (headL m) ++ (⟨#[32]⟩ : ByteArray)) ++ textB' m.f7) ++ (⟨#[32]⟩ : ByteArray)).size + m.f3.size ≤ 9223372036854775807 := by simp only [ByteArray.size_append, one_size]; omega
  have s5 : ((((textB' (headL m) ++ (⟨#[32]⟩ : ByteArray)) ++ textB' m.f7) ++ (⟨#[32]⟩ : ByteArray)) ++ m.f3).size + 1 ≤ 9223372036854775807 := by simp only [ByteArray.size_append, one_size]; omega
  unfold lineS lineI
  have hh : headL m = [m.f0, m.f1, m.f2, m.f4, if m.f5 = true then 1 else 0, m.f6] := rfl
  simp only [spec_l03Line.f]
  cases h5 : m.f5 with
  | true =>
    rw [h5] at hh
    simp only [if_true] at hh
    rw [if_pos rfl, ← hh, E1, Option.bind_some, if_pos s1, E2, Option.bind_some, if_pos s2, if_pos s3, if_pos s4, if_pos s5]
  | false =>
    rw [h5] at hh
    simp only [Bool.false_eq_true, if_false] at hh
    rw [if_neg (by simp), ← hh, E1, Option.bind_some, if_pos s1, E2, Option.bind_some, if_pos s2, if_pos s3, if_pos s4, if_pos s5]
theorem line_impl (m : S81) (h : rM m) (hk : okM m) : From (fun k => impl_messageLine.f k m.f0 m.f1 m.f2 m.f3 m.f4 m.f5 m.f6 m.f7) (lineI m) := by
  obtain ⟨K1, e1⟩ := impl_text (headL m) (by show 6 ≤ _; omega) (headL_in h)
  obtain ⟨K2, e2⟩ := impl_text m.f7 hk.2 h.2.2.2.2.2
  obtain ⟨a, b, c⟩ := line_sizes m h hk
  refine ⟨K1 + K2, fun k hk => ?_⟩
  have E1 : impl_listText.f k (headL m) = some (textB' (headL m)) := e1 k (by omega)
  have E2 : impl_listText.f k m.f7 = some (textB' m.f7) := e2 k (by omega)
  have s1 : (textB' (headL m)).size + 1 ≤ 9223372036854775807 := by omega
  have s2 : (textB' (headL m) ++ (⟨#[32]⟩ : ByteArray)).size + (textB' m.f7).size ≤ 9223372036854775807 := by simp only [ByteArray.size_append, one_size]; omega
  have s3 : ((textB' (headL m) ++ (⟨#[32]⟩ : ByteArray)) ++ textB' m.f7).size + 1 ≤ 9223372036854775807 := by simp only [ByteArray.size_append, one_size]; omega
  have s4 : (((textB' (headL m) ++ (⟨#[32]⟩ : ByteArray)) ++ textB' m.f7) ++ (⟨#[32]⟩ : ByteArray)).size + m.f3.size ≤ 9223372036854775807 := by simp only [ByteArray.size_append, one_size]; omega
  have h1 : impl_oneIf.f m.f5 = some (if m.f5 = true then 1 else 0) := by unfold impl_oneIf.f; split <;> rfl
  show impl_messageLine.f k m.f0 m.f1 m.f2 m.f3 m.f4 m.f5 m.f6 m.f7 = some (lineI m)
  unfold impl_messageLine.f lineI
  rw [h1, Option.bind_some, show ([m.f0, m.f1, m.f2, m.f4, (if m.f5 = true then 1 else 0), m.f6] : List Int) = headL m from rfl, E1, Option.bind_some, if_pos s1, E2, Option.bind_some, if_pos s2, if_pos s3, if_pos s4]
/-- The log's text. -/
def logT (a : Int) (l : List S81) : ByteArray := l.foldl (fun t m => t ++ lineS m) (decB a ++ (⟨#[10]⟩ : ByteArray))
theorem fold_size (l : List S81) : ∀ t : ByteArray, (∀ m ∈ l, rM m ∧ okM m) → (l.foldl (fun t m => t ++ lineS m) t).size ≤ t.size + 67108864 * l.length := by
  induction l with
  | nil => intro t _; simp
  | cons m l ih =>
    intro t h
    have h1 := h m (List.mem_cons_self ..)
    have h2 := lineS_size m h1.1 h1.2
    have h3 := ih (t ++ lineS m) (fun x hx => h x (List.mem_cons_of_mem _ hx))
    simp only [List.foldl_cons, List.length_cons]
    rw [ByteArray.size_append] at h3
    omega
theorem head_size (a : Int) (h : inR a) : (decB a).size ≤ 20 := by
  have := itoa_len64 a h.1 h.2
  have e : (decB a).size = (Lib.itoa a).length := by unfold decB; show (Lib.itoa a).toArray.size = _; simp
  omega
theorem text_spec (a : Int) (l : List S81) (ha : inR a) (hl : l.length ≤ 1048576) (h : ∀ m ∈ l, rM m ∧ okM m) : From (fun k => spec_l03Text.f k a l) (logT a l) := by
  obtain ⟨K, hK⟩ := from_all (g := fun k j => spec_l03Line.f k (l.getD j zM).f0 (l.getD j zM).f1 (l.getD j zM).f2 (l.getD j zM).f3 (l.getD j zM).f4 (l.getD j zM).f5 (l.getD j zM).f6 (l.getD j zM).f7) (fun j => lineS (l.getD j zM)) l.length fun j hj => line_spec _ (h _ (getD_mem zM hj)).1 (h _ (getD_mem zM hj)).2
  have hs := head_size a ha
  obtain ⟨L, hL⟩ := fold_then (fun k t i => spec_l03Text.l0 k t l.length i a l) l zM K (fun t m => t ++ lineS m) (decB a ++ (⟨#[10]⟩ : ByteArray)) (logT a l) (fun k i hk h0 h1 => by
    have hf := fold_size (l.take i.toNat) (decB a ++ (⟨#[10]⟩ : ByteArray)) (fun m hm => h m (List.mem_of_mem_take hm))
    have hm := getD_mem zM (show i.toNat < l.length by omega)
    have hz := lineS_size _ (h _ hm).1 (h _ hm).2
    have ht : (l.take i.toNat).length ≤ l.length := by rw [List.length_take]; omega
    rw [ByteArray.size_append, one_size] at hf
    have hc : ((l.take i.toNat).foldl (fun t m => t ++ lineS m) (decB a ++ (⟨#[10]⟩ : ByteArray))).size + (lineS (l.getD i.toNat zM)).size ≤ 9223372036854775807 := by omega
    simp only [spec_l03Text.l0, h0, h1, if_true, rd_T81, hK k hk i.toNat (by omega), Option.bind_some, wsucc h0 (by omega), if_pos hc]) (fun k _ => by
    simp only [spec_l03Text.l0, Int.lt_irrefl, if_false, logT])
  refine ⟨L + 100, fun k hk => ?_⟩
  simp only [spec_l03Text.f, dec_spec a ha.1 ha.2 k (by omega), Option.bind_some]
  rw [if_pos (by omega)]
  exact hL k (by omega)
theorem text_impl (a : Int) (l : List S81) (ha : inR a) (hl : l.length ≤ 1048576) (h : ∀ m ∈ l, rM m ∧ okM m) : From (fun k => impl_DigestOfLog.l0 k (decB a ++ (⟨#[10]⟩ : ByteArray)) l (l.length : Int) 0) (if ((logT a l).size : Int) > 4000 then ((⟨#[]⟩ : ByteArray), false) else (digS (logT a l), true)) := by
  obtain ⟨K, hK⟩ := from_all (g := fun k j => impl_messageLine.f k (l.getD j zM).f0 (l.getD j zM).f1 (l.getD j zM).f2 (l.getD j zM).f3 (l.getD j zM).f4 (l.getD j zM).f5 (l.getD j zM).f6 (l.getD j zM).f7) (fun j => lineI (l.getD j zM)) l.length fun j hj => line_impl _ (h _ (getD_mem zM hj)).1 (h _ (getD_mem zM hj)).2
  have hs := head_size a ha
  refine fold_then (fun k t i => impl_DigestOfLog.l0 k t l (l.length : Int) i) l zM K (fun t m => t ++ lineS m) (decB a ++ (⟨#[10]⟩ : ByteArray)) _ (fun k i hk h0 h1 => by
    have hf := fold_size (l.take i.toNat) (decB a ++ (⟨#[10]⟩ : ByteArray)) (fun m hm => h m (List.mem_of_mem_take hm))
    have hm := getD_mem zM (show i.toNat < l.length by omega)
    have hz := lineS_size _ (h _ hm).1 (h _ hm).2
    have ht : (l.take i.toNat).length ≤ l.length := by rw [List.length_take]; omega
    rw [ByteArray.size_append, one_size] at hf
    have hz2 : (lineI (l.getD i.toNat zM)).size + 1 ≤ 9223372036854775807 := by
      unfold lineS at hz; rw [ByteArray.size_append, one_size] at hz; omega
    have hc : ((l.take i.toNat).foldl (fun t m => t ++ lineS m) (decB a ++ (⟨#[10]⟩ : ByteArray))).size + (lineI (l.getD i.toNat zM) ++ (⟨#[10]⟩ : ByteArray)).size ≤ 9223372036854775807 := by
      show _ + (lineS (l.getD i.toNat zM)).size ≤ _
      omega
    simp only [impl_DigestOfLog.l0, h0, h1, if_true, rd_T81, hK k hk i.toNat (by omega), Option.bind_some, wsucc h0 (by omega), if_pos hc, if_pos hz2]
    rfl) (fun k _ => by
    simp only [impl_DigestOfLog.l0, Int.lt_irrefl, if_false]
    show (impl_DigestOf.f (logT a l)).bind _ = _
    unfold impl_DigestOf.f
    by_cases c : ((logT a l).size : Int) > 4000
    · rw [if_pos c, if_pos c]; rfl
    · rw [if_neg c, if_neg c, digest_impl _ (by omega)]; rfl)
theorem both_from (a : Int) (l : List S81) (ha : inR a) (hl : l.length ≤ 1048576) (h : ∀ m ∈ l, rM m ∧ okM m) : ∃ g : ByteArray × Bool, From (fun k => spec_DigestOfLog.f k a l) g ∧ From (fun k => impl_DigestOfLog.f k a l) g := by
  obtain ⟨r, ⟨K1, e1⟩, ⟨K2, e2⟩⟩ := valid_both a l hl (fun m hm => (h m hm).2)
  cases r with
  | false =>
    exact ⟨((⟨#[]⟩ : ByteArray), false), ⟨K1, fun k hk => by simp only [spec_DigestOfLog.f, e1 k hk, Option.bind_some, Bool.false_eq_true, if_false]⟩, ⟨K2, fun k hk => by simp only [impl_DigestOfLog.f, e2 k hk, Option.bind_some, Bool.false_eq_true, if_false]⟩⟩
  | true =>
    obtain ⟨K3, e3⟩ := text_spec a l ha hl h
    obtain ⟨K4, e4⟩ := text_impl a l ha hl h
    have hs := head_size a ha
    refine ⟨if ((logT a l).size : Int) > 4000 then ((⟨#[]⟩ : ByteArray), false) else (digS (logT a l), true), ⟨K1 + K3 + 5000, fun k hk => ?_⟩, ⟨K2 + K4, fun k hk => ?_⟩⟩
    · simp only [spec_DigestOfLog.f, e1 k (by omega), e3 k (by omega), Option.bind_some, if_true]
      by_cases c : ((logT a l).size : Int) > 4000
      · rw [if_pos c, if_pos c]
      · rw [if_neg c, if_neg c, digest_spec _ (by omega) k (by omega)]; rfl
    · simp only [impl_DigestOfLog.f, e2 k (by omega), Option.bind_some, if_true, dec_impl a ha.1 ha.2]
      rw [if_pos (by omega)]
      exact e4 k (by omega)
theorem FnExactDigestOfLog : laws_FnExactDigestOfLog.Pure := by
  intro a l wa ⟨h1, q1⟩
  obtain ⟨s, ⟨K1, hs⟩, hc⟩ := szLog_tells a l 1048576 (by omega) (by omega) h1 q1
  rcases hc with hc | ⟨b1, b2, b3, b4⟩
  · exact ⟨K1, by simp only [laws_FnExactDigestOfLog.f, hs K1 (Nat.le_refl _), Option.bind_some, hc, if_true]⟩
  have hn : ¬ s < 0 := by omega
  have hr : ∀ m ∈ l.map convMessage, rM m ∧ okM m := by
    intro m hm
    refine ⟨?_, okM_conv b2 m hm⟩
    obtain ⟨x, hx, rfl⟩ := List.mem_map.1 hm
    obtain ⟨w0, w1, w2, _, w4, _, w6, _, w7⟩ := q1 x hx
    exact ⟨inR_wf w0, inR_wf w1, inR_wf w2, inR_wf w4, inR_wf w6, fun v hv => inR_wf (w7 v hv)⟩
  obtain ⟨K3, e1⟩ := toLog_from a l b1 b2
  obtain ⟨K5, e3⟩ := eqLog_from a (l.map convMessage) (by simpa using b1) (okM_conv b2)
  obtain ⟨g, ⟨K7, e5⟩, ⟨K8, e6⟩⟩ := both_from a (l.map convMessage) (inR_wf wa) (by simpa using b1) hr
  generalize hK : K1 + K3 + K5 + K7 + K8 = K
  refine ⟨K + 9, ?_⟩
  have H := hs (K + 9) (by omega)
  have E1 := fun i => e1 (K + i) (by omega)
  have E3 := fun i => e3 (K + i) (by omega)
  have E5 := fun i => e5 (K + i) (by omega)
  have E6 := fun i => e6 (K + i) (by omega)
  have hb : (g.2 != g.2) = false := by simp
  simp only [laws_FnExactDigestOfLog.f, H, hn, Option.bind_some, if_false]
  simp only [laws_FnExactDigestOfLog.j0, E1, E5, E6, hb, Option.bind_some, if_true]
  simp only [laws_FnExactDigestOfLog.j1, Bool.false_eq_true, if_false]
  simp only [laws_FnExactDigestOfLog.j2, E1, E3, Option.bind_some, if_true]

end Go.Proofs.YtopdflppdpmblaaDoor.Pure
