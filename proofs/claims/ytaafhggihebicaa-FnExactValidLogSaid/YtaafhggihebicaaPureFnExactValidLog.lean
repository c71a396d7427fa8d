/- The program's ValidLog returns what the reference's returns, for every log that can be read. -/
import Derived.Test.YtaafhggihebicaaXFnExactValidLogx8
import Derived.Test.YtaafhggihebicaaVFnExactValidLogXP
namespace Go.Proofs.Ytaafhggihebicaa.Pure
open Go.RowKit Go.Proofs.Ytaafhggihebicaa.XFnExactValidLog Go.Proofs.YtaafhggihebicaaW.PrintWords Go.Proofs.YtaafhggihebicaaW.PrintLast Go.Proofs.Ytaafhggihebicaa.XP Go.Proofs.Ytaafhggihebicaa.XP Go.Proofs.Ytaafhggihebicaa.XP Go.Proofs.Ytaafhggihebicaa.XP
set_option linter.unusedVariables false
set_option linter.unusedSimpArgs false

theorem toInt64S_from (l : List Int) (h : l.length ≤ 1073741824) : From (fun k => laws_toInt64S.f k l) l := by
  obtain ⟨K, hK⟩ := fill_all (F := laws_toInt64S.l0) (fun x : Int => x) 0 0 (fun k xs ys i h0 h1 h2 h3 => by
      simp only [laws_toInt64S.l0, h0, h1, h2, if_true, wsucc h0 h3]; rfl) (fun k xs ys i h => by simp only [laws_toInt64S.l0, h, if_false]) l (by omega)
  refine ⟨K, fun k hk => ?_⟩
  simp only [laws_toInt64S.f, Int.toNat_natCast]
  rw [if_pos (by omega), if_pos (by omega)]
  simpa using hK k hk
theorem eqInt64S_from (l : List Int) (h : l.length ≤ 1073741824) : From (fun k => laws_eqInt64S.f k l l) true := by
  obtain ⟨K, hK⟩ := all_loop (fun k i => laws_eqInt64S.l0 k l l i) l.length (by omega) 0 true (fun k i _ h0 h1 => by
      simp only [laws_eqInt64S.l0, h0, h1, if_true, wsucc h0 (by omega)]) (fun k i _ h _ => by simp only [laws_eqInt64S.l0, h, if_false])
  refine ⟨K, fun k hk => ?_⟩
  simp only [laws_eqInt64S.f, if_true]
  exact hK k hk
theorem szN (n : Nat) (a : Int) (hl : n ≤ 9223372036854775807) (ha : 0 ≤ a) (ha2 : a ≤ 1048576) : wrap64 (a - (n : Int)) = a - n := w64 (by omega) (by omega)
theorem szMessage_tells (a0 a1 a2 : Int) (s : ByteArray) (a4 : Int) (b : Bool) (a6 : Int) (l : List Int) (a : Int) (ha : 0 ≤ a) (ha2 : a ≤ 1048576) (h1 : s.size ≤ 9223372036854775807) (h2 : l.length ≤ 9223372036854775807) :
    ∃ r, laws_szMessage.f a0 a1 a2 s a4 b a6 l a = some r ∧ (r < 0 ∨ (s.size ≤ 1048576 ∧ l.length ≤ 1048576 ∧ 0 ≤ r ∧ r ≤ a)) := by
  unfold laws_szMessage.f laws_szInt64S.f
  rw [szN s.size a h1 ha ha2]
  by_cases c1 : a - (s.size : Int) < 0
  · rw [if_pos c1]; exact ⟨_, rfl, .inl (by omega)⟩
  rw [if_neg c1, szN l.length (a - s.size) h2 (by omega) (by omega)]
  by_cases c2 : a - (s.size : Int) - l.length < 0
  · rw [if_pos c2]; exact ⟨-1, rfl, .inl (by omega)⟩
  rw [if_neg c2, Option.bind_some, if_neg c2]
  exact ⟨_, rfl, .inr (by omega)⟩
theorem toMessage_from (a0 a1 a2 : Int) (s : ByteArray) (a4 : Int) (b : Bool) (a6 : Int) (l : List Int) (h : l.length ≤ 1048576) : From (fun k => laws_toMessage.f k a0 a1 a2 s a4 b a6 l) (a0, a1, a2, s, a4, b, a6, l) := by
  obtain ⟨K, hK⟩ := toInt64S_from l (by omega)
  exact ⟨K, fun k hk => by simp only [laws_toMessage.f, hK k hk, Option.bind_some]⟩
theorem eqMessage_from (a0 a1 a2 : Int) (s : ByteArray) (a4 : Int) (b : Bool) (a6 : Int) (l : List Int) (h : l.length ≤ 1048576) : From (fun k => laws_eqMessage.f k a0 a1 a2 s a4 b a6 l a0 a1 a2 s a4 b a6 l) true := by
  obtain ⟨K, hK⟩ := eqInt64S_from l (by omega)
  exact ⟨K, fun k hk => by simp [laws_eqMessage.f, hK k hk]⟩
abbrev zM := z49
abbrev zL := z46
def okL (b : S46) : Prop := b.f3.size ≤ 1048576 ∧ b.f7.length ≤ 1048576
def okM (b : S49) : Prop := b.f3.size ≤ 1048576 ∧ b.f7.length ≤ 1048576
theorem szMessageS_tells (l : List S46) (a : Int) (ha : 0 ≤ a) (ha2 : a ≤ 1048576) (h1 : l.length ≤ 9223372036854775807) (hq : ∀ y ∈ l, Q46 y) :
    ∃ r, From (fun k => laws_szMessageS.f k l a) r ∧ (r < 0 ∨ (l.length ≤ 1048576 ∧ (∀ y ∈ l, okL y) ∧ 0 ≤ r ∧ r ≤ a)) := by
  unfold laws_szMessageS.f
  rw [szN l.length a h1 ha ha2]
  by_cases c1 : a - (l.length : Int) < 0
  · simp only [if_pos c1]; exact ⟨-1, from_now fun _ => rfl, .inl (by omega)⟩
  simp only [if_neg c1]
  obtain ⟨r, hr, h⟩ := pay_loop (F := fun k a i => laws_szMessageS.l0 k l a i) l.length (fun j => okL (l.getD j z46)) (fun a i h0 h2 h3 h4 => by
      have hm := getD_mem z46 (show i.toNat < l.length by omega)
      have hq2 := hq _ hm
      obtain ⟨t, ht, hc⟩ := szMessage_tells (l.getD i.toNat z46).f0 (l.getD i.toNat z46).f1 (l.getD i.toNat z46).f2 (l.getD i.toNat z46).f3 (l.getD i.toNat z46).f4 (l.getD i.toNat z46).f5 (l.getD i.toNat z46).f6 (l.getD i.toNat z46).f7 a h3 h4 hq2.2.2.2.1 hq2.2.2.2.2.2.2.2.1
      refine ⟨0, ?_⟩
      rcases hc with hc | ⟨b1, b2, b3, b4⟩
      · left; intro k _; simp only [laws_szMessageS.l0, h0, h2, if_true, rd_T46, ht, Option.bind_some, hc]
      · right; refine ⟨t, b3, b4, ⟨b1, b2⟩, fun k _ => ?_⟩
        have hn : ¬ t < 0 := by omega
        simp only [laws_szMessageS.l0, h0, h2, if_true, rd_T46, ht, Option.bind_some, hn, if_false, wsucc h0 (by omega)]) (fun k a => by simp only [laws_szMessageS.l0, Int.lt_irrefl, if_false]) (a - l.length) (by omega) (by omega)
  refine ⟨r, hr, h.imp id fun ⟨r0, r1, hj⟩ => ⟨by omega, fun y hy => ?_, r0, by omega⟩⟩
  obtain ⟨j, hj2, rfl⟩ := List.mem_iff_getElem.1 hy
  have := hj j hj2
  rwa [List.getD_eq_getElem?_getD, List.getElem?_eq_getElem hj2] at this
theorem szLog_tells (m : Int) (l : List S46) (a : Int) (ha : 0 ≤ a) (ha2 : a ≤ 1048576) (h1 : l.length ≤ 9223372036854775807) (hq : ∀ y ∈ l, Q46 y) :
    ∃ r, From (fun k => laws_szLog.f k m l a) r ∧ (r < 0 ∨ (l.length ≤ 1048576 ∧ (∀ y ∈ l, okL y) ∧ 0 ≤ r ∧ r ≤ a)) := by
  obtain ⟨r, ⟨K, hK⟩, h⟩ := szMessageS_tells l a ha ha2 h1 hq
  rcases h with h | h
  · exact ⟨-1, ⟨K, fun k hk => by simp only [laws_szLog.f, hK k hk, Option.bind_some, h, if_true]⟩, .inl (by omega)⟩
  · have hn : ¬ r < 0 := by omega
    exact ⟨r, ⟨K, fun k hk => by simp only [laws_szLog.f, hK k hk, Option.bind_some, hn, if_false]⟩, .inr h⟩
def convMessage (x : S46) : S49 := ⟨x.f0, x.f1, x.f2, x.f3, x.f4, x.f5, x.f6, x.f7⟩
theorem toMessageS_from (l : List S46) (h : l.length ≤ 1048576) (hb : ∀ y ∈ l, okL y) : From (fun k => laws_toMessageS.f k l) (l.map convMessage) := by
  obtain ⟨K, hK⟩ := from_all (g := fun k j => laws_toInt64S.f k (l.getD j z46).f7) (fun j => (l.getD j z46).f7) l.length fun j hj => toInt64S_from _ (by have := (hb _ (getD_mem z46 hj)).2; omega)
  obtain ⟨L, hL⟩ := fill_allK (F := fun k ys i => laws_toMessageS.l0 k l ys i) convMessage z46 z49 l K (fun k ys i hk h0 h1 h2 => by
      simp only [laws_toMessageS.l0, h0, h1, h2, if_true, laws_toMessage.f, rd_T46, hK k hk i.toNat (by omega), Option.bind_some, wsucc h0 (by omega)]; rfl) (fun k ys i _ h => by simp only [laws_toMessageS.l0, h, if_false])
  refine ⟨L, fun k hk => ?_⟩
  simp only [laws_toMessageS.f, Int.toNat_natCast]
  rw [if_pos (by omega), if_pos (by omega)]
  exact hL k hk
theorem eqMessageS_from (l : List S49) (h : l.length ≤ 1048576) (hb : ∀ y ∈ l, okM y) : From (fun k => laws_eqMessageS.f k l l) true := by
  obtain ⟨K, hK⟩ := from_all (g := fun k j => laws_eqMessage.f k (l.getD j z49).f0 (l.getD j z49).f1 (l.getD j z49).f2 (l.getD j z49).f3 (l.getD j z49).f4 (l.getD j z49).f5 (l.getD j z49).f6 (l.getD j z49).f7 (l.getD j z49).f0 (l.getD j z49).f1 (l.getD j z49).f2 (l.getD j z49).f3 (l.getD j z49).f4 (l.getD j z49).f5 (l.getD j z49).f6 (l.getD j z49).f7) (fun j => true) l.length fun j hj => eqMessage_from _ _ _ _ _ _ _ _ (hb _ (getD_mem z49 hj)).2
  obtain ⟨L, hL⟩ := all_loop (fun k i => laws_eqMessageS.l0 k l l i) l.length (by omega) K true (fun k i hk h0 h1 => by
      simp only [laws_eqMessageS.l0, h0, h1, if_true, rd_T49, hK k hk i.toNat (by omega), Option.bind_some, wsucc h0 (by omega)]) (fun k i _ h _ => by simp only [laws_eqMessageS.l0, h, if_false])
  refine ⟨L, fun k hk => ?_⟩
  simp only [laws_eqMessageS.f, if_true]
  exact hL k hk
theorem okM_conv {l : List S46} (hb : ∀ y ∈ l, okL y) : ∀ y ∈ l.map convMessage, okM y := by
  intro y hy
  obtain ⟨x, hx, rfl⟩ := List.mem_map.1 hy
  exact hb x hx
theorem toLog_from (m : Int) (l : List S46) (h : l.length ≤ 1048576) (hb : ∀ y ∈ l, okL y) : From (fun k => laws_toLog.f k m l) (m, l.map convMessage) := by
  obtain ⟨K, hK⟩ := toMessageS_from l h hb
  exact ⟨K, fun k hk => by simp only [laws_toLog.f, hK k hk, Option.bind_some]⟩
theorem eqLog_from (m : Int) (l : List S49) (h : l.length ≤ 1048576) (hb : ∀ y ∈ l, okM y) : From (fun k => laws_eqLog.f k m l m l) true := by
  obtain ⟨K, hK⟩ := eqMessageS_from l h hb
  exact ⟨K, fun k hk => by simp only [laws_eqLog.f, hK k hk, Option.bind_some, if_true]⟩
theorem in_eq (a b c : Int) : spec_l00In.f a b c = impl_in.f a b c := rfl
theorem in_some (a b c : Int) : impl_in.f a b c = some (decide (b ≤ a ∧ a ≤ c)) := by
  unfold impl_in.f
  split
  · congr 1; rw [decide_eq_decide]; omega
  · congr 1; symm; rw [decide_eq_false_iff_not]; omega

def risesB (l : List Int) : Bool := (List.range l.length).all fun j => decide (1 ≤ l.getD j 0 ∧ l.getD j 0 ≤ 1000) && (decide (j = 0) || decide (l.getD (j - 1) 0 < l.getD j 0))
theorem prev_of {i : Int} (h0 : 0 ≤ i) (h1 : i ≤ 4611686018427387904) (hp : i > 0) : wrap64 (i - 1) = i - 1 ∧ (i - 1).toNat = i.toNat - 1 ∧ 0 ≤ i - 1 := ⟨wpred h0 h1, by omega, by omega⟩
theorem l00Rises_from (l : List Int) (h : l.length ≤ 1073741824) : From (fun k => spec_l00Rises.f k l 1 1000) (risesB l) := by
  obtain ⟨K, hK⟩ := test_loopB (fun k i => spec_l00Rises.l0 k l 1 1000 i) l.length 0 (fun j => decide (1 ≤ l.getD j 0 ∧ l.getD j 0 ≤ 1000) && (decide (j = 0) || decide (l.getD (j - 1) 0 < l.getD j 0))) true (fun k i _ h0 h1 => by
    simp only [spec_l00Rises.l0, in_eq, in_some, h0, h1, if_true, Option.bind_some, wsucc h0 (by omega), rd]
    by_cases c : 1 ≤ l.getD i.toNat 0 ∧ l.getD i.toNat 0 ≤ 1000
    · by_cases c5 : i > 0
      · obtain ⟨p1, p2, p3⟩ := prev_of h0 (by omega) c5
        have p4 : i - 1 < l.length := by omega
        have p5 : ¬ i.toNat = 0 := by omega
        by_cases c6 : l.getD (i.toNat - 1) 0 < l.getD i.toNat 0
        · have c7 : ¬ l.getD (i.toNat - 1) 0 ≥ l.getD i.toNat 0 := by omega
          simp only [c, c5, c6, c7, p1, p2, p3, p4, p5, if_true, if_false, decide_true, decide_false, and_self, Bool.true_and, Bool.false_or]
        · have c7 : l.getD (i.toNat - 1) 0 ≥ l.getD i.toNat 0 := by omega
          simp only [c, c5, c6, c7, p1, p2, p3, p4, p5, if_true, if_false, decide_true, decide_false, and_self, Bool.true_and, Bool.false_or, Bool.false_eq_true]
      · have p5 : i.toNat = 0 := by omega
        rw [p5] at c ⊢
        simp only [c, c5, if_true, if_false, decide_true, and_self, Bool.true_and, Bool.true_or]
    · simp [c, -List.getD_eq_getElem?_getD]) (fun k _ => by simp only [spec_l00Rises.l0, Int.lt_irrefl, if_false])
  exact ⟨K, fun k hk => by simpa [risesB, spec_l00Rises.f] using hK k hk⟩
theorem rising_from (l : List Int) (h : l.length ≤ 1073741824) : From (fun k => impl_rising_isMember.f k l) (risesB l) := by
  obtain ⟨K, hK⟩ := test_loopB (fun k i => impl_rising_isMember.l0 k l l l.length i) l.length 0 (fun j => decide (1 ≤ l.getD j 0 ∧ l.getD j 0 ≤ 1000) && (decide (j = 0) || decide (l.getD (j - 1) 0 < l.getD j 0))) true (fun k i _ h0 h1 => by
    simp only [impl_rising_isMember.l0, impl_isMember.f, in_some, h0, h1, if_true, Option.bind_some, wsucc h0 (by omega), rd]
    by_cases c : 1 ≤ l.getD i.toNat 0 ∧ l.getD i.toNat 0 ≤ 1000
    · by_cases c5 : i > 0
      · obtain ⟨p1, p2, p3⟩ := prev_of h0 (by omega) c5
        have p4 : i - 1 < l.length := by omega
        have p5 : ¬ i.toNat = 0 := by omega
        by_cases c6 : l.getD (i.toNat - 1) 0 < l.getD i.toNat 0
        · have c7 : ¬ l.getD (i.toNat - 1) 0 ≥ l.getD i.toNat 0 := by omega
          simp only [c, c5, c6, c7, p1, p2, p3, p4, p5, if_true, if_false, decide_true, decide_false, and_self, Bool.true_and, Bool.false_or]
        · have c7 : l.getD (i.toNat - 1) 0 ≥ l.getD i.toNat 0 := by omega
          simp only [c, c5, c6, c7, p1, p2, p3, p4, p5, if_true, if_false, decide_true, decide_false, and_self, Bool.true_and, Bool.false_or, Bool.false_eq_true]
      · have p5 : i.toNat = 0 := by omega
        rw [p5] at c ⊢
        simp only [c, c5, if_true, if_false, decide_true, and_self, Bool.true_and, Bool.true_or]
    · simp [c, -List.getD_eq_getElem?_getD]) (fun k _ => by simp only [impl_rising_isMember.l0, Int.lt_irrefl, if_false])
  exact ⟨K, fun k hk => by simpa [risesB, impl_rising_isMember.f] using hK k hk⟩
theorem text_both (s : ByteArray) (hs : s.size ≤ 1048576) : ∃ r, From (fun k => spec_l01IsText.f k s) r ∧ From (fun k => impl_IsText.f k s) r := by
  obtain ⟨K, hK⟩ := test_loopB (fun k i => spec_l01IsText.l0 k s i) s.size 0 (fun j => decide (32 ≤ bt s j ∧ bt s j ≤ 126)) (decide ((s.size : Int) ≤ 80)) (fun k i _ h0 h1 => by
    simp only [spec_l01IsText.l0, h0, h1, if_true, wsucc h0 (by omega), Int.toNat_of_nonneg h0]
    by_cases c : bt s i < 32
    · have c2 : ¬ (32 ≤ bt s i ∧ bt s i ≤ 126) := by omega
      simp [c, c2]
    · by_cases d : bt s i > 126
      · have c2 : ¬ (32 ≤ bt s i ∧ bt s i ≤ 126) := by omega
        simp [c, d, c2]
      · have c2 : (32 ≤ bt s i ∧ bt s i ≤ 126) := by omega
        simp [c, d, c2]) (fun k _ => by simp only [spec_l01IsText.l0, Int.lt_irrefl, if_false])
  obtain ⟨L, hL⟩ := test_loopB (fun k i => impl_IsText.l0 k s s.size i) s.size 0 (fun j => decide (32 ≤ bt s j ∧ bt s j ≤ 126)) (decide ((s.size : Int) ≤ 80)) (fun k i _ h0 h1 => by
    simp only [impl_IsText.l0, h0, h1, if_true, wsucc h0 (by omega), Int.toNat_of_nonneg h0]
    by_cases c : bt s i < 32
    · have c2 : ¬ (32 ≤ bt s i ∧ bt s i ≤ 126) := by omega
      simp [c, c2]
    · by_cases d : bt s i > 126
      · have c2 : ¬ (32 ≤ bt s i ∧ bt s i ≤ 126) := by omega
        simp [c, d, c2]
      · have c2 : (32 ≤ bt s i ∧ bt s i ≤ 126) := by omega
        simp [c, d, c2]) (fun k _ => by simp only [impl_IsText.l0, Int.lt_irrefl, if_false])
  exact ⟨_, ⟨K, hK⟩, ⟨L, hL⟩⟩
theorem has_both (l : List Int) (x : Int) (hl : l.length ≤ 1048576) : ∃ r, From (fun k => spec_l00Has.f k l x) r ∧ From (fun k => slices_Contains_int64_int64.f k l x) r := by
  obtain ⟨K, h⟩ := find_loop (fun k i => spec_l00Has.l0 k l x i) l.length 0 (fun j => rd l j = x) (fun _ => true) false (fun k i _ h0 h1 => by
    simp only [spec_l00Has.l0, h0, h1, if_true, wsucc h0 (by omega), Int.toNat_of_nonneg h0]) (fun k _ => by simp only [spec_l00Has.l0, Int.lt_irrefl, if_false])
  obtain ⟨L, g⟩ := find_loop (fun k i => slices_Index_int64_int64.l0 k l x l.length i) l.length 0 (fun j => x = rd l j) (fun j => (j : Int)) (-1) (fun k i _ h0 h1 => by
    simp only [slices_Index_int64_int64.l0, h0, h1, if_true, wsucc h0 (by omega), Int.toNat_of_nonneg h0]) (fun k _ => by simp only [slices_Index_int64_int64.l0, Int.lt_irrefl, if_false])
  rcases h with ⟨j, hj, hp, _, e⟩ | ⟨hn, e⟩ <;> rcases g with ⟨i, hi, gp, _, f⟩ | ⟨gn, f⟩
  · refine ⟨true, ⟨K, e⟩, ⟨L, fun k hk => ?_⟩⟩
    simp [slices_Contains_int64_int64.f, slices_Index_int64_int64.f, f k hk]
  · exact absurd hp.symm (gn j hj)
  · exact absurd gp.symm (hn i hi)
  · refine ⟨false, ⟨K, e⟩, ⟨L, fun k hk => ?_⟩⟩
    simp [slices_Contains_int64_int64.f, slices_Index_int64_int64.f, f k hk]
theorem message_both (a0 a1 a2 : Int) (s : ByteArray) (a4 : Int) (b : Bool) (a6 : Int) (l : List Int) (hs : s.size ≤ 1048576) (hl : l.length ≤ 1048576) :
    ∃ r, From (fun k => spec_l03Message.f k a0 a1 a2 s a4 b a6 l) r ∧ From (fun k => impl_ValidMessage.f k a0 a1 a2 s a4 b a6 l) r := by
  obtain ⟨t, ⟨K1, e1⟩, ⟨L1, f1⟩⟩ := text_both s hs
  obtain ⟨h, ⟨K2, e2⟩, ⟨L2, f2⟩⟩ := has_both l a1 hl
  obtain ⟨K3, e3⟩ := l00Rises_from l (by omega)
  obtain ⟨L3, f3⟩ := rising_from l (by omega)
  generalize risesB l = q at e3 f3
  have j : ∃ r, (∀ k, K1 + K2 + K3 ≤ k → spec_l03Message.j0 (k + 1) false a0 a1 a2 s a4 b a6 l = some r) ∧ ∀ k, L1 + L2 + L3 ≤ k → impl_ValidMessage.j0 (k + 1) false a0 a1 a2 s a4 b a6 l = some r := by
    refine ⟨if (l.length : Int) > 20 then false else if q = true then (if h = true then false else if b = true then (if s.toList = [] then (l.length : Int) == 0 else false) else true) else false, fun k hk => ?_, fun k hk => ?_⟩
    · simp only [spec_l03Message.j0, Bool.false_eq_true, if_false, spec_l01Members.f, e3 k (by omega), e2 k (by omega), Option.bind_some]
      split
      · rfl
      · split
        · split
          · rfl
          · split
            · split <;> rfl
            · rfl
        · rfl
    · simp only [impl_ValidMessage.j0, Bool.false_eq_true, if_false, impl_IsMembers.f, f3 k (by omega), f2 k (by omega), Option.bind_some]
      split
      · rfl
      · split
        · split
          · rfl
          · split
            · split <;> rfl
            · rfl
        · rfl
  obtain ⟨r, j1, j2⟩ := j
  have d1 : ∀ k, spec_l03Message.j0 (k + 1) true a0 a1 a2 s a4 b a6 l = some false := fun k => by simp only [spec_l03Message.j0, if_true]
  have d2 : ∀ k, impl_ValidMessage.j0 (k + 1) true a0 a1 a2 s a4 b a6 l = some false := fun k => by simp only [impl_ValidMessage.j0, if_true]
  refine ⟨decide (1 ≤ a0 ∧ a0 ≤ 1000000000) && (decide (1 ≤ a1 ∧ a1 ≤ 1000) && (decide (0 ≤ a2 ∧ a2 ≤ 1000000) && (t && (decide (0 ≤ a4 ∧ a4 ≤ 1000000000) && (decide (0 ≤ a6 ∧ a6 ≤ wrap64 (a0 - 1)) && r))))), ⟨K1 + K2 + K3 + 1, fun k hk => ?_⟩, ⟨L1 + L2 + L3 + 1, fun k hk => ?_⟩⟩
  · obtain ⟨k, rfl⟩ : ∃ n, k = n + 1 := ⟨k - 1, by omega⟩
    simp only [spec_l03Message.f, spec_l01Member.f, spec_l01Tick.f, in_eq, in_some, Option.bind_some, e1 (k + 1) (by omega), d1]
    cases decide (1 ≤ a0 ∧ a0 ≤ 1000000000) <;> cases decide (1 ≤ a1 ∧ a1 ≤ 1000) <;> cases decide (0 ≤ a2 ∧ a2 ≤ 1000000) <;> cases t <;> cases decide (0 ≤ a4 ∧ a4 ≤ 1000000000) <;> cases decide (0 ≤ a6 ∧ a6 ≤ wrap64 (a0 - 1)) <;> simp [d1, j1 k (by omega)]
  · obtain ⟨k, rfl⟩ : ∃ n, k = n + 1 := ⟨k - 1, by omega⟩
    simp only [impl_ValidMessage.f, impl_isMember.f, impl_isTick.f, in_some, Option.bind_some, f1 (k + 1) (by omega), d2]
    cases decide (1 ≤ a0 ∧ a0 ≤ 1000000000) <;> cases decide (1 ≤ a1 ∧ a1 ≤ 1000) <;> cases decide (0 ≤ a2 ∧ a2 ≤ 1000000) <;> cases t <;> cases decide (0 ≤ a4 ∧ a4 ≤ 1000000000) <;> cases decide (0 ≤ a6 ∧ a6 ≤ wrap64 (a0 - 1)) <;> simp [d2, j2 k (by omega)]
theorem valid_both (a : Int) (l : List S49) (hl : l.length ≤ 1048576) (hb : ∀ y ∈ l, okM y) : ∃ r, From (fun k => spec_l03Is.f k a l) r ∧ From (fun k => impl_ValidLog.f k a l) r := by
  have hm : ∃ M : Nat → Bool, ∀ j, j < l.length → From (fun k => spec_l03Message.f k (l.getD j zM).f0 (l.getD j zM).f1 (l.getD j zM).f2 (l.getD j zM).f3 (l.getD j zM).f4 (l.getD j zM).f5 (l.getD j zM).f6 (l.getD j zM).f7) (M j) ∧ From (fun k => impl_ValidMessage.f k (l.getD j zM).f0 (l.getD j zM).f1 (l.getD j zM).f2 (l.getD j zM).f3 (l.getD j zM).f4 (l.getD j zM).f5 (l.getD j zM).f6 (l.getD j zM).f7) (M j) := by
    have h : ∀ j, ∃ b : Bool, j < l.length → From (fun k => spec_l03Message.f k (l.getD j zM).f0 (l.getD j zM).f1 (l.getD j zM).f2 (l.getD j zM).f3 (l.getD j zM).f4 (l.getD j zM).f5 (l.getD j zM).f6 (l.getD j zM).f7) b ∧ From (fun k => impl_ValidMessage.f k (l.getD j zM).f0 (l.getD j zM).f1 (l.getD j zM).f2 (l.getD j zM).f3 (l.getD j zM).f4 (l.getD j zM).f5 (l.getD j zM).f6 (l.getD j zM).f7) b := by
      intro j
      by_cases hj : j < l.length
      · obtain ⟨r, h⟩ := message_both (l.getD j zM).f0 (l.getD j zM).f1 (l.getD j zM).f2 (l.getD j zM).f3 (l.getD j zM).f4 (l.getD j zM).f5 (l.getD j zM).f6 (l.getD j zM).f7 (hb _ (getD_mem zM hj)).1 (hb _ (getD_mem zM hj)).2
        exact ⟨r, fun _ => h⟩
      · exact ⟨true, fun h => absurd h hj⟩
    exact ⟨fun j => (h j).choose, fun j => (h j).choose_spec⟩
  obtain ⟨M, hM⟩ := hm
  obtain ⟨K1, e1⟩ := from_all (g := fun k j => spec_l03Message.f k (l.getD j zM).f0 (l.getD j zM).f1 (l.getD j zM).f2 (l.getD j zM).f3 (l.getD j zM).f4 (l.getD j zM).f5 (l.getD j zM).f6 (l.getD j zM).f7) M l.length fun j hj => (hM j hj).1
  obtain ⟨K2, e2⟩ := from_all (g := fun k j => impl_ValidMessage.f k (l.getD j zM).f0 (l.getD j zM).f1 (l.getD j zM).f2 (l.getD j zM).f3 (l.getD j zM).f4 (l.getD j zM).f5 (l.getD j zM).f6 (l.getD j zM).f7) M l.length fun j hj => (hM j hj).2
  let p : Nat → Bool := fun j => M j && (decide ((l.getD j zM).f0 < a) && (decide (j = 0) || (decide ((l.getD (j - 1) zM).f0 < (l.getD j zM).f0) && decide ((l.getD (j - 1) zM).f2 ≤ (l.getD j zM).f2))))
  obtain ⟨L2, f2⟩ := test_loopB (fun k i => impl_ValidLog.l0 k l l.length i a l) l.length K2 p (decide ((l.length : Int) ≤ 40) && decide (1 ≤ a ∧ a ≤ 1000000000)) (fun k i hk h0 h1 => by
    have w := e2 k hk i.toNat (by omega)
    simp only [impl_ValidLog.l0, h0, h1, if_true, rd_T49, w, Option.bind_some, wsucc h0 (by omega), p]
    rcases Bool.eq_false_or_eq_true (M i.toNat) with c1 | c1
    · by_cases c2 : (l.getD i.toNat zM).f0 < a
      · have c2' : ¬ (l.getD i.toNat zM).f0 ≥ a := by omega
        by_cases c3 : i > 0
        · have p1 : wrap64 (i - 1) = i - 1 := wpred h0 (by omega)
          have p2 : (i - 1).toNat = i.toNat - 1 := by omega
          have p3 : 0 ≤ i - 1 := by omega
          have p4 : i - 1 < l.length := by omega
          have p5 : ¬ i.toNat = 0 := by omega
          by_cases c4 : (l.getD (i.toNat - 1) zM).f0 < (l.getD i.toNat zM).f0
          · have c4' : ¬ (l.getD (i.toNat - 1) zM).f0 ≥ (l.getD i.toNat zM).f0 := by omega
            by_cases c5 : (l.getD (i.toNat - 1) zM).f2 ≤ (l.getD i.toNat zM).f2
            · have c5' : ¬ (l.getD (i.toNat - 1) zM).f2 > (l.getD i.toNat zM).f2 := by omega
              simp only [c1, c2, c2', c3, c4, c4', c5, c5', p1, p2, p3, p4, p5, if_true, if_false, decide_true, decide_false, Bool.true_and, Bool.false_or]
            · have c5' : (l.getD (i.toNat - 1) zM).f2 > (l.getD i.toNat zM).f2 := by omega
              simp only [c1, c2, c2', c3, c4, c4', c5, c5', p1, p2, p3, p4, p5, if_true, if_false, decide_true, decide_false, Bool.true_and, Bool.false_or, Bool.false_eq_true]
          · have c4' : (l.getD (i.toNat - 1) zM).f0 ≥ (l.getD i.toNat zM).f0 := by omega
            simp only [c1, c2, c2', c3, c4, c4', p1, p2, p3, p4, p5, if_true, if_false, decide_true, decide_false, Bool.true_and, Bool.false_and, Bool.false_or, Bool.false_eq_true]
        · have p5 : i.toNat = 0 := by omega
          simp only [p5] at c1 c2 c2' ⊢
          simp only [c1, c2, c2', c3, if_true, if_false, decide_true, Bool.true_and, Bool.true_or]
      · have c2' : (l.getD i.toNat zM).f0 ≥ a := by omega
        simp only [c1, c2, c2', if_true, decide_false, Bool.true_and, Bool.false_and, Bool.false_eq_true, if_false]
    · simp only [c1, Bool.false_and, Bool.false_eq_true, if_false]) (fun k _ => by
    simp only [impl_ValidLog.l0, Int.lt_irrefl, if_false, in_some, Option.bind_some]
    by_cases c : (l.length : Int) ≤ 40 <;> simp [c])
  refine ⟨_, ?_, ⟨L2, f2⟩⟩
  have j0 : ∀ k, spec_l03Is.j0 (k + 1) true a l = some false := fun k => by simp only [spec_l03Is.j0, if_true]
  by_cases c : (l.length : Int) > 40
  · have c' : ¬ (l.length : Int) ≤ 40 := by omega
    refine ⟨1, fun k hk => ?_⟩
    obtain ⟨k, rfl⟩ : ∃ n, k = n + 1 := ⟨k - 1, by omega⟩
    simp only [spec_l03Is.f, c, c', if_true, j0, decide_false, Bool.false_and, Bool.and_false]
  have c' : (l.length : Int) ≤ 40 := by omega
  by_cases d : 1 ≤ a ∧ a ≤ 1000000000
  · obtain ⟨L1, f1⟩ := test_loopC (fun k i => spec_l03Is.l0 k l.length i a l) 2 l.length K1 p true (fun k i hk h0 h1 => by
      have w := e1 (k + 1) (by omega) i.toNat (by omega)
      simp only [spec_l03Is.l0, spec_l03Is.j2, h0, h1, if_true, rd_T49, w, Option.bind_some, wsucc h0 (by omega), p]
      rcases Bool.eq_false_or_eq_true (M i.toNat) with c1 | c1
      · by_cases c2 : (l.getD i.toNat zM).f0 < a
        · have c2' : ¬ (l.getD i.toNat zM).f0 ≥ a := by omega
          by_cases c3 : i > 0
          · have p1 : wrap64 (i - 1) = i - 1 := wpred h0 (by omega)
            have p2 : (i - 1).toNat = i.toNat - 1 := by omega
            have p3 : 0 ≤ i - 1 := by omega
            have p4 : i - 1 < l.length := by omega
            have p5 : ¬ i.toNat = 0 := by omega
            by_cases c4 : (l.getD (i.toNat - 1) zM).f0 < (l.getD i.toNat zM).f0
            · have c4' : ¬ (l.getD (i.toNat - 1) zM).f0 ≥ (l.getD i.toNat zM).f0 := by omega
              by_cases c5 : (l.getD (i.toNat - 1) zM).f2 ≤ (l.getD i.toNat zM).f2
              · have c5' : ¬ (l.getD (i.toNat - 1) zM).f2 > (l.getD i.toNat zM).f2 := by omega
                simp only [c1, c2, c2', c3, c4, c4', c5, c5', p1, p2, p3, p4, p5, if_true, if_false, decide_true, decide_false, Bool.true_and, Bool.false_or, Bool.false_eq_true]
              · have c5' : (l.getD (i.toNat - 1) zM).f2 > (l.getD i.toNat zM).f2 := by omega
                simp only [c1, c2, c2', c3, c4, c4', c5, c5', p1, p2, p3, p4, p5, if_true, if_false, decide_true, decide_false, Bool.true_and, Bool.false_or, Bool.false_eq_true]
            · have c4' : (l.getD (i.toNat - 1) zM).f0 ≥ (l.getD i.toNat zM).f0 := by omega
              simp only [c1, c2, c2', c3, c4, c4', p1, p2, p3, p4, p5, if_true, if_false, decide_true, decide_false, Bool.true_and, Bool.false_and, Bool.false_or, Bool.false_eq_true]
          · have p5 : i.toNat = 0 := by omega
            simp only [p5] at c1 c2 c2' ⊢
            simp only [c1, c2, c2', c3, if_true, if_false, decide_true, decide_false, Bool.true_and, Bool.true_or, Bool.false_eq_true]
        · have c2' : (l.getD i.toNat zM).f0 ≥ a := by omega
          simp only [c1, c2, c2', if_true, decide_true, decide_false, Bool.true_and, Bool.false_and, Bool.false_eq_true, if_false]
      · simp only [c1, Bool.false_and, Bool.false_eq_true, if_false, if_true]) (fun k _ => by simp only [spec_l03Is.l0, Int.lt_irrefl, if_false])
    refine ⟨L1 + 1, fun k hk => ?_⟩
    obtain ⟨k, rfl⟩ : ∃ n, k = n + 1 := ⟨k - 1, by omega⟩
    simp only [spec_l03Is.f, c, c', d, if_false, in_eq, in_some, Option.bind_some, spec_l03Is.j0, and_self, decide_true, Bool.not_true, Bool.false_eq_true, f1 k (by omega), Bool.and_true]
  · refine ⟨1, fun k hk => ?_⟩
    obtain ⟨k, rfl⟩ : ∃ n, k = n + 1 := ⟨k - 1, by omega⟩
    simp only [spec_l03Is.f, c, d, if_false, in_eq, in_some, Option.bind_some, decide_false, Bool.not_false, j0, Bool.and_false]
theorem FnExactValidLog : laws_FnExactValidLog.Pure := by
  intro a l _ ⟨h1, q1⟩
  obtain ⟨s, ⟨K1, hs⟩, hc⟩ := szLog_tells a l 1048576 (by omega) (by omega) h1 q1
  rcases hc with hc | ⟨b1, b2, b3, b4⟩
  · exact ⟨K1, by simp only [laws_FnExactValidLog.f, hs K1 (Nat.le_refl _), Option.bind_some, hc, if_true]⟩
  have hn : ¬ s < 0 := by omega
  obtain ⟨K3, e1⟩ := toLog_from a l b1 b2
  obtain ⟨K5, e3⟩ := eqLog_from a (l.map convMessage) (by simpa using b1) (okM_conv b2)
  obtain ⟨r, ⟨K7, e5⟩, ⟨K8, e6⟩⟩ := valid_both a (l.map convMessage) (by simpa using b1) (okM_conv b2)
  generalize hK : K1 + K3 + K5 + K7 + K8 = K
  refine ⟨K + 9, ?_⟩
  have H := hs (K + 9) (by omega)
  have E1 := fun i => e1 (K + i) (by omega)
  have E3 := fun i => e3 (K + i) (by omega)
  have E5 := fun i => e5 (K + i) (by omega)
  have E6 := fun i => e6 (K + i) (by omega)
  have hb : (r != r) = false := by simp
  simp only [laws_FnExactValidLog.f, laws_FnExactValidLog.j0, laws_FnExactValidLog.j1, spec_ValidLog.f, H, hn, hb, E1, E3, E5, E6, Option.bind_some, if_true, if_false, Bool.false_eq_true]

end Go.Proofs.Ytaafhggihebicaa.Pure
