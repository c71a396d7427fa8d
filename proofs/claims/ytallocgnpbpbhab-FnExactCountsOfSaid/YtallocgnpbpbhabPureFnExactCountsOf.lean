/- The program's CountsOf returns what the reference's returns, for every log that can be read. -/
import Derived.Test.YtallocgnpbpbhabXFnExactCountsOfx10
import Derived.Test.YtallocgnpbpbhabVFnExactCountsOfXP
import Derived.Test.YtallocgnpbpbhabVFnExactCountsOfXQ
namespace Go.Proofs.Ytallocgnpbpbhab.Pure
open Go.RowKit Go.Proofs.Ytallocgnpbpbhab.XFnExactCountsOf Go.Proofs.YtallocgnpbpbhabW.PrintWords Go.Proofs.YtallocgnpbpbhabW.PrintLast Go.Proofs.Ytallocgnpbpbhab.XP Go.Proofs.Ytallocgnpbpbhab.XQ Go.Proofs.Ytallocgnpbpbhab.XP Go.Proofs.Ytallocgnpbpbhab.XQ Go.Proofs.Ytallocgnpbpbhab.XP Go.Proofs.Ytallocgnpbpbhab.XQ Go.Proofs.Ytallocgnpbpbhab.XP Go.Proofs.Ytallocgnpbpbhab.XQ
set_option linter.unusedVariables false
set_option linter.unusedSimpArgs false

theorem toInt64S_from (l : List Int) (h : l.length ≤ 1073741824) : From (fun k => laws_toInt64S.f k l) l := by
  obtain ⟨K, hK⟩ := fill_all (F := laws_toInt64S.l0) (fun x : Int => x) 0 0 (fun k xs ys i h0 h1 h2 h3 => by
      simp only [laws_toInt64S.l0, h0, h1, h2, if_true, wsucc h0 h3]; rfl) (fun k xs ys i h => by simp only [laws_toInt64S.l0, h, if_false]) l (by omega)
  refine ⟨K, fun k hk => ?_⟩
  simp only [laws_toInt64S.f, Int.toNat_natCast]
  rw [if_pos (by omega), if_pos (by omega)]
  simpa using hK k hk
theorem eqInt64S_from (l : List Int) (h : l.length ≤ 1073741824) : From (fun k => laws_eqInt64S.f k l l) true := by
  obtain ⟨K, hK⟩ := all_loop (fun k i => laws_eqInt64S.l0 k l l i) l.length (by omega) 0 true (fun k i _ h0 h1 => by
      simp only [laws_eqInt64S.l0, h0, h1, if_true, wsucc h0 (by omega)]) (fun k i _ h _ => by simp only [laws_eqInt64S.l0, h, if_false])
  refine ⟨K, fun k hk => ?_⟩
  simp only [laws_eqInt64S.f, if_true]
  exact hK k hk
theorem szN (n : Nat) (a : Int) (hl : n ≤ 9223372036854775807) (ha : 0 ≤ a) (ha2 : a ≤ 1048576) : wrap64 (a - (n : Int)) = a - n := w64 (by omega) (by omega)
theorem szMessage_tells (a0 a1 a2 : Int) (s : ByteArray) (a4 : Int) (b : Bool) (a6 : Int) (l : List Int) (a : Int) (ha : 0 ≤ a) (ha2 : a ≤ 1048576) (h1 : s.size ≤ 9223372036854775807) (h2 : l.length ≤ 9223372036854775807) :
    ∃ r, laws_szMessage.f a0 a1 a2 s a4 b a6 l a = some r ∧ (r < 0 ∨ (s.size ≤ 1048576 ∧ l.length ≤ 1048576 ∧ 0 ≤ r ∧ r ≤ a)) := by
  unfold laws_szMessage.f laws_szInt64S.f
  rw [szN s.size a h1 ha ha2]
  by_cases c1 : a - (s.size : Int) < 0
  · rw [if_pos c1]; exact ⟨_, rfl, .inl (by omega)⟩
  rw [if_neg c1, szN l.length (a - s.size) h2 (by omega) (by omega)]
  by_cases c2 : a - (s.size : Int) - l.length < 0
  · rw [if_pos c2]; exact ⟨-1, rfl, .inl (by omega)⟩
  rw [if_neg c2, Option.bind_some, if_neg c2]
  exact ⟨_, rfl, .inr (by omega)⟩
theorem toMessage_from (a0 a1 a2 : Int) (s : ByteArray) (a4 : Int) (b : Bool) (a6 : Int) (l : List Int) (h : l.length ≤ 1048576) : From (fun k => laws_toMessage.f k a0 a1 a2 s a4 b a6 l) (a0, a1, a2, s, a4, b, a6, l) := by
  obtain ⟨K, hK⟩ := toInt64S_from l (by omega)
  exact ⟨K, fun k hk => by simp only [laws_toMessage.f, hK k hk, Option.bind_some]⟩
theorem eqMessage_from (a0 a1 a2 : Int) (s : ByteArray) (a4 : Int) (b : Bool) (a6 : Int) (l : List Int) (h : l.length ≤ 1048576) : From (fun k => laws_eqMessage.f k a0 a1 a2 s a4 b a6 l a0 a1 a2 s a4 b a6 l) true := by
  obtain ⟨K, hK⟩ := eqInt64S_from l (by omega)
  exact ⟨K, fun k hk => by simp [laws_eqMessage.f, hK k hk]⟩
abbrev zM := z44
abbrev zL := z57
def okL (b : S57) : Prop := b.f3.size ≤ 1048576 ∧ b.f7.length ≤ 1048576
def okM (b : S44) : Prop := b.f3.size ≤ 1048576 ∧ b.f7.length ≤ 1048576
theorem szMessageS_tells (l : List S57) (a : Int) (ha : 0 ≤ a) (ha2 : a ≤ 1048576) (h1 : l.length ≤ 9223372036854775807) (hq : ∀ y ∈ l, Q57 y) :
    ∃ r, From (fun k => laws_szMessageS.f k l a) r ∧ (r < 0 ∨ (l.length ≤ 1048576 ∧ (∀ y ∈ l, okL y) ∧ 0 ≤ r ∧ r ≤ a)) := by
  unfold laws_szMessageS.f
  rw [szN l.length a h1 ha ha2]
  by_cases c1 : a - (l.length : Int) < 0
  · simp only [if_pos c1]; exact ⟨-1, from_now fun _ => rfl, .inl (by omega)⟩
  simp only [if_neg c1]
  obtain ⟨r, hr, h⟩ := pay_loop (F := fun k a i => laws_szMessageS.l0 k l a i) l.length (fun j => okL (l.getD j z57)) (fun a i h0 h2 h3 h4 => by
      have hm := getD_mem z57 (show i.toNat < l.length by omega)
      have hq2 := hq _ hm
      obtain ⟨t, ht, hc⟩ := szMessage_tells (l.getD i.toNat z57).f0 (l.getD i.toNat z57).f1 (l.getD i.toNat z57).f2 (l.getD i.toNat z57).f3 (l.getD i.toNat z57).f4 (l.getD i.toNat z57).f5 (l.getD i.toNat z57).f6 (l.getD i.toNat z57).f7 a h3 h4 hq2.2.2.2.1 hq2.2.2.2.2.2.2.2.1
      refine ⟨0, ?_⟩
      rcases hc with hc | ⟨b1, b2, b3, b4⟩
      · left; intro k _; simp only [laws_szMessageS.l0, h0, h2, if_true, rd_T57, ht, Option.bind_some, hc]
      · right; refine ⟨t, b3, b4, ⟨b1, b2⟩, fun k _ => ?_⟩
        have hn : ¬ t < 0 := by omega
        simp only [laws_szMessageS.l0, h0, h2, if_true, rd_T57, ht, Option.bind_some, hn, if_false, wsucc h0 (by omega)]) (fun k a => by simp only [laws_szMessageS.l0, Int.lt_irrefl, if_false]) (a - l.length) (by omega) (by omega)
  refine ⟨r, hr, h.imp id fun ⟨r0, r1, hj⟩ => ⟨by omega, fun y hy => ?_, r0, by omega⟩⟩
  obtain ⟨j, hj2, rfl⟩ := List.mem_iff_getElem.1 hy
  have := hj j hj2
  rwa [List.getD_eq_getElem?_getD, List.getElem?_eq_getElem hj2] at this
theorem szLog_tells (m : Int) (l : List S57) (a : Int) (ha : 0 ≤ a) (ha2 : a ≤ 1048576) (h1 : l.length ≤ 9223372036854775807) (hq : ∀ y ∈ l, Q57 y) :
    ∃ r, From (fun k => laws_szLog.f k m l a) r ∧ (r < 0 ∨ (l.length ≤ 1048576 ∧ (∀ y ∈ l, okL y) ∧ 0 ≤ r ∧ r ≤ a)) := by
  obtain ⟨r, ⟨K, hK⟩, h⟩ := szMessageS_tells l a ha ha2 h1 hq
  rcases h with h | h
  · exact ⟨-1, ⟨K, fun k hk => by simp only [laws_szLog.f, hK k hk, Option.bind_some, h, if_true]⟩, .inl (by omega)⟩
  · have hn : ¬ r < 0 := by omega
    exact ⟨r, ⟨K, fun k hk => by simp only [laws_szLog.f, hK k hk, Option.bind_some, hn, if_false]⟩, .inr h⟩
def convMessage (x : S57) : S44 := ⟨x.f0, x.f1, x.f2, x.f3, x.f4, x.f5, x.f6, x.f7⟩
theorem toMessageS_from (l : List S57) (h : l.length ≤ 1048576) (hb : ∀ y ∈ l, okL y) : From (fun k => laws_toMessageS.f k l) (l.map convMessage) := by
  obtain ⟨K, hK⟩ := from_all (g := fun k j => laws_toInt64S.f k (l.getD j z57).f7) (fun j => (l.getD j z57).f7) l.length fun j hj => toInt64S_from _ (by have := (hb _ (getD_mem z57 hj)).2; omega)
  obtain ⟨L, hL⟩ := fill_allK (F := fun k ys i => laws_toMessageS.l0 k l ys i) convMessage z57 z44 l K (fun k ys i hk h0 h1 h2 => by
      simp only [laws_toMessageS.l0, h0, h1, h2, if_true, laws_toMessage.f, rd_T57, hK k hk i.toNat (by omega), Option.bind_some, wsucc h0 (by omega)]; rfl) (fun k ys i _ h => by simp only [laws_toMessageS.l0, h, if_false])
  refine ⟨L, fun k hk => ?_⟩
  simp only [laws_toMessageS.f, Int.toNat_natCast]
  rw [if_pos (by omega), if_pos (by omega)]
  exact hL k hk
theorem eqMessageS_from (l : List S44) (h : l.length ≤ 1048576) (hb : ∀ y ∈ l, okM y) : From (fun k => laws_eqMessageS.f k l l) true := by
  obtain ⟨K, hK⟩ := from_all (g := fun k j => laws_eqMessage.f k (l.getD j z44).f0 (l.getD j z44).f1 (l.getD j z44).f2 (l.getD j z44).f3 (l.getD j z44).f4 (l.getD j z44).f5 (l.getD j z44).f6 (l.getD j z44).f7 (l.getD j z44).f0 (l.getD j z44).f1 (l.getD j z44).f2 (l.getD j z44).f3 (l.getD j z44).f4 (l.getD j z44).f5 (l.getD j z44).f6 (l.getD j z44).f7) (fun j => true) l.length fun j hj => eqMessage_from _ _ _ _ _ _ _ _ (hb _ (getD_mem z44 hj)).2
  obtain ⟨L, hL⟩ := all_loop (fun k i => laws_eqMessageS.l0 k l l i) l.length (by omega) K true (fun k i hk h0 h1 => by
      simp only [laws_eqMessageS.l0, h0, h1, if_true, rd_T44, hK k hk i.toNat (by omega), Option.bind_some, wsucc h0 (by omega)]) (fun k i _ h _ => by simp only [laws_eqMessageS.l0, h, if_false])
  refine ⟨L, fun k hk => ?_⟩
  simp only [laws_eqMessageS.f, if_true]
  exact hL k hk
theorem okM_conv {l : List S57} (hb : ∀ y ∈ l, okL y) : ∀ y ∈ l.map convMessage, okM y := by
  intro y hy
  obtain ⟨x, hx, rfl⟩ := List.mem_map.1 hy
  exact hb x hx
theorem toLog_from (m : Int) (l : List S57) (h : l.length ≤ 1048576) (hb : ∀ y ∈ l, okL y) : From (fun k => laws_toLog.f k m l) (m, l.map convMessage) := by
  obtain ⟨K, hK⟩ := toMessageS_from l h hb
  exact ⟨K, fun k hk => by simp only [laws_toLog.f, hK k hk, Option.bind_some]⟩
theorem eqLog_from (m : Int) (l : List S44) (h : l.length ≤ 1048576) (hb : ∀ y ∈ l, okM y) : From (fun k => laws_eqLog.f k m l m l) true := by
  obtain ⟨K, hK⟩ := eqMessageS_from l h hb
  exact ⟨K, fun k hk => by simp only [laws_eqLog.f, hK k hk, Option.bind_some, if_true]⟩
theorem in_eq (a b c : Int) : spec_l00In.f a b c = impl_in.f a b c := rfl
theorem in_some (a b c : Int) : impl_in.f a b c = some (decide (b ≤ a ∧ a ≤ c)) := by
  unfold impl_in.f
  split
  · congr 1; rw [decide_eq_decide]; omega
  · congr 1; symm; rw [decide_eq_false_iff_not]; omega

def risesB (l : List Int) : Bool := (List.range l.length).all fun j => decide (1 ≤ l.getD j 0 ∧ l.getD j 0 ≤ 1000) && (decide (j = 0) || decide (l.getD (j - 1) 0 < l.getD j 0))
theorem prev_of {i : Int} (h0 : 0 ≤ i) (h1 : i ≤ 4611686018427387904) (hp : i > 0) : wrap64 (i - 1) = i - 1 ∧ (i - 1).toNat = i.toNat - 1 ∧ 0 ≤ i - 1 := ⟨wpred h0 h1, by omega, by omega⟩
theorem l00Rises_from (l : List Int) (h : l.length ≤ 1073741824) : From (fun k => spec_l00Rises.f k l 1 1000) (risesB l) := by
  obtain ⟨K, hK⟩ := test_loopB (fun k i => spec_l00Rises.l0 k l 1 1000 i) l.length 0 (fun j => decide (1 ≤ l.getD j 0 ∧ l.getD j 0 ≤ 1000) && (decide (j = 0) || decide (l.getD (j - 1) 0 < l.getD j 0))) true (fun k i _ h0 h1 => by
    simp only [spec_l00Rises.l0, in_eq, in_some, h0, h1, if_true, Option.bind_some, wsucc h0 (by omega), rd]
    by_cases c : 1 ≤ l.getD i.toNat 0 ∧ l.getD i.toNat 0 ≤ 1000
    · by_cases c5 : i > 0
      · obtain ⟨p1, p2, p3⟩ := prev_of h0 (by omega) c5
        have p4 : i - 1 < l.length := by omega
        have p5 : ¬ i.toNat = 0 := by omega
        by_cases c6 : l.getD (i.toNat - 1) 0 < l.getD i.toNat 0
        · have c7 : ¬ l.getD (i.toNat - 1) 0 ≥ l.getD i.toNat 0 := by omega
          simp only [c, c5, c6, c7, p1, p2, p3, p4, p5, if_true, if_false, decide_true, decide_false, and_self, Bool.true_and, Bool.false_or]
        · have c7 : l.getD (i.toNat - 1) 0 ≥ l.getD i.toNat 0 := by omega
          simp only [c, c5, c6, c7, p1, p2, p3, p4, p5, if_true, if_false, decide_true, decide_false, and_self, Bool.true_and, Bool.false_or, Bool.false_eq_true]
      · have p5 : i.toNat = 0 := by omega
        rw [p5] at c ⊢
        simp only [c, c5, if_true, if_false, decide_true, and_self, Bool.true_and, Bool.true_or]
    · simp [c, -List.getD_eq_getElem?_getD]) (fun k _ => by simp only [spec_l00Rises.l0, Int.lt_irrefl, if_false])
  exact ⟨K, fun k hk => by simpa [risesB, spec_l00Rises.f] using hK k hk⟩
theorem rising_from (l : List Int) (h : l.length ≤ 1073741824) : From (fun k => impl_rising_isMember.f k l) (risesB l) := by
  obtain ⟨K, hK⟩ := test_loopB (fun k i => impl_rising_isMember.l0 k l l l.length i) l.length 0 (fun j => decide (1 ≤ l.getD j 0 ∧ l.getD j 0 ≤ 1000) && (decide (j = 0) || decide (l.getD (j - 1) 0 < l.getD j 0))) true (fun k i _ h0 h1 => by
    simp only [impl_rising_isMember.l0, impl_isMember.f, in_some, h0, h1, if_true, Option.bind_some, wsucc h0 (by omega), rd]
    by_cases c : 1 ≤ l.getD i.toNat 0 ∧ l.getD i.toNat 0 ≤ 1000
    · by_cases c5 : i > 0
      · obtain ⟨p1, p2, p3⟩ := prev_of h0 (by omega) c5
        have p4 : i - 1 < l.length := by omega
        have p5 : ¬ i.toNat = 0 := by omega
        by_cases c6 : l.getD (i.toNat - 1) 0 < l.getD i.toNat 0
        · have c7 : ¬ l.getD (i.toNat - 1) 0 ≥ l.getD i.toNat 0 := by omega
          simp only [c, c5, c6, c7, p1, p2, p3, p4, p5, if_true, if_false, decide_true, decide_false, and_self, Bool.true_and, Bool.false_or]
        · have c7 : l.getD (i.toNat - 1) 0 ≥ l.getD i.toNat 0 := by omega
          simp only [c, c5, c6, c7, p1, p2, p3, p4, p5, if_true, if_false, decide_true, decide_false, and_self, Bool.true_and, Bool.false_or, Bool.false_eq_true]
      · have p5 : i.toNat = 0 := by omega
        rw [p5] at c ⊢
        simp only [c, c5, if_true, if_false, decide_true, and_self, Bool.true_and, Bool.true_or]
    · simp [c, -List.getD_eq_getElem?_getD]) (fun k _ => by simp only [impl_rising_isMember.l0, Int.lt_irrefl, if_false])
  exact ⟨K, fun k hk => by simpa [risesB, impl_rising_isMember.f] using hK k hk⟩
theorem text_both (s : ByteArray) (hs : s.size ≤ 1048576) : ∃ r, From (fun k => spec_l01IsText.f k s) r ∧ From (fun k => impl_IsText.f k s) r := by
  obtain ⟨K, hK⟩ := test_loopB (fun k i => spec_l01IsText.l0 k s i) s.size 0 (fun j => decide (32 ≤ bt s j ∧ bt s j ≤ 126)) (decide ((s.size : Int) ≤ 80)) (fun k i _ h0 h1 => by
    simp only [spec_l01IsText.l0, h0, h1, if_true, wsucc h0 (by omega), Int.toNat_of_nonneg h0]
    by_cases c : bt s i < 32
    · have c2 : ¬ (32 ≤ bt s i ∧ bt s i ≤ 126) := by omega
      simp [c, c2]
    · by_cases d : bt s i > 126
      · have c2 : ¬ (32 ≤ bt s i ∧ bt s i ≤ 126) := by omega
        simp [c, d, c2]
      · have c2 : (32 ≤ bt s i ∧ bt s i ≤ 126) := by omega
        simp [c, d, c2]) (fun k _ => by simp only [spec_l01IsText.l0, Int.lt_irrefl, if_false])
  obtain ⟨L, hL⟩ := test_loopB (fun k i => impl_IsText.l0 k s s.size i) s.size 0 (fun j => decide (32 ≤ bt s j ∧ bt s j ≤ 126)) (decide ((s.size : Int) ≤ 80)) (fun k i _ h0 h1 => by
    simp only [impl_IsText.l0, h0, h1, if_true, wsucc h0 (by omega), Int.toNat_of_nonneg h0]
    by_cases c : bt s i < 32
    · have c2 : ¬ (32 ≤ bt s i ∧ bt s i ≤ 126) := by omega
      simp [c, c2]
    · by_cases d : bt s i > 126
      · have c2 : ¬ (32 ≤ bt s i ∧ bt s i ≤ 126) := by omega
        simp [c, d, c2]
      · have c2 : (32 ≤ bt s i ∧ bt s i ≤ 126) := by omega
        simp [c, d, c2]) (fun k _ => by simp only [impl_IsText.l0, Int.lt_irrefl, if_false])
  exact ⟨_, ⟨K, hK⟩, ⟨L, hL⟩⟩
theorem has_both (l : List Int) (x : Int) (hl : l.length ≤ 1048576) : ∃ r, From (fun k => spec_l00Has.f k l x) r ∧ From (fun k => slices_Contains_int64_int64.f k l x) r := by
  obtain ⟨K, h⟩ := find_loop (fun k i => spec_l00Has.l0 k l x i) l.length 0 (fun j => rd l j = x) (fun _ => true) false (fun k i _ h0 h1 => by
    simp only [spec_l00Has.l0, h0, h1, if_true, wsucc h0 (by omega), Int.toNat_of_nonneg h0]) (fun k _ => by simp only [spec_l00Has.l0, Int.lt_irrefl, if_false])
  obtain ⟨L, g⟩ := find_loop (fun k i => slices_Index_int64_int64.l0 k l x l.length i) l.length 0 (fun j => x = rd l j) (fun j => (j : Int)) (-1) (fun k i _ h0 h1 => by
    simp only [slices_Index_int64_int64.l0, h0, h1, if_true, wsucc h0 (by omega), Int.toNat_of_nonneg h0]) (fun k _ => by simp only [slices_Index_int64_int64.l0, Int.lt_irrefl, if_false])
  rcases h with ⟨j, hj, hp, _, e⟩ | ⟨hn, e⟩ <;> rcases g with ⟨i, hi, gp, _, f⟩ | ⟨gn, f⟩
  · refine ⟨true, ⟨K, e⟩, ⟨L, fun k hk => ?_⟩⟩
    simp [slices_Contains_int64_int64.f, slices_Index_int64_int64.f, f k hk]
  · exact absurd hp.symm (gn j hj)
  · exact absurd gp.symm (hn i hi)
  · refine ⟨false, ⟨K, e⟩, ⟨L, fun k hk => ?_⟩⟩
    simp [slices_Contains_int64_int64.f, slices_Index_int64_int64.f, f k hk]
theorem message_both (a0 a1 a2 : Int) (s : ByteArray) (a4 : Int) (b : Bool) (a6 : Int) (l : List Int) (hs : s.size ≤ 1048576) (hl : l.length ≤ 1048576) :
    ∃ r, From (fun k => spec_l03Message.f k a0 a1 a2 s a4 b a6 l) r ∧ From (fun k => impl_ValidMessage.f k a0 a1 a2 s a4 b a6 l) r := by
  obtain ⟨t, ⟨K1, e1⟩, ⟨L1, f1⟩⟩ := text_both s hs
  obtain ⟨h, ⟨K2, e2⟩, ⟨L2, f2⟩⟩ := has_both l a1 hl
  obtain ⟨K3, e3⟩ := l00Rises_from l (by omega)
  obtain ⟨L3, f3⟩ := rising_from l (by omega)
  generalize risesB l = q at e3 f3
  have j : ∃ r, (∀ k, K1 + K2 + K3 ≤ k → spec_l03Message.j0 (k + 1) false a0 a1 a2 s a4 b a6 l = some r) ∧ ∀ k, L1 + L2 + L3 ≤ k → impl_ValidMessage.j0 (k + 1) false a0 a1 a2 s a4 b a6 l = some r := by
    refine ⟨if (l.length : Int) > 20 then false else if q = true then (if h = true then false else if b = true then (if s.toList = [] then (l.length : Int) == 0 else false) else true) else false, fun k hk => ?_, fun k hk => ?_⟩
    · simp only [spec_l03Message.j0, Bool.false_eq_true, if_false, spec_l01Members.f, e3 k (by omega), e2 k (by omega), Option.bind_some]
      split
      · rfl
      · split
        · split
          · rfl
          · split
            · split <;> rfl
            · rfl
        · rfl
    · simp only [impl_ValidMessage.j0, Bool.false_eq_true, if_false, impl_IsMembers.f, f3 k (by omega), f2 k (by omega), Option.bind_some]
      split
      · rfl
      · split
        · split
          · rfl
          · split
            · split <;> rfl
            · rfl
        · rfl
  obtain ⟨r, j1, j2⟩ := j
  have d1 : ∀ k, spec_l03Message.j0 (k + 1) true a0 a1 a2 s a4 b a6 l = some false := fun k => by simp only [spec_l03Message.j0, if_true]
  have d2 : ∀ k, impl_ValidMessage.j0 (k + 1) true a0 a1 a2 s a4 b a6 l = some false := fun k => by simp only [impl_ValidMessage.j0, if_true]
  refine ⟨decide (1 ≤ a0 ∧ a0 ≤ 1000000000) && (decide (1 ≤ a1 ∧ a1 ≤ 1000) && (decide (0 ≤ a2 ∧ a2 ≤ 1000000) && (t && (decide (0 ≤ a4 ∧ a4 ≤ 1000000000) && (decide (0 ≤ a6 ∧ a6 ≤ wrap64 (a0 - 1)) && r))))), ⟨K1 + K2 + K3 + 1, fun k hk => ?_⟩, ⟨L1 + L2 + L3 + 1, fun k hk => ?_⟩⟩
  · obtain ⟨k, rfl⟩ : ∃ n, k = n + 1 := ⟨k - 1, by omega⟩
    simp only [spec_l03Message.f, spec_l01Member.f, spec_l01Tick.f, in_eq, in_some, Option.bind_some, e1 (k + 1) (by omega), d1]
    cases decide (1 ≤ a0 ∧ a0 ≤ 1000000000) <;> cases decide (1 ≤ a1 ∧ a1 ≤ 1000) <;> cases decide (0 ≤ a2 ∧ a2 ≤ 1000000) <;> cases t <;> cases decide (0 ≤ a4 ∧ a4 ≤ 1000000000) <;> cases decide (0 ≤ a6 ∧ a6 ≤ wrap64 (a0 - 1)) <;> simp [d1, j1 k (by omega)]
  · obtain ⟨k, rfl⟩ : ∃ n, k = n + 1 := ⟨k - 1, by omega⟩
    simp only [impl_ValidMessage.f, impl_isMember.f, impl_isTick.f, in_some, Option.bind_some, f1 (k + 1) (by omega), d2]
    cases decide (1 ≤ a0 ∧ a0 ≤ 1000000000) <;> cases decide (1 ≤ a1 ∧ a1 ≤ 1000) <;> cases decide (0 ≤ a2 ∧ a2 ≤ 1000000) <;> cases t <;> cases decide (0 ≤ a4 ∧ a4 ≤ 1000000000) <;> cases decide (0 ≤ a6 ∧ a6 ≤ wrap64 (a0 - 1)) <;> simp [d2, j2 k (by omega)]
theorem valid_both (a : Int) (l : List S44) (hl : l.length ≤ 1048576) (hb : ∀ y ∈ l, okM y) : ∃ r, From (fun k => spec_l03Is.f k a l) r ∧ From (fun k => impl_ValidLog.f k a l) r := by
  have hm : ∃ M : Nat → Bool, ∀ j, j < l.length → From (fun k => spec_l03Message.f k (l.getD j zM).f0 (l.getD j zM).f1 (l.getD j zM).f2 (l.getD j zM).f3 (l.getD j zM).f4 (l.getD j zM).f5 (l.getD j zM).f6 (l.getD j zM).f7) (M j) ∧ From (fun k => impl_ValidMessage.f k (l.getD j zM).f0 (l.getD j zM).f1 (l.getD j zM).f2 (l.getD j zM).f3 (l.getD j zM).f4 (l.getD j zM).f5 (l.getD j zM).f6 (l.getD j zM).f7) (M j) := by
    have h : ∀ j, ∃ b : Bool, j < l.length → From (fun k => spec_l03Message.f k (l.getD j zM).f0 (l.getD j zM).f1 (l.getD j zM).f2 (l.getD j zM).f3 (l.getD j zM).f4 (l.getD j zM).f5 (l.getD j zM).f6 (l.getD j zM).f7) b ∧ From (fun k => impl_ValidMessage.f k (l.getD j zM).f0 (l.getD j zM).f1 (l.getD j zM).f2 (l.getD j zM).f3 (l.getD j zM).f4 (l.getD j zM).f5 (l.getD j zM).f6 (l.getD j zM).f7) b := by
      intro j
      by_cases hj : j < l.length
      · obtain ⟨r, h⟩ := message_both (l.getD j zM).f0 (l.getD j zM).f1 (l.getD j zM).f2 (l.getD j zM).f3 (l.getD j zM).f4 (l.getD j zM).f5 (l.getD j zM).f6 (l.getD j zM).f7 (hb _ (getD_mem zM hj)).1 (hb _ (getD_mem zM hj)).2
        exact ⟨r, fun _ => h⟩
      · exact ⟨true, fun h => absurd h hj⟩
    exact ⟨fun j => (h j).choose, fun j => (h j).choose_spec⟩
  obtain ⟨M, hM⟩ := hm
  obtain ⟨K1, e1⟩ := from_all (g := fun k j => spec_l03Message.f k (l.getD j zM).f0 (l.getD j zM).f1 (l.getD j zM).f2 (l.getD j zM).f3 (l.getD j zM).f4 (l.getD j zM).f5 (l.getD j zM).f6 (l.getD j zM).f7) M l.length fun j hj => (hM j hj).1
  obtain ⟨K2, e2⟩ := from_all (g := fun k j => impl_ValidMessage.f k (l.getD j zM).f0 (l.getD j zM).f1 (l.getD j zM).f2 (l.getD j zM).f3 (l.getD j zM).f4 (l.getD j zM).f5 (l.getD j zM).f6 (l.getD j zM).f7) M l.length fun j hj => (hM j hj).2
  let p : Nat → Bool := fun j => M j && (decide ((l.getD j zM).f0 < a) && (decide (j = 0) || (decide ((l.getD (j - 1) zM).f0 < (l.getD j zM).f0) && decide ((l.getD (j - 1) zM).f2 ≤ (l.getD j zM).f2))))
  obtain ⟨L2, f2⟩ := test_loopB (fun k i => impl_ValidLog.l0 k l l.length i a l) l.length K2 p (decide ((l.length : Int) ≤ 40) && decide (1 ≤ a ∧ a ≤ 1000000000)) (fun k i hk h0 h1 => by
    have w := e2 k hk i.toNat (by omega)
    simp only [impl_ValidLog.l0, h0, h1, if_true, rd_T44, w, Option.bind_some, wsucc h0 (by omega), p]
    rcases Bool.eq_false_or_eq_true (M i.toNat) with c1 | c1
    · by_cases c2 : (l.getD i.toNat zM).f0 < a
      · have c2' : ¬ (l.getD i.toNat zM).f0 ≥ a := by omega
        by_cases c3 : i > 0
        · have p1 : wrap64 (i - 1) = i - 1 := wpred h0 (by omega)
          have p2 : (i - 1).toNat = i.toNat - 1 := by omega
          have p3 : 0 ≤ i - 1 := by omega
          have p4 : i - 1 < l.length := by omega
          have p5 : ¬ i.toNat = 0 := by omega
          by_cases c4 : (l.getD (i.toNat - 1) zM).f0 < (l.getD i.toNat zM).f0
          · have c4' : ¬ (l.getD (i.toNat - 1) zM).f0 ≥ (l.getD i.toNat zM).f0 := by omega
            by_cases c5 : (l.getD (i.toNat - 1) zM).f2 ≤ (l.getD i.toNat zM).f2
            · have c5' : ¬ (l.getD (i.toNat - 1) zM).f2 > (l.getD i.toNat zM).f2 := by omega
              simp only [c1, c2, c2', c3, c4, c4', c5, c5', p1, p2, p3, p4, p5, if_true, if_false, decide_true, decide_false, Bool.true_and, Bool.false_or]
            · have c5' : (l.getD (i.toNat - 1) zM).f2 > (l.getD i.toNat zM).f2 := by omega
              simp only [c1, c2, c2', c3, c4, c4', c5, c5', p1, p2, p3, p4, p5, if_true, if_false, decide_true, decide_false, Bool.true_and, Bool.false_or, Bool.false_eq_true]
          · have c4' : (l.getD (i.toNat - 1) zM).f0 ≥ (l.getD i.toNat zM).f0 := by omega
            simp only [c1, c2, c2', c3, c4, c4', p1, p2, p3, p4, p5, if_true, if_false, decide_true, decide_false, Bool.true_and, Bool.false_and, Bool.false_or, Bool.false_eq_true]
        · have p5 : i.toNat = 0 := by omega
          simp only [p5] at c1 c2 c2' ⊢
          simp only [c1, c2, c2', c3, if_true, if_false, decide_true, Bool.true_and, Bool.true_or]
      · have c2' : (l.getD i.toNat zM).f0 ≥ a := by omega
        simp only [c1, c2, c2', if_true, decide_false, Bool.true_and, Bool.false_and, Bool.false_eq_true, if_false]
    · simp only [c1, Bool.false_and, Bool.false_eq_true, if_false]) (fun k _ => by
    simp only [impl_ValidLog.l0, Int.lt_irrefl, if_false, in_some, Option.bind_some]
    by_cases c : (l.length : Int) ≤ 40 <;> simp [c])
  refine ⟨_, ?_, ⟨L2, f2⟩⟩
  have j0 : ∀ k, spec_l03Is.j0 (k + 1) true a l = some false := fun k => by simp only [spec_l03Is.j0, if_true]
  by_cases c : (l.length : Int) > 40
  · have c' : ¬ (l.length : Int) ≤ 40 := by omega
    refine ⟨1, fun k hk => ?_⟩
    obtain ⟨k, rfl⟩ : ∃ n, k = n + 1 := ⟨k - 1, by omega⟩
    simp only [spec_l03Is.f, c, c', if_true, j0, decide_false, Bool.false_and, Bool.and_false]
  have c' : (l.length : Int) ≤ 40 := by omega
  by_cases d : 1 ≤ a ∧ a ≤ 1000000000
  · obtain ⟨L1, f1⟩ := test_loopC (fun k i => spec_l03Is.l0 k l.length i a l) 2 l.length K1 p true (fun k i hk h0 h1 => by
      have w := e1 (k + 1) (by omega) i.toNat (by omega)
      simp only [spec_l03Is.l0, spec_l03Is.j2, h0, h1, if_true, rd_T44, w, Option.bind_some, wsucc h0 (by omega), p]
      rcases Bool.eq_false_or_eq_true (M i.toNat) with c1 | c1
      · by_cases c2 : (l.getD i.toNat zM).f0 < a
        · have c2' : ¬ (l.getD i.toNat zM).f0 ≥ a := by omega
          by_cases c3 : i > 0
          · have p1 : wrap64 (i - 1) = i - 1 := wpred h0 (by omega)
            have p2 : (i - 1).toNat = i.toNat - 1 := by omega
            have p3 : 0 ≤ i - 1 := by omega
            have p4 : i - 1 < l.length := by omega
            have p5 : ¬ i.toNat = 0 := by omega
            by_cases c4 : (l.getD (i.toNat - 1) zM).f0 < (l.getD i.toNat zM).f0
            · have c4' : ¬ (l.getD (i.toNat - 1) zM).f0 ≥ (l.getD i.toNat zM).f0 := by omega
              by_cases c5 : (l.getD (i.toNat - 1) zM).f2 ≤ (l.getD i.toNat zM).f2
              · have c5' : ¬ (l.getD (i.toNat - 1) zM).f2 > (l.getD i.toNat zM).f2 := by omega
                simp only [c1, c2, c2', c3, c4, c4', c5, c5', p1, p2, p3, p4, p5, if_true, if_false, decide_true, decide_false, Bool.true_and, Bool.false_or, Bool.false_eq_true]
              · have c5' : (l.getD (i.toNat - 1) zM).f2 > (l.getD i.toNat zM).f2 := by omega
                simp only [c1, c2, c2', c3, c4, c4', c5, c5', p1, p2, p3, p4, p5, if_true, if_false, decide_true, decide_false, Bool.true_and, Bool.false_or, Bool.false_eq_true]
            · have c4' : (l.getD (i.toNat - 1) zM).f0 ≥ (l.getD i.toNat zM).f0 := by omega
              simp only [c1, c2, c2', c3, c4, c4', p1, p2, p3, p4, p5, if_true, if_false, decide_true, decide_false, Bool.true_and, Bool.false_and, Bool.false_or, Bool.false_eq_true]
          · have p5 : i.toNat = 0 := by omega
            simp only [p5] at c1 c2 c2' ⊢
            simp only [c1, c2, c2', c3, if_true, if_false, decide_true, decide_false, Bool.true_and, Bool.true_or, Bool.false_eq_true]
        · have c2' : (l.getD i.toNat zM).f0 ≥ a := by omega
          simp only [c1, c2, c2', if_true, decide_true, decide_false, Bool.true_and, Bool.false_and, Bool.false_eq_true, if_false]
      · simp only [c1, Bool.false_and, Bool.false_eq_true, if_false, if_true]) (fun k _ => by simp only [spec_l03Is.l0, Int.lt_irrefl, if_false])
    refine ⟨L1 + 1, fun k hk => ?_⟩
    obtain ⟨k, rfl⟩ : ∃ n, k = n + 1 := ⟨k - 1, by omega⟩
    simp only [spec_l03Is.f, c, c', d, if_false, in_eq, in_some, Option.bind_some, spec_l03Is.j0, and_self, decide_true, Bool.not_true, Bool.false_eq_true, f1 k (by omega), Bool.and_true]
  · refine ⟨1, fun k hk => ?_⟩
    obtain ⟨k, rfl⟩ : ∃ n, k = n + 1 := ⟨k - 1, by omega⟩
    simp only [spec_l03Is.f, c, d, if_false, in_eq, in_some, Option.bind_some, decide_false, Bool.not_false, j0, Bool.and_false]
theorem l00Put_done (l : List Int) (n : Int) (h : l.length ≤ 1048576) : ∀ (m k : Nat) (out : List Int) (i : Int), 0 ≤ i → i ≤ l.length → (l.length : Int) - i = m → 2 * m < k → out.length ≤ 2097152 - m → spec_l00Put.l0 k l n out true i = some (out ++ l.drop i.toNat) := by
  intro m
  induction m with
  | zero =>
    intro k out i h0 h1 hm hk ho
    obtain ⟨k, rfl⟩ : ∃ m, k = m + 1 := ⟨k - 1, by omega⟩
    have hi : ¬ i < (l.length : Int) := by omega
    simp only [spec_l00Put.l0, hi, if_false, if_true]
    rw [List.drop_of_length_le (by omega), List.append_nil]
  | succ m ih =>
    intro k out i h0 h1 hm hk ho
    obtain ⟨k, rfl⟩ : ∃ m, k = m + 2 := ⟨k - 2, by omega⟩
    have hi : i < (l.length : Int) := by omega
    have hin : i.toNat < l.length := by omega
    have hb : out.length < 17592186044416 := by omega
    simp only [spec_l00Put.l0, spec_l00Put.j1, hi, h0, hb, if_true, if_false, Bool.false_eq_true, wsucc h0 (by omega), rd]
    rw [ih k _ (i + 1) (by omega) (by omega) (by omega) (by omega) (by simp; omega), List.drop_eq_getElem_cons hin, show (i + 1).toNat = i.toNat + 1 by omega, List.getD_eq_getElem?_getD, List.getElem?_eq_getElem hin]
    simp [-List.getElem_cons_drop]
theorem l00Put_rounds (l : List Int) (n : Int) (h : l.length ≤ 1048576) : ∀ (m k : Nat) (out : List Int) (i : Int), 0 ≤ i → i ≤ l.length → (l.length : Int) - i = m → 2 * m < k → (out.length : Int) = i → spec_l00Put.l0 k l n out false i = some (out ++ putL (l.drop i.toNat) n) := by
  intro m
  induction m with
  | zero =>
    intro k out i h0 h1 hm hk ho
    obtain ⟨k, rfl⟩ : ∃ m, k = m + 1 := ⟨k - 1, by omega⟩
    have hi : ¬ i < (l.length : Int) := by omega
    have hb : out.length < 17592186044416 := by omega
    simp only [spec_l00Put.l0, hi, hb, if_false, if_true, Bool.false_eq_true]
    rw [List.drop_of_length_le (by omega), putL]
  | succ m ih =>
    intro k out i h0 h1 hm hk ho
    obtain ⟨k, rfl⟩ : ∃ m, k = m + 2 := ⟨k - 2, by omega⟩
    have hi : i < (l.length : Int) := by omega
    have hin : i.toNat < l.length := by omega
    have hb : out.length < 17592186044416 := by omega
    have hb2 : out.length + 1 < 17592186044416 := by omega
    have hx : l.getD i.toNat 0 = l[i.toNat] := by rw [List.getD_eq_getElem?_getD, List.getElem?_eq_getElem hin]; rfl
    rw [List.drop_eq_getElem_cons hin]
    by_cases c1 : l[i.toNat] ≥ n
    · by_cases c2 : l[i.toNat] > n
      · simp only [spec_l00Put.l0, spec_l00Put.j1, hi, h0, hb, hb2, if_true, if_false, Bool.false_eq_true, wsucc h0 (by omega), rd, hx, c1, c2, decide_true, Option.bind_some, List.length_append, List.length_singleton, putL]
        rw [l00Put_done l n h m k _ (i + 1) (by omega) (by omega) (by omega) (by omega) (by simp; omega), show (i + 1).toNat = i.toNat + 1 by omega]
        simp [-List.getElem_cons_drop]
      · simp only [spec_l00Put.l0, spec_l00Put.j1, hi, h0, hb, if_true, if_false, Bool.false_eq_true, wsucc h0 (by omega), rd, hx, c1, c2, decide_true, putL]
        rw [l00Put_done l n h m k _ (i + 1) (by omega) (by omega) (by omega) (by omega) (by simp; omega), show (i + 1).toNat = i.toNat + 1 by omega]
        simp [-List.getElem_cons_drop]
    · simp only [spec_l00Put.l0, spec_l00Put.j1, hi, h0, hb, if_true, if_false, Bool.false_eq_true, wsucc h0 (by omega), rd, hx, c1, decide_false, putL]
      rw [ih k _ (i + 1) (by omega) (by omega) (by omega) (by omega) (by simp; omega), show (i + 1).toNat = i.toNat + 1 by omega]
      simp
theorem l00Put_from (l : List Int) (n : Int) (h : l.length ≤ 1048576) : ∀ k, 2 * l.length + 1 ≤ k → spec_l00Put.f k l n = some (putL l n) := fun k hk => by
  have := l00Put_rounds l n h l.length k [] 0 (by omega) (by omega) (by omega) (by omega) (by simp)
  simpa [spec_l00Put.f] using this
theorem strOf_one (v : Int) : (strOfNums [v]).size = 1 := rfl
theorem markText_rounds : ∀ (m : Nat) (x : Int) (s : ByteArray), 0 ≤ x → x.toNat ≤ m → s.size + m ≤ 4611686018427387904 → ∃ r, ∀ k, m < k → laws_markText.l0 k x s = some r := by
  intro m
  induction m with
  | zero =>
    intro x s h0 h1 h2
    have hx : ¬ x > 0 := by omega
    have hs : 1 + s.size ≤ 9223372036854775807 := by omega
    refine ⟨(⟨#[109]⟩ : ByteArray) ++ s, fun k hk => ?_⟩
    obtain ⟨k, rfl⟩ : ∃ n, k = n + 1 := ⟨k - 1, by omega⟩
    simp only [laws_markText.l0, hx, hs, if_true, if_false]
  | succ m ih =>
    intro x s h0 h1 h2
    by_cases hx : x > 0
    · have hd : Int.tdiv x 10 = x / 10 := Int.tdiv_eq_ediv_of_nonneg h0
      have hw : wrap64 (Int.tdiv x 10) = x / 10 := by rw [hd]; exact w64 (by omega) (by omega)
      have hz : (strOfNums [(wrap64 (48 + (Int.tmod x 10))) % 256]).size + s.size ≤ 9223372036854775807 := by rw [strOf_one]; omega
      obtain ⟨r, hr⟩ := ih (x / 10) ((strOfNums [(wrap64 (48 + (Int.tmod x 10))) % 256]) ++ s) (by omega) (by omega) (by rw [ByteArray.size_append, strOf_one]; omega)
      refine ⟨r, fun k hk => ?_⟩
      obtain ⟨k, rfl⟩ : ∃ n, k = n + 1 := ⟨k - 1, by omega⟩
      simp only [laws_markText.l0, hx, if_true, Option.bind_some, hz, hw]
      exact hr k (by omega)
    · have hs : 1 + s.size ≤ 9223372036854775807 := by omega
      refine ⟨(⟨#[109]⟩ : ByteArray) ++ s, fun k hk => ?_⟩
      obtain ⟨k, rfl⟩ : ∃ n, k = n + 1 := ⟨k - 1, by omega⟩
      simp only [laws_markText.l0, hx, hs, if_true, if_false]
theorem markText_from (x : Int) (h0 : 0 ≤ x) (h : x ≤ 1099511627776000) : ∃ s, From (fun k => laws_markText.f k x) s := by
  by_cases hx : x ≤ 0
  · exact ⟨(⟨#[109, 48]⟩ : ByteArray), from_now fun k => by simp only [laws_markText.f, hx, if_true]⟩
  · obtain ⟨r, hr⟩ := markText_rounds x.toNat x (⟨#[]⟩ : ByteArray) h0 (Nat.le_refl _) (by show 0 + x.toNat ≤ _; omega)
    exact ⟨r, x.toNat + 1, fun k hk => by simp only [laws_markText.f, hx, if_false]; exact hr k (by omega)⟩
theorem markInt64S_from (l : List Int) (m : Int) (hm : 0 ≤ m) (hb : m ≤ 4294967296) (h : l.length ≤ 1073741824) :
    ∃ ys, From (fun k => laws_markInt64S.f k l m) (m + 1 * l.length, ys) ∧ ys.length = l.length ∧ ∀ j : Nat, j < l.length → ys[j]? = some (m + 1 * j) :=
  mark_all (F := fun k xs m i => laws_markInt64S.l0 k xs m i) 1 (by omega) (by omega) (fun m => m) (fun k xs m i h0 h1 h2 h3 h4 => by
    simp only [laws_markInt64S.l0, h0, h1, if_true, wsucc h0 h2, wsucc h3 (by omega)]) (fun k xs m i h => by simp only [laws_markInt64S.l0, h, if_false]) l m hm (by omega) (by omega)
theorem heldInt64S_from (ys : List Int) (m : Int) (hm : 0 ≤ m) (hb : m ≤ 4294967296) (h : ys.length ≤ 1073741824) (hy : ∀ j : Nat, j < ys.length → ys[j]? = some (m + 1 * j)) :
    From (fun k => laws_heldInt64S.f k ys m) (m + 1 * ys.length) := by
  obtain ⟨K, hK⟩ := all_loop (fun k i => laws_heldInt64S.l0 k ys (m + 1 * i) i) ys.length (by omega) 0 (m + 1 * ys.length) (fun k i _ h0 h1 => by
      have hr : rd ys i = m + 1 * i := by
        have := hy i.toNat (by omega)
        rw [rd, getD_of this]; omega
      simp only [laws_heldInt64S.l0, h0, h1, if_true, hr, wsucc h0 (by omega), wsucc (show 0 ≤ m + 1 * i by omega) (by omega)]
      congr 1; omega) (fun k i _ h he => by subst he; simp only [laws_heldInt64S.l0, h, if_false])
  refine ⟨K, fun k hk => ?_⟩
  simp only [laws_heldInt64S.f]
  have := hK k hk
  simpa using this
/-- What the law does to numbers that were returned: equal to themselves, marked, and the marks held. -/
theorem ints_law (l : List Int) (h : l.length ≤ 1073741824) : ∃ ys : List Int, From (fun k => laws_markInt64S.f k l 1) (1 + l.length, ys) ∧ From (fun k => laws_heldInt64S.f k ys 1) (1 + l.length) := by
  obtain ⟨ys, h1, h2, h3⟩ := markInt64S_from l 1 (by omega) (by omega) h
  refine ⟨ys, by simpa using h1, ?_⟩
  have := heldInt64S_from ys 1 (by omega) (by omega) (by omega) (fun j hj => h3 j (by omega))
  rw [h2] at this
  simpa using this
abbrev M4 := S44
/-! ### Marks -/
theorem markInt64S_upto (l : List Int) (m : Int) (hm : 0 ≤ m) (hb : m ≤ 1152921504606846976) (h : l.length ≤ 1073741824) :
    ∃ ys, From (fun k => laws_markInt64S.f k l m) (m + 1 * l.length, ys) ∧ ys.length = l.length ∧ ∀ j : Nat, j < l.length → ys[j]? = some (m + 1 * j) :=
  mark_all (F := fun k xs m i => laws_markInt64S.l0 k xs m i) 1 (by omega) (by omega) (fun m => m) (fun k xs m i h0 h1 h2 h3 h4 => by
    simp only [laws_markInt64S.l0, h0, h1, if_true, wsucc h0 h2, wsucc h3 (by omega)]) (fun k xs m i h => by simp only [laws_markInt64S.l0, h, if_false]) l m hm (by omega) (by omega)
theorem rd_set_msg (xs : List M4) (i : Int) (b : M4) (h : i.toNat < xs.length) : rd_T44 (xs.set i.toNat b) i = b := by
  unfold rd_T44
  exact getD_set h
theorem markMessageS_upto : ∀ (n : Nat) (xs : List M4) (m i : Int), 0 ≤ i → i ≤ xs.length → xs.length ≤ 1048576 → (xs.length : Int) - i = n → 0 ≤ m → m + 1048583 * (n : Int) ≤ 4398046511104 → (∀ y ∈ xs, y.f7.length ≤ 1048576) → ∃ r, From (fun k => laws_markMessageS.l0 k xs m i) r ∧ 0 ≤ r.1 ∧ r.1 ≤ 4398046511104 := by
  intro n
  induction n with
  | zero =>
    intro xs m i h0 h1 hx hn hm hb ho
    have hi : ¬ i < (xs.length : Int) := by omega
    refine ⟨(m, xs), ⟨1, fun k hk => ?_⟩, hm, by show m ≤ _; omega⟩
    obtain ⟨k, rfl⟩ : ∃ n, k = n + 1 := ⟨k - 1, by omega⟩
    simp only [laws_markMessageS.l0, hi, if_false]
  | succ n ih =>
    intro xs m i h0 h1 hx hn hm hb ho
    have hi : i < (xs.length : Int) := by omega
    have hin : i.toNat < xs.length := by omega
    have w1 : wrap64 (m + 1) = m + 1 := wsucc hm (by omega)
    have w2 : wrap64 (m + 1 + 1) = m + 1 + 1 := wsucc (by omega) (by omega)
    have w3 : wrap64 (m + 1 + 1 + 1) = m + 1 + 1 + 1 := wsucc (by omega) (by omega)
    have w4 : wrap64 (m + 1 + 1 + 1 + 1) = m + 1 + 1 + 1 + 1 := wsucc (by omega) (by omega)
    have w5 : wrap64 (m + 1 + 1 + 1 + 1 + 1) = m + 1 + 1 + 1 + 1 + 1 := wsucc (by omega) (by omega)
    have w6 : wrap64 (m + 1 + 1 + 1 + 1 + 1 + 1) = m + 1 + 1 + 1 + 1 + 1 + 1 := wsucc (by omega) (by omega)
    have w7 : wrap64 (m + 1 + 1 + 1 + 1 + 1 + 1 + 1) = m + 1 + 1 + 1 + 1 + 1 + 1 + 1 := wsucc (by omega) (by omega)
    have w8 : wrap64 (i + 1) = i + 1 := wsucc h0 (by omega)
    obtain ⟨s, ⟨K1, e1⟩⟩ := markText_from (m + 1 + 1 + 1) (by omega) (by omega)
    have hr : ∀ b, rd_T44 (xs.set i.toNat b) i = b := fun b => rd_set_msg xs i b hin
    generalize hb0 : (rd_T44 xs i) = b0
    have hl0 : b0.f7.length ≤ 1048576 := by rw [← hb0]; exact ho _ (getD_mem _ hin)
    obtain ⟨ys, ⟨K2, e2⟩, hys, _⟩ := markInt64S_upto b0.f7 (m + 1 + 1 + 1 + 1 + 1 + 1 + 1) (by omega) (by omega) (by omega)
    obtain ⟨r, ⟨K3, e3⟩, hr2⟩ := ih (xs.set i.toNat ⟨m, m + 1, m + 1 + 1, s, m + 1 + 1 + 1 + 1, (Int.tmod (m + 1 + 1 + 1 + 1 + 1) 3 == 0), m + 1 + 1 + 1 + 1 + 1 + 1, ys⟩) (m + 1 + 1 + 1 + 1 + 1 + 1 + 1 + 1 * b0.f7.length) (i + 1) (by omega) (by simp; omega) (by simpa using hx) (by simp; omega) (by omega) (by omega) (fun y hy => by
      rcases List.mem_or_eq_of_mem_set hy with hy | rfl
      · exact ho y hy
      · show ys.length ≤ _; omega)
    refine ⟨r, ⟨K1 + K2 + K3 + 1, fun k hk => ?_⟩, hr2⟩
    obtain ⟨k, rfl⟩ : ∃ n, k = n + 1 := ⟨k - 1, by omega⟩
    simp only [laws_markMessageS.l0, hi, h0, if_true, e1 k (by omega), Option.bind_some, hr, List.set_set, hb0, w1, w2, w3, w4, w5, w6, w7, w8, e2 k (by omega)]
    exact e3 k (by omega)
theorem markLog_upto (a : Int) (l : List M4) (h : l.length ≤ 1048576) (hb : ∀ y ∈ l, okM y) : ∃ r, From (fun k => laws_markLog.f k a l 1) r ∧ 0 ≤ r.1 := by
  obtain ⟨r, ⟨K, e⟩, hr, _⟩ := markMessageS_upto l.length l 1 0 (by omega) (by omega) h (by omega) (by omega) (by omega) (fun y hy => (hb y hy).2)
  refine ⟨r, ⟨K, fun k hk => ?_⟩, hr⟩
  have E := e k hk
  dsimp only at E
  simp only [laws_markLog.f, laws_markMessageS.f, E, Option.bind_some]
/-! ### Rows -/
theorem gAt {α : Type} {l : List α} {i : Nat} {z : α} (h : i < l.length) : l.getD i z = l[i] := by rw [List.getD_eq_getElem?_getD, List.getElem?_eq_getElem h]; rfl
theorem rowS_ok (m : Int) (l : List M4) (hl : ∀ x ∈ l, x.f7.length ≤ 1048576) (hn : l.length ≤ 1048576) : ∀ i, i ≤ l.length → (rowS m l i).a = m ∧ (0 ≤ (rowS m l i).b ∧ (rowS m l i).b ≤ i) ∧ (0 ≤ (rowS m l i).c ∧ (rowS m l i).c ≤ i) ∧ (0 ≤ (rowS m l i).d ∧ (rowS m l i).d ≤ 1048576 * i)
  | 0, _ => ⟨rfl, ⟨by show (0 : Int) ≤ 0; omega, by show (0 : Int) ≤ 0; omega⟩, ⟨by show (0 : Int) ≤ 0; omega, by show (0 : Int) ≤ 0; omega⟩, ⟨by show (0 : Int) ≤ 0; omega, by show (0 : Int) ≤ 1048576 * 0; omega⟩⟩
  | i + 1, h => by
    obtain ⟨h1, h2, h3, h4⟩ := rowS_ok m l hl hn i (by omega)
    have hx := hl _ (getD_mem z44 (show i < l.length by omega))
    rw [rowS_succ m l i (by omega)]
    generalize l.getD i z44 = x at *
    generalize rowS m l i = r at *
    unfold addR
    by_cases c : x.f1 = m
    · rw [if_pos c]
      refine ⟨h1, ?_, ?_, ?_⟩
      · show 0 ≤ wrap64 (r.b + 1) ∧ wrap64 (r.b + 1) ≤ _
        rw [w64 (by omega) (by omega)]; omega
      · show 0 ≤ (if x.f5 = true then wrap64 (r.c + 1) else r.c) ∧ (if x.f5 = true then wrap64 (r.c + 1) else r.c) ≤ _
        split
        · rw [w64 (by omega) (by omega)]; omega
        · omega
      · show 0 ≤ wrap64 (r.d + (x.f7.length : Int)) ∧ wrap64 (r.d + (x.f7.length : Int)) ≤ _
        rw [w64 (by omega) (by omega)]; omega
    · rw [if_neg c]
      refine ⟨h1, ?_, ?_, ?_⟩ <;> omega
theorem upd_add {m : Int} {r : R4} {x : M4} (h : x.f1 = m) (h0 : 0 ≤ r.c) (h1 : r.c ≤ 1048576) : updI r x = addR m r x := by
  unfold updI addR
  rw [if_pos h]
  by_cases c : x.f5 = true
  · rw [if_pos c, if_pos c]
  · rw [if_neg c, if_neg c, Int.add_zero, w64 (x := r.c) (by omega) (by omega)]
theorem rowS_none (m : Int) (l : List M4) : ∀ i, i ≤ l.length → (∀ j, j < i → (l.getD j z44).f1 ≠ m) → rowS m l i = ⟨m, 0, 0, 0⟩
  | 0, _, _ => rfl
  | i + 1, h, hj => by
    rw [rowS_succ m l i (by omega), rowS_none m l i (by omega) (fun j h' => hj j (by omega))]
    unfold addR
    rw [if_neg (hj i (by omega))]
structure Inv (l : List M4) (i : Nat) (rs : List R4) : Prop where
  row : ∀ r ∈ rs, r = rowS r.a l i
  nd : (rs.map (·.a)).Nodup
  mem : ∀ t, t ∈ rs.map (·.a) ↔ ∃ j, j < i ∧ (l.getD j z44).f1 = t
theorem heads_of {rs : List R4} (h : (rs.map (·.a)).Nodup) : Heads rs := by
  unfold Heads
  unfold List.Nodup at h
  rwa [List.pairwise_map] at h
theorem idx_in {rs : List R4} {s : Int} (h : s ∈ rs.map (·.a)) : idxI rs s < rs.length := by
  obtain ⟨r, hr, e⟩ := List.mem_map.1 h
  exact List.findIdx_lt_length_of_exists ⟨r, hr, beq_iff_eq.2 e⟩
theorem idx_head (rs : List R4) (s : Int) : ((addI rs s).getD (idxI rs s) z4).a = s := by
  unfold addI
  by_cases c : idxI rs s < rs.length
  · rw [if_pos c]; exact idxI_yes rs s c
  · rw [if_neg c]
    have := idxI_le rs s
    rw [getD_snoc_eq (by omega)]
theorem step_heads (rs : List R4) (x : M4) : (stepI rs x).map (·.a) = (addI rs x.f1).map (·.a) := by
  unfold stepI
  have hl := idxI_lt rs x.f1
  rw [List.map_set]
  have e : (updI ((addI rs x.f1).getD (idxI rs x.f1) z4) x).a = ((addI rs x.f1).map (·.a))[idxI rs x.f1]'(by rw [List.length_map]; exact hl) := by
    rw [List.getElem_map, gAt hl]; rfl
  rw [e, List.set_getElem_self]
theorem add_heads (rs : List R4) (s t : Int) : t ∈ (addI rs s).map (·.a) ↔ t ∈ rs.map (·.a) ∨ t = s := by
  unfold addI
  by_cases c : idxI rs s < rs.length
  · rw [if_pos c]
    refine ⟨.inl, fun h => ?_⟩
    rcases h with h | rfl
    · exact h
    · have h2 := idxI_yes rs t c
      rw [← h2]
      exact List.mem_map.2 ⟨_, getD_mem z4 c, rfl⟩
  · rw [if_neg c, List.map_append, List.mem_append]
    simp
theorem inv_step {l : List M4} (hl : ∀ x ∈ l, x.f7.length ≤ 1048576) (hn : l.length ≤ 1048576) {i : Nat} (hi : i < l.length) {rs : List R4} (h : Inv l i rs) : Inv l (i + 1) (stepI rs (l.getD i z44)) := by
  obtain ⟨x, hx⟩ : ∃ x, x = l.getD i z44 := ⟨_, rfl⟩
  rw [← hx]
  have h1 : ∀ r ∈ addI rs x.f1, r = rowS r.a l i := by
    unfold addI
    by_cases c : idxI rs x.f1 < rs.length
    · rw [if_pos c]; exact h.row
    · rw [if_neg c]
      intro r hr
      rcases List.mem_append.1 hr with hr | hr
      · exact h.row r hr
      · rw [List.mem_singleton.1 hr]
        exact (rowS_none x.f1 l i (by omega) (fun j hj e => c (idx_in ((h.mem x.f1).2 ⟨j, hj, e⟩)))).symm
  have h2 : ((addI rs x.f1).map (·.a)).Nodup := by
    unfold addI
    by_cases c : idxI rs x.f1 < rs.length
    · rw [if_pos c]; exact h.nd
    · rw [if_neg c, List.map_append, List.nodup_append]
      refine ⟨h.nd, by simp, fun a ha b hb e => c (idx_in ?_)⟩
      have : b = x.f1 := by simpa using hb
      rw [← this, ← e]; exact ha
  have hk := idxI_lt rs x.f1
  have hka := idx_head rs x.f1
  refine ⟨fun r hr => ?_, by rw [step_heads]; exact h2, fun t => ?_⟩
  · obtain ⟨j, hj, rfl⟩ := List.mem_iff_getElem.1 hr
    have hj' : j < (addI rs x.f1).length := by have := hj; unfold stepI at this; rwa [List.length_set] at this
    have es := fun m => rowS_succ m l i hi
    rw [← hx] at es
    by_cases c : idxI rs x.f1 = j
    · have e : (stepI rs x)[j] = updI ((addI rs x.f1).getD (idxI rs x.f1) z4) x := by
        subst c
        exact List.getElem_set_self _
      rw [e]
      have hr0 := h1 _ (getD_mem z4 hk)
      rw [hka] at hr0
      obtain ⟨b1, _, b3, _⟩ := rowS_ok x.f1 l hl hn i (by omega)
      rw [hr0, upd_add rfl (by omega) (by omega), ← es]
      rw [(rowS_ok x.f1 l hl hn (i + 1) (by omega)).1]
    · have e : (stepI rs x)[j] = (addI rs x.f1)[j] := by
        exact List.getElem_set_ne c _
      rw [e]
      have hne : ¬ x.f1 = ((addI rs x.f1)[j]).a := fun e2 => by
        have := List.pairwise_iff_getElem.1 h2
        have g1 : ((addI rs x.f1).map (·.a))[j]'(by rw [List.length_map]; exact hj') = x.f1 := by rw [List.getElem_map]; exact e2.symm
        have g2 : ((addI rs x.f1).map (·.a))[idxI rs x.f1]'(by rw [List.length_map]; exact hk) = x.f1 := by rw [List.getElem_map, ← gAt (z := z4) hk]; exact hka
        rcases Nat.lt_or_ge j (idxI rs x.f1) with q | q
        · exact this j (idxI rs x.f1) (by rw [List.length_map]; exact hj') (by rw [List.length_map]; exact hk) q (g1.trans g2.symm)
        · exact this (idxI rs x.f1) j (by rw [List.length_map]; exact hk) (by rw [List.length_map]; exact hj') (by omega) (g2.trans g1.symm)
      have hr0 := h1 _ (List.getElem_mem hj')
      rw [es]
      unfold addR
      rw [if_neg hne]
      exact hr0
  · rw [step_heads, add_heads, h.mem]
    constructor
    · rintro (⟨j, hj, e⟩ | rfl)
      · exact ⟨j, by omega, e⟩
      · exact ⟨i, by omega, by rw [hx]⟩
    · rintro ⟨j, hj, e⟩
      by_cases c : j = i
      · right; rw [← e, c, hx]
      · exact .inl ⟨j, by omega, e⟩
theorem inv_all {l : List M4} (hl : ∀ x ∈ l, x.f7.length ≤ 1048576) (hn : l.length ≤ 1048576) : ∀ i, i ≤ l.length → Inv l i (impJ l i)
  | 0, _ => ⟨fun r hr => by unfold impJ at hr; simp at hr, by unfold impJ; simp, fun t => by unfold impJ; simp⟩
  | i + 1, h => by
    rw [impJ_succ l i (by omega)]
    exact inv_step hl hn (by omega) (inv_all hl hn i (by omega))
/-! ### The members -/
def memL (l : List M4) (i : Nat) : List Int := putMany [] ((l.take i).map (·.f1))
theorem memL_succ (l : List M4) (i : Nat) (hi : i < l.length) : memL l (i + 1) = putL (memL l i) (l.getD i z44).f1 := by
  unfold memL putMany
  rw [List.take_succ_eq_append_getElem hi, List.map_append, List.foldl_append, gAt hi]
  rfl
theorem memL_len (l : List M4) (i : Nat) : (memL l i).length ≤ l.length := by
  have := putMany_length ((l.take i).map (·.f1)) []
  rw [List.length_map, List.length_take, List.length_nil] at this
  unfold memL
  omega
theorem counts_same {l : List M4} (hl : ∀ x ∈ l, x.f7.length ≤ 1048576) (hn : l.length ≤ 1048576) (rs : List R4) (hp : rs.Perm (impJ l l.length)) (hs : rs.Pairwise (fun x y => x.a < y.a)) : rs = (memL l l.length).map fun m => rowS m l l.length := by
  have hI := inv_all hl hn l.length (Nat.le_refl _)
  have h1 : (rs.map (·.a)).Pairwise (· < ·) := by rw [List.pairwise_map]; exact hs
  have h2 : (memL l l.length).Pairwise (· < ·) := putMany_rise _ List.Pairwise.nil
  have h3 : rs.map (·.a) = memL l l.length := by
    refine rise_ext h1 h2 fun t => ?_
    rw [(hp.map (·.a)).mem_iff, hI.mem]
    unfold memL
    rw [putMany_mem, List.take_length]
    constructor
    · rintro ⟨j, hj, e⟩
      exact .inr (List.mem_map.2 ⟨_, getD_mem z44 hj, e⟩)
    · rintro (h | h)
      · cases h
      · obtain ⟨x, hx, e⟩ := List.mem_map.1 h
        obtain ⟨j, hj, rfl⟩ := List.mem_iff_getElem.1 hx
        exact ⟨j, hj, by rw [gAt hj]; exact e⟩
  rw [← h3, List.map_map]
  conv => lhs; rw [← List.map_id rs]
  apply List.map_congr_left
  intro r hr
  exact hI.row r ((hp.mem_iff).1 hr)
/-! ### The law -/
def markR (n : Nat) : R4 := ⟨1 + 4 * (n : Int), 1 + 4 * (n : Int) + 1, 1 + 4 * (n : Int) + 2, 1 + 4 * (n : Int) + 3⟩
theorem markR_from (r : R4) (n : Nat) (hn : n ≤ 1048576) : From (fun k => laws_markInt64S.f k r.l (1 + 4 * (n : Int))) (1 + 4 * ((n + 1 : Nat) : Int), (markR n).l) := by
  obtain ⟨ys, e, hy, hj⟩ := markInt64S_from r.l (1 + 4 * (n : Int)) (by omega) (by omega) (show 4 ≤ _ by decide)
  have hy4 : ys.length = 4 := hy
  have hys : ys = (markR n).l := by
    apply List.ext_getElem?
    intro j
    by_cases c : j < 4
    · rw [hj j c]
      match j, c with
      | 0, _ => show some (1 + 4 * (n : Int) + 1 * (0 : Nat)) = some (1 + 4 * (n : Int)); first | (congr 1; done) | (congr 1; omega)
      | 1, _ => show some (1 + 4 * (n : Int) + 1 * (1 : Nat)) = some (1 + 4 * (n : Int) + 1); congr 1
      | 2, _ => show some (1 + 4 * (n : Int) + 1 * (2 : Nat)) = some (1 + 4 * (n : Int) + 2); congr 1
      | 3, _ => show some (1 + 4 * (n : Int) + 1 * (3 : Nat)) = some (1 + 4 * (n : Int) + 3); congr 1
    · rw [List.getElem?_eq_none (by omega), List.getElem?_eq_none (show 4 ≤ j by omega)]
  have hm : 1 + 4 * (n : Int) + 1 * ((r.l.length : Nat) : Int) = 1 + 4 * ((n + 1 : Nat) : Int) := by
    have : r.l.length = 4 := rfl
    omega
  rw [hys, hm] at e
  exact e
theorem heldR_from (n : Nat) (hn : n ≤ 1048576) : From (fun k => laws_heldInt64S.f k (markR n).l (1 + 4 * (n : Int))) (1 + 4 * ((n + 1 : Nat) : Int)) := by
  have e := heldInt64S_from (markR n).l (1 + 4 * (n : Int)) (by omega) (by omega) (show 4 ≤ _ by decide) (fun j hj => by
    have hj : j < 4 := hj
    match j, hj with
    | 0, _ => show some (1 + 4 * (n : Int)) = some (1 + 4 * (n : Int) + 1 * (0 : Nat)); first | (congr 1; done) | (congr 1; omega)
    | 1, _ => show some (1 + 4 * (n : Int) + 1) = some (1 + 4 * (n : Int) + 1 * (1 : Nat)); congr 1
    | 2, _ => show some (1 + 4 * (n : Int) + 2) = some (1 + 4 * (n : Int) + 1 * (2 : Nat)); congr 1
    | 3, _ => show some (1 + 4 * (n : Int) + 3) = some (1 + 4 * (n : Int) + 1 * (3 : Nat)); congr 1)
  have hm : 1 + 4 * (n : Int) + 1 * (((markR n).l.length : Nat) : Int) = 1 + 4 * ((n + 1 : Nat) : Int) := by
    have : (markR n).l.length = 4 := rfl
    omega
  rw [hm] at e
  exact e
theorem FnExactCountsOf : laws_FnExactCountsOf.Pure := by
  intro a l _ ⟨h1, q1⟩
  obtain ⟨s, ⟨K1, hs⟩, hc⟩ := szLog_tells a l 1048576 (by omega) (by omega) h1 q1
  rcases hc with hc | ⟨b1, b2, b3, b4⟩
  · exact ⟨K1, by simp only [laws_FnExactCountsOf.f, hs K1 (Nat.le_refl _), Option.bind_some, hc, if_true]⟩
  have hn : ¬ s < 0 := by omega
  obtain ⟨K2, e2⟩ := toLog_from a l b1 b2
  obtain ⟨xs, hxs⟩ : ∃ xs, xs = l.map convMessage := ⟨_, rfl⟩
  have hxl : xs.length ≤ 1048576 := by rw [hxs, List.length_map]; exact b1
  have hok : ∀ y ∈ xs, okM y := by rw [hxs]; exact okM_conv b2
  rw [← hxs] at e2
  have hl7 : ∀ x ∈ xs, x.f7.length ≤ 1048576 := fun x hx => (hok x hx).2
  obtain ⟨K3, e3⟩ := eqLog_from a xs hxl hok
  obtain ⟨b, ⟨K4, e4⟩, ⟨K5, e5⟩⟩ := valid_both a xs hxl hok
  obtain ⟨⟨m1, ys⟩, ⟨K6, e6⟩, hm1⟩ := markLog_upto a xs hxl hok
  obtain ⟨T, hT⟩ : ∃ T : List R4, T = if b = true then (memL xs xs.length).map (fun m => rowS m xs xs.length) else [] := ⟨_, rfl⟩
  have hTl : T.length ≤ 1048576 := by
    rw [hT]
    split
    · rw [List.length_map]; have := memL_len xs xs.length; omega
    · simp
  obtain ⟨K7, e7⟩ := from_all (g := fun k j => laws_eqInt64S.f k (T.getD j z4).l (T.getD j z4).l) (fun _ => true) T.length fun j _ => eqInt64S_from (T.getD j z4).l (show 4 ≤ _ by decide)
  obtain ⟨K8, e8⟩ := from_all (g := fun k j => laws_markInt64S.f k (T.getD j z4).l (1 + 4 * (j : Int))) (fun j => (1 + 4 * ((j + 1 : Nat) : Int), (markR j).l)) T.length fun j hj => markR_from _ j (by omega)
  obtain ⟨K9, e9⟩ := from_all (g := fun k j => laws_heldInt64S.f k (markR j).l (1 + 4 * (j : Int))) (fun j => 1 + 4 * ((j + 1 : Nat) : Int)) T.length fun j hj => heldR_from j (by omega)
  generalize hK : K1 + K2 + K3 + K4 + K5 + K6 + K7 + K8 + K9 + 2 * 1048576 + 10 = K
  have E1 := hs K (by omega)
  have E2 := e2 K (by omega)
  have E3 := e3 K (by omega)
  have E4 := e4 K (by omega)
  have E5 := e5 K (by omega)
  have E6 := e6 K (by omega)
  dsimp only at E1 E2 E3 E4 E5 E6
  have hg : ∀ i, i < T.length → ((List.range T.length).map markR).getD i z4 = markR i := fun i hi => by
    rw [gAt (by rw [List.length_map, List.length_range]; exact hi), List.getElem_map, List.getElem_range]
  refine ⟨K, ?_⟩
  simp only [laws_FnExactCountsOf.f, E1, Option.bind_some]
  rw [if_neg hn]
  refine sureO_mk ⟨s, a, xs, b, T, m1, ys, (List.range T.length).map markR, fun i => 1 + 4 * (i : Int), ?_⟩
  exact {
    h0 := E1
    h1 := hn
    h2 := E2
    h3 := hxl
    h4 := by
      cases b with
      | true =>
        refine .inl ⟨rfl, E4, memL xs, rfl, fun i hi => ?_, by have := memL_len xs xs.length; omega, by rw [hT, if_pos rfl]⟩
        rw [memL_succ xs i hi]
        have := memL_len xs i
        exact l00Put_from _ _ (by omega) K (by omega)
      | false => exact .inr ⟨rfl, E4, by rw [hT, if_neg (by simp)]⟩
    h5 := by
      cases b with
      | true => exact .inl ⟨rfl, E5, heads_of (inv_all hl7 hxl xs.length (Nat.le_refl _)).nd, fun rs hp hs => by rw [hT, if_pos rfl]; exact counts_same hl7 hxl rs hp hs⟩
      | false => exact .inr ⟨rfl, E5, by rw [hT, if_neg (by simp)]⟩
    h6 := hTl
    h7 := fun i hi => e7 K (by omega) i hi
    h8 := E3
    h9 := E6
    h10 := hm1
    h11 := by rw [List.length_map, List.length_range]
    h12 := rfl
    h13 := fun i hi => by rw [hg i hi]; exact e8 K (by omega) i hi
    h14 := fun i hi => by
      rw [List.length_map, List.length_range] at hi
      rw [hg i hi]; exact e9 K (by omega) i hi
    h15 := fun i => by show 0 ≤ 1 + 4 * (i : Int); omega }

end Go.Proofs.Ytallocgnpbpbhab.Pure
