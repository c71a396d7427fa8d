/- The program's ValidMessage returns what the reference's returns, for every message that can be read. -/
import Derived.Test.YtaafhggihebicaaXFnExactValidMessagex5
import Derived.Test.YtaafhggihebicaaVFnExactValidMessageXP
namespace Go.Proofs.Ytaafhggihebicaa.Pure
open Go.RowKit Go.Proofs.Ytaafhggihebicaa.XFnExactValidMessage Go.Proofs.YtaafhggihebicaaW.PrintWords Go.Proofs.YtaafhggihebicaaW.PrintLast Go.Proofs.Ytaafhggihebicaa.XP
set_option linter.unusedVariables false
set_option linter.unusedSimpArgs false

theorem toInt64S_from (l : List Int) (h : l.length ≤ 1073741824) : From (fun k => laws_toInt64S.f k l) l := by
  obtain ⟨K, hK⟩ := fill_all (F := laws_toInt64S.l0) (fun x : Int => x) 0 0 (fun k xs ys i h0 h1 h2 h3 => by
      simp only [laws_toInt64S.l0, h0, h1, h2, if_true, wsucc h0 h3]; rfl) (fun k xs ys i h => by simp only [laws_toInt64S.l0, h, if_false]) l (by omega)
  refine ⟨K, fun k hk => ?_⟩
  simp only [laws_toInt64S.f, Int.toNat_natCast]
  rw [if_pos (by omega), if_pos (by omega)]
  simpa using hK k hk
theorem eqInt64S_from (l : List Int) (h : l.length ≤ 1073741824) : From (fun k => laws_eqInt64S.f k l l) true := by
  obtain ⟨K, hK⟩ := all_loop (fun k i => laws_eqInt64S.l0 k l l i) l.length (by omega) 0 true (fun k i _ h0 h1 => by
      simp only [laws_eqInt64S.l0, h0, h1, if_true, wsucc h0 (by omega)]) (fun k i _ h _ => by simp only [laws_eqInt64S.l0, h, if_false])
  refine ⟨K, fun k hk => ?_⟩
  simp only [laws_eqInt64S.f, if_true]
  exact hK k hk
theorem szN (n : Nat) (a : Int) (hl : n ≤ 9223372036854775807) (ha : 0 ≤ a) (ha2 : a ≤ 1048576) : wrap64 (a - (n : Int)) = a - n := w64 (by omega) (by omega)
theorem szMessage_tells (a0 a1 a2 : Int) (s : ByteArray) (a4 : Int) (b : Bool) (a6 : Int) (l : List Int) (a : Int) (ha : 0 ≤ a) (ha2 : a ≤ 1048576) (h1 : s.size ≤ 9223372036854775807) (h2 : l.length ≤ 9223372036854775807) :
    ∃ r, laws_szMessage.f a0 a1 a2 s a4 b a6 l a = some r ∧ (r < 0 ∨ (s.size ≤ 1048576 ∧ l.length ≤ 1048576 ∧ 0 ≤ r ∧ r ≤ a)) := by
  unfold laws_szMessage.f laws_szInt64S.f
  rw [szN s.size a h1 ha ha2]
  by_cases c1 : a - (s.size : Int) < 0
  · rw [if_pos c1]; exact ⟨_, rfl, .inl (by omega)⟩
  rw [if_neg c1, szN l.length (a - s.size) h2 (by omega) (by omega)]
  by_cases c2 : a - (s.size : Int) - l.length < 0
  · rw [if_pos c2]; exact ⟨-1, rfl, .inl (by omega)⟩
  rw [if_neg c2, Option.bind_some, if_neg c2]
  exact ⟨_, rfl, .inr (by omega)⟩
theorem toMessage_from (a0 a1 a2 : Int) (s : ByteArray) (a4 : Int) (b : Bool) (a6 : Int) (l : List Int) (h : l.length ≤ 1048576) : From (fun k => laws_toMessage.f k a0 a1 a2 s a4 b a6 l) (a0, a1, a2, s, a4, b, a6, l) := by
  obtain ⟨K, hK⟩ := toInt64S_from l (by omega)
  exact ⟨K, fun k hk => by simp only [laws_toMessage.f, hK k hk, Option.bind_some]⟩
theorem eqMessage_from (a0 a1 a2 : Int) (s : ByteArray) (a4 : Int) (b : Bool) (a6 : Int) (l : List Int) (h : l.length ≤ 1048576) : From (fun k => laws_eqMessage.f k a0 a1 a2 s a4 b a6 l a0 a1 a2 s a4 b a6 l) true := by
  obtain ⟨K, hK⟩ := eqInt64S_from l (by omega)
  exact ⟨K, fun k hk => by simp [laws_eqMessage.f, hK k hk]⟩
theorem in_eq (a b c : Int) : spec_l00In.f a b c = impl_in.f a b c := rfl
theorem in_some (a b c : Int) : impl_in.f a b c = some (decide (b ≤ a ∧ a ≤ c)) := by
  unfold impl_in.f
  split
  · congr 1; rw [decide_eq_decide]; omega
  · congr 1; symm; rw [decide_eq_false_iff_not]; omega

def risesB (l : List Int) : Bool := (List.range l.length).all fun j => decide (1 ≤ l.getD j 0 ∧ l.getD j 0 ≤ 1000) && (decide (j = 0) || decide (l.getD (j - 1) 0 < l.getD j 0))
theorem prev_of {i : Int} (h0 : 0 ≤ i) (h1 : i ≤ 4611686018427387904) (hp : i > 0) : wrap64 (i - 1) = i - 1 ∧ (i - 1).toNat = i.toNat - 1 ∧ 0 ≤ i - 1 := ⟨wpred h0 h1, by omega, by omega⟩
theorem l00Rises_from (l : List Int) (h : l.length ≤ 1073741824) : From (fun k => spec_l00Rises.f k l 1 1000) (risesB l) := by
  obtain ⟨K, hK⟩ := test_loopB (fun k i => spec_l00Rises.l0 k l 1 1000 i) l.length 0 (fun j => decide (1 ≤ l.getD j 0 ∧ l.getD j 0 ≤ 1000) && (decide (j = 0) || decide (l.getD (j - 1) 0 < l.getD j 0))) true (fun k i _ h0 h1 => by
    simp only [spec_l00Rises.l0, in_eq, in_some, h0, h1, if_true, Option.bind_some, wsucc h0 (by omega), rd]
    by_cases c : 1 ≤ l.getD i.toNat 0 ∧ l.getD i.toNat 0 ≤ 1000
    · by_cases c5 : i > 0
      · obtain ⟨p1, p2, p3⟩ := prev_of h0 (by omega) c5
        have p4 : i - 1 < l.length := by omega
        have p5 : ¬ i.toNat = 0 := by omega
        by_cases c6 : l.getD (i.toNat - 1) 0 < l.getD i.toNat 0
        · have c7 : ¬ l.getD (i.toNat - 1) 0 ≥ l.getD i.toNat 0 := by omega
          simp only [c, c5, c6, c7, p1, p2, p3, p4, p5, if_true, if_false, decide_true, decide_false, and_self, Bool.true_and, Bool.false_or]
        · have c7 : l.getD (i.toNat - 1) 0 ≥ l.getD i.toNat 0 := by omega
          simp only [c, c5, c6, c7, p1, p2, p3, p4, p5, if_true, if_false, decide_true, decide_false, and_self, Bool.true_and, Bool.false_or, Bool.false_eq_true]
      · have p5 : i.toNat = 0 := by omega
        rw [p5] at c ⊢
        simp only [c, c5, if_true, if_false, decide_true, and_self, Bool.true_and, Bool.true_or]
    · simp [c, -List.getD_eq_getElem?_getD]) (fun k _ => by simp only [spec_l00Rises.l0, Int.lt_irrefl, if_false])
  exact ⟨K, fun k hk => by simpa [risesB, spec_l00Rises.f] using hK k hk⟩
theorem rising_from (l : List Int) (h : l.length ≤ 1073741824) : From (fun k => impl_rising_isMember.f k l) (risesB l) := by
  obtain ⟨K, hK⟩ := test_loopB (fun k i => impl_rising_isMember.l0 k l l l.length i) l.length 0 (fun j => decide (1 ≤ l.getD j 0 ∧ l.getD j 0 ≤ 1000) && (decide (j = 0) || decide (l.getD (j - 1) 0 < l.getD j 0))) true (fun k i _ h0 h1 => by
    simp only [impl_rising_isMember.l0, impl_isMember.f, in_some, h0, h1, if_true, Option.bind_some, wsucc h0 (by omega), rd]
    by_cases c : 1 ≤ l.getD i.toNat 0 ∧ l.getD i.toNat 0 ≤ 1000
    · by_cases c5 : i > 0
      · obtain ⟨p1, p2, p3⟩ := prev_of h0 (by omega) c5
        have p4 : i - 1 < l.length := by omega
        have p5 : ¬ i.toNat = 0 := by omega
        by_cases c6 : l.getD (i.toNat - 1) 0 < l.getD i.toNat 0
        · have c7 : ¬ l.getD (i.toNat - 1) 0 ≥ l.getD i.toNat 0 := by omega
          simp only [c, c5, c6, c7, p1, p2, p3, p4, p5, if_true, if_false, decide_true, decide_false, and_self, Bool.true_and, Bool.false_or]
        · have c7 : l.getD (i.toNat - 1) 0 ≥ l.getD i.toNat 0 := by omega
          simp only [c, c5, c6, c7, p1, p2, p3, p4, p5, if_true, if_false, decide_true, decide_false, and_self, Bool.true_and, Bool.false_or, Bool.false_eq_true]
      · have p5 : i.toNat = 0 := by omega
        rw [p5] at c ⊢
        simp only [c, c5, if_true, if_false, decide_true, and_self, Bool.true_and, Bool.true_or]
    · simp [c, -List.getD_eq_getElem?_getD]) (fun k _ => by simp only [impl_rising_isMember.l0, Int.lt_irrefl, if_false])
  exact ⟨K, fun k hk => by simpa [risesB, impl_rising_isMember.f] using hK k hk⟩
theorem text_both (s : ByteArray) (hs : s.size ≤ 1048576) : ∃ r, From (fun k => spec_l01IsText.f k s) r ∧ From (fun k => impl_IsText.f k s) r := by
  obtain ⟨K, hK⟩ := test_loopB (fun k i => spec_l01IsText.l0 k s i) s.size 0 (fun j => decide (32 ≤ bt s j ∧ bt s j ≤ 126)) (decide ((s.size : Int) ≤ 80)) (fun k i _ h0 h1 => by
    simp only [spec_l01IsText.l0, h0, h1, if_true, wsucc h0 (by omega), Int.toNat_of_nonneg h0]
    by_cases c : bt s i < 32
    · have c2 : ¬ (32 ≤ bt s i ∧ bt s i ≤ 126) := by omega
      simp [c, c2]
    · by_cases d : bt s i > 126
      · have c2 : ¬ (32 ≤ bt s i ∧ bt s i ≤ 126) := by omega
        simp [c, d, c2]
      · have c2 : (32 ≤ bt s i ∧ bt s i ≤ 126) := by omega
        simp [c, d, c2]) (fun k _ => by simp only [spec_l01IsText.l0, Int.lt_irrefl, if_false])
  obtain ⟨L, hL⟩ := test_loopB (fun k i => impl_IsText.l0 k s s.size i) s.size 0 (fun j => decide (32 ≤ bt s j ∧ bt s j ≤ 126)) (decide ((s.size : Int) ≤ 80)) (fun k i _ h0 h1 => by
    simp only [impl_IsText.l0, h0, h1, if_true, wsucc h0 (by omega), Int.toNat_of_nonneg h0]
    by_cases c : bt s i < 32
    · have c2 : ¬ (32 ≤ bt s i ∧ bt s i ≤ 126) := by omega
      simp [c, c2]
    · by_cases d : bt s i > 126
      · have c2 : ¬ (32 ≤ bt s i ∧ bt s i ≤ 126) := by omega
        simp [c, d, c2]
      · have c2 : (32 ≤ bt s i ∧ bt s i ≤ 126) := by omega
        simp [c, d, c2]) (fun k _ => by simp only [impl_IsText.l0, Int.lt_irrefl, if_false])
  exact ⟨_, ⟨K, hK⟩, ⟨L, hL⟩⟩
theorem has_both (l : List Int) (x : Int) (hl : l.length ≤ 1048576) : ∃ r, From (fun k => spec_l00Has.f k l x) r ∧ From (fun k => slices_Contains_int64_int64.f k l x) r := by
  obtain ⟨K, h⟩ := find_loop (fun k i => spec_l00Has.l0 k l x i) l.length 0 (fun j => rd l j = x) (fun _ => true) false (fun k i _ h0 h1 => by
    simp only [spec_l00Has.l0, h0, h1, if_true, wsucc h0 (by omega), Int.toNat_of_nonneg h0]) (fun k _ => by simp only [spec_l00Has.l0, Int.lt_irrefl, if_false])
  obtain ⟨L, g⟩ := find_loop (fun k i => slices_Index_int64_int64.l0 k l x l.length i) l.length 0 (fun j => x = rd l j) (fun j => (j : Int)) (-1) (fun k i _ h0 h1 => by
    simp only [slices_Index_int64_int64.l0, h0, h1, if_true, wsucc h0 (by omega), Int.toNat_of_nonneg h0]) (fun k _ => by simp only [slices_Index_int64_int64.l0, Int.lt_irrefl, if_false])
  rcases h with ⟨j, hj, hp, _, e⟩ | ⟨hn, e⟩ <;> rcases g with ⟨i, hi, gp, _, f⟩ | ⟨gn, f⟩
  · refine ⟨true, ⟨K, e⟩, ⟨L, fun k hk => ?_⟩⟩
    simp [slices_Contains_int64_int64.f, slices_Index_int64_int64.f, f k hk]
  · exact absurd hp.symm (gn j hj)
  · exact absurd gp.symm (hn i hi)
  · refine ⟨false, ⟨K, e⟩, ⟨L, fun k hk => ?_⟩⟩
    simp [slices_Contains_int64_int64.f, slices_Index_int64_int64.f, f k hk]
theorem message_both (a0 a1 a2 : Int) (s : ByteArray) (a4 : Int) (b : Bool) (a6 : Int) (l : List Int) (hs : s.size ≤ 1048576) (hl : l.length ≤ 1048576) :
    ∃ r, From (fun k => spec_l03Message.f k a0 a1 a2 s a4 b a6 l) r ∧ From (fun k => impl_ValidMessage.f k a0 a1 a2 s a4 b a6 l) r := by
  obtain ⟨t, ⟨K1, e1⟩, ⟨L1, f1⟩⟩ := text_both s hs
  obtain ⟨h, ⟨K2, e2⟩, ⟨L2, f2⟩⟩ := has_both l a1 hl
  obtain ⟨K3, e3⟩ := l00Rises_from l (by omega)
  obtain ⟨L3, f3⟩ := rising_from l (by omega)
  generalize risesB l = q at e3 f3
  have j : ∃ r, (∀ k, K1 + K2 + K3 ≤ k → spec_l03Message.j0 (k + 1) false a0 a1 a2 s a4 b a6 l = some r) ∧ ∀ k, L1 + L2 + L3 ≤ k → impl_ValidMessage.j0 (k + 1) false a0 a1 a2 s a4 b a6 l = some r := by
    refine ⟨if (l.length : Int) > 20 then false else if q = true then (if h = true then false else if b = true then (if s.toList = [] then (l.length : Int) == 0 else false) else true) else false, fun k hk => ?_, fun k hk => ?_⟩
    · simp only [spec_l03Message.j0, Bool.false_eq_true, if_false, spec_l01Members.f, e3 k (by omega), e2 k (by omega), Option.bind_some]
      split
      · rfl
      · split
        · split
          · rfl
          · split
            · split <;> rfl
            · rfl
        · rfl
    · simp only [impl_ValidMessage.j0, Bool.false_eq_true, if_false, impl_IsMembers.f, f3 k (by omega), f2 k (by omega), Option.bind_some]
      split
      · rfl
      · split
        · split
          · rfl
          · split
            · split <;> rfl
            · rfl
        · rfl
  obtain ⟨r, j1, j2⟩ := j
  have d1 : ∀ k, spec_l03Message.j0 (k + 1) true a0 a1 a2 s a4 b a6 l = some false := fun k => by simp only [spec_l03Message.j0, if_true]
  have d2 : ∀ k, impl_ValidMessage.j0 (k + 1) true a0 a1 a2 s a4 b a6 l = some false := fun k => by simp only [impl_ValidMessage.j0, if_true]
  refine ⟨decide (1 ≤ a0 ∧ a0 ≤ 1000000000) && (decide (1 ≤ a1 ∧ a1 ≤ 1000) && (decide (0 ≤ a2 ∧ a2 ≤ 1000000) && (t && (decide (0 ≤ a4 ∧ a4 ≤ 1000000000) && (decide (0 ≤ a6 ∧ a6 ≤ wrap64 (a0 - 1)) && r))))), ⟨K1 + K2 + K3 + 1, fun k hk => ?_⟩, ⟨L1 + L2 + L3 + 1, fun k hk => ?_⟩⟩
  · obtain ⟨k, rfl⟩ : ∃ n, k = n + 1 := ⟨k - 1, by omega⟩
    simp only [spec_l03Message.f, spec_l01Member.f, spec_l01Tick.f, in_eq, in_some, Option.bind_some, e1 (k + 1) (by omega), d1]
    cases decide (1 ≤ a0 ∧ a0 ≤ 1000000000) <;> cases decide (1 ≤ a1 ∧ a1 ≤ 1000) <;> cases decide (0 ≤ a2 ∧ a2 ≤ 1000000) <;> cases t <;> cases decide (0 ≤ a4 ∧ a4 ≤ 1000000000) <;> cases decide (0 ≤ a6 ∧ a6 ≤ wrap64 (a0 - 1)) <;> simp [d1, j1 k (by omega)]
  · obtain ⟨k, rfl⟩ : ∃ n, k = n + 1 := ⟨k - 1, by omega⟩
    simp only [impl_ValidMessage.f, impl_isMember.f, impl_isTick.f, in_some, Option.bind_some, f1 (k + 1) (by omega), d2]
    cases decide (1 ≤ a0 ∧ a0 ≤ 1000000000) <;> cases decide (1 ≤ a1 ∧ a1 ≤ 1000) <;> cases decide (0 ≤ a2 ∧ a2 ≤ 1000000) <;> cases t <;> cases decide (0 ≤ a4 ∧ a4 ≤ 1000000000) <;> cases decide (0 ≤ a6 ∧ a6 ≤ wrap64 (a0 - 1)) <;> simp [d2, j2 k (by omega)]
theorem FnExactValidMessage : laws_FnExactValidMessage.Pure := by
  intro a0 a1 a2 s a4 b a6 l _ _ _ hs _ _ ⟨hl, _⟩
  obtain ⟨r, hr, hc⟩ := szMessage_tells a0 a1 a2 s a4 b a6 l 1048576 (by omega) (by omega) (by omega) hl
  rcases hc with hc | ⟨b1, b2, b3, b4⟩
  · exact ⟨0, by simp only [laws_FnExactValidMessage.f, hr, Option.bind_some, hc, if_true]⟩
  have hn : ¬ r < 0 := by omega
  obtain ⟨K1, e1⟩ := toMessage_from a0 a1 a2 s a4 b a6 l b2
  obtain ⟨K2, e2⟩ := eqMessage_from a0 a1 a2 s a4 b a6 l b2
  obtain ⟨q, ⟨K3, e3⟩, ⟨K4, e4⟩⟩ := message_both a0 a1 a2 s a4 b a6 l b1 b2
  generalize hK : K1 + K2 + K3 + K4 = K
  refine ⟨K + 9, ?_⟩
  have E1 := fun i => e1 (K + i) (by omega)
  have E2 := fun i => e2 (K + i) (by omega)
  have E3 := fun i => e3 (K + i) (by omega)
  have E4 := fun i => e4 (K + i) (by omega)
  have hb : (q != q) = false := by simp
  simp only [laws_FnExactValidMessage.f, laws_FnExactValidMessage.j0, laws_FnExactValidMessage.j1, spec_ValidMessage.f, hr, hn, hb, E1, E2, E3, E4, Option.bind_some, if_true, if_false, Bool.false_eq_true]

end Go.Proofs.Ytaafhggihebicaa.Pure
