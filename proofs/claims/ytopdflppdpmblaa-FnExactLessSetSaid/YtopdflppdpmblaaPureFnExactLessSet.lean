/- The program's LessSet returns what the reference's returns, for every two slices that can be read. -/
import Derived.Test.YtopdflppdpmblaaXFnExactLessSetx3
import Derived.Test.YtopdflppdpmblaaXP
namespace Go.Proofs.Ytopdflppdpmblaa.Pure
open Go.RowKit Go.Proofs.Ytopdflppdpmblaa.XFnExactLessSet Go.Proofs.YtopdflppdpmblaaW.PrintWords Go.Proofs.YtopdflppdpmblaaW.PrintLast Go.Proofs.Ytopdflppdpmblaa.XP
set_option linter.unusedVariables false
set_option linter.unusedSimpArgs false

theorem in_eq (a b c : Int) : spec_l00In.f a b c = impl_in.f a b c := rfl
theorem in_some (a b c : Int) : impl_in.f a b c = some (decide (b ≤ a ∧ a ≤ c)) := by
  unfold impl_in.f
  split
  · congr 1; rw [decide_eq_decide]; omega
  · congr 1; symm; rw [decide_eq_false_iff_not]; omega

def risesB (l : List Int) : Bool := (List.range l.length).all fun j => decide (1 ≤ l.getD j 0 ∧ l.getD j 0 ≤ 1000) && (decide (j = 0) || decide (l.getD (j - 1) 0 < l.getD j 0))
theorem prev_of {i : Int} (h0 : 0 ≤ i) (h1 : i ≤ 4611686018427387904) (hp : i > 0) : wrap64 (i - 1) = i - 1 ∧ (i - 1).toNat = i.toNat - 1 ∧ 0 ≤ i - 1 := ⟨wpred h0 h1, by omega, by omega⟩
theorem l00Rises_from (l : List Int) (h : l.length ≤ 1073741824) : From (fun k => spec_l00Rises.f k l 1 1000) (risesB l) := by
  obtain ⟨K, hK⟩ := test_loopB (fun k i => spec_l00Rises.l0 k l 1 1000 i) l.length 0 (fun j => decide (1 ≤ l.getD j 0 ∧ l.getD j 0 ≤ 1000) && (decide (j = 0) || decide (l.getD (j - 1) 0 < l.getD j 0))) true (fun k i _ h0 h1 => by
    simp only [spec_l00Rises.l0, in_eq, in_some, h0, h1, if_true, Option.bind_some, wsucc h0 (by omega), rd]
    by_cases c : 1 ≤ l.getD i.toNat 0 ∧ l.getD i.toNat 0 ≤ 1000
    · by_cases c5 : i > 0
      · obtain ⟨p1, p2, p3⟩ := prev_of h0 (by omega) c5
        have p4 : i - 1 < l.length := by omega
        have p5 : ¬ i.toNat = 0 := by omega
        by_cases c6 : l.getD (i.toNat - 1) 0 < l.getD i.toNat 0
        · have c7 : ¬ l.getD (i.toNat - 1) 0 ≥ l.getD i.toNat 0 := by omega
          simp only [c, c5, c6, c7, p1, p2, p3, p4, p5, if_true, if_false, decide_true, decide_false, and_self, Bool.true_and, Bool.false_or]
        · have c7 : l.getD (i.toNat - 1) 0 ≥ l.getD i.toNat 0 := by omega
          simp only [c, c5, c6, c7, p1, p2, p3, p4, p5, if_true, if_false, decide_true, decide_false, and_self, Bool.true_and, Bool.false_or, Bool.false_eq_true]
      · have p5 : i.toNat = 0 := by omega
        rw [p5] at c ⊢
        simp only [c, c5, if_true, if_false, decide_true, and_self, Bool.true_and, Bool.true_or]
    · simp [c, -List.getD_eq_getElem?_getD]) (fun k _ => by simp only [spec_l00Rises.l0, Int.lt_irrefl, if_false])
  exact ⟨K, fun k hk => by simpa [risesB, spec_l00Rises.f] using hK k hk⟩
theorem rising_from (l : List Int) (h : l.length ≤ 1073741824) : From (fun k => impl_rising_isMember.f k l) (risesB l) := by
  obtain ⟨K, hK⟩ := test_loopB (fun k i => impl_rising_isMember.l0 k l l l.length i) l.length 0 (fun j => decide (1 ≤ l.getD j 0 ∧ l.getD j 0 ≤ 1000) && (decide (j = 0) || decide (l.getD (j - 1) 0 < l.getD j 0))) true (fun k i _ h0 h1 => by
    simp only [impl_rising_isMember.l0, impl_isMember.f, in_some, h0, h1, if_true, Option.bind_some, wsucc h0 (by omega), rd]
    by_cases c : 1 ≤ l.getD i.toNat 0 ∧ l.getD i.toNat 0 ≤ 1000
    · by_cases c5 : i > 0
      · obtain ⟨p1, p2, p3⟩ := prev_of h0 (by omega) c5
        have p4 : i - 1 < l.length := by omega
        have p5 : ¬ i.toNat = 0 := by omega
        by_cases c6 : l.getD (i.toNat - 1) 0 < l.getD i.toNat 0
        · have c7 : ¬ l.getD (i.toNat - 1) 0 ≥ l.getD i.toNat 0 := by omega
          simp only [c, c5, c6, c7, p1, p2, p3, p4, p5, if_true, if_false, decide_true, decide_false, and_self, Bool.true_and, Bool.false_or]
        · have c7 : l.getD (i.toNat - 1) 0 ≥ l.getD i.toNat 0 := by omega
          simp only [c, c5, c6, c7, p1, p2, p3, p4, p5, if_true, if_false, decide_true, decide_false, and_self, Bool.true_and, Bool.false_or, Bool.false_eq_true]
      · have p5 : i.toNat = 0 := by omega
        rw [p5] at c ⊢
        simp only [c, c5, if_true, if_false, decide_true, and_self, Bool.true_and, Bool.true_or]
    · simp [c, -List.getD_eq_getElem?_getD]) (fun k _ => by simp only [impl_rising_isMember.l0, Int.lt_irrefl, if_false])
  exact ⟨K, fun k hk => by simpa [risesB, impl_rising_isMember.f] using hK k hk⟩
theorem l00Has_rounds (l : List Int) (x : Int) (h : l.length ≤ 1048576) : ∀ (m k : Nat) (i : Int), 0 ≤ i → i ≤ l.length → (l.length : Int) - i = m → m < k → spec_l00Has.l0 k l x i = some ((l.drop i.toNat).any fun y => decide (x = y)) := by
  intro m
  induction m with
  | zero =>
    intro k i h0 h1 hm hk
    obtain ⟨k, rfl⟩ : ∃ m, k = m + 1 := ⟨k - 1, by omega⟩
    have hi : ¬ i < (l.length : Int) := by omega
    simp only [spec_l00Has.l0, hi, if_false]
    rw [List.drop_of_length_le (by omega)]; rfl
  | succ m ih =>
    intro k i h0 h1 hm hk
    obtain ⟨k, rfl⟩ : ∃ m, k = m + 1 := ⟨k - 1, by omega⟩
    have hi : i < (l.length : Int) := by omega
    have hin : i.toNat < l.length := by omega
    have hx : l.getD i.toNat 0 = l[i.toNat] := by rw [List.getD_eq_getElem?_getD, List.getElem?_eq_getElem hin]; rfl
    rw [List.drop_eq_getElem_cons hin, List.any_cons]
    by_cases c : l[i.toNat] = x
    · simp only [spec_l00Has.l0, hi, h0, if_true, rd, hx, c, decide_true, Bool.true_or]
    · have c' : ¬ x = l[i.toNat] := fun e => c e.symm
      simp only [spec_l00Has.l0, hi, h0, if_true, if_false, rd, hx, c, c', decide_false, Bool.false_or, wsucc h0 (by omega)]
      rw [ih k (i + 1) (by omega) (by omega) (by omega) (by omega), show (i + 1).toNat = i.toNat + 1 by omega]
theorem l00Has_from (l : List Int) (x : Int) (h : l.length ≤ 1048576) (k : Nat) (hk : l.length < k) : spec_l00Has.f k l x = some (l.any fun y => decide (x = y)) := by
  have := l00Has_rounds l x h l.length k 0 (by omega) (by omega) (by omega) hk
  simpa [spec_l00Has.f] using this
theorem eqInt64S_from (l : List Int) (h : l.length ≤ 1073741824) : From (fun k => laws_eqInt64S.f k l l) true := by
  obtain ⟨K, hK⟩ := all_loop (fun k i => laws_eqInt64S.l0 k l l i) l.length (by omega) 0 true (fun k i _ h0 h1 => by
      simp only [laws_eqInt64S.l0, h0, h1, if_true, wsucc h0 (by omega)]) (fun k i _ h _ => by simp only [laws_eqInt64S.l0, h, if_false])
  refine ⟨K, fun k hk => ?_⟩
  simp only [laws_eqInt64S.f, if_true]
  exact hK k hk
theorem markInt64S_from (l : List Int) (m : Int) (hm : 0 ≤ m) (hb : m ≤ 4294967296) (h : l.length ≤ 1073741824) :
    ∃ ys, From (fun k => laws_markInt64S.f k l m) (m + 1 * l.length, ys) ∧ ys.length = l.length ∧ ∀ j : Nat, j < l.length → ys[j]? = some (m + 1 * j) :=
  mark_all (F := fun k xs m i => laws_markInt64S.l0 k xs m i) 1 (by omega) (by omega) (fun m => m) (fun k xs m i h0 h1 h2 h3 h4 => by
    simp only [laws_markInt64S.l0, h0, h1, if_true, wsucc h0 h2, wsucc h3 (by omega)]) (fun k xs m i h => by simp only [laws_markInt64S.l0, h, if_false]) l m hm (by omega) (by omega)
theorem heldInt64S_from (ys : List Int) (m : Int) (hm : 0 ≤ m) (hb : m ≤ 4294967296) (h : ys.length ≤ 1073741824) (hy : ∀ j : Nat, j < ys.length → ys[j]? = some (m + 1 * j)) :
    From (fun k => laws_heldInt64S.f k ys m) (m + 1 * ys.length) := by
  obtain ⟨K, hK⟩ := all_loop (fun k i => laws_heldInt64S.l0 k ys (m + 1 * i) i) ys.length (by omega) 0 (m + 1 * ys.length) (fun k i _ h0 h1 => by
      have hr : rd ys i = m + 1 * i := by
        have := hy i.toNat (by omega)
        rw [rd, getD_of this]; omega
      simp only [laws_heldInt64S.l0, h0, h1, if_true, hr, wsucc h0 (by omega), wsucc (show 0 ≤ m + 1 * i by omega) (by omega)]
      congr 1; omega) (fun k i _ h he => by subst he; simp only [laws_heldInt64S.l0, h, if_false])
  refine ⟨K, fun k hk => ?_⟩
  simp only [laws_heldInt64S.f]
  have := hK k hk
  simpa using this
/-- What the law does to numbers that were returned: equal to themselves, marked, and the marks held. -/
theorem ints_law (l : List Int) (h : l.length ≤ 1073741824) : ∃ ys : List Int, From (fun k => laws_markInt64S.f k l 1) (1 + l.length, ys) ∧ From (fun k => laws_heldInt64S.f k ys 1) (1 + l.length) := by
  obtain ⟨ys, h1, h2, h3⟩ := markInt64S_from l 1 (by omega) (by omega) h
  refine ⟨ys, by simpa using h1, ?_⟩
  have := heldInt64S_from ys 1 (by omega) (by omega) (by omega) (fun j hj => h3 j (by omega))
  rw [h2] at this
  simpa using this
theorem toInt64S_from (l : List Int) (h : l.length ≤ 1073741824) : From (fun k => laws_toInt64S.f k l) l := by
  obtain ⟨K, hK⟩ := fill_all (F := laws_toInt64S.l0) (fun x : Int => x) 0 0 (fun k xs ys i h0 h1 h2 h3 => by
      simp only [laws_toInt64S.l0, h0, h1, h2, if_true, wsucc h0 h3]; rfl) (fun k xs ys i h => by simp only [laws_toInt64S.l0, h, if_false]) l (by omega)
  refine ⟨K, fun k hk => ?_⟩
  simp only [laws_toInt64S.f, Int.toNat_natCast]
  rw [if_pos (by omega), if_pos (by omega)]
  simpa using hK k hk
/-- The law over two lists of numbers whose answer is a list of numbers: from what both answer. -/
theorem law_two (hb : ∀ (a b : List Int), a.length ≤ 1048576 → b.length ≤ 1048576 → ∃ g : List Int × Bool, g.1.length ≤ 4194304 ∧ From (fun k => spec_LessSet.f k a b) g ∧ From (fun k => impl_LessSet.f k a b) g) : laws_FnExactLessSet.Pure := by
  intro a b _ _ _ _ _ _
  by_cases ca : (a.length : Int) > 1048576
  · exact ⟨0, by simp only [laws_FnExactLessSet.f, ca, if_true]⟩
  by_cases cb : (b.length : Int) > 1048576
  · exact ⟨1, by simp only [laws_FnExactLessSet.f, laws_FnExactLessSet.j0, ca, cb, if_true, if_false]⟩
  obtain ⟨K0, e0⟩ := toInt64S_from a (by omega)
  obtain ⟨K1, e1⟩ := toInt64S_from b (by omega)
  obtain ⟨K2, e2⟩ := eqInt64S_from a (by omega)
  obtain ⟨K3, e3⟩ := eqInt64S_from b (by omega)
  obtain ⟨ya, ⟨K4, e4⟩, _, _⟩ := markInt64S_from a 1 (by omega) (by omega) (by omega)
  obtain ⟨yb, ⟨K5, e5⟩, _, _⟩ := markInt64S_from b (1 + 1 * a.length) (by omega) (by omega) (by omega)
  obtain ⟨g, hg, ⟨K8, e8⟩, ⟨K9, e9⟩⟩ := hb a b (by omega) (by omega)
  obtain ⟨K10, e10⟩ := eqInt64S_from g.1 (by omega)
  obtain ⟨ys, ⟨K11, e11⟩, ⟨K12, e12⟩⟩ := ints_law g.1 (by omega)
  generalize hK : K0 + K1 + K2 + K3 + K4 + K5 + K8 + K9 + K10 + K11 + K12 = K
  refine ⟨K + 14, ?_⟩
  have hp : ¬ (1 + (g.1.length : Int)) < 0 := by omega
  have hu : ¬ (1 + 1 * (a.length : Int) + 1 * (b.length : Int)) < 0 := by omega
  have hbb : (g.2 != g.2) = false := by simp
  have E0 := fun i => e0 (K + i) (by omega)
  have E1 := fun i => e1 (K + i) (by omega)
  have E2 := fun i => e2 (K + i) (by omega)
  have E3 := fun i => e3 (K + i) (by omega)
  have E4 := fun i => e4 (K + i) (by omega)
  have E5 := fun i => e5 (K + i) (by omega)
  have E8 := fun i => e8 (K + i) (by omega)
  have E9 := fun i => e9 (K + i) (by omega)
  have E10 := fun i => e10 (K + i) (by omega)
  have E11 := fun i => e11 (K + i) (by omega)
  have E12 := fun i => e12 (K + i) (by omega)
  clear e0 e1 e2 e3 e4 e5 e8 e9 e10 e11 e12
  simp only [laws_FnExactLessSet.f, ca, if_false]
  simp only [laws_FnExactLessSet.j0, cb, if_false]
  simp only [laws_FnExactLessSet.j1, E0, E1, E8, E9, E10, hbb, Option.bind_some, if_true]
  simp only [laws_FnExactLessSet.j2, Bool.false_eq_true, if_false]
  simp only [laws_FnExactLessSet.j3, E0, E2, Option.bind_some, if_true]
  simp only [laws_FnExactLessSet.j4, E1, E3, Option.bind_some, if_true]
  simp only [laws_FnExactLessSet.j5, E4, E5, E10, hu, hbb, Option.bind_some, if_true, if_false]
  simp only [laws_FnExactLessSet.j6, Bool.false_eq_true, if_false]
  simp only [laws_FnExactLessSet.j7, E11, E12, hp, Option.bind_some, if_false]
  simp only [laws_FnExactLessSet.j8, if_true]
  simp only [laws_FnExactLessSet.j9, E0, E1, E9, E10, hbb, Option.bind_some, if_true]
  simp only [laws_FnExactLessSet.j10, Bool.false_eq_true, if_false]
  simp only [laws_FnExactLessSet.j11, E12, hp, Option.bind_some, if_true, if_false]
theorem filterMap_not {α : Type} (p : α → Bool) : ∀ l : List α, l.filterMap (fun x => if p x = true then none else some x) = l.filter fun x => !p x
  | [] => rfl
  | x :: l => by
    rw [List.filterMap_cons, List.filter_cons]
    cases h : p x
    · simp [filterMap_not p l]
    · simp [filterMap_not p l]
theorem spec_less (a b : List Int) (ha : a.length ≤ 1048576) (hb : b.length ≤ 1048576) : From (fun k => spec_LessSet.l0 k a b [] a.length 0) (lessL a b, true) := by
  have := collect_then (fun k out i => spec_LessSet.l0 k a b out a.length i) a 0 (b.length + 1) (fun x => if (b.any fun y => decide (x = y)) = true then none else some x) (lessL a b, true) (fun k out i hk h0 h1 ho => by
    have e := l00Has_from b (a.getD i.toNat 0) hb k (by omega)
    have hl : out.length < 17592186044416 := by omega
    simp only [spec_LessSet.l0, h0, h1, if_true, rd, e, Option.bind_some, wsucc h0 (by omega)]
    cases b.any fun y => decide (a.getD i.toNat 0 = y)
    · simp only [Bool.false_eq_true, if_false, hl, if_true, Option.toList]
    · simp only [if_true, Option.toList, List.append_nil]) (fun k _ => by
    simp only [spec_LessSet.l0, Int.lt_irrefl, if_false, filterMap_not]
    rfl)
  exact this
theorem FnExactLessSet : laws_FnExactLessSet.Pure := law_two fun a b ha hb => by
  obtain ⟨K1, e1⟩ := l00Rises_from a (by omega)
  obtain ⟨K2, e2⟩ := l00Rises_from b (by omega)
  obtain ⟨K3, e3⟩ := rising_from a (by omega)
  obtain ⟨K4, e4⟩ := rising_from b (by omega)
  cases h1 : risesB a with
  | false =>
    rw [h1] at e1 e3
    refine ⟨([], false), by simp, ⟨K1 + 1, fun k hk => ?_⟩, ⟨K3, fun k hk => ?_⟩⟩
    · obtain ⟨k, rfl⟩ : ∃ n, k = n + 1 := ⟨k - 1, by omega⟩
      simp only [spec_LessSet.f, spec_l01Members.f, e1 (k + 1) (by omega), Option.bind_some, Bool.false_eq_true, if_false, spec_LessSet.j0, if_true]
    · simp only [impl_LessSet.f, impl_IsMembers.f, e3 k (by omega), Option.bind_some, Bool.false_eq_true, if_false]
  | true =>
    rw [h1] at e1 e3
    cases h2 : risesB b with
    | false =>
      rw [h2] at e2 e4
      refine ⟨([], false), by simp, ⟨K1 + K2 + 1, fun k hk => ?_⟩, ⟨K3 + K4, fun k hk => ?_⟩⟩
      · obtain ⟨k, rfl⟩ : ∃ n, k = n + 1 := ⟨k - 1, by omega⟩
        simp only [spec_LessSet.f, spec_l01Members.f, e1 (k + 1) (by omega), e2 (k + 1) (by omega), Option.bind_some, Bool.false_eq_true, if_false, if_true, spec_LessSet.j0, Bool.not_false]
      · simp only [impl_LessSet.f, impl_IsMembers.f, e3 k (by omega), e4 k (by omega), Option.bind_some, Bool.false_eq_true, if_false, if_true]
    | true =>
      rw [h2] at e2 e4
      obtain ⟨K5, e5⟩ := spec_less a b ha hb
      have hle : (lessL a b).length ≤ a.length := List.length_filter_le _ _
      have hc : slices_Clone.f a = some a := by
        unfold slices_Clone.f
        rw [if_pos (by omega)]
      refine ⟨(lessL a b, true), by simp; omega, ⟨K1 + K2 + K5 + 1, fun k hk => ?_⟩, ⟨K3 + K4, fun k hk => ?_⟩⟩
      · obtain ⟨k, rfl⟩ : ∃ n, k = n + 1 := ⟨k - 1, by omega⟩
        simp only [spec_LessSet.f, spec_l01Members.f, e1 (k + 1) (by omega), e2 (k + 1) (by omega), Option.bind_some, if_true, spec_LessSet.j0, Bool.not_true, Bool.false_eq_true, if_false]
        exact e5 k (by omega)
      · simp only [impl_LessSet.f, impl_IsMembers.f, e3 k (by omega), e4 k (by omega), Option.bind_some, if_true, hc]

end Go.Proofs.Ytopdflppdpmblaa.Pure
