/- The program's JoinSets returns what the reference's returns, for every two slices that can be read. -/
import Derived.Test.YtopdflppdpmblaaXFnExactJoinSetsx4
import Derived.Test.YtopdflppdpmblaaXP
import Derived.Test.YtopdflppdpmblaaXQ
namespace Go.Proofs.Ytopdflppdpmblaa.Pure
open Go.RowKit Go.Proofs.Ytopdflppdpmblaa.XFnExactJoinSets Go.Proofs.YtopdflppdpmblaaW.PrintWords Go.Proofs.YtopdflppdpmblaaW.PrintLast Go.Proofs.Ytopdflppdpmblaa.XP Go.Proofs.Ytopdflppdpmblaa.XQ Go.Proofs.Ytopdflppdpmblaa.XP Go.Proofs.Ytopdflppdpmblaa.XQ
set_option linter.unusedVariables false
set_option linter.unusedSimpArgs false

theorem in_eq (a b c : Int) : spec_l00In.f a b c = impl_in.f a b c := rfl
theorem in_some (a b c : Int) : impl_in.f a b c = some (decide (b ≤ a ∧ a ≤ c)) := by
  unfold impl_in.f
  split
  · congr 1; rw [decide_eq_decide]; omega
  · congr 1; symm; rw [decide_eq_false_iff_not]; omega

def risesB (l : List Int) : Bool := (List.range l.length).all fun j => decide (1 ≤ l.getD j 0 ∧ l.getD j 0 ≤ 1000) && (decide (j = 0) || decide (l.getD (j - 1) 0 < l.getD j 0))
theorem prev_of {i : Int} (h0 : 0 ≤ i) (h1 : i ≤ 4611686018427387904) (hp : i > 0) : wrap64 (i - 1) = i - 1 ∧ (i - 1).toNat = i.toNat - 1 ∧ 0 ≤ i - 1 := ⟨wpred h0 h1, by omega, by omega⟩
theorem l00Rises_from (l : List Int) (h : l.length ≤ 1073741824) : From (fun k => spec_l00Rises.f k l 1 1000) (risesB l) := by
  obtain ⟨K, hK⟩ := test_loopB (fun k i => spec_l00Rises.l0 k l 1 1000 i) l.length 0 (fun j => decide (1 ≤ l.getD j 0 ∧ l.getD j 0 ≤ 1000) && (decide (j = 0) || decide (l.getD (j - 1) 0 < l.getD j 0))) true (fun k i _ h0 h1 => by
    simp only [spec_l00Rises.l0, in_eq, in_some, h0, h1, if_true, Option.bind_some, wsucc h0 (by omega), rd]
    by_cases c : 1 ≤ l.getD i.toNat 0 ∧ l.getD i.toNat 0 ≤ 1000
    · by_cases c5 : i > 0
      · obtain ⟨p1, p2, p3⟩ := prev_of h0 (by omega) c5
        have p4 : i - 1 < l.length := by omega
        have p5 : ¬ i.toNat = 0 := by omega
        by_cases c6 : l.getD (i.toNat - 1) 0 < l.getD i.toNat 0
        · have c7 : ¬ l.getD (i.toNat - 1) 0 ≥ l.getD i.toNat 0 := by omega
          simp only [c, c5, c6, c7, p1, p2, p3, p4, p5, if_true, if_false, decide_true, decide_false, and_self, Bool.true_and, Bool.false_or]
        · have c7 : l.getD (i.toNat - 1) 0 ≥ l.getD i.toNat 0 := by omega
          simp only [c, c5, c6, c7, p1, p2, p3, p4, p5, if_true, if_false, decide_true, decide_false, and_self, Bool.true_and, Bool.false_or, Bool.false_eq_true]
      · have p5 : i.toNat = 0 := by omega
        rw [p5] at c ⊢
        simp only [c, c5, if_true, if_false, decide_true, and_self, Bool.true_and, Bool.true_or]
    · simp [c, -List.getD_eq_getElem?_getD]) (fun k _ => by simp only [spec_l00Rises.l0, Int.lt_irrefl, if_false])
  exact ⟨K, fun k hk => by simpa [risesB, spec_l00Rises.f] using hK k hk⟩
theorem rising_from (l : List Int) (h : l.length ≤ 1073741824) : From (fun k => impl_rising_isMember.f k l) (risesB l) := by
  obtain ⟨K, hK⟩ := test_loopB (fun k i => impl_rising_isMember.l0 k l l l.length i) l.length 0 (fun j => decide (1 ≤ l.getD j 0 ∧ l.getD j 0 ≤ 1000) && (decide (j = 0) || decide (l.getD (j - 1) 0 < l.getD j 0))) true (fun k i _ h0 h1 => by
    simp only [impl_rising_isMember.l0, impl_isMember.f, in_some, h0, h1, if_true, Option.bind_some, wsucc h0 (by omega), rd]
    by_cases c : 1 ≤ l.getD i.toNat 0 ∧ l.getD i.toNat 0 ≤ 1000
    · by_cases c5 : i > 0
      · obtain ⟨p1, p2, p3⟩ := prev_of h0 (by omega) c5
        have p4 : i - 1 < l.length := by omega
        have p5 : ¬ i.toNat = 0 := by omega
        by_cases c6 : l.getD (i.toNat - 1) 0 < l.getD i.toNat 0
        · have c7 : ¬ l.getD (i.toNat - 1) 0 ≥ l.getD i.toNat 0 := by omega
          simp only [c, c5, c6, c7, p1, p2, p3, p4, p5, if_true, if_false, decide_true, decide_false, and_self, Bool.true_and, Bool.false_or]
        · have c7 : l.getD (i.toNat - 1) 0 ≥ l.getD i.toNat 0 := by omega
          simp only [c, c5, c6, c7, p1, p2, p3, p4, p5, if_true, if_false, decide_true, decide_false, and_self, Bool.true_and, Bool.false_or, Bool.false_eq_true]
      · have p5 : i.toNat = 0 := by omega
        rw [p5] at c ⊢
        simp only [c, c5, if_true, if_false, decide_true, and_self, Bool.true_and, Bool.true_or]
    · simp [c, -List.getD_eq_getElem?_getD]) (fun k _ => by simp only [impl_rising_isMember.l0, Int.lt_irrefl, if_false])
  exact ⟨K, fun k hk => by simpa [risesB, impl_rising_isMember.f] using hK k hk⟩
theorem rises_pairwise {l : List Int} (h : risesB l = true) : l.Pairwise (· < ·) := by
  unfold risesB at h
  rw [List.all_eq_true] at h
  have st : ∀ j, 0 < j → j < l.length → l.getD (j - 1) 0 < l.getD j 0 := by
    intro j h0 hj
    have := h j (List.mem_range.2 hj)
    simp only [Bool.and_eq_true, Bool.or_eq_true, decide_eq_true_eq] at this
    rcases this.2 with e | e
    · omega
    · exact e
  have up := steps_up (fun j => l.getD j 0) l.length st
  rw [List.pairwise_iff_getElem]
  intro i j hi hj hij
  have := up i j hij hj
  simp only [List.getD_eq_getElem?_getD, List.getElem?_eq_getElem hi, List.getElem?_eq_getElem hj, Option.getD_some] at this
  exact this
theorem rises_bounds {l : List Int} (h : risesB l = true) : ∀ x ∈ l, 1 ≤ x ∧ x ≤ 1000 := by
  unfold risesB at h
  rw [List.all_eq_true] at h
  intro x hx
  obtain ⟨j, hj, rfl⟩ := List.mem_iff_getElem.1 hx
  have := h j (List.mem_range.2 hj)
  simp only [Bool.and_eq_true, Bool.or_eq_true, decide_eq_true_eq, List.getD_eq_getElem?_getD, List.getElem?_eq_getElem hj, Option.getD_some] at this
  exact this.1
theorem l00Put_done (l : List Int) (n : Int) (h : l.length ≤ 1048576) : ∀ (m k : Nat) (out : List Int) (i : Int), 0 ≤ i → i ≤ l.length → (l.length : Int) - i = m → 2 * m < k → out.length ≤ 2097152 - m → spec_l00Put.l0 k l n out true i = some (out ++ l.drop i.toNat) := by
  intro m
  induction m with
  | zero =>
    intro k out i h0 h1 hm hk ho
    obtain ⟨k, rfl⟩ : ∃ m, k = m + 1 := ⟨k - 1, by omega⟩
    have hi : ¬ i < (l.length : Int) := by omega
    simp only [spec_l00Put.l0, hi, if_false, if_true]
    rw [List.drop_of_length_le (by omega), List.append_nil]
  | succ m ih =>
    intro k out i h0 h1 hm hk ho
    obtain ⟨k, rfl⟩ : ∃ m, k = m + 2 := ⟨k - 2, by omega⟩
    have hi : i < (l.length : Int) := by omega
    have hin : i.toNat < l.length := by omega
    have hb : out.length < 17592186044416 := by omega
    simp only [spec_l00Put.l0, spec_l00Put.j1, hi, h0, hb, if_true, if_false, Bool.false_eq_true, wsucc h0 (by omega), rd]
    rw [ih k _ (i + 1) (by omega) (by omega) (by omega) (by omega) (by simp; omega), List.drop_eq_getElem_cons hin, show (i + 1).toNat = i.toNat + 1 by omega, List.getD_eq_getElem?_getD, List.getElem?_eq_getElem hin]
    simp [-List.getElem_cons_drop]
theorem l00Put_rounds (l : List Int) (n : Int) (h : l.length ≤ 1048576) : ∀ (m k : Nat) (out : List Int) (i : Int), 0 ≤ i → i ≤ l.length → (l.length : Int) - i = m → 2 * m < k → (out.length : Int) = i → spec_l00Put.l0 k l n out false i = some (out ++ putL (l.drop i.toNat) n) := by
  intro m
  induction m with
  | zero =>
    intro k out i h0 h1 hm hk ho
    obtain ⟨k, rfl⟩ : ∃ m, k = m + 1 := ⟨k - 1, by omega⟩
    have hi : ¬ i < (l.length : Int) := by omega
    have hb : out.length < 17592186044416 := by omega
    simp only [spec_l00Put.l0, hi, hb, if_false, if_true, Bool.false_eq_true]
    rw [List.drop_of_length_le (by omega), putL]
  | succ m ih =>
    intro k out i h0 h1 hm hk ho
    obtain ⟨k, rfl⟩ : ∃ m, k = m + 2 := ⟨k - 2, by omega⟩
    have hi : i < (l.length : Int) := by omega
    have hin : i.toNat < l.length := by omega
    have hb : out.length < 17592186044416 := by omega
    have hb2 : out.length + 1 < 17592186044416 := by omega
    have hx : l.getD i.toNat 0 = l[i.toNat] := by rw [List.getD_eq_getElem?_getD, List.getElem?_eq_getElem hin]; rfl
    rw [List.drop_eq_getElem_cons hin]
    by_cases c1 : l[i.toNat] ≥ n
    · by_cases c2 : l[i.toNat] > n
      · simp only [spec_l00Put.l0, spec_l00Put.j1, hi, h0, hb, hb2, if_true, if_false, Bool.false_eq_true, wsucc h0 (by omega), rd, hx, c1, c2, decide_true, Option.bind_some, List.length_append, List.length_singleton, putL]
        rw [l00Put_done l n h m k _ (i + 1) (by omega) (by omega) (by omega) (by omega) (by simp; omega), show (i + 1).toNat = i.toNat + 1 by omega]
        simp [-List.getElem_cons_drop]
      · simp only [spec_l00Put.l0, spec_l00Put.j1, hi, h0, hb, if_true, if_false, Bool.false_eq_true, wsucc h0 (by omega), rd, hx, c1, c2, decide_true, putL]
        rw [l00Put_done l n h m k _ (i + 1) (by omega) (by omega) (by omega) (by omega) (by simp; omega), show (i + 1).toNat = i.toNat + 1 by omega]
        simp [-List.getElem_cons_drop]
    · simp only [spec_l00Put.l0, spec_l00Put.j1, hi, h0, hb, if_true, if_false, Bool.false_eq_true, wsucc h0 (by omega), rd, hx, c1, decide_false, putL]
      rw [ih k _ (i + 1) (by omega) (by omega) (by omega) (by omega) (by simp; omega), show (i + 1).toNat = i.toNat + 1 by omega]
      simp
theorem l00Put_from (l : List Int) (n : Int) (h : l.length ≤ 1048576) : ∀ k, 2 * l.length + 1 ≤ k → spec_l00Put.f k l n = some (putL l n) := fun k hk => by
  have := l00Put_rounds l n h l.length k [] 0 (by omega) (by omega) (by omega) (by omega) (by simp)
  simpa [spec_l00Put.f] using this
theorem eqInt64S_from (l : List Int) (h : l.length ≤ 1073741824) : From (fun k => laws_eqInt64S.f k l l) true := by
  obtain ⟨K, hK⟩ := all_loop (fun k i => laws_eqInt64S.l0 k l l i) l.length (by omega) 0 true (fun k i _ h0 h1 => by
      simp only [laws_eqInt64S.l0, h0, h1, if_true, wsucc h0 (by omega)]) (fun k i _ h _ => by simp only [laws_eqInt64S.l0, h, if_false])
  refine ⟨K, fun k hk => ?_⟩
  simp only [laws_eqInt64S.f, if_true]
  exact hK k hk
theorem markInt64S_from (l : List Int) (m : Int) (hm : 0 ≤ m) (hb : m ≤ 4294967296) (h : l.length ≤ 1073741824) :
    ∃ ys, From (fun k => laws_markInt64S.f k l m) (m + 1 * l.length, ys) ∧ ys.length = l.length ∧ ∀ j : Nat, j < l.length → ys[j]? = some (m + 1 * j) :=
  mark_all (F := fun k xs m i => laws_markInt64S.l0 k xs m i) 1 (by omega) (by omega) (fun m => m) (fun k xs m i h0 h1 h2 h3 h4 => by
    simp only [laws_markInt64S.l0, h0, h1, if_true, wsucc h0 h2, wsucc h3 (by omega)]) (fun k xs m i h => by simp only [laws_markInt64S.l0, h, if_false]) l m hm (by omega) (by omega)
theorem heldInt64S_from (ys : List Int) (m : Int) (hm : 0 ≤ m) (hb : m ≤ 4294967296) (h : ys.length ≤ 1073741824) (hy : ∀ j : Nat, j < ys.length → ys[j]? = some (m + 1 * j)) :
    From (fun k => laws_heldInt64S.f k ys m) (m + 1 * ys.length) := by
  obtain ⟨K, hK⟩ := all_loop (fun k i => laws_heldInt64S.l0 k ys (m + 1 * i) i) ys.length (by omega) 0 (m + 1 * ys.length) (fun k i _ h0 h1 => by
      have hr : rd ys i = m + 1 * i := by
        have := hy i.toNat (by omega)
        rw [rd, getD_of this]; omega
      simp only [laws_heldInt64S.l0, h0, h1, if_true, hr, wsucc h0 (by omega), wsucc (show 0 ≤ m + 1 * i by omega) (by omega)]
      congr 1; omega) (fun k i _ h he => by subst he; simp only [laws_heldInt64S.l0, h, if_false])
  refine ⟨K, fun k hk => ?_⟩
  simp only [laws_heldInt64S.f]
  have := hK k hk
  simpa using this
/-- What the law does to numbers that were returned: equal to themselves, marked, and the marks held. -/
theorem ints_law (l : List Int) (h : l.length ≤ 1073741824) : ∃ ys : List Int, From (fun k => laws_markInt64S.f k l 1) (1 + l.length, ys) ∧ From (fun k => laws_heldInt64S.f k ys 1) (1 + l.length) := by
  obtain ⟨ys, h1, h2, h3⟩ := markInt64S_from l 1 (by omega) (by omega) h
  refine ⟨ys, by simpa using h1, ?_⟩
  have := heldInt64S_from ys 1 (by omega) (by omega) (by omega) (fun j hj => h3 j (by omega))
  rw [h2] at this
  simpa using this
theorem toInt64S_from (l : List Int) (h : l.length ≤ 1073741824) : From (fun k => laws_toInt64S.f k l) l := by
  obtain ⟨K, hK⟩ := fill_all (F := laws_toInt64S.l0) (fun x : Int => x) 0 0 (fun k xs ys i h0 h1 h2 h3 => by
      simp only [laws_toInt64S.l0, h0, h1, h2, if_true, wsucc h0 h3]; rfl) (fun k xs ys i h => by simp only [laws_toInt64S.l0, h, if_false]) l (by omega)
  refine ⟨K, fun k hk => ?_⟩
  simp only [laws_toInt64S.f, Int.toNat_natCast]
  rw [if_pos (by omega), if_pos (by omega)]
  simpa using hK k hk
/-- The law over two lists of numbers whose answer is a list of numbers: from what both answer. -/
theorem law_two (hb : ∀ (a b : List Int), a.length ≤ 1048576 → b.length ≤ 1048576 → ∃ g : List Int × Bool, g.1.length ≤ 4194304 ∧ From (fun k => spec_JoinSets.f k a b) g ∧ From (fun k => impl_JoinSets.f k a b) g) : laws_FnExactJoinSets.Pure := by
  intro a b _ _ _ _ _ _
  by_cases ca : (a.length : Int) > 1048576
  · exact ⟨0, by simp only [laws_FnExactJoinSets.f, ca, if_true]⟩
  by_cases cb : (b.length : Int) > 1048576
  · exact ⟨1, by simp only [laws_FnExactJoinSets.f, laws_FnExactJoinSets.j0, ca, cb, if_true, if_false]⟩
  obtain ⟨K0, e0⟩ := toInt64S_from a (by omega)
  obtain ⟨K1, e1⟩ := toInt64S_from b (by omega)
  obtain ⟨K2, e2⟩ := eqInt64S_from a (by omega)
  obtain ⟨K3, e3⟩ := eqInt64S_from b (by omega)
  obtain ⟨ya, ⟨K4, e4⟩, _, _⟩ := markInt64S_from a 1 (by omega) (by omega) (by omega)
  obtain ⟨yb, ⟨K5, e5⟩, _, _⟩ := markInt64S_from b (1 + 1 * a.length) (by omega) (by omega) (by omega)
  obtain ⟨g, hg, ⟨K8, e8⟩, ⟨K9, e9⟩⟩ := hb a b (by omega) (by omega)
  obtain ⟨K10, e10⟩ := eqInt64S_from g.1 (by omega)
  obtain ⟨ys, ⟨K11, e11⟩, ⟨K12, e12⟩⟩ := ints_law g.1 (by omega)
  generalize hK : K0 + K1 + K2 + K3 + K4 + K5 + K8 + K9 + K10 + K11 + K12 = K
  refine ⟨K + 14, ?_⟩
  have hp : ¬ (1 + (g.1.length : Int)) < 0 := by omega
  have hu : ¬ (1 + 1 * (a.length : Int) + 1 * (b.length : Int)) < 0 := by omega
  have hbb : (g.2 != g.2) = false := by simp
  have E0 := fun i => e0 (K + i) (by omega)
  have E1 := fun i => e1 (K + i) (by omega)
  have E2 := fun i => e2 (K + i) (by omega)
  have E3 := fun i => e3 (K + i) (by omega)
  have E4 := fun i => e4 (K + i) (by omega)
  have E5 := fun i => e5 (K + i) (by omega)
  have E8 := fun i => e8 (K + i) (by omega)
  have E9 := fun i => e9 (K + i) (by omega)
  have E10 := fun i => e10 (K + i) (by omega)
  have E11 := fun i => e11 (K + i) (by omega)
  have E12 := fun i => e12 (K + i) (by omega)
  clear e0 e1 e2 e3 e4 e5 e8 e9 e10 e11 e12
  simp only [laws_FnExactJoinSets.f, ca, if_false]
  simp only [laws_FnExactJoinSets.j0, cb, if_false]
  simp only [laws_FnExactJoinSets.j1, E0, E1, E8, E9, E10, hbb, Option.bind_some, if_true]
  simp only [laws_FnExactJoinSets.j2, Bool.false_eq_true, if_false]
  simp only [laws_FnExactJoinSets.j3, E0, E2, Option.bind_some, if_true]
  simp only [laws_FnExactJoinSets.j4, E1, E3, Option.bind_some, if_true]
  simp only [laws_FnExactJoinSets.j5, E4, E5, E10, hu, hbb, Option.bind_some, if_true, if_false]
  simp only [laws_FnExactJoinSets.j6, Bool.false_eq_true, if_false]
  simp only [laws_FnExactJoinSets.j7, E11, E12, hp, Option.bind_some, if_false]
  simp only [laws_FnExactJoinSets.j8, if_true]
  simp only [laws_FnExactJoinSets.j9, E0, E1, E9, E10, hbb, Option.bind_some, if_true]
  simp only [laws_FnExactJoinSets.j10, Bool.false_eq_true, if_false]
  simp only [laws_FnExactJoinSets.j11, E12, hp, Option.bind_some, if_true, if_false]
theorem concat_two (a b : List Int) (ha : a.length ≤ 1048576) (hb : b.length ≤ 1048576) (k : Nat) (hk : 6 ≤ k) : slices_Concat_int64_int64.f k [a, b] = some (a ++ b) := by
  obtain ⟨k, rfl⟩ : ∃ n, k = n + 6 := ⟨k - 6, by omega⟩
  have r0 : rd_L1 [a, b] 0 = a := rfl
  have r1 : rd_L1 [a, b] 1 = b := rfl
  have w0 : wrap64 (0 + 1) = 1 := by rw [w64 (by omega) (by omega)]; rfl
  have w1 : wrap64 (1 + 1) = 2 := by rw [w64 (by omega) (by omega)]; rfl
  have wa : wrap64 (0 + (a.length : Int)) = a.length := by rw [w64 (by omega) (by omega)]; omega
  have wb : wrap64 ((a.length : Int) + b.length) = a.length + b.length := w64 (by omega) (by omega)
  have ha' : ¬ (a.length : Int) < 0 := by omega
  have hb' : ¬ (a.length : Int) + b.length < 0 := by omega
  have hg : slices_Grow.f ([] : List Int) ((a.length : Int) + b.length) = some [] := by
    unfold slices_Grow.f
    rw [if_pos ⟨by omega, by simp; omega⟩]
  have l0 : [a, b].length = 2 := rfl
  have h1 : (0 : Nat) + a.length < 17592186044416 := by omega
  have h2 : a.length + b.length < 17592186044416 := by omega
  have c2 : ((2 : Nat) : Int) = 2 := rfl
  simp only [slices_Concat_int64_int64.f, slices_Concat_int64_int64.l0, l0, c2, r0, r1, w0, w1, wa, wb, ha', hb', hg, Option.bind_some, if_false, if_true, slices_Concat_int64_int64.l1, List.nil_append, List.length_nil, h1, h2, show (0 : Int) < 2 by decide, show (0 : Int) ≤ 0 by decide, show (1 : Int) < 2 by decide, show (0 : Int) ≤ 1 by decide, Int.lt_irrefl]
theorem spec_join_from (a b : List Int) (ha : a.length ≤ 524288) (hb : b.length ≤ 524288) : From (fun k => spec_l01Join.f k a b) (putMany a b) := by
  have hl : ∀ j, ((b.take j).foldl putL a).length ≤ 1048576 := fun j => by
    have := putMany_length (b.take j) a
    unfold putMany at this
    rw [List.length_take] at this
    omega
  obtain ⟨K, hK⟩ := fold_then (fun k s i => spec_l01Join.l0 k b s b.length i) b 0 4194304 putL a (putMany a b) (fun k i hk h0 h1 => by
    have e := l00Put_from ((b.take i.toNat).foldl putL a) (b.getD i.toNat 0) (hl _) k (by have := hl i.toNat; omega)
    simp only [spec_l01Join.l0, h0, h1, if_true, rd, e, Option.bind_some, wsucc h0 (by omega)]) (fun k _ => by
    simp only [spec_l01Join.l0, Int.lt_irrefl, if_false, putMany])
  have h : a.length < 17592186044416 := by omega
  have h0 : (0 : Nat) + a.length < 17592186044416 := by omega
  exact ⟨K, fun k hk => by simp only [spec_l01Join.f, spec_l00Own.f, Option.bind_some, List.length_nil, h0, if_true, List.nil_append]; exact hK k hk⟩
theorem short_of {l : List Int} (h : risesB l = true) : l.length ≤ 1000 := by
  have h1 := rises_pairwise h
  have h2 := rises_bounds h
  have key : ∀ (l : List Int) (m : Int), l.Pairwise (· < ·) → (∀ x ∈ l, m ≤ x ∧ x ≤ 1000) → (l.length : Int) ≤ max 0 (1001 - m) := by
    intro l
    induction l with
    | nil => intro m _ _; simp; omega
    | cons x l ih =>
      intro m hp hb
      rw [List.pairwise_cons] at hp
      have hx := hb x List.mem_cons_self
      have := ih (x + 1) hp.2 fun y hy => by
        have h3 := hp.1 y hy
        have h4 := hb y (List.mem_cons_of_mem _ hy)
        omega
      simp only [List.length_cons]
      omega
  have := key l 1 h1 h2
  omega
theorem FnExactJoinSets : laws_FnExactJoinSets.Pure := law_two fun a b ha hb => by
  obtain ⟨K1, e1⟩ := l00Rises_from a (by omega)
  obtain ⟨K2, e2⟩ := l00Rises_from b (by omega)
  obtain ⟨K3, e3⟩ := rising_from a (by omega)
  obtain ⟨K4, e4⟩ := rising_from b (by omega)
  cases h1 : risesB a with
  | false =>
    rw [h1] at e1 e3
    refine ⟨([], false), by simp, ⟨K1, fun k hk => by simp only [spec_JoinSets.f, spec_l01Members.f, e1 k hk, Option.bind_some, Bool.false_eq_true, if_false]⟩, ⟨K3 + 1, fun k hk => ?_⟩⟩
    obtain ⟨k, rfl⟩ : ∃ n, k = n + 1 := ⟨k - 1, by omega⟩
    simp only [impl_JoinSets.f, impl_IsMembers.f, e3 (k + 1) (by omega), Option.bind_some, Bool.false_eq_true, if_false, impl_JoinSets.j0, if_true]
  | true =>
    rw [h1] at e1 e3
    cases h2 : risesB b with
    | false =>
      rw [h2] at e2 e4
      refine ⟨([], false), by simp, ⟨K1 + K2, fun k hk => by simp only [spec_JoinSets.f, spec_l01Members.f, e1 k (by omega), e2 k (by omega), Option.bind_some, Bool.false_eq_true, if_false, if_true]⟩, ⟨K3 + K4 + 1, fun k hk => ?_⟩⟩
      obtain ⟨k, rfl⟩ : ∃ n, k = n + 1 := ⟨k - 1, by omega⟩
      simp only [impl_JoinSets.f, impl_IsMembers.f, e3 (k + 1) (by omega), e4 (k + 1) (by omega), Option.bind_some, Bool.false_eq_true, if_false, impl_JoinSets.j0, if_true, Bool.not_false]
    | true =>
      rw [h2] at e2 e4
      have la := short_of h1
      have lb := short_of h2
      obtain ⟨K5, e5⟩ := spec_join_from a b (by omega) (by omega)
      have hs : setOf (a ++ b) = putMany a b := by
        obtain ⟨s1, s2⟩ := setOf_tells (a ++ b)
        exact rise_ext s1 (putMany_rise b (rises_pairwise h1)) fun x => by rw [s2, putMany_mem, List.mem_append]
      have hlen := putMany_length b a
      refine ⟨(putMany a b, true), by simp; omega, ⟨K1 + K2 + K5, fun k hk => by simp only [spec_JoinSets.f, spec_l01Members.f, e1 k (by omega), e2 k (by omega), e5 k (by omega), Option.bind_some, if_true]⟩, ⟨K3 + K4 + 7, fun k hk => ?_⟩⟩
      obtain ⟨k, rfl⟩ : ∃ n, k = n + 1 := ⟨k - 1, by omega⟩
      have c1 := concat_two a b ha hb k (by omega)
      have h3 : (a ++ b).length < 4611686018427387904 := by rw [List.length_append]; omega
      have h4 : ((a ++ b).mergeSort fun x y => decide (x ≤ y)).length ≤ 9223372036854775807 := by rw [List.length_mergeSort, List.length_append]; omega
      simp only [impl_JoinSets.f, impl_IsMembers.f, e3 (k + 1) (by omega), e4 (k + 1) (by omega), Option.bind_some, if_true, impl_JoinSets.j0, Bool.not_true, Bool.false_eq_true, if_false, c1, slices_Sort.f, slices_Compact.f, if_pos h3, if_pos h4]
      rw [← hs]
      rfl

end Go.Proofs.Ytopdflppdpmblaa.Pure
