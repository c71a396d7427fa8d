/- Plain lemmas of this session on rising lists (sets of numbers): sorted and compacted, put in one by one, joined. No Go and no memory in them. No condition. -/
import Derived.Test.YtallocgnpbpbhabVFnExactCountsOfXP
import Derived.Lib.SlicesCompact
namespace Go.Proofs.Ytallocgnpbpbhab.XQ
open Go.Proofs.Ytallocgnpbpbhab.XP
set_option linter.unusedVariables false

/-- Rising lists with the same members are one list. -/
theorem rise_ext : ∀ {a b : List Int}, a.Pairwise (· < ·) → b.Pairwise (· < ·) → (∀ x, x ∈ a ↔ x ∈ b) → a = b
  | [], [], _, _, _ => rfl
  | [], y :: b, _, _, h => absurd ((h y).2 List.mem_cons_self) (by simp)
  | x :: a, [], _, _, h => absurd ((h x).1 List.mem_cons_self) (by simp)
  | x :: a, y :: b, ha, hb, h => by
    rw [List.pairwise_cons] at ha hb
    have hx : x = y := by
      have h1 := (h x).1 List.mem_cons_self
      have h2 := (h y).2 List.mem_cons_self
      rcases List.mem_cons.1 h1 with e | e
      · exact e
      · rcases List.mem_cons.1 h2 with e2 | e2
        · exact e2.symm
        · have := hb.1 x e; have := ha.1 y e2; omega
    subst hx
    congr 1
    refine rise_ext ha.2 hb.2 fun z => ⟨fun hz => ?_, fun hz => ?_⟩
    · rcases List.mem_cons.1 ((h z).1 (List.mem_cons_of_mem _ hz)) with e | e
      · have := ha.1 z hz; omega
      · exact e
    · rcases List.mem_cons.1 ((h z).2 (List.mem_cons_of_mem _ hz)) with e | e
      · have := hb.1 z hz; omega
      · exact e

/-- A number put to its place in a rising list, once. -/
def putL : List Int → Int → List Int
  | [], n => [n]
  | x :: xs, n => if x ≥ n then (if x > n then n :: x :: xs else x :: xs) else x :: putL xs n
theorem putL_mem (n : Int) : ∀ (l : List Int) (x : Int), x ∈ putL l n ↔ x ∈ l ∨ x = n
  | [], x => by simp [putL]
  | y :: l, x => by
    unfold putL
    by_cases h1 : y ≥ n
    · rw [if_pos h1]
      by_cases h2 : y > n
      · rw [if_pos h2]; simp only [List.mem_cons]
        constructor
        · rintro (h | h | h)
          · exact .inr h
          · exact .inl (.inl h)
          · exact .inl (.inr h)
        · rintro ((h | h) | h)
          · exact .inr (.inl h)
          · exact .inr (.inr h)
          · exact .inl h
      · rw [if_neg h2]
        have : y = n := by omega
        subst this
        simp only [List.mem_cons]
        constructor
        · exact .inl
        · rintro (h | h)
          · exact h
          · exact .inl h
    · rw [if_neg h1]
      simp only [List.mem_cons, putL_mem n l x]
      constructor
      · rintro (h | h | h)
        · exact .inl (.inl h)
        · exact .inl (.inr h)
        · exact .inr h
      · rintro ((h | h) | h)
        · exact .inl h
        · exact .inr (.inl h)
        · exact .inr (.inr h)
theorem putL_rise (n : Int) : ∀ {l : List Int}, l.Pairwise (· < ·) → (putL l n).Pairwise (· < ·)
  | [], _ => by simp [putL]
  | y :: l, h => by
    unfold putL
    rw [List.pairwise_cons] at h
    by_cases h1 : y ≥ n
    · rw [if_pos h1]
      by_cases h2 : y > n
      · rw [if_pos h2, List.pairwise_cons, List.pairwise_cons]
        refine ⟨fun z hz => ?_, h.1, h.2⟩
        rcases List.mem_cons.1 hz with e | e
        · omega
        · have := h.1 z e; omega
      · rw [if_neg h2, List.pairwise_cons]; exact h
    · rw [if_neg h1, List.pairwise_cons]
      refine ⟨fun z hz => ?_, putL_rise n h.2⟩
      rcases (putL_mem n l z).1 hz with e | e
      · exact h.1 z e
      · omega
theorem putL_length (n : Int) : ∀ (l : List Int), (putL l n).length ≤ l.length + 1
  | [] => by simp [putL]
  | y :: l => by
    unfold putL
    split
    · split <;> simp
    · simp [putL_length n l]
/-- Numbers put in one by one. -/
def putMany (l : List Int) (ns : List Int) : List Int := ns.foldl putL l
theorem putMany_mem : ∀ (ns l : List Int) (x : Int), x ∈ putMany l ns ↔ x ∈ l ∨ x ∈ ns
  | [], l, x => by simp [putMany]
  | n :: ns, l, x => by
    show x ∈ putMany (putL l n) ns ↔ _
    rw [putMany_mem ns (putL l n) x, putL_mem, List.mem_cons]
    constructor
    · rintro ((h | h) | h)
      · exact .inl h
      · exact .inr (.inl h)
      · exact .inr (.inr h)
    · rintro (h | h | h)
      · exact .inl (.inl h)
      · exact .inl (.inr h)
      · exact .inr h
theorem putMany_rise : ∀ (ns : List Int) {l : List Int}, l.Pairwise (· < ·) → (putMany l ns).Pairwise (· < ·)
  | [], _, h => h
  | n :: ns, _, h => putMany_rise ns (putL_rise n h)
theorem putMany_length : ∀ (ns l : List Int), (putMany l ns).length ≤ l.length + ns.length
  | [], l => by simp [putMany]
  | n :: ns, l => by
    have h1 := putMany_length ns (putL l n)
    have h2 := putL_length n l
    show (putMany (putL l n) ns).length ≤ _
    simp only [List.length_cons]
    omega

/-- What slices.Compact leaves of a row that never falls: rising, with the same members. -/
theorem compactUpTo_tells (d : Array Int) (hd : ∀ i j, i < j → j < d.size → d[i]! ≤ d[j]!) : ∀ m, m ≤ d.size →
    (Lib.compactUpTo d m).Pairwise (· < ·) ∧ (∀ x, x ∈ Lib.compactUpTo d m ↔ ∃ j, j < m ∧ d[j]! = x) ∧ (∀ x ∈ Lib.compactUpTo d m, x ≤ d[m - 1]!) := by
  intro m
  induction m with
  | zero => intro _; refine ⟨by simp [Lib.compactUpTo], fun x => by simp [Lib.compactUpTo], fun x hx => by simp [Lib.compactUpTo] at hx⟩
  | succ m ih =>
    intro hm
    obtain ⟨h1, h2, h3⟩ := ih (by omega)
    rw [Lib.compactUpTo_succ]
    by_cases hk : Lib.keeps d m = true
    · rw [if_pos hk]
      have hgt : ∀ x ∈ Lib.compactUpTo d m, x < d[m]! := by
        intro x hx
        have h4 := h3 x hx
        have h0 : m ≠ 0 := by rintro rfl; simp [Lib.compactUpTo] at hx
        have h5 := hd (m - 1) m (by omega) (by omega)
        have h6 : d[m]! ≠ d[m - 1]! := by
          have := hk
          simp only [Lib.keeps, decide_eq_true_eq] at this
          rcases this with e | e
          · exact absurd e h0
          · exact e
        omega
      refine ⟨?_, fun x => ?_, fun x hx => ?_⟩
      · rw [List.pairwise_append]
        exact ⟨h1, by simp, fun a ha b hb => by rw [List.mem_singleton] at hb; subst hb; exact hgt a ha⟩
      · rw [List.mem_append, h2, List.mem_singleton]
        constructor
        · rintro (⟨j, hj, e⟩ | e)
          · exact ⟨j, by omega, e⟩
          · exact ⟨m, by omega, e.symm⟩
        · rintro ⟨j, hj, e⟩
          by_cases hjm : j = m
          · subst hjm; exact .inr e.symm
          · exact .inl ⟨j, by omega, e⟩
      · rcases List.mem_append.1 hx with e | e
        · have := hgt x e; simpa using Int.le_of_lt this
        · rw [List.mem_singleton] at e; subst e; simp
    · rw [if_neg hk, List.append_nil]
      have he : m ≠ 0 ∧ d[m]! = d[m - 1]! := by
        have := hk
        simp only [Lib.keeps, decide_eq_true_eq] at this
        by_cases e0 : m = 0
        · exact absurd (.inl e0) this
        · refine ⟨e0, ?_⟩
          by_cases e1 : d[m]! = d[m - 1]!
          · exact e1
          · exact absurd (.inr e1) this
      refine ⟨h1, fun x => ?_, fun x hx => ?_⟩
      · rw [h2]
        constructor
        · rintro ⟨j, hj, e⟩
          exact ⟨j, by omega, e⟩
        · rintro ⟨j, hj, e⟩
          by_cases hjm : j = m
          · subst hjm; exact ⟨j - 1, by omega, by rw [← he.2]; exact e⟩
          · exact ⟨j, by omega, e⟩
      · rw [show m + 1 - 1 = m by omega, he.2]; exact h3 x hx
/-- Sorted and compacted: the one rising list with these members. -/
def setOf (l : List Int) : List Int := Lib.compact (l.mergeSort fun x y => decide (x ≤ y))
theorem setOf_tells (l : List Int) : (setOf l).Pairwise (· < ·) ∧ ∀ x, x ∈ setOf l ↔ x ∈ l := by
  have hs : (l.mergeSort fun x y => decide (x ≤ y)).Pairwise (fun a b => decide (a ≤ b) = true) := List.pairwise_mergeSort (fun a b c h1 h2 => by simp only [decide_eq_true_eq] at *; omega) (fun a b => by simp only [Bool.or_eq_true, decide_eq_true_eq]; omega) l
  have hp := List.mergeSort_perm l (fun x y => decide (x ≤ y))
  generalize hm : (l.mergeSort fun x y => decide (x ≤ y)) = s at hs hp
  have hd : ∀ i j, i < j → j < s.toArray.size → s.toArray[i]! ≤ s.toArray[j]! := by
    intro i j hij hj
    have hj' : j < s.length := by simpa using hj
    have hi' : i < s.length := by omega
    have := List.pairwise_iff_getElem.1 hs i j hi' hj' hij
    simpa [getElem!_pos, hi', hj'] using this
  obtain ⟨h1, h2, _⟩ := compactUpTo_tells s.toArray hd s.length (by simp)
  refine ⟨by simpa [setOf, hm, Lib.compact] using h1, fun x => ?_⟩
  have : x ∈ setOf l ↔ ∃ j, j < s.length ∧ s.toArray[j]! = x := by simpa [setOf, hm, Lib.compact] using h2 x
  rw [this, ← hp.mem_iff, List.mem_iff_getElem]
  constructor
  · rintro ⟨j, hj, e⟩
    exact ⟨j, hj, by simpa [getElem!_pos, hj] using e⟩
  · rintro ⟨j, hj, e⟩
    exact ⟨j, hj, by simpa [getElem!_pos, hj] using e⟩
theorem setOf_eq_putMany (l : List Int) : setOf l = putMany [] l := by
  obtain ⟨h1, h2⟩ := setOf_tells l
  exact rise_ext h1 (putMany_rise l List.Pairwise.nil) fun x => by rw [h2, putMany_mem]; simp
theorem setOf_length (l : List Int) : (setOf l).length ≤ l.length := by
  rw [setOf_eq_putMany]; have := putMany_length l []; simpa using this
end Go.Proofs.Ytallocgnpbpbhab.XQ
