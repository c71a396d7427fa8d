/- The program's CheckOf returns what the reference's returns, for every int64 and every string that can be read. -/
import Derived.Test.YtohaaidbnabkiaaPFnExactCheckOfx1
namespace Go.Proofs.Ytohaaidbnabkiaa.Pure
open Go.RowKit Go.Proofs.Ytohaaidbnabkiaa.PFnExactCheckOf Go.Proofs.YtohaaidbnabkiaaW.PrintWords Go.Proofs.YtohaaidbnabkiaaW.PrintLast

theorem w64 {x : Int} (h0 : -9223372036854775808 ≤ x) (h1 : x ≤ 9223372036854775807) : wrap64 x = x := by unfold wrap64; omega

theorem in_eq (a b c : Int) : spec_l00In.f a b c = impl_in.f a b c := rfl
theorem in_some (a b c : Int) : impl_in.f a b c = some (decide (b ≤ a ∧ a ≤ c)) := by
  unfold impl_in.f
  split
  · congr 1; rw [decide_eq_decide]; omega
  · congr 1; symm; rw [decide_eq_false_iff_not]; omega

theorem loops (s : ByteArray) (hs : s.size ≤ 140737488351232) (d : Nat) : ∀ (k : Nat) (n i : Int), 0 ≤ i → i ≤ s.size → (s.size : Int) - i = d → d < k →
    ∃ r, spec_l01Check.l0 k n s i = some r ∧ impl_CheckOf.l0 k n s s.size i = some (r, true) := by
  induction d with
  | zero =>
    intro k n i h0 h1 hd hk
    obtain ⟨k, rfl⟩ : ∃ m, k = m + 1 := ⟨k - 1, by omega⟩
    have hn : ¬ i < (s.size : Int) := by omega
    simp only [spec_l01Check.l0, impl_CheckOf.l0, hn, if_false]
    exact ⟨_, rfl, rfl⟩
  | succ d ih =>
    intro k n i h0 h1 hd hk
    obtain ⟨k, rfl⟩ : ∃ m, k = m + 1 := ⟨k - 1, by omega⟩
    have hn : i < (s.size : Int) := by omega
    simp only [spec_l01Check.l0, impl_CheckOf.l0, hn, h0, if_true, w64 (show -9223372036854775808 ≤ i + 1 by omega) (show i + 1 ≤ 9223372036854775807 by omega)]
    exact ih k _ (i + 1) (by omega) (by omega) (by omega) (by omega)

theorem FnExactCheckOf : laws_FnExactCheckOf.Pure := by
  intro n s _ hs
  obtain ⟨r, h1, h2⟩ := loops s hs s.size (s.size + 1) n 0 (by omega) (by omega) (by omega) (by omega)
  refine ⟨s.size + 1, ?_⟩
  simp only [laws_FnExactCheckOf.f, spec_CheckOf.f, impl_CheckOf.f, spec_l01Check.f, in_eq, in_some, h1, h2, Option.bind_some]
  by_cases c : 0 ≤ n ∧ n ≤ 65128 <;> simp [c]

end Go.Proofs.Ytohaaidbnabkiaa.Pure
