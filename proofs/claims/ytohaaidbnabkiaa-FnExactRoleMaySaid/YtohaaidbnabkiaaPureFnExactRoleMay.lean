/- The program's RoleMay returns what the reference's returns, for all int64 arguments. -/
import Derived.Test.YtohaaidbnabkiaaPFnExactRoleMayx1
namespace Go.Proofs.Ytohaaidbnabkiaa.Pure
open Go.RowKit Go.Proofs.Ytohaaidbnabkiaa.PFnExactRoleMay Go.Proofs.YtohaaidbnabkiaaW.PrintWords Go.Proofs.YtohaaidbnabkiaaW.PrintLast
set_option linter.unusedVariables false
set_option linter.unusedSimpArgs false

theorem in_eq (a b c : Int) : spec_l00In.f a b c = impl_in.f a b c := rfl
theorem in_some (a b c : Int) : impl_in.f a b c = some (decide (b ≤ a ∧ a ≤ c)) := by
  unfold impl_in.f
  split
  · congr 1; rw [decide_eq_decide]; omega
  · congr 1; symm; rw [decide_eq_false_iff_not]; omega

theorem FnExactRoleMay : laws_FnExactRoleMay.Pure := by
  intro a b _ _
  refine ⟨1, ?_⟩
  simp only [laws_FnExactRoleMay.f, spec_RoleMay.f, spec_l02May.f, spec_l02May.j0, spec_l02Role.f, impl_RoleMay.f, impl_roleOk.f, in_eq, in_some, Option.bind_some]
  by_cases c : 0 ≤ a ∧ a ≤ 3
  · have hc : a = 0 ∨ a = 1 ∨ a = 2 ∨ a = 3 := by omega
    by_cases c2 : b < 0
    · have : ¬ (0 ≤ b ∧ b ≤ 8) := by omega
      simp [c, c2, this]
    · by_cases c3 : b ≤ 8
      · rcases hc with rfl | rfl | rfl | rfl <;> by_cases e1 : b ≤ 1 <;> by_cases e2 : b ≤ 3 <;> by_cases e3 : b ≤ 6 <;> simp [c2, c3, e1, e2, e3, rd] <;> omega
      · have : ¬ (0 ≤ b ∧ b ≤ 8) := by omega
        have h1 : ¬ b ≤ 1 := by omega
        have h3 : ¬ b ≤ 3 := by omega
        have h6 : ¬ b ≤ 6 := by omega
        rcases hc with rfl | rfl | rfl | rfl <;> simp [c2, this, rd, h1, h3, h6, c3]
  · simp [c]

end Go.Proofs.Ytohaaidbnabkiaa.Pure
