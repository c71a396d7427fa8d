/- The program's TokenOf returns what the reference's returns, for all int64 arguments. -/
import Derived.Test.YtohaaidbnabkiaaPFnExactTokenOfx1
namespace Go.Proofs.Ytohaaidbnabkiaa.Pure
open Go.RowKit Go.Proofs.Ytohaaidbnabkiaa.PFnExactTokenOf Go.Proofs.YtohaaidbnabkiaaW.PrintWords Go.Proofs.YtohaaidbnabkiaaW.PrintLast

theorem w64 {x : Int} (h0 : -9223372036854775808 ≤ x) (h1 : x ≤ 9223372036854775807) : wrap64 x = x := by unfold wrap64; omega

theorem in_eq (a b c : Int) : spec_l00In.f a b c = impl_in.f a b c := rfl
theorem in_some (a b c : Int) : impl_in.f a b c = some (decide (b ≤ a ∧ a ≤ c)) := by
  unfold impl_in.f
  split
  · congr 1; rw [decide_eq_decide]; omega
  · congr 1; symm; rw [decide_eq_false_iff_not]; omega

theorem loops (d : Nat) : ∀ (k : Nat) (x n : Int) (out : List Int) (i : Int), 0 ≤ i → i ≤ 16 → 16 - i = d → d < k → out.length ≤ 1000 - d →
    ∃ r, spec_l01Token.l0 k n out x i = some r ∧ impl_tokenOf.l0 k x n out i = some r := by
  induction d with
  | zero =>
    intro k x n out i h0 h1 hd hk hl
    obtain ⟨k, rfl⟩ : ∃ m, k = m + 1 := ⟨k - 1, by omega⟩
    have hn : ¬ i < 16 := by omega
    simp only [spec_l01Token.l0, impl_tokenOf.l0, hn, if_false]
    exact ⟨_, rfl, rfl⟩
  | succ d ih =>
    intro k x n out i h0 h1 hd hk hl
    obtain ⟨k, rfl⟩ : ∃ m, k = m + 1 := ⟨k - 1, by omega⟩
    have hn : i < 16 := by omega
    have hb : out.length < 140737488355328 := by omega
    simp only [spec_l01Token.l0, impl_tokenOf.l0, hn, hb, if_true, w64 (show -9223372036854775808 ≤ i + 1 by omega) (show i + 1 ≤ 9223372036854775807 by omega)]
    exact ih k _ n _ (i + 1) (by omega) (by omega) (by omega) (by omega) (by simp only [List.length_append, List.length_cons, List.length_nil]; omega)

theorem FnExactTokenOf : laws_FnExactTokenOf.Pure := by
  intro a b _ _
  obtain ⟨r, h1, h2⟩ := loops 16 17 a b [] 0 (by omega) (by omega) (by omega) (by omega) (by simp)
  refine ⟨17, ?_⟩
  simp only [laws_FnExactTokenOf.f, spec_TokenOf.f, impl_TokenOf.f, spec_l01Token.f, impl_tokenOf.f, in_eq, in_some, h1, h2, Option.bind_some]
  by_cases c : 0 ≤ a ∧ a ≤ 1000000000 <;> by_cases c2 : 0 ≤ b ∧ b ≤ 1000000000 <;> simp [c, c2]

end Go.Proofs.Ytohaaidbnabkiaa.Pure
