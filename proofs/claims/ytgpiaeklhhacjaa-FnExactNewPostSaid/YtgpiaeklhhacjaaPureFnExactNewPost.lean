/- The program's NewPost returns what the reference's returns, for every number. -/
import Derived.Test.YtgpiaeklhhacjaaXFnExactNewPostx4
namespace Go.Proofs.Ytgpiaeklhhacjaa.Pure
open Go.RowKit Go.Proofs.Ytgpiaeklhhacjaa.XFnExactNewPost Go.Proofs.YtgpiaeklhhacjaaW.PrintWords Go.Proofs.YtgpiaeklhhacjaaW.PrintLast
set_option linter.unusedVariables false
set_option linter.unusedSimpArgs false

theorem in_eq (a b c : Int) : spec_l00In.f a b c = impl_in.f a b c := rfl
theorem in_some (a b c : Int) : impl_in.f a b c = some (decide (b ≤ a ∧ a ≤ c)) := by
  unfold impl_in.f
  split
  · congr 1; rw [decide_eq_decide]; omega
  · congr 1; symm; rw [decide_eq_false_iff_not]; omega

theorem ValidPost_nil (a : Int) (k : Nat) (hk : 3 ≤ k) : impl_ValidPost.f k a [] = some (decide (1 ≤ a ∧ a ≤ 64)) := by
  obtain ⟨k, rfl⟩ : ∃ n, k = n + 3 := ⟨k - 3, by omega⟩
  by_cases c : 1 ≤ a ∧ a ≤ 64
  · simp [impl_ValidPost.f, in_some, c, impl_ValidPost.j0, impl_ValidPost.l0]
  · simp [impl_ValidPost.f, in_some, c, impl_ValidPost.j0]
theorem eqPost_nil (a : Int) (k : Nat) (hk : 3 ≤ k) : laws_eqPost.f k a [] a [] = some true := by
  obtain ⟨k, rfl⟩ : ∃ n, k = n + 3 := ⟨k - 3, by omega⟩
  simp [laws_eqPost.f, laws_eqBoxS.f, laws_eqBoxS.l0]
theorem mark_nil (a : Int) : laws_markPost.f a [] 1 = some 1 := by simp [laws_markPost.f, laws_markBoxS.f]
theorem held_nil (a : Int) : laws_heldPost.f a [] 1 = some 1 := by simp [laws_heldPost.f, laws_heldBoxS.f]
theorem FnExactNewPost : laws_FnExactNewPost.Pure := by
  intro a _
  refine ⟨20, ?_⟩
  have key : ∃ (b : Int) (g : Bool), spec_NewPost.f a = some (b, [], g) ∧ ∀ k, 3 ≤ k → impl_NewPost.f k a = some (b, [], g) := by
    by_cases c : 1 ≤ a ∧ a ≤ 64
    · exact ⟨a, true, by simp [spec_NewPost.f, in_eq, in_some, c], fun k hk => by simp [impl_NewPost.f, ValidPost_nil a k hk, c]⟩
    · exact ⟨0, false, by simp [spec_NewPost.f, in_eq, in_some, c], fun k hk => by simp [impl_NewPost.f, ValidPost_nil a k hk, c]⟩
  obtain ⟨b, g, h1, h2⟩ := key
  have hb : (g != g) = false := by simp
  simp only [laws_FnExactNewPost.f, h1, h2 20 (by omega), Option.bind_some, eqPost_nil b 20 (by omega), if_true, hb]
  simp only [laws_FnExactNewPost.j0, Bool.false_eq_true, if_false]
  simp only [laws_FnExactNewPost.j1, mark_nil, held_nil, Option.bind_some, show ¬ (1 : Int) < 0 by omega, if_false]
  simp only [laws_FnExactNewPost.j2, if_true]
  simp only [laws_FnExactNewPost.j3, h2 16 (by omega), eqPost_nil b 16 (by omega), Option.bind_some, if_true, hb]
  simp only [laws_FnExactNewPost.j4, Bool.false_eq_true, if_false]
  simp only [laws_FnExactNewPost.j5, held_nil, Option.bind_some, show ¬ (1 : Int) < 0 by omega, if_false, if_true]

end Go.Proofs.Ytgpiaeklhhacjaa.Pure
