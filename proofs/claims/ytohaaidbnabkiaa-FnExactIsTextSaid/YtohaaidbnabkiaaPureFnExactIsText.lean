/- The program's IsText returns what the reference's returns, for every string that can be read. -/
import Derived.Test.YtohaaidbnabkiaaPFnExactIsTextx1
namespace Go.Proofs.Ytohaaidbnabkiaa.Pure
open Go.RowKit Go.Proofs.Ytohaaidbnabkiaa.PFnExactIsText Go.Proofs.YtohaaidbnabkiaaW.PrintWords Go.Proofs.YtohaaidbnabkiaaW.PrintLast

theorem w64 {x : Int} (h0 : -9223372036854775808 ≤ x) (h1 : x ≤ 9223372036854775807) : wrap64 x = x := by unfold wrap64; omega

theorem loops (s : ByteArray) (hs : s.size ≤ 140737488351232) (d : Nat) : ∀ (k : Nat) (i : Int), 0 ≤ i → i ≤ s.size → (s.size : Int) - i = d → d < k →
    ∃ r, spec_l01IsText.l0 k s i = some r ∧ impl_IsText.l0 k s s.size i = some r := by
  induction d with
  | zero =>
    intro k i h0 h1 hd hk
    obtain ⟨k, rfl⟩ : ∃ m, k = m + 1 := ⟨k - 1, by omega⟩
    have hn : ¬ i < (s.size : Int) := by omega
    simp only [spec_l01IsText.l0, impl_IsText.l0, hn, if_false]
    try split
    all_goals exact ⟨_, rfl, rfl⟩
  | succ d ih =>
    intro k i h0 h1 hd hk
    obtain ⟨k, rfl⟩ : ∃ m, k = m + 1 := ⟨k - 1, by omega⟩
    have hn : i < (s.size : Int) := by omega
    simp only [spec_l01IsText.l0, impl_IsText.l0, hn, h0, if_true, w64 (show -9223372036854775808 ≤ i + 1 by omega) (show i + 1 ≤ 9223372036854775807 by omega)]
    split
    · exact ⟨_, rfl, rfl⟩
    · split
      · exact ⟨_, rfl, rfl⟩
      · exact ih k (i + 1) (by omega) (by omega) (by omega) (by omega)

theorem FnExactIsText : laws_FnExactIsText.Pure := by
  intro s hs
  obtain ⟨r, h1, h2⟩ := loops s hs s.size (s.size + 1) 0 (by omega) (by omega) (by omega) (by omega)
  refine ⟨s.size + 1, ?_⟩
  simp only [laws_FnExactIsText.f, spec_IsText.f, spec_l01IsText.f, impl_IsText.f, h1, h2, Option.bind_some]
  simp

end Go.Proofs.Ytohaaidbnabkiaa.Pure
