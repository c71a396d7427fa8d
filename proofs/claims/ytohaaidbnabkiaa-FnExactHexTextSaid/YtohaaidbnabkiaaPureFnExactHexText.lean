/- The program's HexText returns what the reference's returns, for every string that can be read. -/
import Derived.Test.YtohaaidbnabkiaaXFnExactHexTextx1
namespace Go.Proofs.Ytohaaidbnabkiaa.Pure
open Go.RowKit Go.Proofs.Ytohaaidbnabkiaa.XFnExactHexText Go.Proofs.YtohaaidbnabkiaaW.PrintWords Go.Proofs.YtohaaidbnabkiaaW.PrintLast
set_option linter.unusedVariables false
set_option linter.unusedSimpArgs false

theorem w64 {x : Int} (h0 : -9223372036854775808 ≤ x) (h1 : x ≤ 9223372036854775807) : wrap64 x = x := by unfold wrap64; omega

def hexDigits : ByteArray := ⟨#[48, 49, 50, 51, 52, 53, 54, 55, 56, 57, 97, 98, 99, 100, 101, 102]⟩
theorem loops (s : ByteArray) (hs : s.size ≤ 4000) (d : Nat) : ∀ (k : Nat) (out : List Int) (i : Int), 0 ≤ i → i ≤ s.size → (s.size : Int) - i = d → d < k → (out.length : Int) = 2 * i →
    ∃ r, spec_l01Hex.l0 k s out hexDigits i = some r ∧ impl_HexText.l0 k s out s.size i = some (r, true) := by
  induction d with
  | zero =>
    intro k out i h0 h1 hd hk hl
    obtain ⟨k, rfl⟩ : ∃ m, k = m + 1 := ⟨k - 1, by omega⟩
    have hn : ¬ i < (s.size : Int) := by omega
    simp only [spec_l01Hex.l0, impl_HexText.l0, hn, if_false]
    exact ⟨_, rfl, rfl⟩
  | succ d ih =>
    intro k out i h0 h1 hd hk hl
    obtain ⟨k, rfl⟩ : ∃ m, k = m + 1 := ⟨k - 1, by omega⟩
    have hn : i < (s.size : Int) := by omega
    have hr := bt_range s i
    have e1 : Int.tdiv (bt s i) 16 = bt s i / 16 := Int.tdiv_eq_ediv_of_nonneg hr.1
    have e2 : Int.tmod (bt s i) 16 = bt s i % 16 := Int.tmod_eq_emod_of_nonneg hr.1
    have e3 : (bt s i / 16) % 256 = bt s i / 16 := by omega
    have hz : (hexDigits.size : Int) = 16 := rfl
    have a1 : 0 ≤ bt s i / 16 := by omega
    have a2 : bt s i / 16 < 16 := by omega
    have a3 : 0 ≤ bt s i % 16 := by omega
    have a4 : bt s i % 16 < 16 := by omega
    have hb : out.length + 2 < 140737488355328 := by omega
    simp only [spec_l01Hex.l0, impl_HexText.l0, hn, h0, e1, e2, e3, hz, a1, a2, a3, a4, if_true, Option.bind_some, List.length_cons, List.length_nil, Nat.zero_add, Nat.reduceAdd, hb, w64 (show -9223372036854775808 ≤ i + 1 by omega) (show i + 1 ≤ 9223372036854775807 by omega)]
    exact ih k _ (i + 1) (by omega) (by omega) (by omega) (by omega) (by simp only [List.length_append, List.length_cons, List.length_nil]; omega)

theorem FnExactHexText : laws_FnExactHexText.Pure := by
  intro s _
  refine ⟨s.size + 1, ?_⟩
  simp only [laws_FnExactHexText.f, spec_HexText.f, impl_HexText.f, spec_l01Hex.f]
  by_cases c : (s.size : Int) > 4000
  · simp [c]
  · obtain ⟨r, h1, h2⟩ := loops s (by omega) s.size (s.size + 1) [] 0 (by omega) (by omega) (by omega) (by omega) (by simp)
    unfold hexDigits at h1
    simp [c, h1, h2]

end Go.Proofs.Ytohaaidbnabkiaa.Pure
