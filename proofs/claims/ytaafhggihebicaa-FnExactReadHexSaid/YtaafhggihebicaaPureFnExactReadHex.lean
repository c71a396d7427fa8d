/- The program's ReadHex returns what the reference's returns, for every string that can be read. -/
import Derived.Test.YtaafhggihebicaaXFnExactReadHexx1
namespace Go.Proofs.Ytaafhggihebicaa.Pure
open Go.RowKit Go.Proofs.Ytaafhggihebicaa.XFnExactReadHex Go.Proofs.YtaafhggihebicaaW.PrintWords Go.Proofs.YtaafhggihebicaaW.PrintLast
set_option linter.unusedVariables false
set_option linter.unusedSimpArgs false

theorem w64 {x : Int} (h0 : -9223372036854775808 ≤ x) (h1 : x ≤ 9223372036854775807) : wrap64 x = x := by unfold wrap64; omega

def nib (c : Int) : Int := if 48 ≤ c ∧ c ≤ 57 then c - 48 else if 97 ≤ c ∧ c ≤ 102 then c - 87 else -1
theorem nib_spec (k : Nat) (c : Int) : spec_l01Nibble.f (k + 1) c = some (nib c) := by
  unfold spec_l01Nibble.f nib
  by_cases h1 : c ≥ 48
  · rw [if_pos h1]
    by_cases h2 : c ≤ 57
    · have h3 : (c - 48) % 256 = c - 48 := by omega
      simp only [spec_l01Nibble.j0, h2, decide_true, if_true, h3]
      rw [if_pos ⟨h1, trivial⟩]
    · have h3 : ¬ (48 ≤ c ∧ c ≤ 57) := by omega
      simp only [spec_l01Nibble.j0, h2, decide_false, Bool.false_eq_true, if_false, h3]
      by_cases h4 : c ≥ 97
      · by_cases h5 : c ≤ 102
        · have h6 : (c - 97) % 256 + 10 = c - 87 := by omega
          rw [if_pos h4, if_pos h5, if_neg (by simp), if_pos ⟨h4, h5⟩, h6]
        · rw [if_pos h4, if_neg h5, if_neg (by simp), if_neg (by omega)]
      · rw [if_neg h4, if_neg (by simp), if_neg (by omega)]
  · have h3 : ¬ (48 ≤ c ∧ c ≤ 57) := by omega
    have h4 : ¬ c ≥ 97 := by omega
    have h5 : ¬ (97 ≤ c ∧ c ≤ 102) := by omega
    rw [if_neg h1, if_neg h3, if_neg h5]
    simp only [spec_l01Nibble.j0, Bool.false_eq_true, if_false, h4]
theorem nib_all : ∀ n : Fin 256, Lib.indexByte [48, 49, 50, 51, 52, 53, 54, 55, 56, 57, 97, 98, 99, 100, 101, 102] n.val.toUInt8 = nib n.val := by decide +kernel
theorem nib_impl (c : Int) (h0 : 0 ≤ c) (h1 : c ≤ 255) : strings_IndexByte.f (⟨#[48, 49, 50, 51, 52, 53, 54, 55, 56, 57, 97, 98, 99, 100, 101, 102]⟩ : ByteArray) c = some (nib c) := by
  have h := nib_all ⟨c.toNat, by omega⟩
  unfold strings_IndexByte.f
  congr 1
  have e : ((c.toNat : Nat) : Int) = c := by omega
  rw [← e]
  simp only [Int.toNat_natCast]
  exact h
theorem loops (s : ByteArray) (hs : s.size ≤ 8000) (d : Nat) : ∀ (k : Nat) (out : List Int) (i : Int), 0 ≤ i → (s.size : Int) - i = 2 * d → d < k → (out.length : Int) ≤ i →
    ∃ r, spec_l01ReadHex.l0 (k + 1) s out i = some r ∧ impl_ReadHex.l0 (k + 1) s out i = some r := by
  induction d with
  | zero =>
    intro k out i h0 hd hk hl
    have hn : ¬ i < (s.size : Int) := by omega
    simp only [spec_l01ReadHex.l0, impl_ReadHex.l0, hn, if_false]
    exact ⟨_, rfl, rfl⟩
  | succ d ih =>
    intro k out i h0 hd hk hl
    obtain ⟨k, rfl⟩ : ∃ m, k = m + 1 := ⟨k - 1, by omega⟩
    have hn : i < (s.size : Int) := by omega
    have hn1 : i + 1 < (s.size : Int) := by omega
    have h01 : 0 ≤ i + 1 := by omega
    have hr := bt_range s i
    have hr1 := bt_range s (i + 1)
    have w1 : wrap64 (i + 1) = i + 1 := w64 (by omega) (by omega)
    have w2 : wrap64 (i + 2) = i + 2 := w64 (by omega) (by omega)
    have hb : out.length < 140737488355328 := by omega
    rw [spec_l01ReadHex.l0, impl_ReadHex.l0]
    simp only [hn, hn1, h0, h01, w1, w2, hb, if_true, nib_spec, nib_impl _ hr.1 (by omega), nib_impl _ hr1.1 (by omega), Option.bind_some]
    by_cases c1 : nib (bt s i) < 0
    · simp only [c1, if_true]; exact ⟨_, rfl, rfl⟩
    · by_cases c2 : nib (bt s (i + 1)) < 0
      · simp only [c1, c2, if_true, if_false]; exact ⟨_, rfl, rfl⟩
      · simp only [c1, c2, if_false]
        exact ih k _ (i + 2) (by omega) (by omega) (by omega) (by simp only [List.length_append, List.length_singleton]; omega)
theorem FnExactReadHex : laws_FnExactReadHex.Pure := by
  intro s _
  by_cases c0 : (s.size : Int) > 1048576
  · exact ⟨0, by simp only [laws_FnExactReadHex.f, c0, if_true]⟩
  refine ⟨s.size + 4, ?_⟩
  have key : ∃ r, spec_ReadHex.f (s.size + 3) s = some r ∧ impl_ReadHex.f (s.size + 3) s = some r := by
    by_cases c : (s.size : Int) > 8000
    · refine ⟨((⟨#[]⟩ : ByteArray), false), ?_, ?_⟩
      · by_cases c2 : (s.size : Int) % 2 = 0
        · simp only [spec_ReadHex.f, spec_l01ReadHex.f, c2, c, if_true, decide_true, spec_l01ReadHex.j0, Option.bind_some]
        · simp only [spec_ReadHex.f, spec_l01ReadHex.f, c2, if_false, spec_l01ReadHex.j0, if_true, Option.bind_some]
      · simp only [impl_ReadHex.f, c, if_true, impl_ReadHex.j0]
    · by_cases c2 : (s.size : Int) % 2 = 0
      · obtain ⟨r, h1, h2⟩ := loops s (by omega) (s.size / 2) (s.size + 1) [] 0 (by omega) (by omega) (by omega) (by simp)
        refine ⟨r, ?_, ?_⟩
        · simp only [spec_ReadHex.f, spec_l01ReadHex.f, c2, c, if_true, decide_false, spec_l01ReadHex.j0, Bool.false_eq_true, if_false, h1, Option.bind_some]
        · have e : (((s.size : Int) % 2) != 0) = false := by simp [c2]
          simp only [impl_ReadHex.f, c, if_false, e, impl_ReadHex.j0, Bool.false_eq_true, h2]
      · refine ⟨((⟨#[]⟩ : ByteArray), false), ?_, ?_⟩
        · simp only [spec_ReadHex.f, spec_l01ReadHex.f, c2, if_false, spec_l01ReadHex.j0, if_true, Option.bind_some]
        · have e : (((s.size : Int) % 2) != 0) = true := by simpa using c2
          simp only [impl_ReadHex.f, c, if_false, e, impl_ReadHex.j0, if_true]
  obtain ⟨r, h1, h2⟩ := key
  have hb : (r.2 != r.2) = false := by simp
  simp only [laws_FnExactReadHex.f, c0, if_false, laws_FnExactReadHex.j0, h1, h2, Option.bind_some, if_true, hb, Bool.false_eq_true]

end Go.Proofs.Ytaafhggihebicaa.Pure
