/- The program's WordsOf returns what the reference's returns, for every string that can be read. -/
import Derived.Test.YtopdflppdpmblaaXFnExactWordsOfx4
import Derived.Test.YtopdflppdpmblaaXP
namespace Go.Proofs.Ytopdflppdpmblaa.Pure
open Go.RowKit Go.Proofs.Ytopdflppdpmblaa.XFnExactWordsOf Go.Proofs.YtopdflppdpmblaaW.PrintWords Go.Proofs.YtopdflppdpmblaaW.PrintLast Go.Proofs.Ytopdflppdpmblaa.XP
set_option linter.unusedVariables false
set_option linter.unusedSimpArgs false

def textByte (s : ByteArray) (j : Nat) : Bool := decide (32 ≤ bt s j ∧ bt s j ≤ 126)
def textB (s : ByteArray) : Bool := (List.range s.size).all (textByte s) && decide ((s.size : Int) ≤ 80)
theorem bt_nat (s : ByteArray) (i : Int) (h0 : 0 ≤ i) : bt s ((i.toNat : Nat) : Int) = bt s i := by rw [Int.toNat_of_nonneg h0]
theorem IsText_from (s : ByteArray) (hs : s.size ≤ 1048576) : From (fun k => impl_IsText.f k s) (textB s) := by
  have := test_loopB (fun k i => impl_IsText.l0 k s s.size i) s.size 0 (textByte s) (decide ((s.size : Int) ≤ 80)) (fun k i _ h0 h1 => by
    simp only [impl_IsText.l0, h0, h1, if_true, wsucc h0 (by omega), textByte, bt_nat s i h0]
    by_cases c1 : bt s i < 32
    · have c2 : ¬ (32 ≤ bt s i ∧ bt s i ≤ 126) := by omega
      simp only [c1, c2, if_true, decide_false, Bool.false_eq_true, if_false]
    · by_cases c3 : bt s i > 126
      · have c2 : ¬ (32 ≤ bt s i ∧ bt s i ≤ 126) := by omega
        simp only [c1, c3, c2, if_true, decide_false, Bool.false_eq_true, if_false]
      · have c2 : 32 ≤ bt s i ∧ bt s i ≤ 126 := by omega
        simp only [c1, c3, c2, if_false, decide_true, if_true, and_self]) (fun k _ => by simp only [impl_IsText.l0, Int.lt_irrefl, if_false])
  exact this
theorem l01IsText_from (s : ByteArray) (hs : s.size ≤ 1048576) : From (fun k => spec_l01IsText.f k s) (textB s) := by
  have := test_loopB (fun k i => spec_l01IsText.l0 k s i) s.size 0 (textByte s) (decide ((s.size : Int) ≤ 80)) (fun k i _ h0 h1 => by
    simp only [spec_l01IsText.l0, h0, h1, if_true, wsucc h0 (by omega), textByte, bt_nat s i h0]
    by_cases c1 : bt s i < 32
    · have c2 : ¬ (32 ≤ bt s i ∧ bt s i ≤ 126) := by omega
      simp only [c1, c2, if_true, decide_false, Bool.false_eq_true, if_false]
    · by_cases c3 : bt s i > 126
      · have c2 : ¬ (32 ≤ bt s i ∧ bt s i ≤ 126) := by omega
        simp only [c1, c3, c2, if_true, decide_false, Bool.false_eq_true, if_false]
      · have c2 : 32 ≤ bt s i ∧ bt s i ≤ 126 := by omega
        simp only [c1, c3, c2, if_false, decide_true, if_true, and_self]) (fun k _ => by simp only [spec_l01IsText.l0, Int.lt_irrefl, if_false])
  exact this
theorem text_short {s : ByteArray} (h : textB s = true) : s.size ≤ 80 := by
  unfold textB at h
  rw [Bool.and_eq_true, decide_eq_true_eq] at h
  omega
/-- A small letter or a digit, as words have it. -/
def low (c : Int) : Int := if 65 ≤ c ∧ c ≤ 90 then c + 32 else c
def isW (c : Int) : Bool := decide (48 ≤ c ∧ c ≤ 57) || decide (97 ≤ c ∧ c ≤ 122)
theorem lower_some (c : Int) (h0 : 0 ≤ c) : impl_lower.f c = some (low c) := by
  unfold impl_lower.f low
  by_cases h1 : c ≥ 65
  · by_cases h2 : c ≤ 90
    · rw [if_pos h1, if_pos h2, if_pos ⟨h1, h2⟩]; congr 1; omega
    · rw [if_pos h1, if_neg h2, if_neg (by omega)]
  · rw [if_neg h1, if_neg (by omega)]
theorem wordByte_some (c : Int) : impl_wordByte.f c = some (isW c) := by
  unfold impl_wordByte.f impl_isDigit.f isW
  by_cases h1 : c ≥ 48
  · by_cases h2 : c ≤ 57
    · rw [if_pos h1]; simp [h1, h2]
    · rw [if_pos h1]
      by_cases h3 : c ≥ 97
      · by_cases h4 : c ≤ 122 <;> simp [h2, h3, h4]
      · have h5 : ¬ (97 ≤ c ∧ c ≤ 122) := by omega
        simp [h2, h3, h5]
  · have h3 : ¬ c ≥ 97 := by omega
    have h5 : ¬ (97 ≤ c ∧ c ≤ 122) := by omega
    have h6 : ¬ (48 ≤ c ∧ c ≤ 57) := by omega
    rw [if_neg h1]
    simp [h3, h5, h6]
theorem letter_some (k : Nat) (c : Int) (h0 : 0 ≤ c) (h255 : c ≤ 255) : spec_l01Letter.f (k + 1) c = some (if isW (low c) = true then low c else 0) := by
  have e0 : ((c - 65) % 256 + 97) % 256 = if 65 ≤ c ∧ c ≤ 90 then c + 32 else ((c - 65) % 256 + 97) % 256 := by split <;> omega
  by_cases h1 : c ≥ 97
  · by_cases h2 : c ≤ 122
    · have l1 : low c = c := by unfold low; rw [if_neg (by omega)]
      have w1 : isW c = true := by unfold isW; simp [h1, h2]
      simp only [spec_l01Letter.f, h1, h2, if_true, spec_l01Letter.j0, l1, w1]
    · have l1 : low c = c := by unfold low; rw [if_neg (by omega)]
      have w1 : isW c = false := by unfold isW; simp; omega
      have h3 : c ≥ 48 := by omega
      have h4 : ¬ c ≤ 57 := by omega
      have h5 : c ≥ 65 := by omega
      have h6 : ¬ c ≤ 90 := by omega
      simp only [spec_l01Letter.f, h1, h2, h3, h4, h5, h6, if_true, if_false, decide_false, spec_l01Letter.j0, l1, w1, Bool.false_eq_true]
  · by_cases h3 : c ≥ 48
    · by_cases h4 : c ≤ 57
      · have l1 : low c = c := by unfold low; rw [if_neg (by omega)]
        have w1 : isW c = true := by unfold isW; simp [h3, h4]
        simp only [spec_l01Letter.f, h1, h3, h4, if_true, if_false, decide_true, spec_l01Letter.j0, l1, w1]
      · by_cases h5 : c ≥ 65
        · by_cases h6 : c ≤ 90
          · have l1 : low c = c + 32 := by unfold low; rw [if_pos ⟨h5, h6⟩]
            have w1 : isW (c + 32) = true := by unfold isW; simp; omega
            have e1 : ((c - 65) % 256 + 97) % 256 = c + 32 := by omega
            simp only [spec_l01Letter.f, h1, h3, h4, h5, h6, if_true, if_false, decide_false, spec_l01Letter.j0, l1, w1, e1, Bool.false_eq_true]
          · have l1 : low c = c := by unfold low; rw [if_neg (by omega)]
            have w1 : isW c = false := by unfold isW; simp; omega
            simp only [spec_l01Letter.f, h1, h3, h4, h5, h6, if_true, if_false, decide_false, spec_l01Letter.j0, l1, w1, Bool.false_eq_true]
        · have l1 : low c = c := by unfold low; rw [if_neg (by omega)]
          have w1 : isW c = false := by unfold isW; simp; omega
          simp only [spec_l01Letter.f, h1, h3, h4, h5, if_true, if_false, decide_false, spec_l01Letter.j0, l1, w1, Bool.false_eq_true]
    · have l1 : low c = c := by unfold low; rw [if_neg (by omega)]
      have w1 : isW c = false := by unfold isW; simp; omega
      have h5 : ¬ c ≥ 65 := by omega
      simp only [spec_l01Letter.f, h1, h3, h5, if_false, spec_l01Letter.j0, l1, w1, Bool.false_eq_true]
theorem isW_range {c : Int} (h : isW c = true) : 48 ≤ c ∧ c ≤ 122 := by
  unfold isW at h
  simp only [Bool.or_eq_true, decide_eq_true_eq] at h
  omega
theorem enc_all : ∀ n : Fin 128, (Utf8.encode n.val).data.toList = (strOfNums [(n.val : Int)]).data.toList := by decide +kernel
theorem enc_one (c : Int) (h0 : 0 ≤ c) (h1 : c ≤ 127) : Utf8.encode c = strOfNums [c] := by
  have h := enc_all ⟨c.toNat, by omega⟩
  simp only [Int.toNat_of_nonneg h0] at h
  exact ByteArray.ext (Array.toList_inj.1 h)
theorem one_size (c : Int) : (strOfNums [c]).size = 1 := rfl
theorem list_empty {b : ByteArray} (h : b.size = 0) : b.toList = [] := by
  rw [Lib.toList_data]; exact List.length_eq_zero_iff.1 (by simpa using h)
theorem list_some {b : ByteArray} (h : 0 < b.size) : ¬ b.toList = [] := by
  rw [Lib.toList_data]; intro e
  have : b.data.toList.length = 0 := by rw [e]; rfl
  have h2 : b.data.toList.length = b.size := by simp
  omega
abbrev wordOf (r : S88) : ByteArray := r.f2
/-- Runs and words, side by side. -/
theorem words_both (s : ByteArray) (hs : s.size ≤ 80) : ∀ (d : Nat),
    (∀ (i : Int) (out : List S88), 0 ≤ i → (s.size : Int) + 1 - i = d → (out.length : Int) ≤ i → ∃ R, R.length ≤ 81 ∧ (∀ k, 4 * d + 4 ≤ k → impl_runsOf.l0 k s out i = some R) ∧ ∀ k, 4 * d + 4 ≤ k → spec_l01Words.l0 k s (out.map wordOf) (⟨#[]⟩ : ByteArray) i = some (R.map wordOf)) ∧
    (∀ (i fr z : Int) (word : ByteArray) (out : List S88), 0 ≤ i → i ≤ s.size → (s.size : Int) + 1 - i = d → (out.length : Int) ≤ i → 0 < word.size → (word.size : Int) ≤ i → ∃ R, R.length ≤ 81 ∧ (∀ k, 4 * d + 4 ≤ k → impl_runsOf.l1 k s out i fr z word = some R) ∧ ∀ k, 4 * d + 4 ≤ k → spec_l01Words.l0 k s (out.map wordOf) word i = some (R.map wordOf)) := by
  intro d
  induction d with
  | zero =>
    refine ⟨fun i out h0 hd ho => ?_, fun i fr z word out h0 h1 hd ho hw hw2 => by omega⟩
    have hi : ¬ i < (s.size : Int) := by omega
    have hi2 : ¬ i ≤ (s.size : Int) := by omega
    refine ⟨out, by omega, fun k hk => ?_, fun k hk => ?_⟩
    · obtain ⟨k, rfl⟩ : ∃ m, k = m + 1 := ⟨k - 1, by omega⟩
      simp only [impl_runsOf.l0, hi, if_false]
    · obtain ⟨k, rfl⟩ : ∃ m, k = m + 1 := ⟨k - 1, by omega⟩
      simp only [spec_l01Words.l0, hi2, if_false]
  | succ d ih =>
    obtain ⟨ihA, ihB⟩ := ih
    have endw : ∀ (i fr z : Int) (word : ByteArray) (out : List S88), 0 ≤ i → i ≤ s.size → (s.size : Int) + 1 - i = (d + 1 : Nat) → (out.length : Int) ≤ i → ∃ R, R.length ≤ 81 ∧ (∀ k, 4 * d + 4 ≤ k → impl_runsOf.l0 k s (out ++ [(⟨fr, i, word⟩ : S88)]) (i + 1) = some R) ∧ ∀ k, 4 * d + 4 ≤ k → spec_l01Words.l0 k s (out.map wordOf ++ [word]) (⟨#[]⟩ : ByteArray) (i + 1) = some (R.map wordOf) := by
      intro i fr z word out h0 h1 hd ho
      have := ihA (i + 1) (out ++ [(⟨fr, i, word⟩ : S88)]) (by omega) (by omega) (by simp; omega)
      simpa [wordOf] using this
    refine ⟨fun i out h0 hd ho => ?_, fun i fr z word out h0 h1 hd ho hw hw2 => ?_⟩
    · have hi2 : i ≤ (s.size : Int) := by omega
      have e0 : (⟨#[]⟩ : ByteArray).toList = [] := list_empty rfl
      by_cases hi : i < (s.size : Int)
      · have hr := bt_range s i
        by_cases c : isW (low (bt s i)) = true
        · have hb := isW_range c
          have hne : ¬ low (bt s i) = 0 := by omega
          have hz : (⟨#[]⟩ : ByteArray).size + (strOfNums [low (bt s i)]).size ≤ 9223372036854775807 := by rw [one_size]; show 0 + 1 ≤ _; omega
          obtain ⟨R, hR, a1, a2⟩ := ihB (i + 1) i 0 ((⟨#[]⟩ : ByteArray) ++ strOfNums [low (bt s i)]) out (by omega) (by omega) (by omega) (by omega) (by rw [ByteArray.size_append, one_size]; omega) (by rw [ByteArray.size_append, one_size]; show ((0 + 1 : Nat) : Int) ≤ _; omega)
          refine ⟨R, hR, fun k hk => ?_, fun k hk => ?_⟩
          · obtain ⟨k, rfl⟩ : ∃ m, k = m + 2 := ⟨k - 2, by omega⟩
            rw [impl_runsOf.l0]
            simp only [hi, h0, if_true, lower_some _ hr.1, wordByte_some, Option.bind_some, c]
            rw [impl_runsOf.l1]
            simp only [hi, h0, if_true, lower_some _ hr.1, wordByte_some, Option.bind_some, c, enc_one _ (show 0 ≤ low (bt s i) by omega) (by omega), hz, wsucc h0 (by omega)]
            exact a1 k (by omega)
          · obtain ⟨k, rfl⟩ : ∃ m, k = m + 3 := ⟨k - 3, by omega⟩
            rw [spec_l01Words.l0]
            simp only [hi, hi2, h0, if_true, letter_some _ _ hr.1 (show bt s i ≤ 255 by omega), Option.bind_some, c]
            rw [spec_l01Words.j1]
            simp only [hne, if_false, Option.bind_some, hz, if_true, wsucc h0 (by omega)]
            exact a2 (k + 1) (by omega)
        · have c' : isW (low (bt s i)) = false := by simpa using c
          obtain ⟨R, hR, a1, a2⟩ := ihA (i + 1) out (by omega) (by omega) (by omega)
          refine ⟨R, hR, fun k hk => ?_, fun k hk => ?_⟩
          · obtain ⟨k, rfl⟩ : ∃ m, k = m + 1 := ⟨k - 1, by omega⟩
            rw [impl_runsOf.l0]
            simp only [hi, h0, if_true, lower_some _ hr.1, wordByte_some, Option.bind_some, c', Bool.false_eq_true, if_false, wsucc h0 (by omega)]
            exact a1 k (by omega)
          · obtain ⟨k, rfl⟩ : ∃ m, k = m + 3 := ⟨k - 3, by omega⟩
            rw [spec_l01Words.l0]
            simp only [hi, hi2, h0, if_true, letter_some _ _ hr.1 (show bt s i ≤ 255 by omega), Option.bind_some, c', Bool.false_eq_true, if_false]
            rw [spec_l01Words.j1]
            simp only [e0, if_true, wsucc h0 (by omega)]
            exact a2 (k + 1) (by omega)
      · have he : i = s.size := by omega
        refine ⟨out, by omega, fun k hk => ?_, fun k hk => ?_⟩
        · obtain ⟨k, rfl⟩ : ∃ m, k = m + 1 := ⟨k - 1, by omega⟩
          simp only [impl_runsOf.l0, hi, if_false]
        · obtain ⟨k, rfl⟩ : ∃ m, k = m + 3 := ⟨k - 3, by omega⟩
          have hj : ¬ i + 1 ≤ (s.size : Int) := by omega
          rw [spec_l01Words.l0]
          simp only [hi, hi2, if_true, if_false]
          rw [spec_l01Words.j1]
          simp only [e0, if_true, wsucc h0 (by omega)]
          rw [spec_l01Words.l0]
          simp only [hj, if_false]
    · have hne0 := list_some hw
      obtain ⟨R, hR, a1, a2⟩ := endw i fr z word out h0 h1 hd ho
      have hb1 : out.length < 4398046511104 := by omega
      have hb2 : (out.map wordOf).length < 8796093022208 := by rw [List.length_map]; omega
      have hi2 : i ≤ (s.size : Int) := by omega
      by_cases hi : i < (s.size : Int)
      · have hr := bt_range s i
        by_cases c : isW (low (bt s i)) = true
        · have hb := isW_range c
          have hne : ¬ low (bt s i) = 0 := by omega
          have hz : word.size + (strOfNums [low (bt s i)]).size ≤ 9223372036854775807 := by rw [one_size]; omega
          obtain ⟨R, hR, a1, a2⟩ := ihB (i + 1) fr z (word ++ strOfNums [low (bt s i)]) out (by omega) (by omega) (by omega) (by omega) (by rw [ByteArray.size_append, one_size]; omega) (by rw [ByteArray.size_append, one_size]; omega)
          refine ⟨R, hR, fun k hk => ?_, fun k hk => ?_⟩
          · obtain ⟨k, rfl⟩ : ∃ m, k = m + 1 := ⟨k - 1, by omega⟩
            rw [impl_runsOf.l1]
            simp only [hi, h0, if_true, lower_some _ hr.1, wordByte_some, Option.bind_some, c, enc_one _ (show 0 ≤ low (bt s i) by omega) (by omega), hz, wsucc h0 (by omega)]
            exact a1 k (by omega)
          · obtain ⟨k, rfl⟩ : ∃ m, k = m + 3 := ⟨k - 3, by omega⟩
            rw [spec_l01Words.l0]
            simp only [hi, hi2, h0, if_true, letter_some _ _ hr.1 (show bt s i ≤ 255 by omega), Option.bind_some, c]
            rw [spec_l01Words.j1]
            simp only [hne, if_false, Option.bind_some, hz, if_true, wsucc h0 (by omega)]
            exact a2 (k + 1) (by omega)
        · have c' : isW (low (bt s i)) = false := by simpa using c
          refine ⟨R, hR, fun k hk => ?_, fun k hk => ?_⟩
          · obtain ⟨k, rfl⟩ : ∃ m, k = m + 1 := ⟨k - 1, by omega⟩
            rw [impl_runsOf.l1]
            simp only [hi, h0, if_true, lower_some _ hr.1, wordByte_some, Option.bind_some, c', Bool.false_eq_true, if_false, hb1, wsucc h0 (by omega)]
            exact a1 k (by omega)
          · obtain ⟨k, rfl⟩ : ∃ m, k = m + 3 := ⟨k - 3, by omega⟩
            rw [spec_l01Words.l0]
            simp only [hi, hi2, h0, if_true, letter_some _ _ hr.1 (show bt s i ≤ 255 by omega), Option.bind_some, c', Bool.false_eq_true, if_false]
            rw [spec_l01Words.j1]
            simp only [hne0, if_true, if_false, hb2, wsucc h0 (by omega)]
            exact a2 (k + 1) (by omega)
      · refine ⟨R, hR, fun k hk => ?_, fun k hk => ?_⟩
        · obtain ⟨k, rfl⟩ : ∃ m, k = m + 1 := ⟨k - 1, by omega⟩
          rw [impl_runsOf.l1]
          simp only [hi, if_false, hb1, if_true, wsucc h0 (by omega)]
          exact a1 k (by omega)
        · obtain ⟨k, rfl⟩ : ∃ m, k = m + 3 := ⟨k - 3, by omega⟩
          rw [spec_l01Words.l0]
          simp only [hi, hi2, if_true, if_false]
          rw [spec_l01Words.j1]
          simp only [hne0, if_true, if_false, hb2, wsucc h0 (by omega)]
          exact a2 (k + 1) (by omega)
theorem words_from (s : ByteArray) (hs : s.size ≤ 80) : ∃ ws : List ByteArray, ws.length ≤ 81 ∧ From (fun k => spec_l01Words.f k s) ws ∧ From (fun k => impl_words.f k s) ws := by
  obtain ⟨R, hR, a1, a2⟩ := (words_both s hs (s.size + 1)).1 0 [] (by omega) (by omega) (by simp)
  obtain ⟨L, hL⟩ := collect_loop (fun k out i => impl_words.l0 k out R R.length i) R z88 0 (fun r => some (wordOf r)) (fun k out i _ h0 h1 ho => by
    have hb : out.length < 8796093022208 := by omega
    simp only [impl_words.l0, h0, h1, hb, if_true, wsucc h0 (by omega), rd_T88, Option.toList, wordOf]) (fun k out _ => by simp only [impl_words.l0, Int.lt_irrefl, if_false])
  have e : (R.filterMap fun r => some (wordOf r)) = R.map wordOf := congrFun (List.filterMap_eq_map' ..) R
  refine ⟨R.map wordOf, by rw [List.length_map]; exact hR, ⟨4 * (s.size + 1) + 4, fun k hk => ?_⟩, ⟨4 * (s.size + 1) + 4 + L, fun k hk => ?_⟩⟩
  · have := a2 k hk
    simpa [spec_l01Words.f] using this
  · have h1 := a1 k (by omega)
    have h2 := hL k (by omega)
    rw [e] at h2
    simp only [impl_words.f, impl_runsOf.f, h1, Option.bind_some]
    exact h2
theorem strOf_one (v : Int) : (strOfNums [v]).size = 1 := rfl
theorem markText_rounds : ∀ (m : Nat) (x : Int) (s : ByteArray), 0 ≤ x → x.toNat ≤ m → s.size + m ≤ 4611686018427387904 → ∃ r, ∀ k, m < k → laws_markText.l0 k x s = some r := by
  intro m
  induction m with
  | zero =>
    intro x s h0 h1 h2
    have hx : ¬ x > 0 := by omega
    have hs : 1 + s.size ≤ 9223372036854775807 := by omega
    refine ⟨(⟨#[109]⟩ : ByteArray) ++ s, fun k hk => ?_⟩
    obtain ⟨k, rfl⟩ : ∃ n, k = n + 1 := ⟨k - 1, by omega⟩
    simp only [laws_markText.l0, hx, hs, if_true, if_false]
  | succ m ih =>
    intro x s h0 h1 h2
    by_cases hx : x > 0
    · have hd : Int.tdiv x 10 = x / 10 := Int.tdiv_eq_ediv_of_nonneg h0
      have hw : wrap64 (Int.tdiv x 10) = x / 10 := by rw [hd]; exact w64 (by omega) (by omega)
      have hz : (strOfNums [(wrap64 (48 + (Int.tmod x 10))) % 256]).size + s.size ≤ 9223372036854775807 := by rw [strOf_one]; omega
      obtain ⟨r, hr⟩ := ih (x / 10) ((strOfNums [(wrap64 (48 + (Int.tmod x 10))) % 256]) ++ s) (by omega) (by omega) (by rw [ByteArray.size_append, strOf_one]; omega)
      refine ⟨r, fun k hk => ?_⟩
      obtain ⟨k, rfl⟩ : ∃ n, k = n + 1 := ⟨k - 1, by omega⟩
      simp only [laws_markText.l0, hx, if_true, Option.bind_some, hz, hw]
      exact hr k (by omega)
    · have hs : 1 + s.size ≤ 9223372036854775807 := by omega
      refine ⟨(⟨#[109]⟩ : ByteArray) ++ s, fun k hk => ?_⟩
      obtain ⟨k, rfl⟩ : ∃ n, k = n + 1 := ⟨k - 1, by omega⟩
      simp only [laws_markText.l0, hx, hs, if_true, if_false]
theorem markText_from (x : Int) (h0 : 0 ≤ x) (h : x ≤ 1099511627776000) : ∃ s, From (fun k => laws_markText.f k x) s := by
  by_cases hx : x ≤ 0
  · exact ⟨(⟨#[109, 48]⟩ : ByteArray), from_now fun k => by simp only [laws_markText.f, hx, if_true]⟩
  · obtain ⟨r, hr⟩ := markText_rounds x.toNat x (⟨#[]⟩ : ByteArray) h0 (Nat.le_refl _) (by show 0 + x.toNat ≤ _; omega)
    exact ⟨r, x.toNat + 1, fun k hk => by simp only [laws_markText.f, hx, if_false]; exact hr k (by omega)⟩
theorem eqStringS_from (l : List ByteArray) (h : l.length ≤ 1073741824) : From (fun k => laws_eqStringS.f k l l) true := by
  obtain ⟨K, hK⟩ := all_loop (fun k i => laws_eqStringS.l0 k l l i) l.length (by omega) 0 true (fun k i _ h0 h1 => by
      simp only [laws_eqStringS.l0, h0, h1, if_true, wsucc h0 (by omega)]) (fun k i _ h _ => by simp only [laws_eqStringS.l0, h, if_false])
  refine ⟨K, fun k hk => ?_⟩
  simp only [laws_eqStringS.f, if_true]
  exact hK k hk
theorem markText_fun : ∃ (mt : Int → ByteArray) (C : Nat), ∀ x : Int, 0 ≤ x → x ≤ 2097152 → ∀ k, C ≤ k → laws_markText.f k x = some (mt x) := by
  have h : ∀ x : Int, ∃ s : ByteArray, 0 ≤ x → x ≤ 2097152 → ∀ k, 2097153 ≤ k → laws_markText.f k x = some s := by
    intro x
    by_cases h0 : 0 ≤ x
    · by_cases h1 : x ≤ 2097152
      · by_cases hx : x ≤ 0
        · exact ⟨(⟨#[109, 48]⟩ : ByteArray), fun _ _ k _ => by simp only [laws_markText.f, hx, if_true]⟩
        · obtain ⟨r, hr⟩ := markText_rounds x.toNat x (⟨#[]⟩ : ByteArray) h0 (Nat.le_refl _) (by show 0 + x.toNat ≤ _; omega)
          exact ⟨r, fun _ _ k hk => by simp only [laws_markText.f, hx, if_false]; exact hr k (by omega)⟩
      · exact ⟨ByteArray.empty, fun _ h => absurd h h1⟩
    · exact ⟨ByteArray.empty, fun h => absurd h h0⟩
  exact ⟨fun x => Classical.choose (h x), 2097153, fun x => Classical.choose_spec (h x)⟩
theorem strs_law (l : List ByteArray) (h : l.length ≤ 1048576) : ∃ ys : List ByteArray, From (fun k => laws_markStringS.f k l 1) (1 + l.length, ys) ∧ From (fun k => laws_heldStringS.f k ys 1) (1 + l.length) := by
  obtain ⟨mt, C, hmt⟩ := markText_fun
  obtain ⟨ys, ⟨K, hK⟩, hl, hy⟩ := mark_allB 2097152 (by omega) (F := fun k xs m i => laws_markStringS.l0 (k + C) xs m i) 1 (by omega) (by omega) mt (fun k xs m i h0 h1 h2 h3 h4 => by
      simp only [show k + 1 + C = (k + C) + 1 by omega, laws_markStringS.l0, h0, h1, if_true, hmt m h3 (by omega) (k + C) (by omega), Option.bind_some, wsucc h0 h2, wsucc h3 (by omega)]) (fun k xs m i h => by
      simp only [show k + 1 + C = (k + C) + 1 by omega, laws_markStringS.l0, h, if_false]) l 1 (by omega) (by omega) (by omega)
  refine ⟨ys, ⟨K + C, fun k hk => ?_⟩, ?_⟩
  · obtain ⟨k, rfl⟩ : ∃ n, k = n + C := ⟨k - C, by omega⟩
    have := hK k (by omega)
    simpa [laws_markStringS.f] using this
  · obtain ⟨L, hL⟩ := all_loop (fun k i => laws_heldStringS.l0 k ys (1 + i) i) ys.length (by omega) C (1 + (ys.length : Int)) (fun k i hk h0 h1 => by
      have hr : rdOf ByteArray.empty ys i = mt (1 + i) := by
        have := hy i.toNat (by omega)
        rw [rdOf, getD_of this]; congr 1; omega
      simp only [laws_heldStringS.l0, h0, h1, if_true, hr, hmt (1 + i) (by omega) (by omega) k hk, Option.bind_some, wsucc h0 (by omega), wsucc (show 0 ≤ 1 + i by omega) (by omega)]
      congr 1; omega) (fun k i _ h he => by subst he; simp only [laws_heldStringS.l0, h, if_false])
    refine ⟨L, fun k hk => ?_⟩
    have := hL k hk
    rw [hl] at this
    simpa [laws_heldStringS.f] using this
theorem both_from (s : ByteArray) (hs : s.size ≤ 1048576) : ∃ g : List ByteArray × Bool, g.1.length ≤ 1048576 ∧ From (fun k => spec_WordsOf.f k s) g ∧ From (fun k => impl_WordsOf.f k s) g := by
  obtain ⟨K1, e1⟩ := l01IsText_from s hs
  obtain ⟨K2, e2⟩ := IsText_from s hs
  cases ho : textB s with
  | false =>
    rw [ho] at e1 e2
    exact ⟨([], false), by simp, ⟨K1, fun k hk => by simp only [spec_WordsOf.f, e1 k hk, Option.bind_some, Bool.false_eq_true, if_false]⟩, ⟨K2, fun k hk => by simp only [impl_WordsOf.f, e2 k hk, Option.bind_some, Bool.false_eq_true, if_false]⟩⟩
  | true =>
    obtain ⟨ws, hw, ⟨K3, e3⟩, ⟨K4, e4⟩⟩ := words_from s (text_short ho)
    rw [ho] at e1 e2
    exact ⟨(ws, true), by simp; omega, ⟨K1 + K3, fun k hk => by simp only [spec_WordsOf.f, e1 k (by omega), e3 k (by omega), Option.bind_some, if_true]⟩, ⟨K2 + K4, fun k hk => by simp only [impl_WordsOf.f, e2 k (by omega), e4 k (by omega), Option.bind_some, if_true]⟩⟩
theorem FnExactWordsOf : laws_FnExactWordsOf.Pure := by
  intro s _
  by_cases c0 : (s.size : Int) > 1048576
  · exact ⟨0, by simp only [laws_FnExactWordsOf.f, c0, if_true]⟩
  obtain ⟨g, hg, ⟨K8, e8⟩, ⟨K9, e9⟩⟩ := both_from s (by omega)
  obtain ⟨K10, e10⟩ := eqStringS_from g.1 (by omega)
  obtain ⟨ys, ⟨K11, e11⟩, ⟨K12, e12⟩⟩ := strs_law g.1 (by omega)
  generalize hK : K8 + K9 + K10 + K11 + K12 = K
  refine ⟨K + 10, ?_⟩
  have hp : ¬ (1 + (g.1.length : Int)) < 0 := by omega
  have hb : (g.2 != g.2) = false := by simp
  have E8 := fun i => e8 (K + i) (by omega)
  have E9 := fun i => e9 (K + i) (by omega)
  have E10 := fun i => e10 (K + i) (by omega)
  have E11 := fun i => e11 (K + i) (by omega)
  have E12 := fun i => e12 (K + i) (by omega)
  simp only [laws_FnExactWordsOf.f, c0, if_false]
  simp only [laws_FnExactWordsOf.j0, E8, E9, E10, hb, Option.bind_some, if_true]
  simp only [laws_FnExactWordsOf.j1, Bool.false_eq_true, if_false]
  simp only [laws_FnExactWordsOf.j2, E11, E12, hp, Option.bind_some, if_false]
  simp only [laws_FnExactWordsOf.j3, if_true]
  simp only [laws_FnExactWordsOf.j4, E9, E10, hb, Option.bind_some, if_true]
  simp only [laws_FnExactWordsOf.j5, Bool.false_eq_true, if_false]
  simp only [laws_FnExactWordsOf.j6, E12, hp, Option.bind_some, if_true, if_false]

end Go.Proofs.Ytopdflppdpmblaa.Pure
