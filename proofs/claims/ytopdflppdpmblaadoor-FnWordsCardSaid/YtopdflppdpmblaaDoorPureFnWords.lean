/- The words of a text joined by blanks are their own words, the mentions of a set are the set, and sets are joined and taken away member by member, for every two rows of bytes that can be read. -/
import Derived.Test.YtopdflppdpmblaaDoorXFnWordsx6
import Derived.Test.YtopdflppdpmblaaDoorXP
import Derived.Test.YtopdflppdpmblaaDoorXQ
import Derived.Laws.BitsAllLaws
namespace Go.Proofs.YtopdflppdpmblaaDoor.Pure
open Go.RowKit Go.Proofs.YtopdflppdpmblaaDoor.XFnWords Go.Proofs.YtopdflppdpmblaaDoorW.PrintWords Go.Proofs.YtopdflppdpmblaaDoorW.PrintLast Go.Proofs.YtopdflppdpmblaaDoor.XP Go.Proofs.YtopdflppdpmblaaDoor.XQ Go.Proofs.YtopdflppdpmblaaDoor.XP Go.Proofs.YtopdflppdpmblaaDoor.XQ Go.Proofs.YtopdflppdpmblaaDoor.XP Go.Proofs.YtopdflppdpmblaaDoor.XQ Go.Proofs.YtopdflppdpmblaaDoor.XP Go.Proofs.YtopdflppdpmblaaDoor.XQ Go.Proofs.YtopdflppdpmblaaDoor.XP Go.Proofs.YtopdflppdpmblaaDoor.XQ Go.Proofs.YtopdflppdpmblaaDoor.XP Go.Proofs.YtopdflppdpmblaaDoor.XQ Go.Proofs.YtopdflppdpmblaaDoor.XP Go.Proofs.YtopdflppdpmblaaDoor.XQ Go.Proofs.YtopdflppdpmblaaDoor.XP Go.Proofs.YtopdflppdpmblaaDoor.XQ Go.Proofs.YtopdflppdpmblaaDoor.XP Go.Proofs.YtopdflppdpmblaaDoor.XQ Go.Proofs.YtopdflppdpmblaaDoor.XP Go.Proofs.YtopdflppdpmblaaDoor.XQ
set_option linter.unusedVariables false
set_option linter.unusedSimpArgs false

theorem wr (x : Int) (h0 : -9223372036854775808 ≤ x) (h1 : x ≤ 9223372036854775807) : wrap64 x = x := by unfold wrap64; omega
theorem in_some (a b c : Int) : impl_in.f a b c = some (decide (b ≤ a ∧ a ≤ c)) := by
  unfold impl_in.f
  split
  · congr 1; rw [decide_eq_decide]; omega
  · congr 1; symm; rw [decide_eq_false_iff_not]; omega

def textByte (s : ByteArray) (j : Nat) : Bool := decide (32 ≤ bt s j ∧ bt s j ≤ 126)
def textB (s : ByteArray) : Bool := (List.range s.size).all (textByte s) && decide ((s.size : Int) ≤ 80)
theorem bt_nat (s : ByteArray) (i : Int) (h0 : 0 ≤ i) : bt s ((i.toNat : Nat) : Int) = bt s i := by rw [Int.toNat_of_nonneg h0]
theorem IsText_from (s : ByteArray) (hs : s.size ≤ 1048576) : From (fun k => impl_IsText.f k s) (textB s) := by
  have := test_loopB (fun k i => impl_IsText.l0 k s s.size i) s.size 0 (textByte s) (decide ((s.size : Int) ≤ 80)) (fun k i _ h0 h1 => by
    simp only [impl_IsText.l0, h0, h1, if_true, wsucc h0 (by omega), textByte, bt_nat s i h0]
    by_cases c1 : bt s i < 32
    · have c2 : ¬ (32 ≤ bt s i ∧ bt s i ≤ 126) := by omega
      simp only [c1, c2, if_true, decide_false, Bool.false_eq_true, if_false]
    · by_cases c3 : bt s i > 126
      · have c2 : ¬ (32 ≤ bt s i ∧ bt s i ≤ 126) := by omega
        simp only [c1, c3, c2, if_true, decide_false, Bool.false_eq_true, if_false]
      · have c2 : 32 ≤ bt s i ∧ bt s i ≤ 126 := by omega
        simp only [c1, c3, c2, if_false, decide_true, if_true, and_self]) (fun k _ => by simp only [impl_IsText.l0, Int.lt_irrefl, if_false])
  exact this
theorem text_short {s : ByteArray} (h : textB s = true) : s.size ≤ 80 := by
  unfold textB at h
  rw [Bool.and_eq_true, decide_eq_true_eq] at h
  omega
/-- A small letter or a digit, as words have it. -/
def low (c : Int) : Int := if 65 ≤ c ∧ c ≤ 90 then c + 32 else c
def isW (c : Int) : Bool := decide (48 ≤ c ∧ c ≤ 57) || decide (97 ≤ c ∧ c ≤ 122)
theorem lower_some (c : Int) (h0 : 0 ≤ c) : impl_lower.f c = some (low c) := by
  unfold impl_lower.f low
  by_cases h1 : c ≥ 65
  · by_cases h2 : c ≤ 90
    · rw [if_pos h1, if_pos h2, if_pos ⟨h1, h2⟩]; congr 1; omega
    · rw [if_pos h1, if_neg h2, if_neg (by omega)]
  · rw [if_neg h1, if_neg (by omega)]
theorem wordByte_some (c : Int) : impl_wordByte.f c = some (isW c) := by
  unfold impl_wordByte.f impl_isDigit.f isW
  by_cases h1 : c ≥ 48
  · by_cases h2 : c ≤ 57
    · rw [if_pos h1]; simp [h1, h2]
    · rw [if_pos h1]
      by_cases h3 : c ≥ 97
      · by_cases h4 : c ≤ 122 <;> simp [h2, h3, h4]
      · have h5 : ¬ (97 ≤ c ∧ c ≤ 122) := by omega
        simp [h2, h3, h5]
  · have h3 : ¬ c ≥ 97 := by omega
    have h5 : ¬ (97 ≤ c ∧ c ≤ 122) := by omega
    have h6 : ¬ (48 ≤ c ∧ c ≤ 57) := by omega
    rw [if_neg h1]
    simp [h3, h5, h6]
theorem isW_range {c : Int} (h : isW c = true) : 48 ≤ c ∧ c ≤ 122 := by
  unfold isW at h
  simp only [Bool.or_eq_true, decide_eq_true_eq] at h
  omega
theorem enc_all : ∀ n : Fin 128, (Utf8.encode n.val).data.toList = (strOfNums [(n.val : Int)]).data.toList := by decide +kernel
theorem enc_one (c : Int) (h0 : 0 ≤ c) (h1 : c ≤ 127) : Utf8.encode c = strOfNums [c] := by
  have h := enc_all ⟨c.toNat, by omega⟩
  simp only [Int.toNat_of_nonneg h0] at h
  exact ByteArray.ext (Array.toList_inj.1 h)
theorem one_size (c : Int) : (strOfNums [c]).size = 1 := rfl
theorem list_empty {b : ByteArray} (h : b.size = 0) : b.toList = [] := by
  rw [Lib.toList_data]; exact List.length_eq_zero_iff.1 (by simpa using h)
theorem list_some {b : ByteArray} (h : 0 < b.size) : ¬ b.toList = [] := by
  rw [Lib.toList_data]; intro e
  have : b.data.toList.length = 0 := by rw [e]; rfl
  have h2 : b.data.toList.length = b.size := by simp
  omega
abbrev wordOf (r : S89) : ByteArray := r.f2
def wgo : List Int → List Int → List (List Int)
  | [], cur => if cur = [] then [] else [cur]
  | c :: l, cur => if isW (low c) = true then wgo l (cur ++ [low c]) else (if cur = [] then wgo l [] else cur :: wgo l [])
def goodW (w : List Int) : Prop := ∀ c ∈ w, isW c = true ∧ low c = c
theorem low_low (c : Int) (h : isW (low c) = true) : low (low c) = low c := by
  by_cases h2 : 65 ≤ c ∧ c ≤ 90
  · have e : low c = c + 32 := if_pos h2
    rw [e]; exact if_neg (by omega)
  · have e : low c = c := if_neg h2
    rw [e]; exact e
theorem wgo_word : ∀ (w rest cur : List Int), goodW w → wgo (w ++ rest) cur = wgo rest (cur ++ w)
  | [], rest, cur, _ => by simp
  | c :: w, rest, cur, h => by
    have hc := h c List.mem_cons_self
    rw [List.cons_append, wgo, if_pos (by rw [hc.2]; exact hc.1), hc.2, wgo_word w rest _ (fun x hx => h x (List.mem_cons_of_mem _ hx))]
    simp
def jn : List (List Int) → List Int
  | [] => []
  | [w] => w
  | w :: v :: ws => w ++ 32 :: jn (v :: ws)
theorem wgo_jn : ∀ (ws : List (List Int)), (∀ w ∈ ws, w ≠ [] ∧ goodW w) → wgo (jn ws) [] = ws
  | [], _ => by simp [jn, wgo]
  | [w], h => by
    have hw := h w List.mem_cons_self
    have := wgo_word w [] [] hw.2
    rw [List.append_nil] at this
    rw [jn, this, wgo, List.nil_append, if_neg hw.1]
  | w :: v :: ws, h => by
    have hw := h w List.mem_cons_self
    rw [jn, wgo_word w _ [] hw.2, List.nil_append, wgo, if_neg (by decide), if_neg hw.1, wgo_jn (v :: ws) (fun x hx => h x (List.mem_cons_of_mem _ hx))]
theorem wgo_good : ∀ (l cur : List Int), goodW cur → ∀ w ∈ wgo l cur, w ≠ [] ∧ goodW w
  | [], cur, h, w, hw => by
    rw [wgo] at hw
    split at hw
    · simp at hw
    · rename_i hc; rw [List.mem_singleton] at hw; subst hw; exact ⟨hc, h⟩
  | c :: l, cur, h, w, hw => by
    rw [wgo] at hw
    split at hw
    · rename_i hc
      refine wgo_good l _ (fun x hx => ?_) w hw
      rcases List.mem_append.1 hx with h1 | h1
      · exact h x h1
      · rw [List.mem_singleton] at h1; subst h1; exact ⟨hc, low_low c hc⟩
    · split at hw
      · exact wgo_good l [] (fun x hx => by simp at hx) w hw
      · rename_i hc
        rcases List.mem_cons.1 hw with h1 | h1
        · subst h1; exact ⟨hc, h⟩
        · exact wgo_good l [] (fun x hx => by simp at hx) w h1
def jsz (ws : List (List Int)) : Nat := (ws.map fun w => w.length + 1).sum
theorem jn_len : ∀ (ws : List (List Int)), (jn ws).length + 1 ≤ jsz ws + 1 ∧ (ws ≠ [] → (jn ws).length + 1 = jsz ws)
  | [] => by simp [jn, jsz]
  | [w] => by simp [jn, jsz]
  | w :: v :: ws => by
    have := (jn_len (v :: ws)).2 (by simp)
    simp only [jn, jsz, List.map_cons, List.sum_cons, List.length_append, List.length_cons] at *
    omega
theorem wgo_size : ∀ (l cur : List Int), jsz (wgo l cur) ≤ l.length + cur.length + 1
  | [], cur => by
    rw [wgo]; split <;> simp [jsz]
  | c :: l, cur => by
    rw [wgo]
    split
    · have := wgo_size l (cur ++ [low c]); simp only [List.length_append, List.length_cons, List.length_nil] at *; omega
    · split
      · have := wgo_size l []; simp only [List.length_cons, List.length_nil] at *; omega
      · have := wgo_size l []; simp only [jsz, List.map_cons, List.sum_cons, List.length_cons, List.length_nil] at *; omega
theorem jn_size (l : List Int) : (jn (wgo l [])).length ≤ l.length := by
  have h1 := wgo_size l []
  have h2 := (jn_len (wgo l [])).2
  simp only [List.length_nil] at h1
  by_cases e : wgo l [] = []
  · rw [e]; simp [jn]
  · have := h2 e; omega
theorem wgo_count : ∀ (l cur : List Int), (wgo l cur).length ≤ l.length + 1
  | [], cur => by rw [wgo]; split <;> simp
  | c :: l, cur => by
    rw [wgo]
    split
    · have := wgo_count l (cur ++ [low c]); simp only [List.length_cons]; omega
    · split
      · have := wgo_count l []; simp only [List.length_cons]; omega
      · have := wgo_count l []; simp only [List.length_cons]; omega
/-- A text's bytes, as whole numbers. -/
def nums8 (s : ByteArray) : List Int := bytesOf s
theorem nums8_len (s : ByteArray) : (nums8 s).length = s.size := bytesOf_length s
theorem drop_nums8 (s : ByteArray) (i : Int) (h0 : 0 ≤ i) (h1 : i < s.size) : (nums8 s).drop i.toNat = bt s i :: (nums8 s).drop (i + 1).toNat := by
  have hl : i.toNat < (nums8 s).length := by rw [nums8_len]; omega
  rw [List.drop_eq_getElem_cons hl, show (i + 1).toNat = i.toNat + 1 by omega]
  congr 1
  have := rd_bytesOf s i
  unfold rd at this
  rw [← this, List.getD_eq_getElem?_getD]
  unfold nums8 at hl ⊢
  rw [List.getElem?_eq_getElem hl]; rfl
theorem strOf_append (a b : List Int) : strOfNums (a ++ b) = strOfNums a ++ strOfNums b := by
  apply ByteArray.ext
  apply Array.toList_inj.1
  simp [strOfNums]
theorem strOf_size (a : List Int) : (strOfNums a).size = a.length := by
  show (List.toArray _).size = _
  simp
theorem words_model (s : ByteArray) (hs : s.size ≤ 80) : ∀ (d : Nat),
    (∀ (i : Int) (out : List S89), 0 ≤ i → (s.size : Int) + 1 - i = d → (out.length : Int) ≤ i → ∃ R, R.length ≤ 81 ∧ (∀ k, 4 * d + 4 ≤ k → impl_runsOf.l0 k s out i = some R) ∧ R.map wordOf = out.map wordOf ++ (wgo ((nums8 s).drop i.toNat) []).map strOfNums) ∧
    (∀ (i fr z : Int) (cur : List Int) (out : List S89), 0 ≤ i → i ≤ s.size → (s.size : Int) + 1 - i = d → (out.length : Int) ≤ i → cur ≠ [] → (cur.length : Int) ≤ i → ∃ R, R.length ≤ 81 ∧ (∀ k, 4 * d + 4 ≤ k → impl_runsOf.l1 k s out i fr z (strOfNums cur) = some R) ∧ R.map wordOf = out.map wordOf ++ (wgo ((nums8 s).drop i.toNat) cur).map strOfNums) := by
  intro d
  induction d with
  | zero =>
    refine ⟨fun i out h0 hd ho => ?_, fun i fr z cur out h0 h1 hd ho hw hw2 => by omega⟩
    have hi : ¬ i < (s.size : Int) := by omega
    refine ⟨out, by omega, fun k hk => ?_, ?_⟩
    · obtain ⟨k, rfl⟩ : ∃ m, k = m + 1 := ⟨k - 1, by omega⟩
      simp only [impl_runsOf.l0, hi, if_false]
    · rw [List.drop_of_length_le (by rw [nums8_len]; omega)]; simp [wgo]
  | succ d ih =>
    obtain ⟨ihA, ihB⟩ := ih
    refine ⟨fun i out h0 hd ho => ?_, fun i fr z cur out h0 h1 hd ho hw hw2 => ?_⟩
    · by_cases hi : i < (s.size : Int)
      · have hr := bt_range s i
        rw [drop_nums8 s i h0 hi, wgo]
        by_cases c : isW (low (bt s i)) = true
        · have hb := isW_range c
          have hz : (⟨#[]⟩ : ByteArray).size + (strOfNums [low (bt s i)]).size ≤ 9223372036854775807 := by rw [one_size]; show 0 + 1 ≤ _; omega
          obtain ⟨R, hR, a1, a2⟩ := ihB (i + 1) i 0 [low (bt s i)] out (by omega) (by omega) (by omega) (by omega) (by simp) (by simp; omega)
          refine ⟨R, hR, fun k hk => ?_, ?_⟩
          · obtain ⟨k, rfl⟩ : ∃ m, k = m + 2 := ⟨k - 2, by omega⟩
            have e0 : (⟨#[]⟩ : ByteArray) ++ strOfNums [low (bt s i)] = strOfNums [low (bt s i)] := by
              have := strOf_append [] [low (bt s i)]
              rw [List.nil_append] at this
              exact this.symm
            rw [impl_runsOf.l0]
            simp only [hi, h0, if_true, lower_some _ hr.1, wordByte_some, Option.bind_some, c]
            rw [impl_runsOf.l1]
            simp only [hi, h0, if_true, lower_some _ hr.1, wordByte_some, Option.bind_some, c, enc_one _ (show 0 ≤ low (bt s i) by omega) (by omega), hz, wsucc h0 (by omega), e0]
            exact a1 k (by omega)
          · rw [if_pos c, List.nil_append]; exact a2
        · have c' : isW (low (bt s i)) = false := by simpa using c
          obtain ⟨R, hR, a1, a2⟩ := ihA (i + 1) out (by omega) (by omega) (by omega)
          refine ⟨R, hR, fun k hk => ?_, ?_⟩
          · obtain ⟨k, rfl⟩ : ∃ m, k = m + 1 := ⟨k - 1, by omega⟩
            rw [impl_runsOf.l0]
            simp only [hi, h0, if_true, lower_some _ hr.1, wordByte_some, Option.bind_some, c', Bool.false_eq_true, if_false, wsucc h0 (by omega)]
            exact a1 k (by omega)
          · rw [if_neg c, if_pos rfl]; exact a2
      · refine ⟨out, by omega, fun k hk => ?_, ?_⟩
        · obtain ⟨k, rfl⟩ : ∃ m, k = m + 1 := ⟨k - 1, by omega⟩
          simp only [impl_runsOf.l0, hi, if_false]
        · rw [List.drop_of_length_le (by rw [nums8_len]; omega)]; simp [wgo]
    · have hb1 : out.length < 4398046511104 := by omega
      obtain ⟨R0, hR0, b1, b2⟩ := ihA (i + 1) (out ++ [(⟨fr, i, strOfNums cur⟩ : S89)]) (by omega) (by omega) (by simp; omega)
      by_cases hi : i < (s.size : Int)
      · have hr := bt_range s i
        rw [drop_nums8 s i h0 hi, wgo]
        by_cases c : isW (low (bt s i)) = true
        · have hb := isW_range c
          have hz : (strOfNums cur).size + (strOfNums [low (bt s i)]).size ≤ 9223372036854775807 := by rw [one_size, strOf_size]; omega
          obtain ⟨R, hR, a1, a2⟩ := ihB (i + 1) fr z (cur ++ [low (bt s i)]) out (by omega) (by omega) (by omega) (by omega) (by simp) (by simp; omega)
          rw [strOf_append] at a1
          refine ⟨R, hR, fun k hk => ?_, ?_⟩
          · obtain ⟨k, rfl⟩ : ∃ m, k = m + 1 := ⟨k - 1, by omega⟩
            rw [impl_runsOf.l1]
            simp only [hi, h0, if_true, lower_some _ hr.1, wordByte_some, Option.bind_some, c, enc_one _ (show 0 ≤ low (bt s i) by omega) (by omega), hz, wsucc h0 (by omega)]
            exact a1 k (by omega)
          · rw [if_pos c]; exact a2
        · have c' : isW (low (bt s i)) = false := by simpa using c
          refine ⟨R0, hR0, fun k hk => ?_, ?_⟩
          · obtain ⟨k, rfl⟩ : ∃ m, k = m + 1 := ⟨k - 1, by omega⟩
            rw [impl_runsOf.l1]
            simp only [hi, h0, if_true, lower_some _ hr.1, wordByte_some, Option.bind_some, c', Bool.false_eq_true, if_false, hb1, wsucc h0 (by omega)]
            exact b1 k (by omega)
          · rw [if_neg c, if_neg hw, b2]; simp [wordOf]
      · refine ⟨R0, hR0, fun k hk => ?_, ?_⟩
        · obtain ⟨k, rfl⟩ : ∃ m, k = m + 1 := ⟨k - 1, by omega⟩
          rw [impl_runsOf.l1]
          simp only [hi, if_false, hb1, if_true, wsucc h0 (by omega)]
          exact b1 k (by omega)
        · rw [b2, List.drop_of_length_le (by rw [nums8_len]; omega), List.drop_of_length_le (by rw [nums8_len]; omega)]
          simp [wgo, wordOf, hw]
/-- The words of a text. -/
def wordsW (s : ByteArray) : List (List Int) := wgo (nums8 s) []
theorem WordsOf_model (s : ByteArray) (ht : textB s = true) : From (fun k => impl_WordsOf.f k s) ((wordsW s).map strOfNums, true) := by
  have hs := text_short ht
  obtain ⟨K2, e2⟩ := IsText_from s (by omega)
  rw [ht] at e2
  obtain ⟨R, hR, a1, a2⟩ := (words_model s hs (s.size + 1)).1 0 [] (by omega) (by omega) (by simp)
  obtain ⟨L, hL⟩ := collect_loop (fun k out i => impl_words.l0 k out R R.length i) R z89 0 (fun r => some (wordOf r)) (fun k out i _ h0 h1 ho => by
    have hb : out.length < 8796093022208 := by omega
    simp only [impl_words.l0, h0, h1, hb, if_true, wsucc h0 (by omega), rd_T89, Option.toList, wordOf]) (fun k out _ => by simp only [impl_words.l0, Int.lt_irrefl, if_false])
  have e : (R.filterMap fun r => some (wordOf r)) = R.map wordOf := congrFun (List.filterMap_eq_map' ..) R
  rw [e, a2] at hL
  have hz : (wgo ((nums8 s).drop (0 : Int).toNat) []) = wordsW s := rfl
  rw [hz, List.map_nil, List.nil_append] at hL
  refine ⟨4 * (s.size + 1) + 4 + L + K2, fun k hk => ?_⟩
  have h1 := a1 k (by omega)
  have h2 := hL k (by omega)
  simp only [impl_WordsOf.f, e2 k (by omega), Option.bind_some, if_true, impl_words.f, impl_runsOf.f, h1, h2]
def digI (u : Nat) : List Int := (Lib.decDigits u).map fun b => (b.toNat : Int)
theorem digI_small {u : Nat} (h : u < 10) : digI u = [48 + (u : Int)] := by
  rw [digI, Lib.decDigits, dif_pos h]
  simp only [List.map_cons, List.map_nil, UInt8.toNat_ofNat']
  congr 1
  omega
theorem dec_impl (n : Int) (h0 : -9223372036854775808 ≤ n) (h1 : n ≤ 9223372036854775807) : impl_Decimal.f n = some (decB n) := by
  unfold impl_Decimal.f; rw [if_pos ⟨h0, h1⟩]
def dstep (a : Nat) (c : UInt8) : Nat := if 48 ≤ c.toNat ∧ c.toNat ≤ 57 then 10 * a + (c.toNat - 48) else a
def foldV (l : List UInt8) (a : Nat) : Nat := l.foldl dstep a
theorem foldV_append (l m : List UInt8) (a : Nat) : foldV (l ++ m) a = foldV m (foldV l a) := List.foldl_append ..
theorem c48 (d : Nat) (h : d < 10) : (UInt8.ofNat (48 + d)).toNat = 48 + d := by
  rw [UInt8.toNat_ofNat']; omega
theorem dig_all : ∀ (n u : Nat), u ≤ n → (∀ c ∈ Lib.decDigits u, 48 ≤ c.toNat ∧ c.toNat ≤ 57) ∧ foldV (Lib.decDigits u) 0 = u ∧ Lib.decDigits u ≠ [] ∧ ∀ m, u < 10 ^ (m + 1) → (Lib.decDigits u).length ≤ m + 1
  | n, u, h => by
    rw [Lib.decDigits]
    by_cases hs : u < 10
    · rw [dif_pos hs]
      have hc := c48 u hs
      refine ⟨?_, ?_, by simp, fun m _ => by simp⟩
      · intro c hm
        simp only [List.mem_cons, List.not_mem_nil, or_false] at hm
        subst hm
        rw [hc]; omega
      · show dstep 0 _ = u
        unfold dstep
        rw [hc, if_pos (by omega)]; omega
    · rw [dif_neg hs]
      match n, h with
      | 0, h => omega
      | n + 1, h =>
        obtain ⟨i1, i2, i3, i4⟩ := dig_all n (u / 10) (by omega)
        have hc := c48 (u % 10) (by omega)
        refine ⟨?_, ?_, by simp, ?_⟩
        · intro c hm
          rcases List.mem_append.1 hm with hm | hm
          · exact i1 c hm
          · simp only [List.mem_cons, List.not_mem_nil, or_false] at hm
            subst hm
            rw [hc]; omega
        · rw [foldV_append, i2]
          show dstep (u / 10) _ = u
          unfold dstep
          rw [hc, if_pos (by omega)]; omega
        · intro m hm
          match m, hm with
          | 0, hm => simp at hm; omega
          | m + 1, hm =>
            have := i4 m (by rw [Nat.pow_succ] at hm; omega)
            simp only [List.length_append, List.length_cons, List.length_nil]
            omega
theorem itoa_len (v : Int) (h0 : -1000000000 ≤ v) (h1 : v ≤ 1000000000) : (Lib.itoa v).length ≤ 11 := by
  obtain ⟨_, _, _, i4⟩ := dig_all v.natAbs v.natAbs (Nat.le_refl _)
  have i5 := i4 9 (by omega)
  unfold Lib.itoa
  split
  · simp only [List.length_cons]; omega
  · rw [show v.toNat = v.natAbs by omega]; omega
theorem itoa_len64 (v : Int) (h0 : -9223372036854775808 ≤ v) (h1 : v ≤ 9223372036854775807) : (Lib.itoa v).length ≤ 20 := by
  obtain ⟨_, _, _, i4⟩ := dig_all v.natAbs v.natAbs (Nat.le_refl _)
  have i5 := i4 18 (by omega)
  unfold Lib.itoa
  split
  · simp only [List.length_cons]; omega
  · rw [show v.toNat = v.natAbs by omega]; omega
theorem foldV_le : ∀ (l : List UInt8) (a : Nat), a ≤ foldV l a
  | [], a => Nat.le_refl _
  | c :: l, a => by
    have := foldV_le l (dstep a c)
    show a ≤ foldV l (dstep a c)
    have h2 : a ≤ dstep a c := by unfold dstep; split <;> omega
    omega
theorem parse_digits : ∀ (l : List UInt8) (a : Nat), (∀ c ∈ l, 48 ≤ c.toNat ∧ c.toNat ≤ 57) → foldV l a ≤ 10000000000 → Lib.parseUintM (2 ^ 64 - 1) a l = .ok (foldV l a)
  | [], a, _, _ => rfl
  | c :: l, a, h, hb => by
    have hc := h c (List.mem_cons_self ..)
    have hm : foldV (c :: l) a = foldV l (dstep a c) := rfl
    have hd : dstep a c = a * 10 + (c.toNat - 48) := by unfold dstep; rw [if_pos hc]; omega
    have hl := foldV_le l (dstep a c)
    rw [hm] at hb ⊢
    have hdb : a * 10 + (c.toNat - 48) ≤ 10000000000 := by omega
    rw [Lib.parseUintM, if_pos hc, if_neg (by omega), if_neg (by omega), ← hd]
    exact parse_digits l _ (fun x hx => h x (List.mem_cons_of_mem _ hx)) hb
theorem parse_dec (v : Int) (h0 : -1000000000 ≤ v) (h1 : v ≤ 1000000000) : Lib.parseIntB 64 (decB v).data.toList = .ok v := by
  show Lib.parseIntB 64 (Lib.itoa v) = .ok v
  have key : ∀ u : Nat, u ≤ 1000000000 → Lib.parseUintB 64 (Lib.decDigits u) = .ok u := by
    intro u hu
    obtain ⟨i1, i2, i3, _⟩ := dig_all u u (Nat.le_refl _)
    unfold Lib.parseUintB
    rw [if_neg i3, parse_digits _ 0 i1 (by rw [i2]; omega), i2]
  unfold Lib.itoa
  split
  · rw [Lib.parseIntB_minus, key _ (by omega)]
    unfold Lib.signedC
    simp only
    rw [if_neg (by omega)]
    congr 1
    omega
  · have hk := key v.toNat (by omega)
    obtain ⟨i1, _, i3, _⟩ := dig_all v.toNat v.toNat (Nat.le_refl _)
    generalize Lib.decDigits v.toNat = l at *
    match l, i3 with
    | c :: r, _ =>
      have hc := i1 c (List.mem_cons_self ..)
      rw [Lib.parseIntB_plain 64 c r (by omega) (by omega), hk]
      unfold Lib.signlessC
      simp only
      rw [if_neg (by omega)]
      congr 1
      omega
def sval (s : ByteArray) : Int := if bt s 0 = 45 then -((foldV s.data.toList 0 : Nat) : Int) else ((foldV s.data.toList 0 : Nat) : Int)
theorem bt_at (s : ByteArray) (i : Nat) (h : i < s.size) : ∃ c : UInt8, s.data.toList[i]? = some c ∧ bt s (i : Int) = (c.toNat : Int) := by
  refine ⟨s[i], ?_, ?_⟩
  · have : i < s.data.toList.length := by simpa using h
    rw [List.getElem?_eq_getElem this]; rfl
  · unfold bt
    rw [dif_pos (by simpa using h)]
    rfl
theorem sval_dec (v : Int) (h0 : -1000000000 ≤ v) (h1 : v ≤ 1000000000) : sval (decB v) = v ∧ 1 ≤ (decB v).size ∧ (decB v).size ≤ 11 := by
  have hsz : (decB v).size = (Lib.itoa v).length := by unfold decB; show (Lib.itoa v).toArray.size = _; simp
  have hl : (decB v).data.toList = Lib.itoa v := rfl
  obtain ⟨i1, i2, i3, i4⟩ := dig_all v.natAbs v.natAbs (Nat.le_refl _)
  have i5 := i4 9 (by omega)
  by_cases hv : v < 0
  · have e : Lib.itoa v = 45 :: Lib.decDigits v.natAbs := by unfold Lib.itoa; rw [if_pos hv]
    have hn : 1 ≤ (decB v).size := by rw [hsz, e]; simp
    obtain ⟨c, c1, c2⟩ := bt_at (decB v) 0 (by omega)
    rw [hl, e] at c1
    simp only [List.getElem?_cons_zero, Option.some.injEq] at c1
    subst c1
    refine ⟨?_, hn, by rw [hsz, e]; simp; omega⟩
    unfold sval
    rw [if_pos (by exact c2), hl, e]
    show -((foldV (Lib.decDigits v.natAbs) 0 : Nat) : Int) = v
    rw [i2]; omega
  · have e : Lib.itoa v = Lib.decDigits v.natAbs := by unfold Lib.itoa; rw [if_neg hv]; congr 1; omega
    have hn : 1 ≤ (decB v).size := by rw [hsz, e]; exact List.length_pos_iff.2 i3
    obtain ⟨c, c1, c2⟩ := bt_at (decB v) 0 (by omega)
    rw [hl, e] at c1
    have hc := i1 c (List.mem_of_getElem? c1)
    refine ⟨?_, hn, by rw [hsz, e]; omega⟩
    unfold sval
    have hne : ¬ bt (decB v) 0 = 45 := by
      intro h
      have c3 : bt (decB v) 0 = (c.toNat : Int) := c2
      rw [c3] at h; omega
    rw [if_neg hne, hl, e, i2]; omega
/-- What both answer. -/
def specD (s : ByteArray) : Int × Bool := if (1 ≤ s.size ∧ s.size ≤ 11) ∧ (-1000000000 ≤ sval s ∧ sval s ≤ 1000000000) ∧ decB (sval s) = s then (sval s, true) else (0, false)
theorem specD_readD (s : ByteArray) : readD s = specD s := by
  have back : ∀ n : Int, -1000000000 ≤ n → n ≤ 1000000000 → decB n = s → Lib.parseIntB 64 s.data.toList = .ok n ∧ specD s = (n, true) := by
    intro n h0 h1 e
    subst e
    obtain ⟨a, b, c⟩ := sval_dec n h0 h1
    refine ⟨parse_dec n h0 h1, ?_⟩
    unfold specD
    rw [a, if_pos ⟨⟨b, c⟩, ⟨h0, h1⟩, rfl⟩]
  by_cases hs : (1 ≤ s.size ∧ s.size ≤ 11) ∧ (-1000000000 ≤ sval s ∧ sval s ≤ 1000000000) ∧ decB (sval s) = s
  · obtain ⟨p, q⟩ := back _ hs.2.1.1 hs.2.1.2 hs.2.2
    rw [q, readD_ok p, if_pos ⟨hs.2.1, hs.2.2⟩]
  · have hz : specD s = (0, false) := by unfold specD; rw [if_neg hs]
    rw [hz]
    by_cases hk : ∃ v, Lib.parseIntB 64 s.data.toList = .ok v
    · obtain ⟨v, hv⟩ := hk
      rw [readD_ok hv]
      split
      · rename_i hc
        obtain ⟨_, q⟩ := back v hc.1.1 hc.1.2 hc.2
        rw [hz] at q
        cases q
      · rfl
    · exact readD_not fun v e => hk ⟨v, e⟩
theorem l00Put_done (l : List Int) (n : Int) (h : l.length ≤ 1048576) : ∀ (m k : Nat) (out : List Int) (i : Int), 0 ≤ i → i ≤ l.length → (l.length : Int) - i = m → 2 * m < k → out.length ≤ 2097152 - m → spec_l00Put.l0 k l n out true i = some (out ++ l.drop i.toNat) := by
  intro m
  induction m with
  | zero =>
    intro k out i h0 h1 hm hk ho
    obtain ⟨k, rfl⟩ : ∃ m, k = m + 1 := ⟨k - 1, by omega⟩
    have hi : ¬ i < (l.length : Int) := by omega
    simp only [spec_l00Put.l0, hi, if_false, if_true]
    rw [List.drop_of_length_le (by omega), List.append_nil]
  | succ m ih =>
    intro k out i h0 h1 hm hk ho
    obtain ⟨k, rfl⟩ : ∃ m, k = m + 2 := ⟨k - 2, by omega⟩
    have hi : i < (l.length : Int) := by omega
    have hin : i.toNat < l.length := by omega
    have hb : out.length < 17592186044416 := by omega
    simp only [spec_l00Put.l0, spec_l00Put.j1, hi, h0, hb, if_true, if_false, Bool.false_eq_true, wsucc h0 (by omega), rd]
    rw [ih k _ (i + 1) (by omega) (by omega) (by omega) (by omega) (by simp; omega), List.drop_eq_getElem_cons hin, show (i + 1).toNat = i.toNat + 1 by omega, List.getD_eq_getElem?_getD, List.getElem?_eq_getElem hin]
    simp [-List.getElem_cons_drop]
theorem l00Put_rounds (l : List Int) (n : Int) (h : l.length ≤ 1048576) : ∀ (m k : Nat) (out : List Int) (i : Int), 0 ≤ i → i ≤ l.length → (l.length : Int) - i = m → 2 * m < k → (out.length : Int) = i → spec_l00Put.l0 k l n out false i = some (out ++ putL (l.drop i.toNat) n) := by
  intro m
  induction m with
  | zero =>
    intro k out i h0 h1 hm hk ho
    obtain ⟨k, rfl⟩ : ∃ m, k = m + 1 := ⟨k - 1, by omega⟩
    have hi : ¬ i < (l.length : Int) := by omega
    have hb : out.length < 17592186044416 := by omega
    simp only [spec_l00Put.l0, hi, hb, if_false, if_true, Bool.false_eq_true]
    rw [List.drop_of_length_le (by omega), putL]
  | succ m ih =>
    intro k out i h0 h1 hm hk ho
    obtain ⟨k, rfl⟩ : ∃ m, k = m + 2 := ⟨k - 2, by omega⟩
    have hi : i < (l.length : Int) := by omega
    have hin : i.toNat < l.length := by omega
    have hb : out.length < 17592186044416 := by omega
    have hb2 : out.length + 1 < 17592186044416 := by omega
    have hx : l.getD i.toNat 0 = l[i.toNat] := by rw [List.getD_eq_getElem?_getD, List.getElem?_eq_getElem hin]; rfl
    rw [List.drop_eq_getElem_cons hin]
    by_cases c1 : l[i.toNat] ≥ n
    · by_cases c2 : l[i.toNat] > n
      · simp only [spec_l00Put.l0, spec_l00Put.j1, hi, h0, hb, hb2, if_true, if_false, Bool.false_eq_true, wsucc h0 (by omega), rd, hx, c1, c2, decide_true, Option.bind_some, List.length_append, List.length_singleton, putL]
        rw [l00Put_done l n h m k _ (i + 1) (by omega) (by omega) (by omega) (by omega) (by simp; omega), show (i + 1).toNat = i.toNat + 1 by omega]
        simp [-List.getElem_cons_drop]
      · simp only [spec_l00Put.l0, spec_l00Put.j1, hi, h0, hb, if_true, if_false, Bool.false_eq_true, wsucc h0 (by omega), rd, hx, c1, c2, decide_true, putL]
        rw [l00Put_done l n h m k _ (i + 1) (by omega) (by omega) (by omega) (by omega) (by simp; omega), show (i + 1).toNat = i.toNat + 1 by omega]
        simp [-List.getElem_cons_drop]
    · simp only [spec_l00Put.l0, spec_l00Put.j1, hi, h0, hb, if_true, if_false, Bool.false_eq_true, wsucc h0 (by omega), rd, hx, c1, decide_false, putL]
      rw [ih k _ (i + 1) (by omega) (by omega) (by omega) (by omega) (by simp; omega), show (i + 1).toNat = i.toNat + 1 by omega]
      simp
theorem l00Put_from (l : List Int) (n : Int) (h : l.length ≤ 1048576) : ∀ k, 2 * l.length + 1 ≤ k → spec_l00Put.f k l n = some (putL l n) := fun k hk => by
  have := l00Put_rounds l n h l.length k [] 0 (by omega) (by omega) (by omega) (by omega) (by simp)
  simpa [spec_l00Put.f] using this
def digitB (c : Int) : Bool := decide (48 ≤ c ∧ c ≤ 57)
theorem digit_impl (c : Int) : impl_isDigit.f c = some (digitB c) := by
  unfold impl_isDigit.f digitB
  split
  · congr 1; rw [decide_eq_decide]; omega
  · congr 1; symm; rw [decide_eq_false_iff_not]; omega
/-- Where the digits end. -/
def endAt (s : ByteArray) : Nat → Nat → Nat
  | 0, i => i
  | d + 1, i => if digitB (bt s (i : Int)) = true then endAt s d (i + 1) else i
theorem endAt_le (s : ByteArray) : ∀ d i, i ≤ endAt s d i ∧ endAt s d i ≤ i + d
  | 0, i => ⟨Nat.le_refl _, Nat.le_refl _⟩
  | d + 1, i => by
    unfold endAt
    split
    · have := endAt_le s d (i + 1); omega
    · omega
def menAt (s : ByteArray) (i : Nat) : Option Int :=
  if bt s (i : Int) = 64 then (if (specD (s.extract (i + 1) (endAt s (s.size - (i + 1)) (i + 1)))).2 = true ∧ (1 ≤ (specD (s.extract (i + 1) (endAt s (s.size - (i + 1)) (i + 1)))).1 ∧ (specD (s.extract (i + 1) (endAt s (s.size - (i + 1)) (i + 1)))).1 ≤ 1000) then some (specD (s.extract (i + 1) (endAt s (s.size - (i + 1)) (i + 1)))).1 else none) else none
def mens (s : ByteArray) : Nat → Nat → List Int
  | 0, _ => []
  | d + 1, i => (menAt s i).toList ++ mens s d (i + 1)
theorem mens_len (s : ByteArray) : ∀ d i, (mens s d i).length ≤ d
  | 0, _ => Nat.le_refl _
  | d + 1, i => by
    have := mens_len s d (i + 1)
    unfold mens
    rw [List.length_append]
    have : (menAt s i).toList.length ≤ 1 := by cases menAt s i <;> simp
    omega
theorem from_step {α : Type} {f g : Nat → Option α} {r : α} (h : From f r) (K : Nat) (e : ∀ k, K ≤ k → g (k + 1) = f k) : From g r := by
  obtain ⟨L, hL⟩ := h
  refine ⟨K + L + 1, fun k hk => ?_⟩
  obtain ⟨k, rfl⟩ : ∃ n, k = n + 1 := ⟨k - 1, by omega⟩
  rw [e k (by omega)]
  exact hL k (by omega)
theorem impl_l1 (s : ByteArray) (hs : s.size ≤ 1048576) (out : List Int) (i : Nat) (n m : Int) (r : List Int) : ∀ (d j : Nat), j + d = s.size → From (fun k => impl_mentions.j2 k s out (i : Int) ((endAt s d j : Nat) : Int) n m) r → From (fun k => impl_mentions.l1 k s out (i : Int) (j : Int) n m) r
  | 0, j, h, hf => from_step hf 0 fun k _ => by
    rw [impl_mentions.l1, if_neg (by omega)]
    rfl
  | d + 1, j, h, hf => by
    by_cases c : digitB (bt s (j : Int)) = true
    · rw [endAt, if_pos c] at hf
      refine from_step (impl_l1 s hs out i n m r d (j + 1) (by omega) hf) 0 fun k _ => ?_
      rw [impl_mentions.l1, if_pos (by omega), if_pos (by omega), digit_impl, Option.bind_some, if_pos c, wsucc (by omega) (by omega)]
      rfl
    · rw [endAt, if_neg c] at hf
      refine from_step hf 0 fun k _ => ?_
      rw [impl_mentions.l1, if_pos (by omega), if_pos (by omega), digit_impl, Option.bind_some, if_neg c]
theorem part_size (s : ByteArray) (a b : Nat) : (s.extract a b).size ≤ s.size := by
  rw [ByteArray.size_extract]; omega
theorem impl_mens (s : ByteArray) (hs : s.size ≤ 524288) : ∀ (d i : Nat) (out : List Int), i + d = s.size → out.length ≤ i → From (fun k => impl_mentions.l0 k s out (s.size : Int) (i : Int)) (setOf (out ++ mens s d i))
  | 0, i, out, h, ho => by
    refine ⟨1, fun k hk => ?_⟩
    obtain ⟨k, rfl⟩ : ∃ n, k = n + 1 := ⟨k - 1, by omega⟩
    show impl_mentions.l0 (k + 1) s out (s.size : Int) (i : Int) = _
    have h3 : out.length < 4611686018427387904 := by omega
    have h4 : (out.mergeSort fun x y => decide (x ≤ y)).length ≤ 9223372036854775807 := by rw [List.length_mergeSort]; omega
    rw [impl_mentions.l0, if_neg (by omega), slices_Sort.f, if_pos h3, Option.bind_some, slices_Compact.f, if_pos h4, Option.bind_some]
    unfold mens setOf
    rw [List.append_nil]
  | d + 1, i, out, h, ho => by
    have hi : i < s.size := by omega
    have hw : wrap64 ((i : Int) + 1) = ((i + 1 : Nat) : Int) := by rw [wsucc (by omega) (by omega)]; rfl
    unfold mens
    by_cases c : bt s (i : Int) = 64
    · have hle := endAt_le s (s.size - (i + 1)) (i + 1)
      obtain ⟨t, ht⟩ : ∃ t, t = endAt s (s.size - (i + 1)) (i + 1) := ⟨_, rfl⟩
      have hm : menAt s i = (if (specD (s.extract (i + 1) t)).2 = true ∧ (1 ≤ (specD (s.extract (i + 1) t)).1 ∧ (specD (s.extract (i + 1) t)).1 ≤ 1000) then some (specD (s.extract (i + 1) t)).1 else none) := by
        unfold menAt; rw [if_pos c, ← ht]
      rw [← ht] at hle
      rw [hm]
      refine from_step (f := fun k => impl_mentions.l1 k s out (i : Int) ((i + 1 : Nat) : Int) (s.size : Int) (i : Int)) (impl_l1 s (by omega) out i _ _ _ (s.size - (i + 1)) (i + 1) (by omega) ?_) 0 fun k _ => ?_
      · rw [← ht]
        have hv : impl_ReadDecimal.f (s.extract (i + 1) t) = some (specD (s.extract (i + 1) t)) := by
          unfold impl_ReadDecimal.f
          rw [if_pos (by have := part_size s (i + 1) t; omega), specD_readD]
        generalize specD (s.extract (i + 1) t) = g at *
        obtain ⟨v, b⟩ := g
        have hb : out.length < 17592186044416 := by omega
        cases b with
        | false =>
          refine from_step (impl_mens s hs d (i + 1) out (by omega) (by omega)) 0 fun k hk => ?_
          rw [impl_mentions.j2, hw, if_pos (by omega), if_pos (by omega), if_pos (by omega), Int.toNat_natCast, Int.toNat_natCast, hv, Option.bind_some]
          simp
        | true =>
          by_cases g : 1 ≤ v ∧ v ≤ 1000
          · have := impl_mens s hs d (i + 1) (out ++ [v]) (by omega) (by simp; omega)
            refine from_step (f := fun k => impl_mentions.l0 k s (out ++ [v]) (s.size : Int) ((i + 1 : Nat) : Int)) (by simpa [g] using this) 0 fun k hk => ?_
            rw [impl_mentions.j2, hw, if_pos (by omega), if_pos (by omega), if_pos (by omega), Int.toNat_natCast, Int.toNat_natCast, hv, Option.bind_some]
            simp only [if_true, impl_isMember.f, in_some, Option.bind_some, g, and_self, decide_true, hb]
          · refine from_step (f := fun k => impl_mentions.l0 k s out (s.size : Int) ((i + 1 : Nat) : Int)) (by simpa [g] using impl_mens s hs d (i + 1) out (by omega) (by omega)) 0 fun k hk => ?_
            rw [impl_mentions.j2, hw, if_pos (by omega), if_pos (by omega), if_pos (by omega), Int.toNat_natCast, Int.toNat_natCast, hv, Option.bind_some]
            simp only [if_true, impl_isMember.f, in_some, Option.bind_some, g, decide_false, Bool.false_eq_true, if_false]
      · show impl_mentions.l0 (k + 1) s out (s.size : Int) (i : Int) = _
        rw [impl_mentions.l0, if_pos (by omega), if_pos (by omega), if_pos (by omega), if_pos c, hw]
    · have hm : menAt s i = none := by unfold menAt; rw [if_neg c]
      rw [hm]
      refine from_step (impl_mens s hs d (i + 1) out (by omega) (by omega)) 0 fun k _ => ?_
      show impl_mentions.l0 (k + 1) s out (s.size : Int) (i : Int) = _
      rw [impl_mentions.l0, if_pos (by omega), if_pos (by omega), if_pos (by omega), if_neg c, hw]
theorem bt_nums8 (s : ByteArray) (i : Nat) : bt s (i : Int) = (nums8 s).getD i 0 := by
  have := rd_bytesOf s (i : Int)
  unfold rd at this
  rw [Int.toNat_natCast] at this
  exact this.symm
theorem nums8_inj {a b : ByteArray} (h : nums8 a = nums8 b) : a = b := by
  apply ByteArray.ext
  apply Array.toList_inj.1
  have hi : Function.Injective (fun c : UInt8 => (c.toNat : Int)) := fun x y e => UInt8.toNat_inj.1 (by have : (x.toNat : Int) = y.toNat := e; omega)
  exact (List.map_inj_right (fun x y e => hi e)).1 h
theorem nums8_extract (s : ByteArray) (a b : Nat) : nums8 (s.extract a b) = ((nums8 s).take b).drop a := by
  unfold nums8 bytesOf
  rw [Lib.extract_data, List.map_take, List.map_drop, List.drop_take]
theorem nums8_append (a b : ByteArray) : nums8 (a ++ b) = nums8 a ++ nums8 b := by
  unfold nums8 bytesOf
  simp
theorem nums8_dec (x : Int) (h0 : 0 ≤ x) (h1 : x < 10) : nums8 (decB x) = [48 + x] := by
  have e : nums8 (decB x) = digI x.toNat := by
    unfold nums8 bytesOf decB digI Lib.itoa
    rw [if_neg (by omega)]
  rw [e, digI_small (by omega)]
  congr 1; omega
def tailL : List Int → List Int
  | [] => []
  | x :: xs => 32 :: 64 :: (48 + x) :: tailL xs
theorem tailL_len : ∀ a : List Int, (tailL a).length = 3 * a.length
  | [] => rfl
  | _ :: xs => by simp only [tailL, List.length_cons, tailL_len xs]; omega
theorem tailL_head (a : List Int) : tailL a = [] ∨ ∃ r, tailL a = 32 :: r := by
  cases a with
  | nil => exact .inl rfl
  | cons x xs => exact .inr ⟨_, rfl⟩
theorem getD_mid (P : List Int) (c : Int) (r : List Int) : (P ++ c :: r).getD P.length 0 = c := by
  rw [List.getD_eq_getElem?_getD, List.getElem?_append_right (Nat.le_refl _), Nat.sub_self]; rfl
theorem getD_mid2 (P : List Int) (c d : Int) (r : List Int) : (P ++ c :: d :: r).getD (P.length + 1) 0 = d := by
  simp
theorem getD_mid3 (P : List Int) (c d e : Int) (r : List Int) : (P ++ c :: d :: e :: r).getD (P.length + 2) 0 = e := by
  simp
theorem men_hit (s : ByteArray) (P rest : List Int) (x : Int) (h : nums8 s = P ++ 64 :: (48 + x) :: rest) (hr : rest = [] ∨ ∃ r, rest = 32 :: r) (h0 : 1 ≤ x) (h1 : x ≤ 9) : menAt s P.length = some x := by
  have hsz : s.size = P.length + 2 + rest.length := by rw [← nums8_len, h]; simp; omega
  have b0 : bt s (P.length : Int) = 64 := by rw [bt_nums8, h, getD_mid]
  have b1 : bt s ((P.length + 1 : Nat) : Int) = 48 + x := by rw [bt_nums8, h, getD_mid2]
  have hd1 : digitB (48 + x) = true := by unfold digitB; simp; omega
  have he : endAt s (s.size - (P.length + 1)) (P.length + 1) = P.length + 2 := by
    rw [show s.size - (P.length + 1) = rest.length + 1 by omega, endAt, if_pos (by rw [b1]; exact hd1)]
    rcases hr with rfl | ⟨r, rfl⟩
    · rfl
    · have b2 : bt s ((P.length + 2 : Nat) : Int) = 32 := by rw [bt_nums8, h, getD_mid3]
      rw [List.length_cons, endAt, if_neg (by rw [b2]; decide)]
  have hx : s.extract (P.length + 1) (P.length + 2) = decB x := by
    apply nums8_inj
    rw [nums8_extract, nums8_dec x (by omega) (by omega), h]
    have e1 : (P ++ 64 :: (48 + x) :: rest) = (P ++ [64, 48 + x]) ++ rest := by simp
    have e2 : P.length + 2 = (P ++ [64, 48 + x]).length := by simp
    have e3 : P ++ [64, 48 + x] = (P ++ [64]) ++ [48 + x] := by simp
    have e4 : P.length + 1 = (P ++ [64]).length := by simp
    rw [e1, e2, List.take_left, e3, e4, List.drop_left]
  have hs : specD (decB x) = (x, true) := by
    obtain ⟨a, b, c⟩ := sval_dec x (by omega) (by omega)
    unfold specD
    rw [a, if_pos ⟨⟨b, c⟩, ⟨by omega, by omega⟩, rfl⟩]
  unfold menAt
  rw [if_pos b0, he, hx, hs, if_pos ⟨rfl, by omega, by omega⟩]
theorem men_miss (s : ByteArray) (i : Nat) (h : ¬ (nums8 s).getD i 0 = 64) : menAt s i = none := by
  unfold menAt; rw [bt_nums8, if_neg h]
theorem mens_tail (s : ByteArray) : ∀ (a P : List Int), (∀ x ∈ a, 1 ≤ x ∧ x ≤ 9) → nums8 s = P ++ tailL a → mens s (3 * a.length) P.length = a
  | [], P, _, _ => rfl
  | x :: xs, P, hx, h => by
    have h1 := hx x List.mem_cons_self
    rw [tailL] at h
    have ih := mens_tail s xs (P ++ [32, 64, 48 + x]) (fun y hy => hx y (List.mem_cons_of_mem _ hy)) (by rw [h]; simp)
    have hl : (P ++ [32, 64, 48 + x]).length = P.length + 2 + 1 := by simp
    rw [hl] at ih
    have m1 := men_hit s (P ++ [32]) (tailL xs) x (by rw [h]; simp) (tailL_head xs) h1.1 h1.2
    rw [List.length_append, List.length_singleton] at m1
    have m0 := men_miss s P.length (by rw [h, getD_mid]; decide)
    have m2 := men_miss s (P.length + 2) (by rw [h, getD_mid3]; omega)
    rw [show 3 * (x :: xs).length = 3 * xs.length + 2 + 1 by simp only [List.length_cons]; omega, mens, mens, mens, m0, m1, m2, ih]
    simp
theorem mens_said (s : ByteArray) (a : List Int) (hx : ∀ x ∈ a, 1 ≤ x ∧ x ≤ 9) (h : nums8 s = [104, 105] ++ tailL a) : mens s s.size 0 = a := by
  have hsz : s.size = 3 * a.length + 1 + 1 := by rw [← nums8_len, h, List.length_append, tailL_len]; simp only [List.length_cons, List.length_nil]; omega
  have ih := mens_tail s a [104, 105] hx h
  have m0 := men_miss s 0 (by rw [h]; simp)
  have m1 := men_miss s 1 (by rw [h]; simp)
  rw [hsz, mens, mens, m0, m1]
  simpa using ih
theorem text_of (s : ByteArray) (h : ∀ c ∈ nums8 s, 32 ≤ c ∧ c ≤ 126) (hs : s.size ≤ 80) : textB s = true := by
  unfold textB
  rw [Bool.and_eq_true, List.all_eq_true, decide_eq_true_eq]
  refine ⟨fun j hj => ?_, by omega⟩
  rw [List.mem_range] at hj
  unfold textByte
  rw [decide_eq_true_eq, bt_nums8]
  have hl : j < (nums8 s).length := by rw [nums8_len]; exact hj
  rw [List.getD_eq_getElem?_getD, List.getElem?_eq_getElem hl]
  exact h _ (List.getElem_mem hl)
theorem text_bytes {s : ByteArray} (h : textB s = true) : ∀ c ∈ nums8 s, 32 ≤ c ∧ c ≤ 126 := by
  unfold textB at h
  rw [Bool.and_eq_true, List.all_eq_true] at h
  intro c hc
  obtain ⟨j, hj, rfl⟩ := List.mem_iff_getElem.1 hc
  have := h.1 j (List.mem_range.2 (by rw [← nums8_len]; exact hj))
  unfold textByte at this
  rw [decide_eq_true_eq, bt_nums8, List.getD_eq_getElem?_getD, List.getElem?_eq_getElem hj] at this
  exact this
theorem said_text (s : ByteArray) (a : List Int) (hx : ∀ x ∈ a, 1 ≤ x ∧ x ≤ 9) (ha : a.length ≤ 20) (h : nums8 s = [104, 105] ++ tailL a) : textB s = true := by
  refine text_of s (fun c hc => ?_) (by rw [← nums8_len, h]; simp [tailL_len]; omega)
  rw [h] at hc
  have key : ∀ (a : List Int), (∀ x ∈ a, 1 ≤ x ∧ x ≤ 9) → ∀ c ∈ tailL a, 32 ≤ c ∧ c ≤ 126 := by
    intro a
    induction a with
    | nil => intro _ c hc; simp [tailL] at hc
    | cons x xs ih =>
      intro hx c hc
      have h1 := hx x List.mem_cons_self
      rw [tailL] at hc
      rcases List.mem_cons.1 hc with rfl | hc
      · omega
      rcases List.mem_cons.1 hc with rfl | hc
      · omega
      rcases List.mem_cons.1 hc with rfl | hc
      · omega
      exact ih (fun y hy => hx y (List.mem_cons_of_mem _ hy)) c hc
  rcases List.mem_append.1 hc with h2 | h2
  · simp at h2; omega
  · exact key a hx c h2
theorem and255 (y : Int) (h0 : 0 ≤ y) (h1 : y < 18446744073709551616) : 0 ≤ Go.bits .and .u64 y 255 ∧ Go.bits .and .u64 y 255 ≤ 255 := by
  rw [u64_and y 255 h0 h1 (by omega) (by omega)]
  have := @Nat.and_le_right y.toNat (255 : Int).toNat
  have h : (255 : Int).toNat = 255 := rfl
  rw [h] at this ⊢
  omega
theorem shift_range (z : Int) : 0 ≤ IntKind.u64.wrap z / 1099511627776 ∧ IntKind.u64.wrap z / 1099511627776 < 18446744073709551616 := by
  have h : 0 ≤ IntKind.u64.wrap z ∧ IntKind.u64.wrap z < 18446744073709551616 := by
    unfold IntKind.wrap IntKind.bits IntKind.signed
    simp
    omega
  omega
theorem nxt_range (z : Int) : 0 ≤ wrap64 (Go.bits .and .u64 (IntKind.u64.wrap z / 1099511627776) 255) ∧ wrap64 (Go.bits .and .u64 (IntKind.u64.wrap z / 1099511627776) 255) ≤ 255 := by
  obtain ⟨q0, q1⟩ := shift_range z
  obtain ⟨a0, a1⟩ := and255 _ q0 q1
  rw [w64 (by omega) (by omega)]
  exact ⟨a0, a1⟩
def bytesOk (l : List Int) : Prop := ∀ x ∈ l, 0 ≤ x ∧ x ≤ 255
theorem bytes_of_wf {l : List Int} (h : ∀ x ∈ l, (Lit.int .u8 x).wf = true) : bytesOk l := fun x hx => by
  have := h x hx
  simp only [Lit.wf, Bool.and_eq_true, decide_eq_true_eq] at this
  have h1 : IntKind.u8.min = 0 := by decide
  have h2 : IntKind.u8.max = 255 := by decide
  omega
theorem rd_ok {l : List Int} (h : bytesOk l) (i : Int) (h0 : 0 ≤ i) (h1 : i < l.length) : 0 ≤ rd l i ∧ rd l i ≤ 255 := by
  unfold rd
  exact h _ (getD_mem 0 (by omega))
theorem next_from {l : List Int} (h : bytesOk l) (p s : Int) (h0 : 0 ≤ p) (h1 : p ≤ 1000000) : ∃ r s', spec_l00Src_next.f l p s = some (r, p + 1, s') ∧ 0 ≤ r ∧ r ≤ 255 := by
  have hw : wrap64 (p + 1) = p + 1 := wsucc h0 (by omega)
  unfold spec_l00Src_next.f
  rw [hw]
  by_cases c : p < (l.length : Int)
  · have hr := rd_ok h p h0 c
    have hr' : wrap64 (rd l p) = rd l p := w64 (by omega) (by omega)
    rw [if_pos c, if_pos h0, if_pos (by omega), hr']
    exact ⟨_, _, rfl, hr.1, hr.2⟩
  · rw [if_neg c, if_neg (by omega)]
    exact ⟨_, _, rfl, (nxt_range _).1, (nxt_range _).2⟩
theorem pick_from {l : List Int} (h : bytesOk l) (p s n : Int) (h0 : 0 ≤ p) (h1 : p ≤ 999999) (hn : 1 < n) : ∃ r p' s', spec_l00Src_pick.f l p s n = some (r, p', s') ∧ 0 ≤ r ∧ r < n ∧ p ≤ p' ∧ p' ≤ p + 2 := by
  obtain ⟨r, s1, e1, a1, a2⟩ := next_from h p s h0 (by omega)
  obtain ⟨r2, s2, e2, b1, b2⟩ := next_from h (p + 1) s1 (by omega) (by omega)
  unfold spec_l00Src_pick.f
  rw [if_neg (by omega), e1]
  simp only [Option.bind_some]
  rw [e2]
  simp only [Option.bind_some]
  by_cases c : n > 200
  · rw [if_pos c, if_neg (by omega)]
    refine ⟨_, _, _, rfl, ?_, ?_, by omega, by omega⟩
    · rw [w64 (x := r * 256) (by omega) (by omega), w64 (by omega) (by omega)]; exact Int.tmod_nonneg _ (by omega)
    · exact Int.tmod_lt_of_pos _ (by omega)
  · rw [if_neg c, if_neg (by omega)]
    exact ⟨_, _, _, rfl, Int.tmod_nonneg _ a1, Int.tmod_lt_of_pos _ (by omega), by omega, by omega⟩
theorem from_pick {l : List Int} (h : bytesOk l) (n : Int) (hn : 1 < n) (p s : Int) (h0 : 0 ≤ p) (h1 : p ≤ 999999) : ∃ r p' s', spec_l00Src_pick.f l p s n = some (r, p', s') ∧ 0 ≤ r ∧ r < n ∧ 0 ≤ p' ∧ p' ≤ p + 2 := by
  obtain ⟨r, p', s', e, a, b, c, d⟩ := pick_from h p s n h0 h1 hn
  exact ⟨r, p', s', e, a, b, by omega, d⟩
theorem text_pick {l : List Int} (h : bytesOk l) (ts : List ByteArray) (hn : 1 < ts.length) (p s : Int) (h0 : 0 ≤ p) (h1 : p ≤ 999999) : ∃ t p' s', spec_l00Src_text.f l p s ts = some (t, p', s') ∧ t ∈ ts ∧ 0 ≤ p' ∧ p' ≤ p + 2 := by
  obtain ⟨r, p', s', e, a, b, c, d⟩ := from_pick h (ts.length : Int) (by omega) p s h0 h1
  refine ⟨rdOf ByteArray.empty ts r, p', s', ?_, ?_, c, d⟩
  · unfold spec_l00Src_text.f
    rw [e]
    simp only [Option.bind_some]
    rw [if_pos a, if_pos b]
  · unfold rdOf
    exact getD_mem _ (by omega)
def okT (t : ByteArray) : Bool := (nums8 t).all (fun c => decide (32 ≤ c ∧ c ≤ 126)) && decide (t.size ≤ 5)
theorem okT_tells {t : ByteArray} (h : okT t = true) : (∀ c ∈ nums8 t, 32 ≤ c ∧ c ≤ 126) ∧ t.size ≤ 5 := by
  unfold okT at h
  rw [Bool.and_eq_true, List.all_eq_true, decide_eq_true_eq] at h
  exact ⟨fun c hc => by simpa using h.1 c hc, h.2⟩
def pieces : List ByteArray := [(⟨#[104, 101, 108, 108, 111]⟩ : ByteArray), (⟨#[82, 111, 111, 109]⟩ : ByteArray), (⟨#[97, 116]⟩ : ByteArray), (⟨#[55]⟩ : ByteArray), (⟨#[64, 49]⟩ : ByteArray), (⟨#[64, 50]⟩ : ByteArray), (⟨#[64, 51]⟩ : ByteArray), (⟨#[64, 51, 48]⟩ : ByteArray), (⟨#[116, 101, 97]⟩ : ByteArray), (⟨#[84, 101, 97]⟩ : ByteArray), (⟨#[110, 111]⟩ : ByteArray), (⟨#[121, 101, 115]⟩ : ByteArray), (⟨#[119, 104, 111]⟩ : ByteArray), (⟨#[64, 48]⟩ : ByteArray), (⟨#[64, 49, 120]⟩ : ByteArray)]
def seps : List ByteArray := [(⟨#[32]⟩ : ByteArray), (⟨#[44, 32]⟩ : ByteArray), (⟨#[33, 32]⟩ : ByteArray), (⟨#[45]⟩ : ByteArray)]
theorem pieces_ok : ∀ t ∈ pieces, okT t = true := by
  intro t ht
  have h : pieces.all okT = true := by decide +kernel
  exact List.all_eq_true.1 h t ht
theorem seps_ok : ∀ t ∈ seps, okT t = true := by
  intro t ht
  have h : seps.all okT = true := by decide +kernel
  exact List.all_eq_true.1 h t ht
theorem draw_loop {l : List Int} (h : bytesOk l) : ∀ (d : Nat) (t : ByteArray) (p s : Int), 0 ≤ p → p + 4 * d ≤ 999 → d ≤ 4 → (∀ c ∈ nums8 t, 32 ≤ c ∧ c ≤ 126) → t.size + 10 * d ≤ 40 →
    ∃ t' p' s', (∀ k, d + 1 ≤ k → spec_l01DrawText.l0 k t (d : Int) l p s = some (t', p', s')) ∧ textB t' = true ∧ t'.size ≤ 40
  | 0, t, p, s, h0, h1, hd, ht, hs => ⟨t, p, s, fun k hk => by
      obtain ⟨k, rfl⟩ : ∃ n, k = n + 1 := ⟨k - 1, by omega⟩
      rw [spec_l01DrawText.l0, if_neg (by omega)], text_of t ht (by omega), by omega⟩
  | d + 1, t, p, s, h0, h1, hd, ht, hs => by
    have hw : wrap64 (((d + 1 : Nat) : Int) - 1) = (d : Int) := by rw [w64 (by omega) (by omega)]; omega
    by_cases c : t.toList = ([] : List UInt8)
    · obtain ⟨u, p1, s1, e1, m1, a1, b1⟩ := text_pick h pieces (by decide) p s h0 (by omega)
      obtain ⟨u1, u2⟩ := okT_tells (pieces_ok u m1)
      obtain ⟨t', p', s', e, r1, r2⟩ := draw_loop h d (t ++ u) p1 s1 a1 (by omega) (by omega) (fun x hx => by
        rw [nums8_append] at hx
        rcases List.mem_append.1 hx with hx | hx
        · exact ht x hx
        · exact u1 x hx) (by rw [ByteArray.size_append]; omega)
      refine ⟨t', p', s', fun k hk => ?_, r1, r2⟩
      obtain ⟨k, rfl⟩ : ∃ n, k = n + 1 := ⟨k - 1, by omega⟩
      have hz : t.size + u.size ≤ 9223372036854775807 := by omega
      unfold pieces at e1
      rw [spec_l01DrawText.l0, if_pos (by omega), if_pos c, e1]
      simp only [Option.bind_some]
      rw [if_pos hz, hw]
      exact e k (by omega)
    · obtain ⟨v, p1, s1, e1, m1, a1, b1⟩ := text_pick h seps (by decide) p s h0 (by omega)
      obtain ⟨v1, v2⟩ := okT_tells (seps_ok v m1)
      obtain ⟨u, p2, s2, e2, m2, a2, b2⟩ := text_pick h pieces (by decide) p1 s1 a1 (by omega)
      obtain ⟨u1, u2⟩ := okT_tells (pieces_ok u m2)
      obtain ⟨t', p', s', e, r1, r2⟩ := draw_loop h d ((t ++ v) ++ u) p2 s2 a2 (by omega) (by omega) (fun x hx => by
        rw [nums8_append, nums8_append] at hx
        rcases List.mem_append.1 hx with hx | hx
        · rcases List.mem_append.1 hx with hx | hx
          · exact ht x hx
          · exact v1 x hx
        · exact u1 x hx) (by rw [ByteArray.size_append, ByteArray.size_append]; omega)
      refine ⟨t', p', s', fun k hk => ?_, r1, r2⟩
      obtain ⟨k, rfl⟩ : ∃ n, k = n + 1 := ⟨k - 1, by omega⟩
      have hz : t.size + v.size ≤ 9223372036854775807 := by omega
      have hz2 : (t ++ v).size + u.size ≤ 9223372036854775807 := by rw [ByteArray.size_append]; omega
      unfold pieces at e2
      unfold seps at e1
      rw [spec_l01DrawText.l0, if_pos (by omega), if_neg c, e1]
      simp only [Option.bind_some]
      rw [if_pos hz, e2]
      simp only [Option.bind_some]
      rw [if_pos hz2, hw]
      exact e k (by omega)
theorem B10Text_from {l : List Int} (h : bytesOk l) : ∃ t, From (fun k => spec_B10Text.f k l) t ∧ textB t = true ∧ t.size ≤ 40 := by
  obtain ⟨r, p, s, e, a, b, c, d⟩ := from_pick h 5 (by omega) 0 0 (by omega) (by omega)
  obtain ⟨n, rfl⟩ : ∃ n : Nat, r = n := ⟨r.toNat, by omega⟩
  obtain ⟨t', p', s', e2, r1, r2⟩ := draw_loop h n (⟨#[]⟩ : ByteArray) p s c (by omega) (by omega) (fun x hx => by simp [nums8, bytesOf] at hx) (by show 0 + 10 * n ≤ 40; omega)
  exact ⟨t', ⟨n + 1, fun k hk => by
    simp only [spec_B10Text.f, spec_l00From.f, Option.bind_some, spec_l01DrawText.f, e, e2 k hk]⟩, r1, r2⟩
theorem draw_set {l : List Int} (h : bytesOk l) : ∀ (d : Nat) (out : List Int) (p s : Int), 0 ≤ p → p + 4 * d ≤ 999 → d ≤ 4 → out.Pairwise (· < ·) → (∀ x ∈ out, 1 ≤ x ∧ x ≤ 5) → out.length + d ≤ 4 →
    ∃ r p' s', (∀ k, d + 20 ≤ k → spec_l01DrawSet.l0 k out (d : Int) l p s = some (r, p', s')) ∧ r.Pairwise (· < ·) ∧ (∀ x ∈ r, 1 ≤ x ∧ x ≤ 5) ∧ r.length ≤ 4
  | 0, out, p, s, h0, h1, hd, hp, hx, hl => ⟨out, p, s, fun k hk => by
      obtain ⟨k, rfl⟩ : ∃ n, k = n + 1 := ⟨k - 1, by omega⟩
      rw [spec_l01DrawSet.l0, if_neg (by omega)], hp, hx, by omega⟩
  | d + 1, out, p, s, h0, h1, hd, hp, hx, hl => by
    have hw : wrap64 (((d + 1 : Nat) : Int) - 1) = (d : Int) := by rw [w64 (by omega) (by omega)]; omega
    obtain ⟨r, p1, s1, e1, a1, b1, c1, d1⟩ := from_pick h 5 (by omega) p s h0 (by omega)
    have hm : spec_l01DrawMember.f l p s = some (1 + r, p1, s1) := by
      simp only [spec_l01DrawMember.f, e1, Option.bind_some, w64 (show -9223372036854775808 ≤ 1 + r by omega) (by omega)]
    have hlen := putL_length (1 + r) out
    obtain ⟨q, p', s', e, r1, r2, r3⟩ := draw_set h d (putL out (1 + r)) p1 s1 c1 (by omega) (by omega) (putL_rise _ hp) (fun x hx' => by
      rcases (putL_mem _ _ x).1 hx' with hx' | rfl
      · exact hx x hx'
      · omega) (by omega)
    refine ⟨q, p', s', fun k hk => ?_, r1, r2, r3⟩
    obtain ⟨k, rfl⟩ : ∃ n, k = n + 1 := ⟨k - 1, by omega⟩
    rw [spec_l01DrawSet.l0, if_pos (by omega), hm]
    simp only [Option.bind_some]
    rw [l00Put_from out (1 + r) (by omega) k (by omega)]
    simp only [Option.bind_some]
    rw [hw]
    exact e k (by omega)
theorem B10Set_from {l : List Int} (h : bytesOk l) : ∃ r, From (fun k => spec_B10Set.f k l) r ∧ r.Pairwise (· < ·) ∧ (∀ x ∈ r, 1 ≤ x ∧ x ≤ 5) ∧ r.length ≤ 4 := by
  obtain ⟨r, p, s, e, a, b, c, d⟩ := from_pick h 5 (by omega) 0 0 (by omega) (by omega)
  obtain ⟨n, rfl⟩ : ∃ n : Nat, r = n := ⟨r.toNat, by omega⟩
  obtain ⟨t', p', s', e2, r1, r2, r3⟩ := draw_set h n [] p s c (by omega) (by omega) List.Pairwise.nil (fun x hx => by simp at hx) (by simp; omega)
  exact ⟨t', ⟨n + 20, fun k hk => by
    simp only [spec_B10Set.f, spec_l00From.f, Option.bind_some, spec_l01DrawSet.f, e, e2 k hk]⟩, r1, r2, r3⟩
def risesB (l : List Int) : Bool := (List.range l.length).all fun j => decide (1 ≤ l.getD j 0 ∧ l.getD j 0 ≤ 1000) && (decide (j = 0) || decide (l.getD (j - 1) 0 < l.getD j 0))
theorem prev_of {i : Int} (h0 : 0 ≤ i) (h1 : i ≤ 4611686018427387904) (hp : i > 0) : wrap64 (i - 1) = i - 1 ∧ (i - 1).toNat = i.toNat - 1 ∧ 0 ≤ i - 1 := ⟨wpred h0 h1, by omega, by omega⟩
theorem rising_from (l : List Int) (h : l.length ≤ 1073741824) : From (fun k => impl_rising_isMember.f k l) (risesB l) := by
  obtain ⟨K, hK⟩ := test_loopB (fun k i => impl_rising_isMember.l0 k l l l.length i) l.length 0 (fun j => decide (1 ≤ l.getD j 0 ∧ l.getD j 0 ≤ 1000) && (decide (j = 0) || decide (l.getD (j - 1) 0 < l.getD j 0))) true (fun k i _ h0 h1 => by
    simp only [impl_rising_isMember.l0, impl_isMember.f, in_some, h0, h1, if_true, Option.bind_some, wsucc h0 (by omega), rd]
    by_cases c : 1 ≤ l.getD i.toNat 0 ∧ l.getD i.toNat 0 ≤ 1000
    · by_cases c5 : i > 0
      · obtain ⟨p1, p2, p3⟩ := prev_of h0 (by omega) c5
        have p4 : i - 1 < l.length := by omega
        have p5 : ¬ i.toNat = 0 := by omega
        by_cases c6 : l.getD (i.toNat - 1) 0 < l.getD i.toNat 0
        · have c7 : ¬ l.getD (i.toNat - 1) 0 ≥ l.getD i.toNat 0 := by omega
          simp only [c, c5, c6, c7, p1, p2, p3, p4, p5, if_true, if_false, decide_true, decide_false, and_self, Bool.true_and, Bool.false_or]
        · have c7 : l.getD (i.toNat - 1) 0 ≥ l.getD i.toNat 0 := by omega
          simp only [c, c5, c6, c7, p1, p2, p3, p4, p5, if_true, if_false, decide_true, decide_false, and_self, Bool.true_and, Bool.false_or, Bool.false_eq_true]
      · have p5 : i.toNat = 0 := by omega
        rw [p5] at c ⊢
        simp only [c, c5, if_true, if_false, decide_true, and_self, Bool.true_and, Bool.true_or]
    · simp [c, -List.getD_eq_getElem?_getD]) (fun k _ => by simp only [impl_rising_isMember.l0, Int.lt_irrefl, if_false])
  exact ⟨K, fun k hk => by simpa [risesB, impl_rising_isMember.f] using hK k hk⟩
theorem rises_pairwise {l : List Int} (h : risesB l = true) : l.Pairwise (· < ·) := by
  unfold risesB at h
  rw [List.all_eq_true] at h
  have st : ∀ j, 0 < j → j < l.length → l.getD (j - 1) 0 < l.getD j 0 := by
    intro j h0 hj
    have := h j (List.mem_range.2 hj)
    simp only [Bool.and_eq_true, Bool.or_eq_true, decide_eq_true_eq] at this
    rcases this.2 with e | e
    · omega
    · exact e
  have up := steps_up (fun j => l.getD j 0) l.length st
  rw [List.pairwise_iff_getElem]
  intro i j hi hj hij
  have := up i j hij hj
  simp only [List.getD_eq_getElem?_getD, List.getElem?_eq_getElem hi, List.getElem?_eq_getElem hj, Option.getD_some] at this
  exact this
theorem rises_bounds {l : List Int} (h : risesB l = true) : ∀ x ∈ l, 1 ≤ x ∧ x ≤ 1000 := by
  unfold risesB at h
  rw [List.all_eq_true] at h
  intro x hx
  obtain ⟨j, hj, rfl⟩ := List.mem_iff_getElem.1 hx
  have := h j (List.mem_range.2 hj)
  simp only [Bool.and_eq_true, Bool.or_eq_true, decide_eq_true_eq, List.getD_eq_getElem?_getD, List.getElem?_eq_getElem hj, Option.getD_some] at this
  exact this.1
theorem concat_two (a b : List Int) (ha : a.length ≤ 1048576) (hb : b.length ≤ 1048576) (k : Nat) (hk : 6 ≤ k) : slices_Concat_int64_int64.f k [a, b] = some (a ++ b) := by
  obtain ⟨k, rfl⟩ : ∃ n, k = n + 6 := ⟨k - 6, by omega⟩
  have r0 : rd_L4 [a, b] 0 = a := rfl
  have r1 : rd_L4 [a, b] 1 = b := rfl
  have w0 : wrap64 (0 + 1) = 1 := by rw [w64 (by omega) (by omega)]; rfl
  have w1 : wrap64 (1 + 1) = 2 := by rw [w64 (by omega) (by omega)]; rfl
  have wa : wrap64 (0 + (a.length : Int)) = a.length := by rw [w64 (by omega) (by omega)]; omega
  have wb : wrap64 ((a.length : Int) + b.length) = a.length + b.length := w64 (by omega) (by omega)
  have ha' : ¬ (a.length : Int) < 0 := by omega
  have hb' : ¬ (a.length : Int) + b.length < 0 := by omega
  have hg : slices_Grow.f ([] : List Int) ((a.length : Int) + b.length) = some [] := by
    unfold slices_Grow.f
    rw [if_pos ⟨by omega, by simp; omega⟩]
  have l0 : [a, b].length = 2 := rfl
  have h1 : (0 : Nat) + a.length < 17592186044416 := by omega
  have h2 : a.length + b.length < 17592186044416 := by omega
  have c2 : ((2 : Nat) : Int) = 2 := rfl
  simp only [slices_Concat_int64_int64.f, slices_Concat_int64_int64.l0, l0, c2, r0, r1, w0, w1, wa, wb, ha', hb', hg, Option.bind_some, if_false, if_true, slices_Concat_int64_int64.l1, List.nil_append, List.length_nil, h1, h2, show (0 : Int) < 2 by decide, show (0 : Int) ≤ 0 by decide, show (1 : Int) < 2 by decide, show (0 : Int) ≤ 1 by decide, Int.lt_irrefl]
theorem short_of {l : List Int} (h : risesB l = true) : l.length ≤ 1000 := by
  have h1 := rises_pairwise h
  have h2 := rises_bounds h
  have key : ∀ (l : List Int) (m : Int), l.Pairwise (· < ·) → (∀ x ∈ l, m ≤ x ∧ x ≤ 1000) → (l.length : Int) ≤ max 0 (1001 - m) := by
    intro l
    induction l with
    | nil => intro m _ _; simp; omega
    | cons x l ih =>
      intro m hp hb
      rw [List.pairwise_cons] at hp
      have hx := hb x List.mem_cons_self
      have := ih (x + 1) hp.2 fun y hy => by
        have h3 := hp.1 y hy
        have h4 := hb y (List.mem_cons_of_mem _ hy)
        omega
      simp only [List.length_cons]
      omega
  have := key l 1 h1 h2
  omega
theorem rises_of {l : List Int} (hp : l.Pairwise (· < ·)) (hb : ∀ x ∈ l, 1 ≤ x ∧ x ≤ 1000) : risesB l = true := by
  unfold risesB
  rw [List.all_eq_true]
  intro j hj
  rw [List.mem_range] at hj
  have hx : l.getD j 0 ∈ l := getD_mem 0 hj
  simp only [Bool.and_eq_true, Bool.or_eq_true, decide_eq_true_eq]
  refine ⟨hb _ hx, ?_⟩
  by_cases h0 : j = 0
  · exact .inl h0
  · right
    have := List.pairwise_iff_getElem.1 hp (j - 1) j (by omega) hj (by omega)
    simpa [List.getD_eq_getElem?_getD, List.getElem?_eq_getElem hj, List.getElem?_eq_getElem (show j - 1 < l.length by omega)] using this
theorem members_from (l : List Int) (hl : l.length ≤ 1073741824) : From (fun k => impl_IsMembers.f k l) (risesB l) := by
  obtain ⟨K, e⟩ := rising_from l hl
  exact ⟨K, fun k hk => by simp only [impl_IsMembers.f, e k hk, Option.bind_some]⟩
theorem join_impl (a b : List Int) (ha : a.length ≤ 1000) (hb : b.length ≤ 1000) (h1 : risesB a = true) (h2 : risesB b = true) : From (fun k => impl_JoinSets.f k a b) (setOf (a ++ b), true) := by
  obtain ⟨K3, e3⟩ := members_from a (by omega)
  obtain ⟨K4, e4⟩ := members_from b (by omega)
  rw [h1] at e3
  rw [h2] at e4
  refine ⟨K3 + K4 + 7, fun k hk => ?_⟩
  obtain ⟨k, rfl⟩ : ∃ n, k = n + 1 := ⟨k - 1, by omega⟩
  have c1 := concat_two a b (by omega) (by omega) k (by omega)
  have h3 : (a ++ b).length < 4611686018427387904 := by rw [List.length_append]; omega
  have h4 : ((a ++ b).mergeSort fun x y => decide (x ≤ y)).length ≤ 9223372036854775807 := by rw [List.length_mergeSort, List.length_append]; omega
  have E3 := e3 (k + 1) (by omega)
  have E4 := e4 (k + 1) (by omega)
  simp only [impl_JoinSets.f, E3, E4, Option.bind_some, if_true, impl_JoinSets.j0, Bool.not_true, Bool.false_eq_true, if_false, c1, slices_Sort.f, slices_Compact.f, if_pos h3, if_pos h4]
  rfl
theorem less_impl (a b : List Int) (ha : a.length ≤ 1000) (hb : b.length ≤ 1000) (h1 : risesB a = true) (h2 : risesB b = true) : From (fun k => impl_LessSet.f k a b) (lessL a b, true) := by
  obtain ⟨K3, e3⟩ := members_from a (by omega)
  obtain ⟨K4, e4⟩ := members_from b (by omega)
  rw [h1] at e3
  rw [h2] at e4
  have hc : slices_Clone.f a = some a := by
    unfold slices_Clone.f
    rw [if_pos (by omega)]
  exact ⟨K3 + K4, fun k hk => by
    have E3 := e3 k (by omega)
    have E4 := e4 k (by omega)
    simp only [impl_LessSet.f, E3, E4, Option.bind_some, if_true, hc]⟩
theorem mentions_said (s : ByteArray) (a : List Int) (hx : ∀ x ∈ a, 1 ≤ x ∧ x ≤ 5) (hp : a.Pairwise (· < ·)) (ha : a.length ≤ 4) (h : nums8 s = [104, 105] ++ tailL a) : From (fun k => impl_MentionsOf.f k s) (a, true) := by
  have ht := said_text s a (fun x h1 => by have := hx x h1; omega) (by omega) h
  have hs := text_short ht
  obtain ⟨K2, e2⟩ := IsText_from s (by omega)
  obtain ⟨K4, e4⟩ := impl_mens s (by omega) s.size 0 [] (by omega) (by simp)
  rw [List.nil_append, mens_said s a (fun x h1 => by have := hx x h1; omega) h] at e4
  have hs : setOf a = a := by
    obtain ⟨s1, s2⟩ := setOf_tells a
    exact rise_ext s1 hp s2
  rw [hs] at e4
  rw [ht] at e2
  refine ⟨K2 + K4, fun k hk => ?_⟩
  have E4 : impl_mentions.f k s = some a := e4 k (by omega)
  simp only [impl_MentionsOf.f, e2 k (by omega), E4, Option.bind_some, if_true]
theorem b10Nums_from (l : List Int) (h : l.length ≤ 1000) : From (fun k => laws_b10Nums.f k l l) true := by
  obtain ⟨K, hK⟩ := all_loop (fun k i => laws_b10Nums.l0 k l l i) l.length (by omega) 0 true (fun k i _ h0 h1 => by
      simp only [laws_b10Nums.l0, h0, h1, if_true, wsucc h0 (by omega)]) (fun k i _ h _ => by simp only [laws_b10Nums.l0, h, if_false])
  refine ⟨K, fun k hk => ?_⟩
  simp only [laws_b10Nums.f, if_true]
  exact hK k hk
def hasB (l : List Int) (n : Int) : Bool := decide (n ∈ l)
theorem b10Has_rounds (l : List Int) (n : Int) (h : l.length ≤ 1000) : ∀ (d i : Nat), i + d = l.length → ∀ k, d + 1 ≤ k → laws_b10Has.l0 k l n (l.length : Int) (i : Int) = some (decide (n ∈ l.drop i))
  | 0, i, hi, k, hk => by
    obtain ⟨k, rfl⟩ : ∃ m, k = m + 1 := ⟨k - 1, by omega⟩
    rw [laws_b10Has.l0, if_neg (by omega), List.drop_of_length_le (by omega)]
    simp
  | d + 1, i, hi, k, hk => by
    obtain ⟨k, rfl⟩ : ∃ m, k = m + 1 := ⟨k - 1, by omega⟩
    have hin : i < l.length := by omega
    have hx : rd l (i : Int) = l[i] := by
      unfold rd
      rw [Int.toNat_natCast, List.getD_eq_getElem?_getD, List.getElem?_eq_getElem hin]; rfl
    rw [laws_b10Has.l0, if_pos (by omega), if_pos (by omega), if_pos (by omega), hx, List.drop_eq_getElem_cons hin]
    by_cases c : l[i] = n
    · rw [if_pos c]; simp [c]
    · rw [if_neg c, wsucc (by omega) (by omega)]
      have := b10Has_rounds l n h d (i + 1) (by omega) k (by omega)
      refine this.trans ?_
      congr 1
      rw [decide_eq_decide, List.mem_cons]
      constructor
      · exact .inr
      · rintro (e | e)
        · exact absurd e.symm c
        · exact e
theorem b10Has_from (l : List Int) (n : Int) (h : l.length ≤ 1000) : ∀ k, 1001 ≤ k → laws_b10Has.f k l n = some (hasB l n) := fun k hk => by
  have := b10Has_rounds l n h l.length 0 (by omega) k (by omega)
  simpa [laws_b10Has.f, hasB] using this
theorem nums8_strOf (l : List Int) (h : ∀ c ∈ l, 0 ≤ c ∧ c ≤ 255) : nums8 (strOfNums l) = l := by
  unfold nums8 bytesOf strOfNums
  show ((l.map fun n => UInt8.ofNat n.toNat).toArray.toList).map (fun b => (b.toNat : Int)) = l
  rw [List.toList_toArray, List.map_map]
  conv => rhs; rw [← List.map_id l]
  apply List.map_congr_left
  intro c hc
  have := h c hc
  show ((UInt8.ofNat c.toNat).toNat : Int) = c
  rw [UInt8.toNat_ofNat']
  omega
theorem jsz_append (a b : List (List Int)) : jsz (a ++ b) = jsz a + jsz b := by simp [jsz]
theorem jn_le (a : List (List Int)) : (jn a).length ≤ jsz a := by
  by_cases e : a = []
  · subst e; simp [jn]
  · have := (jn_len a).2 e; omega
theorem jn_snoc : ∀ (a : List (List Int)) (w : List Int), a ≠ [] → jn (a ++ [w]) = jn a ++ 32 :: w
  | [], _, h => absurd rfl h
  | [u], w, _ => by simp [jn]
  | u :: v :: a, w, _ => by
    have := jn_snoc (v :: a) w (by simp)
    show jn (u :: v :: (a ++ [w])) = _
    rw [jn, jn]
    have e : v :: (a ++ [w]) = (v :: a) ++ [w] := rfl
    rw [e, this]
    simp
theorem jn_bytes (ws : List (List Int)) (h : ∀ w ∈ ws, w ≠ [] ∧ goodW w) : ∀ c ∈ jn ws, 32 ≤ c ∧ c ≤ 122 := by
  have one : ∀ w, goodW w → ∀ c ∈ w, 32 ≤ c ∧ c ≤ 122 := fun w hw c hc => by
    have := isW_range (hw c hc).1; omega
  induction ws with
  | nil => intro c hc; simp [jn] at hc
  | cons w ws ih =>
    cases ws with
    | nil => intro c hc; exact one w (h w List.mem_cons_self).2 c hc
    | cons v ws =>
      intro c hc
      rw [jn] at hc
      rcases List.mem_append.1 hc with hc | hc
      · exact one w (h w List.mem_cons_self).2 c hc
      · rcases List.mem_cons.1 hc with rfl | hc
        · omega
        · exact ih (fun x hx => h x (List.mem_cons_of_mem _ hx)) c hc
section
variable (x0 x1 : List Int)
theorem rdOf_mid (pre : List ByteArray) (w : ByteArray) (rest : List ByteArray) : rdOf ByteArray.empty (pre ++ w :: rest) ((pre.length : Nat) : Int) = w := by
  unfold rdOf
  rw [Int.toNat_natCast, List.getD_eq_getElem?_getD, List.getElem?_append_right (Nat.le_refl _), Nat.sub_self]; rfl
theorem join_loop (b : Bool) (r : Bool) : ∀ (rest pre : List (List Int)), jsz (pre ++ rest) ≤ 100 →
    From (fun k => laws_FnWords.l0 k x0 x1 ((pre ++ rest).map strOfNums) b (strOfNums (jn (pre ++ rest))) (((pre ++ rest).map strOfNums).length : Int) (((pre ++ rest).map strOfNums).length : Int)) r →
    From (fun k => laws_FnWords.l0 k x0 x1 ((pre ++ rest).map strOfNums) b (strOfNums (jn pre)) (((pre ++ rest).map strOfNums).length : Int) ((pre.length : Nat) : Int)) r
  | [], pre, _, h => by simpa using h
  | w :: rest, pre, hz, h => by
    have happ : pre ++ w :: rest = (pre ++ [w]) ++ rest := by simp
    have ih := join_loop b r rest (pre ++ [w]) (by rw [← happ]; exact hz) (by rw [← happ]; exact h)
    rw [← happ] at ih
    have hz2 := hz
    rw [happ, jsz_append, jsz_append] at hz2
    have hw1 : jsz [w] = w.length + 1 := by simp [jsz]
    have hjp := jn_le pre
    have hm : (pre ++ w :: rest).map strOfNums = pre.map strOfNums ++ strOfNums w :: rest.map strOfNums := by simp
    have hr : rdOf ByteArray.empty ((pre ++ w :: rest).map strOfNums) ((pre.length : Nat) : Int) = strOfNums w := by
      rw [hm]
      have := rdOf_mid (pre.map strOfNums) (strOfNums w) (rest.map strOfNums)
      rwa [List.length_map] at this
    have hlen : ((pre ++ w :: rest).map strOfNums).length = pre.length + 1 + rest.length := by simp; omega
    have hpl : pre.length ≤ jsz pre := by
      clear ih hz hz2 happ hm hr hlen hjp h
      induction pre with
      | nil => simp [jsz]
      | cons u pre ih => simp only [jsz, List.map_cons, List.sum_cons, List.length_cons] at *; omega
    refine from_step ih 0 fun k _ => ?_
    rw [laws_FnWords.l0, if_pos (by rw [hlen]; omega), hr, wsucc (by omega) (by omega)]
    have s1 := strOf_size (jn pre)
    have s2 := strOf_size w
    have e1 : ((pre.length : Nat) : Int) + 1 = (((pre ++ [w]).length : Nat) : Int) := by simp
    by_cases c : ((pre.length : Nat) : Int) > 0
    · have hne : pre ≠ [] := by intro e; subst e; simp at c
      have e2 : (strOfNums (jn pre) ++ (⟨#[32]⟩ : ByteArray)) ++ strOfNums w = strOfNums (jn (pre ++ [w])) := by
        rw [jn_snoc pre w hne, show jn pre ++ 32 :: w = (jn pre ++ [32]) ++ w by simp, strOf_append, strOf_append]
        rfl
      have s3 : (strOfNums (jn pre) ++ (⟨#[32]⟩ : ByteArray)).size = (jn pre).length + 1 := by rw [ByteArray.size_append, s1]; rfl
      rw [if_pos c, if_pos (by omega), if_pos (by omega), if_pos (by rw [hlen]; omega), if_pos (by omega), e2, e1]
    · have hne : pre = [] := by
        cases pre with
        | nil => rfl
        | cons u p => exfalso; apply c; simp only [List.length_cons]; omega
      subst hne
      have e2 : strOfNums (jn []) ++ strOfNums w = strOfNums (jn ([] ++ [w])) := by
        rw [← strOf_append]; rfl
      rw [if_neg c, if_pos (by omega), if_pos (by rw [hlen]; omega), if_pos (by omega), e2, e1]
theorem check_loop (r : Bool) (ws : List ByteArray) (hl : ws.length ≤ 1000) (hne : ∀ w ∈ ws, w.toList ≠ []) (h : From (fun k => laws_FnWords.l1 k x0 x1 ws ws (ws.length : Int) (ws.length : Int)) r) : ∀ (d i : Nat), i + d = ws.length →
    From (fun k => laws_FnWords.l1 k x0 x1 ws ws (ws.length : Int) (i : Int)) r
  | 0, i, hi => by
    have : i = ws.length := by omega
    rw [this]; exact h
  | d + 1, i, hi => by
    have ih := check_loop r ws hl hne h d (i + 1) (by omega)
    refine from_step ih 0 fun k _ => ?_
    have hm : rdOf ByteArray.empty ws (i : Int) ∈ ws := by unfold rdOf; exact getD_mem _ (by omega)
    rw [laws_FnWords.l1, if_pos (by omega), if_pos (by omega), if_pos (by omega), if_neg (hne _ hm), if_pos (by omega), if_pos rfl, wsucc (by omega) (by omega)]
    rfl
end
theorem tailL_snoc : ∀ (a : List Int) (x : Int), tailL (a ++ [x]) = tailL a ++ [32, 64, 48 + x]
  | [], x => rfl
  | y :: a, x => by
    show 32 :: 64 :: (48 + y) :: tailL (a ++ [x]) = _
    rw [tailL_snoc a x]; rfl
theorem said_loop (r : Bool) (a b : List Int) (ha : a.length ≤ 4) (hx : ∀ x ∈ a, 1 ≤ x ∧ x ≤ 5) (h : ∀ s : ByteArray, nums8 s = [104, 105] ++ tailL a → From (fun k => laws_FnWords.l2 k a b s (a.length : Int) (a.length : Int)) r) : ∀ (rest pre : List Int) (s : ByteArray), a = pre ++ rest → nums8 s = [104, 105] ++ tailL pre →
    From (fun k => laws_FnWords.l2 k a b s (a.length : Int) ((pre.length : Nat) : Int)) r
  | [], pre, s, e, hs => by
    rw [List.append_nil] at e
    subst e
    exact h s hs
  | x :: rest, pre, s, e, hs => by
    have hlen : a.length = pre.length + 1 + rest.length := by rw [e]; simp; omega
    have hxm := hx x (by rw [e]; simp)
    have n1 := nums8_dec x (by omega) (by omega)
    have ih := said_loop r a b ha hx h rest (pre ++ [x]) (s ++ ((⟨#[32, 64]⟩ : ByteArray) ++ decB x)) (by rw [e]; simp) (by
      rw [nums8_append, nums8_append, hs, n1, tailL_snoc, show nums8 (⟨#[32, 64]⟩ : ByteArray) = [32, 64] from rfl]; simp)
    refine from_step ih 0 fun k _ => ?_
    have hr : rd a ((pre.length : Nat) : Int) = x := by
      unfold rd
      rw [Int.toNat_natCast, e]
      exact getD_mid pre x rest
    have hd : impl_Decimal.f x = some (decB x) := dec_impl x (by omega) (by omega)
    have z1 : (decB x).size = 1 := by rw [← nums8_len, n1]; rfl
    have z2 : s.size = 2 + 3 * pre.length := by rw [← nums8_len, hs]; simp [tailL_len]; omega
    have e1 : ((pre.length : Nat) : Int) + 1 = (((pre ++ [x]).length : Nat) : Int) := by simp
    have z3 : ((⟨#[32, 64]⟩ : ByteArray) ++ decB x).size = 3 := by rw [ByteArray.size_append, z1]; rfl
    rw [laws_FnWords.l2, if_pos (by omega), if_pos (by omega), if_pos (by omega), hr, hd]
    simp only [Option.bind_some]
    rw [if_pos (by omega), if_pos (by omega), wsucc (by omega) (by omega), e1]
theorem has_loop (a b j l : List Int) (ha : a.length ≤ 1000) (hb : b.length ≤ 1000) (hj : j.length ≤ 1000) (hl : l.length ≤ 1000)
    (h1 : ∀ n, hasB j n = (hasB a n || hasB b n)) (h2 : ∀ n, hasB l n = (hasB a n && !hasB b n)) : ∀ (d : Nat) (n : Int), 1 ≤ n → n + d = 7 → From (fun k => laws_FnWords.l3 k a b j l n) true
  | 0, n, h0, hn => ⟨1, fun k hk => by
      obtain ⟨k, rfl⟩ : ∃ m, k = m + 1 := ⟨k - 1, by omega⟩
      show laws_FnWords.l3 (k + 1) a b j l n = _
      rw [laws_FnWords.l3, if_neg (by omega)]⟩
  | d + 1, n, h0, hn => by
    have ih := has_loop a b j l ha hb hj hl h1 h2 d (n + 1) (by omega) (by omega)
    refine from_step (f := fun k => laws_FnWords.j9 k a b j l n) (from_step ih 1001 fun k hk => ?_) 0 fun k _ => ?_
    · have E1 := b10Has_from j n hj k hk
      have E2 := b10Has_from a n ha k hk
      have E3 := b10Has_from b n hb k hk
      have E4 := b10Has_from l n hl k hk
      show laws_FnWords.j9 (k + 1) a b j l n = laws_FnWords.l3 k a b j l (n + 1)
      rw [laws_FnWords.j9, E1, E2, E3, E4, h1 n, h2 n, wsucc (by omega) (by omega)]
      cases hasB a n <;> cases hasB b n <;> simp
    · show laws_FnWords.l3 (k + 1) a b j l n = _
      rw [laws_FnWords.l3, if_pos (by omega)]
theorem hasB_set (a b : List Int) (n : Int) : hasB (setOf (a ++ b)) n = (hasB a n || hasB b n) := by
  unfold hasB
  have := (setOf_tells (a ++ b)).2 n
  rw [List.mem_append] at this
  by_cases h1 : n ∈ a <;> by_cases h2 : n ∈ b <;> simp [this, h1, h2]
theorem hasB_less (a b : List Int) (n : Int) : hasB (lessL a b) n = (hasB a n && !hasB b n) := by
  unfold hasB lessL
  by_cases h1 : n ∈ a
  · by_cases h2 : n ∈ b
    · simp [h1, h2]
    · simp [h1, h2]; exact fun x hx e => h2 (e ▸ hx)
  · simp [h1]
theorem sets_end (a b : List Int) (ha : a.length ≤ 4) (hb : b.length ≤ 4) (pa : a.Pairwise (· < ·)) (pb : b.Pairwise (· < ·)) (xa : ∀ x ∈ a, 1 ≤ x ∧ x ≤ 5) (xb : ∀ x ∈ b, 1 ≤ x ∧ x ≤ 5) (s : ByteArray) (hs : nums8 s = [104, 105] ++ tailL a) : From (fun k => laws_FnWords.l2 k a b s (a.length : Int) (a.length : Int)) true := by
  have ra : risesB a = true := rises_of pa fun x hx => by have := xa x hx; omega
  have rb : risesB b = true := rises_of pb fun x hx => by have := xb x hx; omega
  obtain ⟨K1, e1⟩ := mentions_said s a xa pa ha hs
  obtain ⟨K2, e2⟩ := join_impl a b (by omega) (by omega) ra rb
  obtain ⟨K3, e3⟩ := less_impl a b (by omega) (by omega) ra rb
  have ht := said_text s a (fun x h1 => by have := xa x h1; omega) (by omega) hs
  have hsz := text_short ht
  obtain ⟨K4, e4⟩ := IsText_from s (by omega)
  obtain ⟨K5, e5⟩ := members_from a (by omega)
  have lj := setOf_length (a ++ b)
  rw [List.length_append] at lj
  have ll : (lessL a b).length ≤ a.length := List.length_filter_le _ _
  have st := setOf_tells (a ++ b)
  have rj : risesB (setOf (a ++ b)) = true := rises_of st.1 fun x hx => by
    rcases List.mem_append.1 ((st.2 x).1 hx) with h | h
    · have := xa x h; omega
    · have := xb x h; omega
  have rl : risesB (lessL a b) = true := rises_of (pa.filter _) fun x hx => by
    have := xa x (List.mem_filter.1 hx).1; omega
  obtain ⟨K6, e6⟩ := members_from (setOf (a ++ b)) (by omega)
  obtain ⟨K7, e7⟩ := members_from (lessL a b) (by omega)
  obtain ⟨K8, e8⟩ := b10Nums_from a (by omega)
  rw [ht] at e4
  rw [ra] at e5
  rw [rj] at e6
  rw [rl] at e7
  have H := has_loop a b (setOf (a ++ b)) (lessL a b) (by omega) (by omega) (by omega) (by omega) (hasB_set a b) (hasB_less a b) 6 1 (by omega) (by omega)
  refine from_step (f := fun k => laws_FnWords.j6 k a b (setOf (a ++ b)) (lessL a b) false) (from_step (f := fun k => laws_FnWords.j7 k a b (setOf (a ++ b)) (lessL a b)) (from_step H 0 fun k _ => ?_) 0 fun k _ => ?_) (K1 + K2 + K3 + K4 + K5 + K6 + K7 + K8) fun k hk => ?_
  · show laws_FnWords.j7 (k + 1) _ _ _ _ = _
    rw [laws_FnWords.j7]
  · show laws_FnWords.j6 (k + 1) _ _ _ _ _ = _
    rw [laws_FnWords.j6]
    simp
  · show laws_FnWords.l2 (k + 1) _ _ _ _ _ = _
    have E1 := e1 k (by omega)
    have E2 := e2 k (by omega)
    have E3 := e3 k (by omega)
    have E4 := e4 k (by omega)
    have E5 := e5 k (by omega)
    have E6 := e6 k (by omega)
    have E7 := e7 k (by omega)
    have E8 := e8 k (by omega)
    simp only at E1 E2 E3 E4 E5 E6 E7 E8
    rw [laws_FnWords.l2, if_neg (by omega)]
    simp only [E1, E2, E3, E4, E5, E6, E7, E8, Option.bind_some, if_true, Bool.not_true]
theorem FnWords : laws_FnWords.Pure := by
  intro x0 x1 _ _ q0 _ _ q1
  have b0 := bytes_of_wf q0
  have b1 := bytes_of_wf q1
  have key : From (fun k => laws_FnWords.f k x0 x1) true := by
    by_cases c0 : (x0.length : Int) > 1048576
    · exact ⟨0, fun k _ => by simp only [laws_FnWords.f, laws_b10Long.f, c0, if_true, Option.bind_some]⟩
    by_cases c1 : (x1.length : Int) > 1048576
    · exact ⟨0, fun k _ => by simp only [laws_FnWords.f, laws_b10Long.f, c0, c1, if_true, if_false, Option.bind_some, decide_true]⟩
    obtain ⟨t, ⟨K1, e1⟩, ht, hts⟩ := B10Text_from b0
    obtain ⟨a, ⟨K2, e2⟩, pa, xa, la⟩ := B10Set_from b0
    obtain ⟨b, ⟨K3, e3⟩, pb, xb, lb⟩ := B10Set_from b1
    obtain ⟨K4, e4⟩ := WordsOf_model t ht
    have hgood := wgo_good (nums8 t) [] (fun x hx => by simp at hx)
    have hsz := wgo_size (nums8 t) []
    rw [nums8_len] at hsz
    simp only [List.length_nil] at hsz
    have hjl := jn_size (nums8 t)
    rw [nums8_len] at hjl
    have hcnt := wgo_count (nums8 t) []
    rw [nums8_len] at hcnt
    obtain ⟨ws, hws⟩ : ∃ ws, ws = wordsW t := ⟨_, rfl⟩
    have hws' : wgo (nums8 t) [] = ws := by rw [hws]; rfl
    rw [hws'] at hgood hsz hjl hcnt
    rw [← hws] at e4
    have hjb := jn_bytes ws hgood
    have hn8 : nums8 (strOfNums (jn ws)) = jn ws := nums8_strOf _ fun c hc => by have := hjb c hc; omega
    have hjt : textB (strOfNums (jn ws)) = true := text_of _ (fun c hc => by rw [hn8] at hc; have := hjb c hc; omega) (by rw [strOf_size]; omega)
    obtain ⟨K5, e5⟩ := WordsOf_model (strOfNums (jn ws)) hjt
    have hw2 : wordsW (strOfNums (jn ws)) = ws := by
      unfold wordsW
      rw [hn8]
      exact wgo_jn ws hgood
    rw [hw2] at e5
    have hne : ∀ w ∈ ws.map strOfNums, w.toList ≠ [] := by
      intro w hw
      obtain ⟨v, hv, rfl⟩ := List.mem_map.1 hw
      refine list_some ?_
      rw [strOf_size]
      exact List.length_pos_iff.2 (hgood v hv).1
    have H2 := said_loop true a b la xa (fun s hs => sets_end a b la lb pa pb xa xb s hs) a [] (⟨#[104, 105]⟩ : ByteArray) (by simp) rfl
    have H1 : From (fun k => laws_FnWords.l1 k x0 x1 (ws.map strOfNums) (ws.map strOfNums) ((ws.map strOfNums).length : Int) ((ws.map strOfNums).length : Int)) true := by
      refine from_step H2 (K2 + K3) fun k hk => ?_
      show laws_FnWords.l1 (k + 1) _ _ _ _ _ _ = _
      have E2 := e2 k (by omega)
      have E3 := e3 k (by omega)
      simp only at E2 E3
      rw [laws_FnWords.l1, if_neg (by omega)]
      simp only [E2, E3, Option.bind_some]
      rfl
    have H1' := check_loop x0 x1 true (ws.map strOfNums) (by rw [List.length_map]; omega) hne H1 (ws.map strOfNums).length 0 (by omega)
    have H0 : From (fun k => laws_FnWords.l0 k x0 x1 (ws.map strOfNums) true (strOfNums (jn ws)) ((ws.map strOfNums).length : Int) ((ws.map strOfNums).length : Int)) true := by
      refine from_step (f := fun k => laws_FnWords.j2 k x0 x1 (ws.map strOfNums) (ws.map strOfNums) false) (from_step (f := fun k => laws_FnWords.j3 k x0 x1 (ws.map strOfNums) (ws.map strOfNums)) (from_step H1' 0 fun k _ => ?_) 0 fun k _ => ?_) K5 fun k hk => ?_
      · show laws_FnWords.j3 (k + 1) _ _ _ _ = _
        rw [laws_FnWords.j3]; rfl
      · show laws_FnWords.j2 (k + 1) _ _ _ _ _ = _
        rw [laws_FnWords.j2]; simp
      · show laws_FnWords.l0 (k + 1) _ _ _ _ _ _ _ = _
        have E5 := e5 k hk
        simp only at E5
        rw [laws_FnWords.l0, if_neg (by omega)]
        simp only [E5, Option.bind_some, if_true, bne_self_eq_false]
    have H0' := join_loop x0 x1 true true ws [] (by rw [List.nil_append]; omega) (by rw [List.nil_append]; exact H0)
    have HJ : From (fun k => laws_FnWords.j0 k x0 x1) true := by
      refine from_step H0' (K1 + K4) fun k hk => ?_
      show laws_FnWords.j0 (k + 1) _ _ = _
      have E1 := e1 k (by omega)
      have E4 := e4 k (by omega)
      simp only at E1 E4
      rw [laws_FnWords.j0]
      simp only [E1, E4, Option.bind_some]
      rfl
    obtain ⟨K, hK⟩ := HJ
    refine ⟨K, fun k hk => ?_⟩
    have := hK k hk
    simp only [laws_FnWords.f, laws_b10Long.f, c0, c1, if_false, Option.bind_some, decide_false, Bool.false_eq_true]
    exact this
  obtain ⟨K, hK⟩ := key
  exact ⟨K, hK K (Nat.le_refl _)⟩

end Go.Proofs.YtopdflppdpmblaaDoor.Pure
