/- Texts of bytes and lists are read back, bytes of which one is another one have other digests, and chains are digests of what stands before and each part, for every two rows of bytes that can be read. -/
import Derived.Test.YtallocgnpbpbhaaDoorXFnDigestsx6
import Derived.Test.YtallocgnpbpbhaaDoorXP
import Derived.Laws.BitsAllLaws
namespace Go.Proofs.YtallocgnpbpbhaaDoor.Pure
open Go.RowKit Go.Proofs.YtallocgnpbpbhaaDoor.XFnDigests Go.Proofs.YtallocgnpbpbhaaDoorW.PrintWords Go.Proofs.YtallocgnpbpbhaaDoorW.PrintLast Go.Proofs.YtallocgnpbpbhaaDoor.XP Go.Proofs.YtallocgnpbpbhaaDoor.XP Go.Proofs.YtallocgnpbpbhaaDoor.XP
set_option linter.unusedVariables false
set_option linter.unusedSimpArgs false

theorem in_some (a b c : Int) : impl_in.f a b c = some (decide (b ≤ a ∧ a ≤ c)) := by
  unfold impl_in.f
  split
  · congr 1; rw [decide_eq_decide]; omega
  · congr 1; symm; rw [decide_eq_false_iff_not]; omega

def dstep (a : Nat) (c : UInt8) : Nat := if 48 ≤ c.toNat ∧ c.toNat ≤ 57 then 10 * a + (c.toNat - 48) else a
def foldV (l : List UInt8) (a : Nat) : Nat := l.foldl dstep a
theorem foldV_append (l m : List UInt8) (a : Nat) : foldV (l ++ m) a = foldV m (foldV l a) := List.foldl_append ..
theorem c48 (d : Nat) (h : d < 10) : (UInt8.ofNat (48 + d)).toNat = 48 + d := by
  rw [UInt8.toNat_ofNat']; omega
theorem dig_all : ∀ (n u : Nat), u ≤ n → (∀ c ∈ Lib.decDigits u, 48 ≤ c.toNat ∧ c.toNat ≤ 57) ∧ foldV (Lib.decDigits u) 0 = u ∧ Lib.decDigits u ≠ [] ∧ ∀ m, u < 10 ^ (m + 1) → (Lib.decDigits u).length ≤ m + 1
  | n, u, h => by
    rw [Lib.decDigits]
    by_cases hs : u < 10
    · rw [dif_pos hs]
      have hc := c48 u hs
      refine ⟨?_, ?_, by simp, fun m _ => by simp⟩
      · intro c hm
        simp only [List.mem_cons, List.not_mem_nil, or_false] at hm
        subst hm
        rw [hc]; omega
      · show dstep 0 _ = u
        unfold dstep
        rw [hc, if_pos (by omega)]; omega
    · rw [dif_neg hs]
      match n, h with
      | 0, h => omega
      | n + 1, h =>
        obtain ⟨i1, i2, i3, i4⟩ := dig_all n (u / 10) (by omega)
        have hc := c48 (u % 10) (by omega)
        refine ⟨?_, ?_, by simp, ?_⟩
        · intro c hm
          rcases List.mem_append.1 hm with hm | hm
          · exact i1 c hm
          · simp only [List.mem_cons, List.not_mem_nil, or_false] at hm
            subst hm
            rw [hc]; omega
        · rw [foldV_append, i2]
          show dstep (u / 10) _ = u
          unfold dstep
          rw [hc, if_pos (by omega)]; omega
        · intro m hm
          match m, hm with
          | 0, hm => simp at hm; omega
          | m + 1, hm =>
            have := i4 m (by rw [Nat.pow_succ] at hm; omega)
            simp only [List.length_append, List.length_cons, List.length_nil]
            omega
theorem itoa_len (v : Int) (h0 : -1000000000 ≤ v) (h1 : v ≤ 1000000000) : (Lib.itoa v).length ≤ 11 := by
  obtain ⟨_, _, _, i4⟩ := dig_all v.natAbs v.natAbs (Nat.le_refl _)
  have i5 := i4 9 (by omega)
  unfold Lib.itoa
  split
  · simp only [List.length_cons]; omega
  · rw [show v.toNat = v.natAbs by omega]; omega
theorem itoa_len64 (v : Int) (h0 : -9223372036854775808 ≤ v) (h1 : v ≤ 9223372036854775807) : (Lib.itoa v).length ≤ 20 := by
  obtain ⟨_, _, _, i4⟩ := dig_all v.natAbs v.natAbs (Nat.le_refl _)
  have i5 := i4 18 (by omega)
  unfold Lib.itoa
  split
  · simp only [List.length_cons]; omega
  · rw [show v.toNat = v.natAbs by omega]; omega
def digI (u : Nat) : List Int := (Lib.decDigits u).map fun b => (b.toNat : Int)
theorem digI_small {u : Nat} (h : u < 10) : digI u = [48 + (u : Int)] := by
  rw [digI, Lib.decDigits, dif_pos h]
  simp only [List.map_cons, List.map_nil, UInt8.toNat_ofNat']
  congr 1
  omega
theorem dec_impl (n : Int) (h0 : -9223372036854775808 ≤ n) (h1 : n ≤ 9223372036854775807) : impl_Decimal.f n = some (decB n) := by
  unfold impl_Decimal.f; rw [if_pos ⟨h0, h1⟩]
def okV (v : Int) : Bool := decide (-1000000000 ≤ v ∧ v ≤ 1000000000)
theorem okV_of {l : List Int} (h : l.all okV = true) {v : Int} (hv : v ∈ l) : -1000000000 ≤ v ∧ v ≤ 1000000000 := by
  have := List.all_eq_true.1 h v hv
  simpa [okV] using this
theorem drop_rdI (l : List Int) (i : Nat) (hi : i < l.length) : l.drop i = rd l (i : Int) :: l.drop (i + 1) := by
  rw [List.drop_eq_getElem_cons hi]
  congr 1
  simp [rd, List.getElem?_eq_getElem hi]
theorem rd_mem (l : List Int) (i : Nat) (hi : i < l.length) : rd l (i : Int) ∈ l := by
  have : rd l (i : Int) = l[i] := by simp [rd, List.getElem?_eq_getElem hi]
  rw [this]; exact List.getElem_mem hi
def bs (l : List UInt8) : ByteArray := ⟨l.toArray⟩
theorem bs_append (a b : List UInt8) : bs a ++ bs b = bs (a ++ b) := by
  apply ByteArray.ext
  rw [ByteArray.data_append]
  show a.toArray ++ b.toArray = (a ++ b).toArray
  simp
theorem bs_size (a : List UInt8) : (bs a).size = a.length := by
  show a.toArray.size = _
  simp
/-- The text of numbers. -/
def textB' : List Int → ByteArray
  | [] => ⟨#[110, 111, 110, 101]⟩
  | x :: r => bs (Lib.itoa x ++ Lib.joinTail [44] (r.map Lib.itoa))
theorem tail_len (r : List Int) (h : ∀ v ∈ r, -9223372036854775808 ≤ v ∧ v ≤ 9223372036854775807) : (Lib.joinTail [44] (r.map Lib.itoa)).length ≤ 21 * r.length := by
  induction r with
  | nil => simp [Lib.joinTail]
  | cons x r ih =>
    have i1 := ih (fun v hv => h v (List.mem_cons_of_mem _ hv))
    have i2 := itoa_len64 x (h x (List.mem_cons_self ..)).1 (h x (List.mem_cons_self ..)).2
    have e : Lib.joinTail [44] ((x :: r).map Lib.itoa) = [44] ++ Lib.itoa x ++ Lib.joinTail [44] (r.map Lib.itoa) := by simp [Lib.joinTail]
    rw [e]
    simp only [List.length_append, List.length_cons, List.length_nil]
    omega
theorem tail_snoc (xs : List (List UInt8)) (y : List UInt8) : Lib.joinTail [44] (xs ++ [y]) = Lib.joinTail [44] xs ++ ([44] ++ y) := by
  unfold Lib.joinTail
  rw [List.map_append, List.flatten_append]
  simp
theorem textB'_size (l : List Int) (h : ∀ v ∈ l, -9223372036854775808 ≤ v ∧ v ≤ 9223372036854775807) : (textB' l).size ≤ 21 * l.length + 4 := by
  cases l with
  | nil => show 4 ≤ _; omega
  | cons x r =>
    have hx := itoa_len64 x (h x (List.mem_cons_self ..)).1 (h x (List.mem_cons_self ..)).2
    have ht := tail_len r (fun v hv => h v (List.mem_cons_of_mem _ hv))
    show (bs _).size ≤ _
    rw [bs_size]
    simp only [List.length_append, List.length_cons] at *
    omega
theorem join_text (x : Int) (r : List Int) : joinB ((x :: r).map decB) (⟨#[44]⟩ : ByteArray) = textB' (x :: r) := by
  unfold joinB textB'
  have e : ((x :: r).map decB).map (fun b : ByteArray => b.data.toList) = (x :: r).map Lib.itoa := by
    rw [List.map_map]; rfl
  rw [e, List.map_cons, Lib.join_cons]
  rfl
theorem impl_text (l : List Int) (hl : l.length ≤ 1048576) (h : ∀ v ∈ l, -9223372036854775808 ≤ v ∧ v ≤ 9223372036854775807) : From (fun k => impl_listText.f k l) (textB' l) := by
  have := collect_then (fun k out i => impl_listText.l0 k out l l.length i) l 0 0 (fun v => some (decB v)) (textB' l) (fun k out i _ h0 h1 ho => by
    have hb : out.length < 8796093022208 := by omega
    have hv := h _ (getD_mem 0 (show i.toNat < l.length by omega))
    simp only [impl_listText.l0, h0, h1, hb, if_true, rd, dec_impl _ (show -9223372036854775808 ≤ l.getD i.toNat 0 by omega) (by omega), Option.bind_some, wsucc h0 (by omega), Option.toList]) (fun k _ => by
    simp only [impl_listText.l0, Int.lt_irrefl, if_false]
    rw [List.filterMap_eq_map']
    cases l with
    | nil => rfl
    | cons x r =>
      rw [if_neg (by simp only [List.map_cons, List.length_cons]; omega)]
      have hx := itoa_len64 x (h x (List.mem_cons_self ..)).1 (h x (List.mem_cons_self ..)).2
      have ht := tail_len r (fun v hv => h v (List.mem_cons_of_mem _ hv))
      have e : (Lib.join (((x :: r).map decB).map (·.data.toList)) [44]).length = (Lib.itoa x ++ Lib.joinTail [44] (r.map Lib.itoa)).length := by
        have e2 : ((x :: r).map decB).map (fun b : ByteArray => b.data.toList) = (x :: r).map Lib.itoa := by
          rw [List.map_map]; rfl
        rw [e2, List.map_cons, Lib.join_cons]
      unfold strings_Join.f
      rw [if_pos ⟨by simp only [List.length_map]; omega, by
        show (Lib.join (((x :: r).map decB).map (·.data.toList)) [44]).length ≤ _
        rw [e]; simp only [List.length_append, List.length_cons] at *; omega⟩, Option.bind_some, join_text])
  exact this
theorem foldV_le : ∀ (l : List UInt8) (a : Nat), a ≤ foldV l a
  | [], a => Nat.le_refl _
  | c :: l, a => by
    have := foldV_le l (dstep a c)
    show a ≤ foldV l (dstep a c)
    have h2 : a ≤ dstep a c := by unfold dstep; split <;> omega
    omega
theorem parse_digits : ∀ (l : List UInt8) (a : Nat), (∀ c ∈ l, 48 ≤ c.toNat ∧ c.toNat ≤ 57) → foldV l a ≤ 10000000000 → Lib.parseUintM (2 ^ 64 - 1) a l = .ok (foldV l a)
  | [], a, _, _ => rfl
  | c :: l, a, h, hb => by
    have hc := h c (List.mem_cons_self ..)
    have hm : foldV (c :: l) a = foldV l (dstep a c) := rfl
    have hd : dstep a c = a * 10 + (c.toNat - 48) := by unfold dstep; rw [if_pos hc]; omega
    have hl := foldV_le l (dstep a c)
    rw [hm] at hb ⊢
    have hdb : a * 10 + (c.toNat - 48) ≤ 10000000000 := by omega
    rw [Lib.parseUintM, if_pos hc, if_neg (by omega), if_neg (by omega), ← hd]
    exact parse_digits l _ (fun x hx => h x (List.mem_cons_of_mem _ hx)) hb
theorem parse_dec (v : Int) (h0 : -1000000000 ≤ v) (h1 : v ≤ 1000000000) : Lib.parseIntB 64 (decB v).data.toList = .ok v := by
  show Lib.parseIntB 64 (Lib.itoa v) = .ok v
  have key : ∀ u : Nat, u ≤ 1000000000 → Lib.parseUintB 64 (Lib.decDigits u) = .ok u := by
    intro u hu
    obtain ⟨i1, i2, i3, _⟩ := dig_all u u (Nat.le_refl _)
    unfold Lib.parseUintB
    rw [if_neg i3, parse_digits _ 0 i1 (by rw [i2]; omega), i2]
  unfold Lib.itoa
  split
  · rw [Lib.parseIntB_minus, key _ (by omega)]
    unfold Lib.signedC
    simp only
    rw [if_neg (by omega)]
    congr 1
    omega
  · have hk := key v.toNat (by omega)
    obtain ⟨i1, _, i3, _⟩ := dig_all v.toNat v.toNat (Nat.le_refl _)
    generalize Lib.decDigits v.toNat = l at *
    match l, i3 with
    | c :: r, _ =>
      have hc := i1 c (List.mem_cons_self ..)
      rw [Lib.parseIntB_plain 64 c r (by omega) (by omega), hk]
      unfold Lib.signlessC
      simp only
      rw [if_neg (by omega)]
      congr 1
      omega
def sval (s : ByteArray) : Int := if bt s 0 = 45 then -((foldV s.data.toList 0 : Nat) : Int) else ((foldV s.data.toList 0 : Nat) : Int)
theorem bt_at (s : ByteArray) (i : Nat) (h : i < s.size) : ∃ c : UInt8, s.data.toList[i]? = some c ∧ bt s (i : Int) = (c.toNat : Int) := by
  refine ⟨s[i], ?_, ?_⟩
  · have : i < s.data.toList.length := by simpa using h
    rw [List.getElem?_eq_getElem this]; rfl
  · unfold bt
    rw [dif_pos (by simpa using h)]
    rfl
theorem sval_dec (v : Int) (h0 : -1000000000 ≤ v) (h1 : v ≤ 1000000000) : sval (decB v) = v ∧ 1 ≤ (decB v).size ∧ (decB v).size ≤ 11 := by
  have hsz : (decB v).size = (Lib.itoa v).length := by unfold decB; show (Lib.itoa v).toArray.size = _; simp
  have hl : (decB v).data.toList = Lib.itoa v := rfl
  obtain ⟨i1, i2, i3, i4⟩ := dig_all v.natAbs v.natAbs (Nat.le_refl _)
  have i5 := i4 9 (by omega)
  by_cases hv : v < 0
  · have e : Lib.itoa v = 45 :: Lib.decDigits v.natAbs := by unfold Lib.itoa; rw [if_pos hv]
    have hn : 1 ≤ (decB v).size := by rw [hsz, e]; simp
    obtain ⟨c, c1, c2⟩ := bt_at (decB v) 0 (by omega)
    rw [hl, e] at c1
    simp only [List.getElem?_cons_zero, Option.some.injEq] at c1
    subst c1
    refine ⟨?_, hn, by rw [hsz, e]; simp; omega⟩
    unfold sval
    rw [if_pos (by exact c2), hl, e]
    show -((foldV (Lib.decDigits v.natAbs) 0 : Nat) : Int) = v
    rw [i2]; omega
  · have e : Lib.itoa v = Lib.decDigits v.natAbs := by unfold Lib.itoa; rw [if_neg hv]; congr 1; omega
    have hn : 1 ≤ (decB v).size := by rw [hsz, e]; exact List.length_pos_iff.2 i3
    obtain ⟨c, c1, c2⟩ := bt_at (decB v) 0 (by omega)
    rw [hl, e] at c1
    have hc := i1 c (List.mem_of_getElem? c1)
    refine ⟨?_, hn, by rw [hsz, e]; omega⟩
    unfold sval
    have hne : ¬ bt (decB v) 0 = 45 := by
      intro h
      have c3 : bt (decB v) 0 = (c.toNat : Int) := c2
      rw [c3] at h; omega
    rw [if_neg hne, hl, e, i2]; omega
/-- What both answer. -/
def specD (s : ByteArray) : Int × Bool := if (1 ≤ s.size ∧ s.size ≤ 11) ∧ (-1000000000 ≤ sval s ∧ sval s ≤ 1000000000) ∧ decB (sval s) = s then (sval s, true) else (0, false)
theorem specD_readD (s : ByteArray) : readD s = specD s := by
  have back : ∀ n : Int, -1000000000 ≤ n → n ≤ 1000000000 → decB n = s → Lib.parseIntB 64 s.data.toList = .ok n ∧ specD s = (n, true) := by
    intro n h0 h1 e
    subst e
    obtain ⟨a, b, c⟩ := sval_dec n h0 h1
    refine ⟨parse_dec n h0 h1, ?_⟩
    unfold specD
    rw [a, if_pos ⟨⟨b, c⟩, ⟨h0, h1⟩, rfl⟩]
  by_cases hs : (1 ≤ s.size ∧ s.size ≤ 11) ∧ (-1000000000 ≤ sval s ∧ sval s ≤ 1000000000) ∧ decB (sval s) = s
  · obtain ⟨p, q⟩ := back _ hs.2.1.1 hs.2.1.2 hs.2.2
    rw [q, readD_ok p, if_pos ⟨hs.2.1, hs.2.2⟩]
  · have hz : specD s = (0, false) := by unfold specD; rw [if_neg hs]
    rw [hz]
    by_cases hk : ∃ v, Lib.parseIntB 64 s.data.toList = .ok v
    · obtain ⟨v, hv⟩ := hk
      rw [readD_ok hv]
      split
      · rename_i hc
        obtain ⟨_, q⟩ := back v hc.1.1 hc.1.2 hc.2
        rw [hz] at q
        cases q
      · rfl
    · exact readD_not fun v e => hk ⟨v, e⟩
def bsC (l : List UInt8) : ByteArray := ⟨l.toArray⟩
def consH (b : UInt8) : List (List UInt8) → List (List UInt8)
  | [] => [[b]]
  | h :: t => (b :: h) :: t
def cutL : List UInt8 → List (List UInt8)
  | [] => [[]]
  | b :: l => if b = 44 then [] :: cutL l else consH b (cutL l)
def preH (p : List UInt8) : List (List UInt8) → List (List UInt8)
  | [] => [p]
  | h :: t => (p ++ h) :: t
theorem preH_cons (p : List UInt8) (b : UInt8) (x : List (List UInt8)) : preH p (consH b x) = preH (p ++ [b]) x := by
  cases x with
  | nil => rfl
  | cons h t => simp [preH, consH]
theorem cutL_ne (l : List UInt8) : ∃ h t, cutL l = h :: t := by
  cases l with
  | nil => exact ⟨_, _, rfl⟩
  | cons b l =>
    unfold cutL
    split
    · exact ⟨_, _, rfl⟩
    · cases cutL l with
      | nil => exact ⟨_, _, rfl⟩
      | cons h t => exact ⟨_, _, rfl⟩
theorem preH_nil (l : List UInt8) : preH [] (cutL l) = cutL l := by
  obtain ⟨h, t, e⟩ := cutL_ne l
  rw [e]; rfl
theorem cutL_len : ∀ l : List UInt8, (cutL l).length ≤ l.length + 1 ∧ ∀ h ∈ cutL l, h.length ≤ l.length
  | [] => ⟨by simp [cutL], by simp [cutL]⟩
  | b :: l => by
    obtain ⟨i1, i2⟩ := cutL_len l
    unfold cutL
    split
    · refine ⟨by simp only [List.length_cons]; omega, fun h hm => ?_⟩
      rcases List.mem_cons.1 hm with rfl | hm
      · simp
      · have := i2 h hm; simp only [List.length_cons]; omega
    · obtain ⟨x, t, e⟩ := cutL_ne l
      rw [e] at i1 i2 ⊢
      refine ⟨by simp only [consH, List.length_cons] at *; omega, fun h hm => ?_⟩
      rcases List.mem_cons.1 hm with rfl | hm
      · have := i2 x (List.mem_cons_self ..); simp only [List.length_cons]; omega
      · have := i2 h (List.mem_cons_of_mem _ hm); simp only [List.length_cons]; omega
theorem index_head (b : UInt8) (l : List UInt8) : Lib.index (b :: l) [44] = if b = 44 then 0 else if Lib.index l [44] == -1 then -1 else Lib.index l [44] + 1 := by
  rw [Lib.index]
  by_cases c : b = 44
  · subst c; simp [List.isPrefixOf]
  · have : ([44] : List UInt8).isPrefixOf (b :: l) = false := by
      simp only [List.isPrefixOf, Bool.and_true]
      exact beq_eq_false_iff_ne.2 (fun e => c e.symm)
    rw [this, if_neg c]; simp
theorem index_cases (l : List UInt8) : Lib.index l [44] = -1 ∨ ∃ i : Nat, Lib.index l [44] = i := by
  have := Lib.index_ge l [44]
  rcases Int.lt_or_le (Lib.index l [44]) 0 with h | h
  · left; omega
  · right; exact ⟨(Lib.index l [44]).toNat, by omega⟩
theorem split_cut : ∀ l : List UInt8, Lib.splitK [44] 0 (Lib.count l [44]) l = cutL l
  | [] => by
    have h : Lib.index [] [44] = -1 := rfl
    rw [Lib.count_miss h]; rfl
  | b :: l => by
    have ih := split_cut l
    have hi := index_head b l
    unfold cutL
    by_cases c : b = 44
    · rw [if_pos c] at hi ⊢
      rw [Lib.count_hit (i := 0) (by simp) hi, Nat.add_comm, Lib.splitK, hi, ← ih]
      simp
    · rw [if_neg c] at hi ⊢
      rcases index_cases l with h | ⟨j, h⟩
      · rw [h] at hi
        have hi' : Lib.index (b :: l) [44] = -1 := by rw [hi]; simp
        rw [Lib.count_miss hi', Lib.splitK, ← ih, Lib.count_miss h, Lib.splitK]
        rfl
      · rw [h] at hi
        have hi' : Lib.index (b :: l) [44] = ((j + 1 : Nat) : Int) := by
          rw [hi, if_neg (by simp <;> omega)]; rfl
        have e1 := Lib.count_hit (sub := [44]) (by simp) hi'
        have e2 := Lib.count_hit (sub := [44]) (by simp) h
        rw [List.length_singleton, show j + 1 + 1 = (j + 1) + 1 from rfl, List.drop_succ_cons] at e1
        rw [List.length_singleton] at e2
        rw [e1, Nat.add_comm, Lib.splitK, hi', if_neg (by simp <;> omega), Int.toNat_natCast, Nat.add_zero, List.take_succ_cons, List.length_singleton, List.drop_succ_cons]
        rw [← ih, e2, Nat.add_comm 1, Lib.splitK, h, if_neg (by simp <;> omega), Int.toNat_natCast, Nat.add_zero, List.length_singleton]
        rfl
theorem extract_bs (s : ByteArray) (a b : Nat) : s.extract a b = bsC ((s.data.toList.take b).drop a) := by
  apply ByteArray.ext
  apply Array.toList_inj.1
  rw [Lib.extract_data, ← List.drop_take]
  rfl
theorem split_bs (s : ByteArray) : splitS s (⟨#[44]⟩ : ByteArray) = (cutL s.data.toList).map bsC := by
  have h := Lib.splitB_data (⟨#[44]⟩ : ByteArray) 0 (Lib.countB s (⟨#[44]⟩ : ByteArray)) s
  have e : Lib.countB s (⟨#[44]⟩ : ByteArray) = Lib.count s.data.toList [44] := rfl
  have h2 : (splitS s (⟨#[44]⟩ : ByteArray)).map (·.data.toList) = cutL s.data.toList := by
    unfold splitS
    rw [h, e]
    exact split_cut _
  rw [← h2, List.map_map]
  conv => lhs; rw [← List.map_id (splitS s (⟨#[44]⟩ : ByteArray))]
  apply List.map_congr_left
  intro x _
  rfl
theorem w64x (x : Int) (h0 : 0 ≤ x) (h1 : x < 9223372036854775808) : wrap64 x = x := by unfold wrap64; omega
theorem tmodN (m : Nat) : Int.tmod (m : Int) 8 = ((m % 8 : Nat) : Int) := by
  rw [Int.tmod_eq_emod_of_nonneg (by omega)]; omega
theorem dig_word0 (n j : Nat) (hj : j < 8) (hn : n ≤ 1099511627776) : Int.tmod (wrap64 ((wrap64 (2654435769 * (wrap64 ((j : Int) + 1)))) + (n : Int))) 4294967296 = wd0 n j := by
  rw [w64x ((j : Int) + 1) (by omega) (by omega), w64x (2654435769 * _) (by omega) (by omega), w64x _ (by omega) (by omega), Int.tmod_eq_emod_of_nonneg (by omega)]; rfl
theorem dig_l0 (s : ByteArray) (hs : s.size ≤ 1099511627776) : ∀ (d j : Nat), j + d = 8 → ∀ k, spec_l01Digest.l0 (k + d + 1) s ((List.range j).map (wd0 s.size)) (j : Int) = spec_l01Digest.l1 k s ((List.range 8).map (wd0 s.size)) 0
  | 0, j, h, k => by
    obtain rfl : j = 8 := by omega
    rw [spec_l01Digest.l0, if_neg (by omega)]
  | d + 1, j, h, k => by
    have ih := dig_l0 s hs d (j + 1) (by omega) k
    rw [show k + (d + 1) + 1 = (k + d + 1) + 1 by omega, spec_l01Digest.l0, if_pos (by omega), if_pos (by simp; omega), dig_word0 _ _ (by omega) hs, wsucc (by omega) (by omega)]
    rw [List.range_succ, List.map_append] at ih
    exact ih
theorem dig_turn (ws : List Int) (h32 : ∀ x ∈ ws, 0 ≤ x ∧ x < 4294967296) (k : Nat) (b : Int) (hb0 : 0 ≤ b) (hb : b ≤ 255) :
    ws.set (((k % 8 : Nat) : Int)).toNat (Int.tmod (wrap64 (16777619 * (Int.tmod (wrap64 ((wrap64 ((rd ws ((k % 8 : Nat) : Int)) + b)) + (rd ws (((k % 8 + 7) % 8 : Nat) : Int)))) 4294967296))) 4294967296) = turn ws k b := by
  have hg : ∀ j : Nat, 0 ≤ ws.getD j 0 ∧ ws.getD j 0 < 4294967296 := by
    intro j
    rw [List.getD_eq_getElem?_getD]
    by_cases hj : j < ws.length
    · rw [List.getElem?_eq_getElem hj]; exact h32 _ (List.getElem_mem hj)
    · rw [List.getElem?_eq_none (by omega)]; simp
  have h1 := hg (k % 8)
  have h2 := hg ((k % 8 + 7) % 8)
  unfold turn mixV
  simp only [rd, Int.toNat_natCast]
  generalize ws.getD (k % 8) 0 = x at *
  generalize ws.getD ((k % 8 + 7) % 8) 0 = y at *
  congr 1
  rw [w64x (x + b) (by omega) (by omega), w64x (x + b + y) (by omega) (by omega), Int.tmod_eq_emod_of_nonneg (show 0 ≤ x + b + y by omega), w64x _ (by omega) (by omega), Int.tmod_eq_emod_of_nonneg (by omega)]
theorem turn_len (ws : List Int) (k : Nat) (b : Int) : (turn ws k b).length = ws.length := by simp [turn]
theorem st1_len (n k : Nat) : (st1 n k).length = 8 := by simp [st1]
theorem st2_len (s : ByteArray) : ∀ k, (st2 s k).length = 8
  | 0 => st1_len _ _
  | k + 1 => by rw [st2_succ, turn_len]; exact st2_len s k
theorem st3_len (s : ByteArray) : ∀ k, (st3 s k).length = 8
  | 0 => st2_len _ _
  | k + 1 => by rw [st3_succ, turn_len]; exact st3_len s k
theorem bt_255 (s : ByteArray) (i : Int) : 0 ≤ bt s i ∧ bt s i ≤ 255 := by
  unfold bt
  split
  · have := (s[i.toNat]).toNat_lt; omega
  · omega
theorem dig_step2 (s : ByteArray) (hs : s.size ≤ 1099511627776) (i : Nat) (hi : i < s.size) (k : Nat) : spec_l01Digest.l1 (k + 1) s (st2 s i) (i : Int) = spec_l01Digest.l1 k s (st2 s (i + 1)) ((i + 1 : Nat) : Int) := by
  have hl := st2_len s i
  have hb := bt_255 s i
  rw [spec_l01Digest.l1, w64x ((s.size : Int) + 24) (by omega) (by omega), if_pos (by omega), if_pos (by omega), if_pos (by omega)]
  rw [tmodN, if_pos (by omega), if_pos (by omega), w64x (((i % 8 : Nat) : Int) + 7) (by omega) (by omega), show (((i % 8 : Nat) : Int) + 7) = ((i % 8 + 7 : Nat) : Int) from rfl, tmodN, if_pos (by omega), if_pos (by omega), w64x (bt s i) (by omega) (by omega)]
  rw [dig_turn _ (st2_32 s i) i _ hb.1 hb.2, wsucc (by omega) (by omega), st2_succ]
  rfl
theorem dig_step3 (s : ByteArray) (hs : s.size ≤ 1099511627776) (i : Nat) (hi : i < 24) (k : Nat) : spec_l01Digest.l1 (k + 1) s (st3 s i) ((s.size + i : Nat) : Int) = spec_l01Digest.l1 k s (st3 s (i + 1)) ((s.size + (i + 1) : Nat) : Int) := by
  have hl := st3_len s i
  rw [spec_l01Digest.l1, w64x ((s.size : Int) + 24) (by omega) (by omega), if_pos (by omega), if_neg (by omega), w64x (((s.size + i : Nat) : Int) - (s.size : Int)) (by omega) (by omega), show ((s.size + i : Nat) : Int) - (s.size : Int) = (i : Int) by omega]
  rw [tmodN, if_pos (by omega), if_pos (by omega), w64x (((i % 8 : Nat) : Int) + 7) (by omega) (by omega), show (((i % 8 : Nat) : Int) + 7) = ((i % 8 + 7 : Nat) : Int) from rfl, tmodN, if_pos (by omega), if_pos (by omega)]
  rw [dig_turn _ (st3_32 s i) i _ (by omega) (by omega), wsucc (by omega) (by omega), st3_succ]
  rfl
theorem dig_l1a (s : ByteArray) (hs : s.size ≤ 1099511627776) : ∀ (d i : Nat), i + d = s.size → ∀ k, spec_l01Digest.l1 (k + d) s (st2 s i) (i : Int) = spec_l01Digest.l1 k s (st2 s s.size) (s.size : Int)
  | 0, i, h, k => by
    obtain rfl : i = s.size := by omega
    rfl
  | d + 1, i, h, k => by
    rw [show k + (d + 1) = (k + d) + 1 by omega, dig_step2 s hs i (by omega)]
    exact dig_l1a s hs d (i + 1) (by omega) k
theorem dig_l1b (s : ByteArray) (hs : s.size ≤ 1099511627776) : ∀ (d i : Nat), i + d = 24 → ∀ k, spec_l01Digest.l1 (k + d) s (st3 s i) ((s.size + i : Nat) : Int) = spec_l01Digest.l1 k s (st3 s 24) ((s.size + 24 : Nat) : Int)
  | 0, i, h, k => by
    obtain rfl : i = 24 := by omega
    rfl
  | d + 1, i, h, k => by
    rw [show k + (d + 1) = (k + d) + 1 by omega, dig_step3 s hs i (by omega)]
    exact dig_l1b s hs d (i + 1) (by omega) k
theorem dig_word (x : Int) (h0 : 0 ≤ x) (h1 : x < 4294967296) : ([(wrap64 (Int.tdiv x 16777216)) % 256, (Int.tmod (wrap64 (Int.tdiv x 65536)) 256) % 256, (Int.tmod (wrap64 (Int.tdiv x 256)) 256) % 256, (Int.tmod x 256) % 256] : List Int) = wordB x := by
  unfold wordB
  rw [Int.tdiv_eq_ediv_of_nonneg h0, Int.tdiv_eq_ediv_of_nonneg h0, Int.tdiv_eq_ediv_of_nonneg h0, w64x _ (by omega) (by omega), w64x _ (by omega) (by omega), w64x _ (by omega) (by omega), Int.tmod_eq_emod_of_nonneg (by omega), Int.tmod_eq_emod_of_nonneg (by omega), Int.tmod_eq_emod_of_nonneg h0]
  simp only [Int.emod_emod]
theorem dig_l2 (zs : List Int) (hl : zs.length = 8) (h32 : ∀ x ∈ zs, 0 ≤ x ∧ x < 4294967296) : ∀ (d j : Nat), j + d = 8 → ∀ k, spec_l01Digest.l2 (k + d + 1) zs (outW zs j) (zs.length : Int) (j : Int) = some (strOfNums (outW zs 8))
  | 0, j, h, k => by
    obtain rfl : j = 8 := by omega
    rw [spec_l01Digest.l2, if_neg (by omega)]
  | d + 1, j, h, k => by
    have hj : j < zs.length := by omega
    have hx : 0 ≤ zs.getD j 0 ∧ zs.getD j 0 < 4294967296 := by
      rw [List.getD_eq_getElem?_getD, List.getElem?_eq_getElem hj]; exact h32 _ (List.getElem_mem hj)
    have hr : rd zs (j : Int) = zs.getD j 0 := by simp [rd]
    have ho := outW_len zs j
    rw [show k + (d + 1) + 1 = (k + d + 1) + 1 by omega, spec_l01Digest.l2, if_pos (by omega), if_pos (by omega), if_pos (by omega), hr, dig_word _ hx.1 hx.2, Option.bind_some, if_pos (by simp only [wordB, List.length_cons, List.length_nil]; omega), ← outW_succ zs j hj, wsucc (by omega) (by omega)]
    exact dig_l2 zs hl h32 d (j + 1) (by omega) k
def digS (s : ByteArray) : ByteArray := strOfNums (outW (st3 s 24) 8)
theorem digest_spec (s : ByteArray) (hs : s.size ≤ 1099511627776) (k : Nat) (hk : s.size + 60 ≤ k) : spec_l01Digest.f k s = some (digS s) := by
  obtain ⟨n, rfl⟩ : ∃ n, k = (((n + 8 + 1 + 1) + 24) + s.size) + 8 + 1 := ⟨k - s.size - 43, by omega⟩
  have a := dig_l0 s hs 8 0 rfl (((n + 8 + 1 + 1) + 24) + s.size)
  have b := dig_l1a s hs s.size 0 (by omega) ((n + 8 + 1 + 1) + 24)
  have c := dig_l1b s hs 24 0 rfl (n + 8 + 1 + 1)
  have e := dig_l2 (st3 s 24) (st3_len s 24) (st3_32 s 24) 8 0 rfl n
  have f1 : (List.range 8).map (wd0 s.size) = st2 s 0 := by
    show _ = st1 s.size 8
    unfold st1
    apply List.map_congr_left
    intro j hj
    rw [if_pos (List.mem_range.1 hj)]
  unfold spec_l01Digest.f
  refine a.trans ?_
  rw [f1]
  refine b.trans (c.trans ?_)
  rw [spec_l01Digest.l1, w64x ((s.size : Int) + 24) (by omega) (by omega), if_neg (by omega)]
  exact e
theorem digest_impl (s : ByteArray) (hs : s.size ≤ 1099511627776) : impl_digestOf.f s = some (digS s) := by
  unfold impl_digestOf.f
  rw [if_pos hs]
  rfl
theorem strOfNums_size : ∀ xs : List Int, (strOfNums xs).size = xs.length := by
  intro xs
  show (List.map (fun n : Int => UInt8.ofNat n.toNat) xs).toArray.size = _
  simp
theorem digS_size (s : ByteArray) : (digS s).size ≤ 32 := by
  unfold digS
  rw [strOfNums_size]
  exact outW_len _ 8
theorem and255 (y : Int) (h0 : 0 ≤ y) (h1 : y < 18446744073709551616) : 0 ≤ Go.bits .and .u64 y 255 ∧ Go.bits .and .u64 y 255 ≤ 255 := by
  rw [u64_and y 255 h0 h1 (by omega) (by omega)]
  have := @Nat.and_le_right y.toNat (255 : Int).toNat
  have h : (255 : Int).toNat = 255 := rfl
  rw [h] at this ⊢
  omega
theorem shift_range (z : Int) : 0 ≤ IntKind.u64.wrap z / 1099511627776 ∧ IntKind.u64.wrap z / 1099511627776 < 18446744073709551616 := by
  have h : 0 ≤ IntKind.u64.wrap z ∧ IntKind.u64.wrap z < 18446744073709551616 := by
    unfold IntKind.wrap IntKind.bits IntKind.signed
    simp
    omega
  omega
theorem nxt_range (z : Int) : 0 ≤ wrap64 (Go.bits .and .u64 (IntKind.u64.wrap z / 1099511627776) 255) ∧ wrap64 (Go.bits .and .u64 (IntKind.u64.wrap z / 1099511627776) 255) ≤ 255 := by
  obtain ⟨q0, q1⟩ := shift_range z
  obtain ⟨a0, a1⟩ := and255 _ q0 q1
  rw [w64 (by omega) (by omega)]
  exact ⟨a0, a1⟩
def bytesOk (l : List Int) : Prop := ∀ x ∈ l, 0 ≤ x ∧ x ≤ 255
theorem bytes_of_wf {l : List Int} (h : ∀ x ∈ l, (Lit.int .u8 x).wf = true) : bytesOk l := fun x hx => by
  have := h x hx
  simp only [Lit.wf, Bool.and_eq_true, decide_eq_true_eq] at this
  have h1 : IntKind.u8.min = 0 := by decide
  have h2 : IntKind.u8.max = 255 := by decide
  omega
theorem rd_ok {l : List Int} (h : bytesOk l) (i : Int) (h0 : 0 ≤ i) (h1 : i < l.length) : 0 ≤ rd l i ∧ rd l i ≤ 255 := by
  unfold rd
  exact h _ (getD_mem 0 (by omega))
theorem next_from {l : List Int} (h : bytesOk l) (p s : Int) (h0 : 0 ≤ p) (h1 : p ≤ 1000000) : ∃ r s', spec_l00Src_next.f l p s = some (r, p + 1, s') ∧ 0 ≤ r ∧ r ≤ 255 := by
  have hw : wrap64 (p + 1) = p + 1 := wsucc h0 (by omega)
  unfold spec_l00Src_next.f
  rw [hw]
  by_cases c : p < (l.length : Int)
  · have hr := rd_ok h p h0 c
    have hr' : wrap64 (rd l p) = rd l p := w64 (by omega) (by omega)
    rw [if_pos c, if_pos h0, if_pos (by omega), hr']
    exact ⟨_, _, rfl, hr.1, hr.2⟩
  · rw [if_neg c, if_neg (by omega)]
    exact ⟨_, _, rfl, (nxt_range _).1, (nxt_range _).2⟩
theorem pick_from {l : List Int} (h : bytesOk l) (p s n : Int) (h0 : 0 ≤ p) (h1 : p ≤ 999999) (hn : 1 < n) : ∃ r p' s', spec_l00Src_pick.f l p s n = some (r, p', s') ∧ 0 ≤ r ∧ r < n ∧ p ≤ p' ∧ p' ≤ p + 2 := by
  obtain ⟨r, s1, e1, a1, a2⟩ := next_from h p s h0 (by omega)
  obtain ⟨r2, s2, e2, b1, b2⟩ := next_from h (p + 1) s1 (by omega) (by omega)
  unfold spec_l00Src_pick.f
  rw [if_neg (by omega), e1]
  simp only [Option.bind_some]
  rw [e2]
  simp only [Option.bind_some]
  by_cases c : n > 200
  · rw [if_pos c, if_neg (by omega)]
    refine ⟨_, _, _, rfl, ?_, ?_, by omega, by omega⟩
    · rw [w64 (x := r * 256) (by omega) (by omega), w64 (by omega) (by omega)]; exact Int.tmod_nonneg _ (by omega)
    · exact Int.tmod_lt_of_pos _ (by omega)
  · rw [if_neg c, if_neg (by omega)]
    exact ⟨_, _, _, rfl, Int.tmod_nonneg _ a1, Int.tmod_lt_of_pos _ (by omega), by omega, by omega⟩
theorem from_pick {l : List Int} (h : bytesOk l) (n : Int) (hn : 1 < n) (p s : Int) (h0 : 0 ≤ p) (h1 : p ≤ 999999) : ∃ r p' s', spec_l00Src_pick.f l p s n = some (r, p', s') ∧ 0 ≤ r ∧ r < n ∧ 0 ≤ p' ∧ p' ≤ p + 2 := by
  obtain ⟨r, p', s', e, a, b, c, d⟩ := pick_from h p s n h0 h1 hn
  exact ⟨r, p', s', e, a, b, by omega, d⟩
theorem index_loop (l : List Int) (hl : l.length ≤ 1048576) : ∀ (d i : Nat), i + d = l.length → ∀ k, d < k → ∃ r : Int, slices_IndexFunc_int64_int64_notValue.l0 k l l.length (i : Int) = some r ∧ decide (r ≥ 0) = !(l.drop i).all okV
  | 0, i, h, k, hk => by
    obtain ⟨k, rfl⟩ : ∃ n, k = n + 1 := ⟨k - 1, by omega⟩
    refine ⟨-1, ?_, ?_⟩
    · rw [slices_IndexFunc_int64_int64_notValue.l0, if_neg (by omega)]
    · rw [List.drop_eq_nil_of_le (by omega)]; rfl
  | d + 1, i, h, k, hk => by
    obtain ⟨k, rfl⟩ : ∃ n, k = n + 1 := ⟨k - 1, by omega⟩
    have hi : i < l.length := by omega
    rw [slices_IndexFunc_int64_int64_notValue.l0, if_pos (by omega), if_pos (by omega), if_pos (by omega), drop_rdI l i hi, List.all_cons]
    unfold impl_notValue.f
    rw [in_some, Option.bind_some, Option.bind_some]
    by_cases c : -1000000000 ≤ rd l (i : Int) ∧ rd l (i : Int) ≤ 1000000000
    · have e : okV (rd l (i : Int)) = true := decide_eq_true c
      rw [e, decide_eq_true c, if_neg (by simp), Bool.true_and, wsucc (by omega) (by omega)]
      exact index_loop l hl d (i + 1) (by omega) k (by omega)
    · have e : okV (rd l (i : Int)) = false := decide_eq_false c
      rw [e, decide_eq_false c, if_pos (by simp)]
      exact ⟨_, rfl, by simp⟩
def okD (s : ByteArray) : Bool := (specD s).2
theorem drop_rdB (l : List ByteArray) (i : Nat) (hi : i < l.length) : l.drop i = rdOf ByteArray.empty l (i : Int) :: l.drop (i + 1) := by
  rw [List.drop_eq_getElem_cons hi]
  congr 1
  simp [rdOf, List.getElem?_eq_getElem hi]
theorem rdB_mem (l : List ByteArray) (i : Nat) (hi : i < l.length) : rdOf ByteArray.empty l (i : Int) ∈ l := by
  have : rdOf ByteArray.empty l (i : Int) = l[i] := by simp [rdOf, List.getElem?_eq_getElem hi]
  rw [this]; exact List.getElem_mem hi
theorem impl_nums (l : List ByteArray) (hl : l.length ≤ 1073741824) (hz : ∀ s ∈ l, s.size ≤ 281474976710656) : ∀ (d i : Nat) (out : List Int), i + d = l.length → out.length = i → i ≤ 300 → ∀ k, d < k →
    impl_ReadList.l0 k out l l.length (i : Int) = some (if (l.drop i).all okD = true ∧ l.length ≤ 300 then (out ++ (l.drop i).map (fun s => (specD s).1), true) else ([], false))
  | 0, i, out, h, ho, h3, k, hk => by
    obtain ⟨k, rfl⟩ : ∃ n, k = n + 1 := ⟨k - 1, by omega⟩
    rw [impl_ReadList.l0, if_neg (by omega), List.drop_eq_nil_of_le (by omega), if_pos ⟨rfl, by omega⟩]
    simp
  | d + 1, i, out, h, ho, h3, k, hk => by
    obtain ⟨k, rfl⟩ : ∃ n, k = n + 1 := ⟨k - 1, by omega⟩
    have hs := hz _ (rdB_mem l i (by omega))
    rw [impl_ReadList.l0, if_pos (by omega), if_pos (by omega), if_pos (by omega), drop_rdB l i (by omega), impl_ReadDecimal.f, if_pos hs, specD_readD, Option.bind_some, List.all_cons, List.map_cons]
    generalize rdOf ByteArray.empty l (i : Int) = s
    have hd : okD s = (specD s).2 := rfl
    cases hb : (specD s).2 with
    | true =>
      rw [if_pos rfl, hd, hb, Bool.true_and]
      by_cases c : (out.length : Int) = 300
      · rw [if_pos c, if_neg (fun z => by have := z.2; omega)]
      · rw [if_neg c, if_pos (by omega), wsucc (by omega) (by omega)]
        refine (impl_nums l hl hz d (i + 1) (out ++ [(specD s).1]) (by omega) (by simp; omega) (by omega) k (by omega)).trans ?_
        simp only [List.append_assoc, List.singleton_append]
    | false =>
      rw [if_neg (by simp), hd, hb, Bool.false_and, if_neg (by simp)]
/-- The chain over the texts that are left. -/
def chainR : ByteArray → List ByteArray → List ByteArray → List ByteArray × Bool
  | _, out, [] => (out, true)
  | p, out, s :: r => if (s.size : Int) > 3968 then ([], false) else chainR (digS (p ++ s)) (out ++ [digS (p ++ s)]) r
theorem drop_rd (l : List ByteArray) (i : Nat) (hi : i < l.length) : l.drop i = rdOf ByteArray.empty l (i : Int) :: l.drop (i + 1) := by
  rw [List.drop_eq_getElem_cons hi]
  congr 1
  simp [rdOf, List.getElem?_eq_getElem hi]
theorem impl_chain (l : List ByteArray) (hl : l.length ≤ 300) : ∀ (d i : Nat), i + d = l.length → ∀ (p : ByteArray) (out : List ByteArray), p.size ≤ 32 → out.length = i → ∀ k, impl_ChainOf.l0 (k + d + 1) p out l (l.length : Int) (i : Int) = some (chainR p out (l.drop i))
  | 0, i, h, p, out, hp, ho, k => by
    rw [impl_ChainOf.l0, if_neg (by omega), List.drop_eq_nil_of_le (by omega)]
    rfl
  | d + 1, i, h, p, out, hp, ho, k => by
    have hi : i < l.length := by omega
    rw [show k + (d + 1) + 1 = (k + d + 1) + 1 by omega, impl_ChainOf.l0, if_pos (by omega), if_pos (by omega), if_pos (by omega), drop_rd l i hi]
    generalize rdOf ByteArray.empty l (i : Int) = s
    unfold chainR
    by_cases c : (s.size : Int) > 3968
    · rw [if_pos c, if_pos c]
    · rw [if_neg c, if_neg c, if_pos (by omega), digest_impl (p ++ s) (by rw [ByteArray.size_append]; omega), Option.bind_some, if_pos (by omega), wsucc (by omega) (by omega)]
      exact impl_chain l hl d (i + 1) (by omega) _ _ (digS_size _) (by simp; omega) k
def nib (c : Int) : Int := if 48 ≤ c ∧ c ≤ 57 then c - 48 else if 97 ≤ c ∧ c ≤ 102 then c - 87 else -1
theorem nib_all : ∀ n : Fin 256, Lib.indexByte [48, 49, 50, 51, 52, 53, 54, 55, 56, 57, 97, 98, 99, 100, 101, 102] n.val.toUInt8 = nib n.val := by decide +kernel
theorem nib_impl (c : Int) (h0 : 0 ≤ c) (h1 : c ≤ 255) : strings_IndexByte.f (⟨#[48, 49, 50, 51, 52, 53, 54, 55, 56, 57, 97, 98, 99, 100, 101, 102]⟩ : ByteArray) c = some (nib c) := by
  have h := nib_all ⟨c.toNat, by omega⟩
  unfold strings_IndexByte.f
  congr 1
  have e : ((c.toNat : Nat) : Int) = c := by omega
  rw [← e]
  simp only [Int.toNat_natCast]
  exact h

/-! ### Bytes and texts -/
theorem getAt {α : Type} {l : List α} {i : Nat} {z : α} (h : i < l.length) : l.getD i z = l[i] := by rw [List.getD_eq_getElem?_getD, List.getElem?_eq_getElem h]; rfl
theorem bytes_strOf (l : List Int) (h : bytesOk l) : bytesOf (strOfNums l) = l := by
  show (l.map fun n : Int => UInt8.ofNat n.toNat).map (fun b : UInt8 => (b.toNat : Int)) = l
  rw [List.map_map]
  conv => rhs; rw [← List.map_id l]
  apply List.map_congr_left
  intro x hx
  have := h x hx
  show ((UInt8.ofNat x.toNat).toNat : Int) = x
  rw [UInt8.toNat_ofNat']
  omega
theorem nums_bytes' (l : List UInt8) : strOfNums (l.map fun b => (b.toNat : Int)) = ⟨l.toArray⟩ := by
  show (⟨((l.map fun b => (b.toNat : Int)).map fun n : Int => UInt8.ofNat n.toNat).toArray⟩ : ByteArray) = _
  congr 2
  rw [List.map_map]
  conv => rhs; rw [← List.map_id l]
  apply List.map_congr_left
  intro b _
  show UInt8.ofNat ((b.toNat : Int).toNat) = b
  rw [Int.toNat_natCast, UInt8.ofNat_toNat]
theorem strOf_bytes (s : ByteArray) : strOfNums (bytesOf s) = s := by
  unfold bytesOf
  rw [nums_bytes']
theorem bytesOf_ok (s : ByteArray) : bytesOk (bytesOf s) := by
  intro x hx
  unfold bytesOf at hx
  obtain ⟨b, _, rfl⟩ := List.mem_map.1 hx
  have := b.toNat_lt
  omega
theorem strOf_inj {l m : List Int} (hl : bytesOk l) (hm : bytesOk m) (h : strOfNums l = strOfNums m) : l = m := by
  rw [← bytes_strOf l hl, ← bytes_strOf m hm, h]
/-! ### Hex -/
def hd (n : Int) : Int := bt (⟨#[48, 49, 50, 51, 52, 53, 54, 55, 56, 57, 97, 98, 99, 100, 101, 102]⟩ : ByteArray) n
theorem hd_all : ∀ n : Fin 16, nib (hd n.val) = n.val ∧ 0 ≤ hd n.val ∧ hd n.val ≤ 255 := by decide +kernel
theorem hd_of (n : Int) (h0 : 0 ≤ n) (h1 : n < 16) : nib (hd n) = n ∧ 0 ≤ hd n ∧ hd n ≤ 255 := by
  have := hd_all ⟨n.toNat, by omega⟩
  have e : ((n.toNat : Nat) : Int) = n := by omega
  simp only [e] at this
  exact this
def hexL (l : List Int) : List Int := l.flatMap fun b => [hd (b / 16), hd (b % 16)]
theorem hexL_cons (b : Int) (l : List Int) : hexL (b :: l) = hd (b / 16) :: hd (b % 16) :: hexL l := rfl
theorem hexL_len : ∀ l : List Int, (hexL l).length = 2 * l.length
  | [] => rfl
  | b :: l => by rw [hexL_cons, List.length_cons, List.length_cons, List.length_cons, hexL_len l]; omega
theorem hexL_ok : ∀ l : List Int, bytesOk l → bytesOk (hexL l)
  | [], _ => fun x hx => by cases hx
  | b :: l, h => fun x hx => by
    have hb := h b List.mem_cons_self
    rw [hexL_cons] at hx
    rcases List.mem_cons.1 hx with rfl | hx
    · exact (hd_of (b / 16) (by omega) (by omega)).2
    · rcases List.mem_cons.1 hx with rfl | hx
      · exact (hd_of (b % 16) (by omega) (by omega)).2
      · exact hexL_ok l (fun y hy => h y (List.mem_cons_of_mem _ hy)) x hx
theorem hexL_get : ∀ (l : List Int) (i : Nat), i < l.length → (hexL l).getD (2 * i) 0 = hd (l.getD i 0 / 16) ∧ (hexL l).getD (2 * i + 1) 0 = hd (l.getD i 0 % 16)
  | [], i, h => by cases h
  | b :: l, 0, _ => ⟨rfl, rfl⟩
  | b :: l, i + 1, h => by
    have ih := hexL_get l i (by simpa using h)
    rw [hexL_cons, show 2 * (i + 1) = 2 * i + 1 + 1 by omega]
    exact ih
theorem hex_loop (s : ByteArray) (hs : s.size ≤ 4000) : ∀ (d i : Nat) (out : List Int), i + d = s.size → out.length ≤ 2 * i → ∀ k, d < k → impl_HexText.l0 k s out (s.size : Int) (i : Int) = some (strOfNums (out ++ hexL ((bytesOf s).drop i)), true)
  | 0, i, out, h, ho, k, hk => by
    obtain ⟨k, rfl⟩ : ∃ n, k = n + 1 := ⟨k - 1, by omega⟩
    rw [impl_HexText.l0, if_neg (by omega), List.drop_eq_nil_of_le (by rw [bytesOf_length]; omega)]
    rw [show hexL [] = [] from rfl, List.append_nil]
  | d + 1, i, out, h, ho, k, hk => by
    obtain ⟨k, rfl⟩ : ∃ n, k = n + 1 := ⟨k - 1, by omega⟩
    have hb : (bytesOf s).drop i = bt s (i : Int) :: (bytesOf s).drop (i + 1) := by rw [drop_rdI _ i (by rw [bytesOf_length]; omega), rd_bytesOf]
    have hr := bt_255 s (i : Int)
    have hn : (i : Int) < (s.size : Int) := by omega
    have h0 : (0 : Int) ≤ (i : Int) := by omega
    have e1 : Int.tdiv (bt s (i : Int)) 16 = bt s (i : Int) / 16 := Int.tdiv_eq_ediv_of_nonneg hr.1
    have e2 : Int.tmod (bt s (i : Int)) 16 = bt s (i : Int) % 16 := Int.tmod_eq_emod_of_nonneg hr.1
    have e3 : (bt s (i : Int) / 16) % 256 = bt s (i : Int) / 16 := by omega
    have a1 : 0 ≤ bt s (i : Int) / 16 := by omega
    have a2 : bt s (i : Int) / 16 < 16 := by omega
    have a3 : 0 ≤ bt s (i : Int) % 16 := by omega
    have a4 : bt s (i : Int) % 16 < 16 := by omega
    have hb2 : out.length + 2 < 140737488355328 := by omega
    simp only [impl_HexText.l0, hn, h0, e1, e2, e3, a1, a2, a3, a4, if_true, Option.bind_some, List.length_cons, List.length_nil, Nat.zero_add, Nat.reduceAdd, hb2, wsucc h0 (by omega)]
    refine (hex_loop s hs d (i + 1) _ (by omega) (by simp only [List.length_append, List.length_cons, List.length_nil]; omega) k (by omega)).trans ?_
    rw [hb, hexL_cons, List.append_assoc]
    rfl
theorem HexText_from (s : ByteArray) (hs : s.size ≤ 4000) : From (fun k => impl_HexText.f k s) (strOfNums (hexL (bytesOf s)), true) := by
  refine ⟨s.size + 1, fun k hk => ?_⟩
  have := hex_loop s hs s.size 0 [] (by omega) (by simp) k (by omega)
  rw [List.nil_append, List.drop_zero] at this
  have c : ¬ (s.size : Int) > 4000 := by omega
  simp only [impl_HexText.f, c, if_false]
  exact this
theorem read_step (k : Nat) (t : ByteArray) (out : List Int) (j x p q : Int) (h0 : 0 ≤ j) (h1 : j + 1 < (t.size : Int)) (h2 : j ≤ 100000) (hp : bt t j = p) (hq : bt t (j + 1) = q) (p0 : 0 ≤ p ∧ p ≤ 255) (q0 : 0 ≤ q ∧ q ≤ 255) (hx : 0 ≤ x ∧ x ≤ 255) (np : nib p = x / 16) (nq : nib q = x % 16) (ho : out.length < 140737488355328) :
    impl_ReadHex.l0 (k + 1) t out j = impl_ReadHex.l0 k t (out ++ [x]) (j + 2) := by
  have w1 : wrap64 (j + 1) = j + 1 := w64 (by omega) (by omega)
  have w2 : wrap64 (j + 2) = j + 2 := w64 (by omega) (by omega)
  have w3 : wrap64 (16 * (x / 16)) = 16 * (x / 16) := w64 (by omega) (by omega)
  have w4 : wrap64 (16 * (x / 16) + x % 16) = x := by rw [w64 (by omega) (by omega)]; omega
  have w5 : x % 256 = x := by omega
  have n1 := nib_impl p p0.1 p0.2
  have n2 := nib_impl q q0.1 q0.2
  rw [np] at n1
  rw [nq] at n2
  have a1 : j < (t.size : Int) := by omega
  have a2 : 0 ≤ j + 1 := by omega
  have a3 : ¬ x / 16 < 0 := by omega
  have a4 : ¬ x % 16 < 0 := by omega
  rw [impl_ReadHex.l0]
  simp only [a1, h0, h1, a2, w1, w2, hp, hq, n1, n2, Option.bind_some, a3, a4, ho, w3, w4, w5, if_true, if_false]
theorem read_loop (t : ByteArray) (L : List Int) (hL : bytesOk L) (ht : bytesOf t = hexL L) (hn : L.length ≤ 4000) : ∀ (d i : Nat) (out : List Int), i + d = L.length → out = L.take i → ∀ k, d < k → impl_ReadHex.l0 k t out ((2 * i : Nat) : Int) = some (strOfNums L, true) := by
  have hsz : t.size = 2 * L.length := by rw [← bytesOf_length, ht, hexL_len]
  intro d
  induction d with
  | zero =>
    intro i out h ho k hk
    obtain ⟨k, rfl⟩ : ∃ n, k = n + 1 := ⟨k - 1, by omega⟩
    rw [impl_ReadHex.l0, if_neg (by omega), ho, List.take_of_length_le (by omega)]
  | succ d ih =>
    intro i out h ho k hk
    obtain ⟨k, rfl⟩ : ∃ n, k = n + 1 := ⟨k - 1, by omega⟩
    have hi : i < L.length := by omega
    have i1 : (0 : Int) ≤ ((2 * i : Nat) : Int) := by omega
    have i2 : ((2 * i : Nat) : Int) + 1 < (t.size : Int) := by omega
    have i3 : ((2 * i : Nat) : Int) ≤ 100000 := by omega
    have i4 : ((2 * i : Nat) : Int) + 2 = ((2 * (i + 1) : Nat) : Int) := by omega
    have i5 : (((2 * i : Nat) : Int) + 1).toNat = 2 * i + 1 := by omega
    have hol : out.length < 140737488355328 := by rw [ho, List.length_take]; omega
    have hb := hL _ (List.getElem_mem hi)
    have r1 : 0 ≤ L[i] / 16 ∧ L[i] / 16 < 16 := by omega
    have r2 : 0 ≤ L[i] % 16 ∧ L[i] % 16 < 16 := by omega
    have ih' := ih (i + 1) (out ++ [L[i]]) (by omega) (by rw [ho, List.take_succ_eq_append_getElem hi]) k (by omega)
    obtain ⟨g1, g2⟩ := hexL_get L i hi
    rw [getAt hi] at g1 g2
    have b1 : bt t ((2 * i : Nat) : Int) = hd (L[i] / 16) := by rw [← rd_bytesOf, ht]; unfold rd; rw [Int.toNat_natCast, g1]
    have b2 : bt t (((2 * i : Nat) : Int) + 1) = hd (L[i] % 16) := by rw [← rd_bytesOf, ht]; unfold rd; rw [i5, g2]
    obtain ⟨n1, n2⟩ := hd_of (L[i] / 16) r1.1 r1.2
    obtain ⟨m1, m2⟩ := hd_of (L[i] % 16) r2.1 r2.2
    rw [read_step k t out _ L[i] _ _ i1 i2 i3 b1 b2 n2 m2 hb n1 m1 hol, i4]
    exact ih'
theorem ReadHex_from (s : ByteArray) (hs : s.size ≤ 4000) : From (fun k => impl_ReadHex.f k (strOfNums (hexL (bytesOf s)))) (s, true) := by
  have hok := hexL_ok _ (bytesOf_ok s)
  have ht := bytes_strOf _ hok
  have hsz : (strOfNums (hexL (bytesOf s))).size = 2 * s.size := by rw [strOfNums_size, hexL_len, bytesOf_length]
  refine ⟨s.size + 3, fun k hk => ?_⟩
  obtain ⟨k, rfl⟩ : ∃ n, k = n + 1 := ⟨k - 1, by omega⟩
  have c : ¬ ((strOfNums (hexL (bytesOf s))).size : Int) > 8000 := by omega
  have e : ((((strOfNums (hexL (bytesOf s))).size : Int) % 2) != 0) = false := by
    have : (((strOfNums (hexL (bytesOf s))).size : Int) % 2) = 0 := by omega
    simp [this]
  have := read_loop _ (bytesOf s) (bytesOf_ok s) ht (by rw [bytesOf_length]; omega) s.size 0 [] (by rw [bytesOf_length]; omega) rfl k (by omega)
  rw [strOf_bytes] at this
  simp only [impl_ReadHex.f, c, if_false, e, impl_ReadHex.j0, Bool.false_eq_true]
  exact this
/-! ### Digests -/
theorem outW_len4 (zs : List Int) : ∀ k, k ≤ zs.length → (outW zs k).length = 4 * k
  | 0, _ => rfl
  | k + 1, h => by
    rw [outW_succ zs k (by omega), List.length_append, outW_len4 zs k (by omega)]
    show 4 * k + 4 = _
    omega
theorem outW_bytes (zs : List Int) (k : Nat) : bytesOk (outW zs k) := by
  intro x hx
  unfold outW at hx
  obtain ⟨z, _, hz⟩ := List.mem_flatMap.1 hx
  unfold wordB at hz
  simp only [List.mem_cons, List.not_mem_nil, or_false] at hz
  omega
theorem digS_size32 (s : ByteArray) : (digS s).size = 32 := by
  unfold digS
  rw [strOfNums_size, outW_len4 _ 8 (by rw [st3_len]; omega)]
theorem wordB_inj {x y : Int} (hx : 0 ≤ x ∧ x < 4294967296) (hy : 0 ≤ y ∧ y < 4294967296) (h : wordB x = wordB y) : x = y := by
  unfold wordB at h
  simp only [List.cons.injEq, and_true] at h
  omega
theorem outW_inj {zs ys : List Int} (hz : zs.length = 8) (hy : ys.length = 8) (rz : ∀ x ∈ zs, 0 ≤ x ∧ x < 4294967296) (ry : ∀ x ∈ ys, 0 ≤ x ∧ x < 4294967296) : ∀ k, k ≤ 8 → outW zs k = outW ys k → ∀ j, j < k → zs.getD j 0 = ys.getD j 0
  | 0, _, _, j, hj => by cases hj
  | k + 1, hk, h, j, hj => by
    rw [outW_succ zs k (by omega), outW_succ ys k (by omega)] at h
    obtain ⟨h1, h2⟩ := List.append_inj' h rfl
    by_cases c : j = k
    · subst c
      exact wordB_inj (rz _ (getD_mem 0 (by omega))) (ry _ (getD_mem 0 (by omega))) h2
    · exact outW_inj hz hy rz ry k (by omega) h1 j (by omega)
theorem ext8 {zs ys : List Int} (hz : zs.length = 8) (hy : ys.length = 8) (h : ∀ j, j < 8 → zs.getD j 0 = ys.getD j 0) : zs = ys := by
  apply List.ext_getElem (by omega)
  intro i h1 h2
  have := h i (by omega)
  rwa [getAt h1, getAt h2] at this
theorem turn_other {ws : List Int} {k i : Nat} {b : Int} (h : i ≠ k % 8) : (turn ws k b).getD i 0 = ws.getD i 0 := by
  unfold turn
  rw [List.getD_eq_getElem?_getD, List.getElem?_set_ne (Ne.symm h), List.getD_eq_getElem?_getD]
theorem turn_here {ws : List Int} {k : Nat} {b : Int} (h : ws.length = 8) : (turn ws k b).getD (k % 8) 0 = mixV ws (k % 8) b := by
  unfold turn
  exact getD_set (by omega)
theorem mul_one_one {u v : Int} (hu : 0 ≤ u ∧ u < 4294967296) (hv : 0 ≤ v ∧ v < 4294967296) (h : 16777619 * u % 4294967296 = 16777619 * v % 4294967296) : u = v := by
  have e : ∀ x : Int, 0 ≤ x ∧ x < 4294967296 → (899433627 * (16777619 * x % 4294967296)) % 4294967296 = x := fun x hx => by
    rw [Int.mul_emod, Int.emod_emod, ← Int.mul_emod, ← Int.mul_assoc, show (899433627 : Int) * 16777619 = 1 + 4294967296 * 3513497 by decide +kernel, Int.add_mul, Int.one_mul, Int.mul_assoc, Int.add_mul_emod_self_left, Int.emod_eq_of_lt hx.1 hx.2]
  rw [← e u hu, h, e v hv]
theorem mod_range (z : Int) : 0 ≤ z % 4294967296 ∧ z % 4294967296 < 4294967296 := ⟨Int.emod_nonneg _ (by decide), Int.emod_lt_of_pos _ (by decide)⟩
theorem turn_inj {ws vs : List Int} (hw : ws.length = 8) (hv : vs.length = 8) (rw_ : ∀ x ∈ ws, 0 ≤ x ∧ x < 4294967296) (rv : ∀ x ∈ vs, 0 ≤ x ∧ x < 4294967296) (k : Nat) (b : Int) (h : turn ws k b = turn vs k b) : ws = vs := by
  have ho : ∀ i, i ≠ k % 8 → ws.getD i 0 = vs.getD i 0 := fun i hi => by rw [← turn_other (b := b) hi, h, turn_other hi]
  have hh : mixV ws (k % 8) b = mixV vs (k % 8) b := by rw [← turn_here hw, h, turn_here hv]
  refine ext8 hw hv fun j hj => ?_
  by_cases c : j = k % 8
  · have hq := ho ((k % 8 + 7) % 8) (by omega)
    have r1 := rw_ _ (getD_mem 0 (show k % 8 < ws.length by omega))
    have r2 := rv _ (getD_mem 0 (show k % 8 < vs.length by omega))
    unfold mixV at hh
    rw [hq] at hh
    have hm := mul_one_one (mod_range _) (mod_range _) hh
    clear hh ho h hq
    rw [c]
    generalize ws.getD (k % 8) 0 = p at *
    generalize vs.getD (k % 8) 0 = q at *
    generalize vs.getD ((k % 8 + 7) % 8) 0 = z at *
    clear rw_ rv hw hv c
    omega
  · exact ho j c
theorem turn_byte {ws : List Int} (hw : ws.length = 8) (k : Nat) (b c : Int) (hb : 0 ≤ b ∧ b ≤ 255) (hc : 0 ≤ c ∧ c ≤ 255) (h : turn ws k b = turn ws k c) : b = c := by
  have hh : mixV ws (k % 8) b = mixV ws (k % 8) c := by rw [← turn_here hw, h, turn_here hw]
  unfold mixV at hh
  have hm := mul_one_one (mod_range _) (mod_range _) hh
  clear hh h
  generalize ws.getD (k % 8) 0 = p at *
  generalize ws.getD ((k % 8 + 7) % 8) 0 = z at *
  clear hw
  omega
theorem st2_zero (s : ByteArray) : st2 s 0 = st1 s.size 8 := rfl
theorem st3_zero (s : ByteArray) : st3 s 0 = st2 s s.size := rfl
theorem st2_same (s t : ByteArray) (hz : t.size = s.size) : ∀ i : Nat, (∀ j : Nat, j < i → bt t (j : Int) = bt s (j : Int)) → st2 t i = st2 s i
  | 0, _ => by rw [st2_zero, st2_zero, hz]
  | i + 1, h => by rw [st2_succ, st2_succ, st2_same s t hz i (fun j hj => h j (by omega)), h i (by omega)]
theorem st2_apart (s t : ByteArray) (hz : t.size = s.size) (j : Nat) (hd : ¬ bt t (j : Int) = bt s (j : Int)) (ho : ∀ i : Nat, i ≠ j → bt t (i : Int) = bt s (i : Int)) : ∀ d : Nat, ¬ st2 t (j + 1 + d) = st2 s (j + 1 + d)
  | 0, h => by
    rw [Nat.add_zero, st2_succ, st2_succ, st2_same s t hz j (fun i hi => ho i (by omega))] at h
    exact hd (turn_byte (st2_len s j) j _ _ (bt_255 t _) (bt_255 s _) h)
  | d + 1, h => by
    rw [show j + 1 + (d + 1) = (j + 1 + d) + 1 by omega, st2_succ, st2_succ, ho (j + 1 + d) (by omega)] at h
    exact st2_apart s t hz j hd ho d (turn_inj (st2_len t _) (st2_len s _) (st2_32 t _) (st2_32 s _) _ _ h)
theorem st3_apart (s t : ByteArray) (h : ¬ st3 t 0 = st3 s 0) : ∀ d : Nat, ¬ st3 t d = st3 s d
  | 0 => h
  | d + 1 => fun e => by
    rw [st3_succ, st3_succ] at e
    exact st3_apart s t h d (turn_inj (st3_len t d) (st3_len s d) (st3_32 t d) (st3_32 s d) d 7 e)
theorem digS_apart (s t : ByteArray) (hz : t.size = s.size) (j : Nat) (hj : j < s.size) (hd : ¬ bt t (j : Int) = bt s (j : Int)) (ho : ∀ i : Nat, i ≠ j → bt t (i : Int) = bt s (i : Int)) : ¬ digS t = digS s := by
  intro e
  have h1 : ¬ st3 t 0 = st3 s 0 := by
    rw [st3_zero, st3_zero, hz]
    have := st2_apart s t hz j hd ho (s.size - (j + 1))
    rwa [show j + 1 + (s.size - (j + 1)) = s.size by omega] at this
  refine st3_apart s t h1 24 ?_
  unfold digS at e
  have e2 := strOf_inj (outW_bytes _ _) (outW_bytes _ _) e
  exact ext8 (st3_len t 24) (st3_len s 24) (outW_inj (st3_len t 24) (st3_len s 24) (st3_32 t 24) (st3_32 s 24) 8 (Nat.le_refl _) e2)
theorem chg_apart (s : ByteArray) (j : Nat) (hj : j < s.size) (x : Int) (hx : 0 ≤ x ∧ x < 255) : ¬ digS (chgB s (j : Int) x) = digS s ∧ (chgB s (j : Int) x).size = s.size := by
  have hb := bt_255 s (j : Int)
  obtain ⟨v, hv⟩ : ∃ v, v = IntKind.u8.wrap (rd (bytesOf s) (j : Int) + IntKind.u8.wrap (wrap64 (1 + x))) := ⟨_, rfl⟩
  have hv2 : v = (bt s (j : Int) + (1 + x) % 256) % 256 := by
    rw [hv, rd_bytesOf, w64 (by omega) (by omega)]
    simp only [IntKind.wrap_u8]
  have hc : chgB s (j : Int) x = strOfNums ((bytesOf s).set j v) := by
    unfold chgB
    rw [← hv, Int.toNat_natCast]
  have hok : bytesOk ((bytesOf s).set j v) := fun y hy => by
    rcases List.mem_or_eq_of_mem_set hy with hy | rfl
    · exact bytesOf_ok s y hy
    · omega
  have hsz : (chgB s (j : Int) x).size = s.size := by rw [hc, strOfNums_size, List.length_set, bytesOf_length]
  have hbt : ∀ i : Nat, bt (chgB s (j : Int) x) (i : Int) = ((bytesOf s).set j v).getD i 0 := fun i => by
    rw [← rd_bytesOf, hc, bytes_strOf _ hok]
    unfold rd
    rw [Int.toNat_natCast]
  have hjl : j < (bytesOf s).length := by rw [bytesOf_length]; exact hj
  refine ⟨digS_apart s _ hsz j hj ?_ (fun i hi => ?_), hsz⟩
  · rw [hbt, getD_set hjl]; omega
  · rw [hbt, List.getD_eq_getElem?_getD, List.getElem?_set_ne (Ne.symm hi), ← List.getD_eq_getElem?_getD, ← rd_bytesOf]
    unfold rd
    rw [Int.toNat_natCast]
theorem DigestOf_is (s : ByteArray) (h : s.size ≤ 4000) : impl_DigestOf.f s = some (digS s, true) := by
  unfold impl_DigestOf.f
  rw [if_neg (by omega), digest_impl s (by omega)]
  rfl
theorem DigestOf_spec (s : ByteArray) (h : s.size ≤ 4000) (k : Nat) (hk : 5000 ≤ k) : spec_DigestOf.f k s = some (digS s, true) := by
  unfold spec_DigestOf.f
  rw [if_neg (by omega), digest_spec s (by omega) k (by omega)]
  rfl
/-! ### Tokens -/
theorem tok_loop (b : Int) : ∀ (d i : Nat) (x : Int) (out : List Int), i + d = 16 → out.length = i → ∃ r : ByteArray, r.size = 16 ∧ ∀ k, d < k → impl_tokenOf.l0 k x b out (i : Int) = some r
  | 0, i, x, out, h, ho => ⟨strOfNums out, by rw [strOfNums_size]; omega, fun k hk => by
      obtain ⟨k, rfl⟩ : ∃ n, k = n + 1 := ⟨k - 1, by omega⟩
      rw [impl_tokenOf.l0, if_neg (by omega)]⟩
  | d + 1, i, x, out, h, ho => by
    obtain ⟨r, hr, e⟩ := tok_loop b d (i + 1) (Int.tmod (wrap64 ((wrap64 ((wrap64 (1103515245 * x)) + 12345)) + b)) 2147483648) (out ++ [(Int.tmod (wrap64 (Int.tdiv (Int.tmod (wrap64 ((wrap64 ((wrap64 (1103515245 * x)) + 12345)) + b)) 2147483648) 65536)) 256) % 256]) (by omega) (by rw [List.length_append, List.length_singleton]; omega)
    refine ⟨r, hr, fun k hk => ?_⟩
    obtain ⟨k, rfl⟩ : ∃ n, k = n + 1 := ⟨k - 1, by omega⟩
    rw [impl_tokenOf.l0, if_pos (by omega), if_pos (by omega), wsucc (by omega) (by omega)]
    exact e k (by omega)
theorem TokenOf_from (a b : Int) (ha : 0 ≤ a ∧ a < 200) (hb : 0 ≤ b ∧ b < 200) : ∃ r : ByteArray, r.size = 16 ∧ ∀ k, 17 ≤ k → impl_TokenOf.f k a b = some (r, true) := by
  obtain ⟨r, hr, e⟩ := tok_loop b 16 0 a [] (by omega) rfl
  refine ⟨r, hr, fun k hk => ?_⟩
  have h1 : 0 ≤ a ∧ a ≤ 1000000000 := by omega
  have h2 : 0 ≤ b ∧ b ≤ 1000000000 := by omega
  have E := e k (by omega)
  have E2 : impl_tokenOf.f k a b = some r := E
  simp only [impl_TokenOf.f, in_some, h1, h2, and_self, decide_true, Option.bind_some, if_true, E2]
/-! ### What is drawn -/
theorem b10At_from {c : List Int} (h : bytesOk c) (i n : Int) (h0 : 0 ≤ i ∧ i ≤ 10) (hn : 1 < n) : ∃ r, laws_b10At.f c i n = some r ∧ 0 ≤ r ∧ r < n := by
  unfold laws_b10At.f
  rw [if_neg (by omega)]
  by_cases c1 : i < (c.length : Int)
  · have hr := rd_ok h i (by omega) c1
    rw [if_pos c1, if_pos (by omega), if_neg (by omega), w64 (by omega) (by omega)]
    exact ⟨_, rfl, Int.tmod_nonneg _ hr.1, Int.tmod_lt_of_pos _ (by omega)⟩
  · rw [if_neg c1, if_neg (by omega), w64 (x := i * 37) (by omega) (by omega), w64 (by omega) (by omega)]
    exact ⟨_, rfl, Int.tmod_nonneg _ (by omega), Int.tmod_lt_of_pos _ (by omega)⟩
theorem b10At_any {c : List Int} (h : bytesOk c) (i n : Int) (h0 : 0 ≤ i ∧ i ≤ 10) (hn : 0 < n) : ∃ r, laws_b10At.f c i n = some r ∧ 0 ≤ r ∧ r < n := by
  by_cases c1 : 1 < n
  · exact b10At_from h i n h0 c1
  · unfold laws_b10At.f
    rw [if_pos (by omega)]
    exact ⟨0, rfl, by omega, by omega⟩
theorem bytes_loop {c : List Int} (h : bytesOk c) : ∀ (d : Nat) (out : List Int) (p s : Int), 0 ≤ p → p + 4 * d ≤ 999 → d ≤ 30 → out.length + d ≤ 30 →
    ∃ r : ByteArray, r.size ≤ 30 ∧ ∀ k, d < k → spec_B10Bytes.l0 k out (d : Int) c p s = some r
  | 0, out, p, s, h0, h1, hd, hl => ⟨strOfNums out, by rw [strOfNums_size]; omega, fun k hk => by
      obtain ⟨k, rfl⟩ : ∃ n, k = n + 1 := ⟨k - 1, by omega⟩
      rw [spec_B10Bytes.l0, if_neg (by omega)]⟩
  | d + 1, out, p, s, h0, h1, hd, hl => by
    have hw : wrap64 (((d + 1 : Nat) : Int) - 1) = (d : Int) := by rw [w64 (by omega) (by omega)]; omega
    obtain ⟨x, p1, s1, e1, a1, b1, c1, d1⟩ := from_pick h 256 (by omega) p s h0 (by omega)
    obtain ⟨r, hr, e⟩ := bytes_loop h d (out ++ [x % 256]) p1 s1 c1 (by omega) (by omega) (by rw [List.length_append, List.length_singleton]; omega)
    refine ⟨r, hr, fun k hk => ?_⟩
    obtain ⟨k, rfl⟩ : ∃ n, k = n + 1 := ⟨k - 1, by omega⟩
    rw [spec_B10Bytes.l0, if_pos (by omega), e1]
    simp only [Option.bind_some]
    rw [if_pos (by omega), hw]
    exact e k (by omega)
theorem B10Bytes_from {c : List Int} (h : bytesOk c) : ∃ r : ByteArray, r.size ≤ 30 ∧ ∀ k, 50 ≤ k → spec_B10Bytes.f k c = some r := by
  obtain ⟨n, p, s, e1, a, b, c1, d⟩ := from_pick h 24 (by omega) 0 0 (by omega) (by omega)
  obtain ⟨n, rfl⟩ : ∃ m : Nat, n = m := ⟨n.toNat, by omega⟩
  obtain ⟨r, hr, e⟩ := bytes_loop h n [] p s c1 (by omega) (by omega) (by rw [List.length_nil]; omega)
  refine ⟨r, hr, fun k hk => ?_⟩
  simp only [spec_B10Bytes.f, spec_l00From.f, Option.bind_some, e1]
  exact e k (by omega)
theorem list_loop {c : List Int} (h : bytesOk c) : ∀ (d : Nat) (out : List Int) (p s : Int), 0 ≤ p → p + 4 * d ≤ 999 → d ≤ 10 → out.length + d ≤ 10 → (∀ v ∈ out, -20000 ≤ v ∧ v ≤ 40000) →
    ∃ r : List Int, r.length ≤ 10 ∧ (∀ v ∈ r, -20000 ≤ v ∧ v ≤ 40000) ∧ ∀ k, d < k → spec_B10List.l0 k out (d : Int) c p s = some r
  | 0, out, p, s, h0, h1, hd, hl, hv => ⟨out, by omega, hv, fun k hk => by
      obtain ⟨k, rfl⟩ : ∃ n, k = n + 1 := ⟨k - 1, by omega⟩
      rw [spec_B10List.l0, if_neg (by omega)]⟩
  | d + 1, out, p, s, h0, h1, hd, hl, hv => by
    have hw : wrap64 (((d + 1 : Nat) : Int) - 1) = (d : Int) := by rw [w64 (by omega) (by omega)]; omega
    obtain ⟨x, p1, s1, e1, a1, b1, c1, d1⟩ := from_pick h 60000 (by omega) p s h0 (by omega)
    have hx : wrap64 (x - 20000) = x - 20000 := w64 (by omega) (by omega)
    obtain ⟨r, hr, hr2, e⟩ := list_loop h d (out ++ [x - 20000]) p1 s1 c1 (by omega) (by omega) (by rw [List.length_append, List.length_singleton]; omega) (fun v hm => by
      rcases List.mem_append.1 hm with hm | hm
      · exact hv v hm
      · have := List.mem_singleton.1 hm; omega)
    refine ⟨r, hr, hr2, fun k hk => ?_⟩
    obtain ⟨k, rfl⟩ : ∃ n, k = n + 1 := ⟨k - 1, by omega⟩
    rw [spec_B10List.l0, if_pos (by omega), e1]
    simp only [Option.bind_some]
    rw [if_pos (by omega), hw, hx]
    exact e k (by omega)
theorem B10List_from {c : List Int} (h : bytesOk c) : ∃ r : List Int, r.length ≤ 10 ∧ (∀ v ∈ r, -20000 ≤ v ∧ v ≤ 40000) ∧ ∀ k, 50 ≤ k → spec_B10List.f k c = some r := by
  obtain ⟨n, p, s, e1, a, b, c1, d⟩ := from_pick h 7 (by omega) 0 0 (by omega) (by omega)
  obtain ⟨n, rfl⟩ : ∃ m : Nat, n = m := ⟨n.toNat, by omega⟩
  obtain ⟨r, hr, hr2, e⟩ := list_loop h n [] p s c1 (by omega) (by omega) (by rw [List.length_nil]; omega) (fun v hv => by cases hv)
  refine ⟨r, hr, hr2, fun k hk => ?_⟩
  simp only [spec_B10List.f, spec_l00From.f, Option.bind_some, e1]
  exact e k (by omega)
/-! ### Lists are read back -/
theorem ListText_from (l : List Int) (hl : l.length ≤ 10) (hv : ∀ v ∈ l, -20000 ≤ v ∧ v ≤ 40000) : From (fun k => impl_ListText.f k l) (textB' l, true) := by
  obtain ⟨K2, s2⟩ := impl_text l (by omega) (fun v h => by have := hv v h; omega)
  have ha : l.all okV = true := by
    rw [List.all_eq_true]
    intro v h
    have := hv v h
    exact decide_eq_true (by omega)
  refine ⟨K2 + l.length + 1, fun k hk => ?_⟩
  have c3 : ¬ (l.length : Int) > 300 := by omega
  obtain ⟨r, h1, h2⟩ := index_loop l (by omega) l.length 0 (by omega) k (by omega)
  rw [List.drop_zero, ha] at h2
  have t : slices_IndexFunc_int64_int64_notValue.f k l = some r := h1
  simp only [impl_ListText.f, c3, if_false, slices_ContainsFunc_int64_int64_notValue.f, t, Option.bind_some, h2, Bool.not_true, Bool.false_eq_true, s2 k (by omega)]
theorem itoa_letters (v : Int) : ∀ c ∈ Lib.itoa v, c.toNat = 45 ∨ (48 ≤ c.toNat ∧ c.toNat ≤ 57) := by
  intro c hc
  unfold Lib.itoa at hc
  split at hc
  · rcases List.mem_cons.1 hc with rfl | hc
    · exact .inl rfl
    · exact .inr ((dig_all _ _ (Nat.le_refl _)).1 c hc)
  · exact .inr ((dig_all _ _ (Nat.le_refl _)).1 c hc)
theorem itoa_ne (v : Int) : Lib.itoa v ≠ [] := by
  unfold Lib.itoa
  split
  · simp
  · exact (dig_all _ _ (Nat.le_refl _)).2.2.1
theorem cutL_pre : ∀ (p l : List UInt8), (∀ c ∈ p, c ≠ 44) → cutL (p ++ l) = preH p (cutL l)
  | [], l, _ => by rw [List.nil_append, preH_nil]
  | b :: p, l, h => by
    have hb : ¬ b = 44 := h b List.mem_cons_self
    rw [List.cons_append, cutL, if_neg hb, cutL_pre p l (fun c hc => h c (List.mem_cons_of_mem _ hc))]
    obtain ⟨x, t, e⟩ := cutL_ne l
    rw [e]
    rfl
theorem cut_join : ∀ (ys : List (List UInt8)) (y : List UInt8), (∀ c ∈ y, c ≠ 44) → (∀ z ∈ ys, ∀ c ∈ z, c ≠ 44) → cutL (y ++ Lib.joinTail [44] ys) = y :: ys
  | [], y, hy, _ => by
    have e : Lib.joinTail [44] ([] : List (List UInt8)) = [] := rfl
    rw [e, cutL_pre y [] hy]
    show [y ++ []] = [y]
    rw [List.append_nil]
  | z :: ys, y, hy, h => by
    have e : Lib.joinTail [44] (z :: ys) = 44 :: (z ++ Lib.joinTail [44] ys) := by simp [Lib.joinTail]
    rw [e, cutL_pre y _ hy, cutL, if_pos rfl, cut_join ys z (h z List.mem_cons_self) (fun q hq => h q (List.mem_cons_of_mem _ hq))]
    show (y ++ []) :: (z :: ys) = _
    rw [List.append_nil]
theorem itoa_44 (v : Int) : ∀ c ∈ Lib.itoa v, c ≠ 44 := fun c hc e => by
  have := itoa_letters v c hc
  rw [e] at this
  have e2 : (44 : UInt8).toNat = 44 := rfl
  omega
theorem specD_dec (v : Int) (h0 : -1000000000 ≤ v) (h1 : v ≤ 1000000000) : specD (decB v) = (v, true) := by
  obtain ⟨a, b, c⟩ := sval_dec v h0 h1
  unfold specD
  rw [a, if_pos ⟨⟨b, c⟩, ⟨h0, h1⟩, rfl⟩]
theorem ReadList_from (l : List Int) (hl : l.length ≤ 10) (hv : ∀ v ∈ l, -20000 ≤ v ∧ v ≤ 40000) : From (fun k => impl_ReadList.f k (textB' l)) (l, true) := by
  cases l with
  | nil =>
    refine ⟨0, fun k _ => ?_⟩
    have cn : (textB' []).toList = ([110, 111, 110, 101] : List UInt8) := by rw [ByteArray.toList_eq]; rfl
    simp only [impl_ReadList.f, cn, Option.bind_some, if_true]
  | cons x r =>
    have hd : (textB' (x :: r)).data.toList = Lib.itoa x ++ Lib.joinTail [44] (r.map Lib.itoa) := rfl
    have cn : ¬ (textB' (x :: r)).toList = ([110, 111, 110, 101] : List UInt8) := by
      rw [ByteArray.toList_eq, hd]
      intro e
      have h1 := itoa_letters x
      have h2 := itoa_ne x
      generalize Lib.itoa x = m at *
      cases m with
      | nil => exact h2 rfl
      | cons c m =>
        have := h1 c List.mem_cons_self
        rw [List.cons_append] at e
        injection e with e _
        rw [e] at this
        have e2 : (110 : UInt8).toNat = 110 := rfl
        omega
    have hsz := textB'_size (x :: r) (fun v h => by have := hv v h; omega)
    have hsp : strings_Split.f (textB' (x :: r)) (⟨#[44]⟩ : ByteArray) = some ((x :: r).map decB) := by
      have e2 := split_bs (textB' (x :: r))
      rw [hd, cut_join _ _ (itoa_44 x) (fun z hz => by
        obtain ⟨v, _, rfl⟩ := List.mem_map.1 hz
        exact itoa_44 v), ← List.map_cons, List.map_map] at e2
      have e3 : splitS (textB' (x :: r)) (⟨#[44]⟩ : ByteArray) = (x :: r).map decB := e2
      unfold strings_Split.f
      rw [e3, if_pos ⟨by omega, by decide, by rw [List.length_map]; omega⟩]
    have hall : ((x :: r).map decB).all okD = true := by
      rw [List.all_eq_true]
      intro s hs
      obtain ⟨v, h, rfl⟩ := List.mem_map.1 hs
      have := hv v h
      unfold okD
      rw [specD_dec v (by omega) (by omega)]
    have hmap : ((x :: r).map decB).map (fun s => (specD s).1) = x :: r := by
      rw [List.map_map]
      conv => rhs; rw [← List.map_id (x :: r)]
      apply List.map_congr_left
      intro v h
      have := hv v h
      show (specD (decB v)).1 = v
      rw [specD_dec v (by omega) (by omega)]
    refine ⟨(x :: r).length + 2, fun k hk => ?_⟩
    have := impl_nums ((x :: r).map decB) (by rw [List.length_map]; omega) (fun s hs => by
      obtain ⟨v, h, rfl⟩ := List.mem_map.1 hs
      have := hv v h
      have := (sval_dec v (by omega) (by omega)).2.2
      omega) ((x :: r).map decB).length 0 [] (by omega) rfl (by omega) k (by rw [List.length_map]; omega)
    rw [List.drop_zero, if_pos ⟨hall, by rw [List.length_map]; omega⟩, hmap, List.nil_append] at this
    simp only [impl_ReadList.f, cn, Option.bind_some, if_false, hsp]
    exact this
theorem b10Nums_from (l : List Int) (hl : l.length ≤ 10) : From (fun k => laws_b10Nums.f k l l) true := by
  obtain ⟨K, hK⟩ := all_loop (fun k i => laws_b10Nums.l0 k l l i) l.length (by omega) 0 true (fun k i _ h0 h1 => by
      simp only [laws_b10Nums.l0, h0, h1, if_true, wsucc h0 (by omega)]) (fun k i _ h _ => by simp only [laws_b10Nums.l0, h, if_false])
  refine ⟨K, fun k hk => ?_⟩
  simp only [laws_b10Nums.f, if_true]
  exact hK k hk
/-! ### Chains -/
theorem chain_three (d s t : ByteArray) (hs : s.size ≤ 30) (ht : t.size ≤ 30) : chainR d [] [s, t, ⟨#[]⟩] = ([digS (d ++ s), digS (digS (d ++ s) ++ t), digS (digS (digS (d ++ s) ++ t) ++ ⟨#[]⟩)], true) := by
  have hz : ((⟨#[]⟩ : ByteArray).size : Int) = 0 := rfl
  rw [chainR, if_neg (by omega), chainR, if_neg (by omega), chainR, if_neg (by omega), chainR]
  rfl
theorem ChainOf_from (d s t : ByteArray) (hd : d.size = 32) (hs : s.size ≤ 30) (ht : t.size ≤ 30) : ∀ k, 10 ≤ k → impl_ChainOf.f k d [s, t, ⟨#[]⟩] = some ([digS (d ++ s), digS (digS (d ++ s) ++ t), digS (digS (digS (d ++ s) ++ t) ++ ⟨#[]⟩)], true) := by
  intro k hk
  obtain ⟨k, rfl⟩ : ∃ n, k = (n + 3 + 1) + 1 := ⟨k - 5, by omega⟩
  have hp : (d.size : Int) = 32 := by omega
  have h3 : ¬ (([s, t, (⟨#[]⟩ : ByteArray)].length : Nat) : Int) > 300 := by simp
  simp only [impl_ChainOf.f, impl_IsDigest.f, hp, Option.bind_some, beq_self_eq_true, if_true, impl_ChainOf.j0, h3, decide_false, Bool.false_eq_true, if_false]
  rw [← chain_three d s t hs ht]
  exact impl_chain [s, t, ⟨#[]⟩] (by simp) 3 0 rfl d [] (by omega) rfl k
/-! ### The law -/
theorem FnDigests : laws_FnDigests.Pure := by
  intro x0 x1 ⟨_, q0⟩ ⟨_, q1⟩
  have b0 := bytes_of_wf q0
  have b1 := bytes_of_wf q1
  by_cases c0 : (x0.length : Int) > 1048576
  · exact ⟨0, by simp only [laws_FnDigests.f, laws_b10Long.f, c0, if_true, Option.bind_some]⟩
  by_cases c1 : (x1.length : Int) > 1048576
  · exact ⟨0, by simp only [laws_FnDigests.f, laws_b10Long.f, c0, c1, if_true, if_false, Option.bind_some, decide_true]⟩
  have hlong : laws_b10Long.f x0 x1 = some false := by simp only [laws_b10Long.f, c0, c1, if_false, decide_false]
  obtain ⟨s, hs, e1⟩ := B10Bytes_from b0
  obtain ⟨t, ht, e15⟩ := B10Bytes_from b1
  obtain ⟨K2, e2⟩ := HexText_from s (by omega)
  obtain ⟨K3, e3⟩ := ReadHex_from s (by omega)
  obtain ⟨a, e5, a0, a1⟩ := b10At_from b1 0 200 (by omega) (by omega)
  obtain ⟨b, e6, b2, b3⟩ := b10At_from b1 1 200 (by omega) (by omega)
  obtain ⟨tok, htk, e7⟩ := TokenOf_from a b ⟨a0, a1⟩ ⟨b2, b3⟩
  obtain ⟨l, hl, hv, e8⟩ := B10List_from b1
  obtain ⟨K9, e9⟩ := ListText_from l hl hv
  obtain ⟨K10, e10⟩ := ReadList_from l hl hv
  obtain ⟨K13, e13⟩ := b10Nums_from l hl
  have hd := digS_size32 s
  generalize hK : K2 + K3 + K9 + K10 + K13 + 6000 = K
  have E2 := e2 K (by omega)
  have E3 := e3 K (by omega)
  have E9 := e9 K (by omega)
  have E10 := e10 K (by omega)
  have E13 := e13 K (by omega)
  dsimp only at E2 E3 E9 E10 E13
  refine ⟨K, ?_⟩
  simp only [laws_FnDigests.f, hlong, Option.bind_some, Bool.false_eq_true, if_false]
  refine sureO_mk ⟨s, strOfNums (hexL (bytesOf s)), digS s, tok, textB' l, t, a, b, l, [digS (digS s ++ s), digS (digS (digS s ++ s) ++ t), digS (digS (digS (digS s ++ s) ++ t) ++ ⟨#[]⟩)], ?_⟩
  have z1 := digS_size32 (digS s ++ s)
  have z2 := digS_size32 (digS (digS s ++ s) ++ t)
  exact {
    h0 := hlong
    h1 := e1 K (by omega)
    h2 := E2
    h3 := E3
    h4 := DigestOf_is s (by omega)
    h5 := e5
    h6 := e6
    h7 := e7 K (by omega)
    h8 := e8 K (by omega)
    h9 := E9
    h10 := E10
    h11 := by
      unfold impl_IsDigest.f
      rw [hd]; rfl
    h12 := by
      unfold impl_IsToken.f
      rw [htk]; rfl
    h13 := E13
    h14 := by
      by_cases hz : 0 < s.size
      · obtain ⟨j, f1, f2, f3⟩ := b10At_any b1 2 (s.size : Int) (by omega) (by omega)
        obtain ⟨x, f4, f5, f6⟩ := b10At_from b1 3 255 (by omega) (by omega)
        obtain ⟨j, rfl⟩ : ∃ n : Nat, j = n := ⟨j.toNat, by omega⟩
        obtain ⟨g1, g2⟩ := chg_apart s j (by omega) x ⟨f5, f6⟩
        refine ⟨(j : Int), x, digS (chgB s (j : Int) x), fun _ => ⟨f1, f2, f3, f4, DigestOf_is _ (by omega), fun e => g1 ?_⟩⟩
        rw [ByteArray.toList_eq, ByteArray.toList_eq] at e
        apply ByteArray.ext
        exact Array.toList_inj.1 e
      · exact ⟨0, 0, s, fun h => absurd h hz⟩
    h15 := e15 K (by omega)
    h16 := ChainOf_from (digS s) s t hd hs ht K (by omega)
    h17 := rfl
    h18 := fun i hi => by
      match i, hi with
      | 0, _ =>
        show spec_DigestOf.f K (digS s ++ s) = some (digS (digS s ++ s), true) ∧ (digS s ++ s).size ≤ 100000
        have : (digS s ++ s).size ≤ 4000 := by rw [ByteArray.size_append]; omega
        exact ⟨DigestOf_spec _ this K (by omega), by omega⟩
      | 1, _ =>
        show spec_DigestOf.f K (digS (digS s ++ s) ++ t) = some (digS (digS (digS s ++ s) ++ t), true) ∧ (digS (digS s ++ s) ++ t).size ≤ 100000
        have : (digS (digS s ++ s) ++ t).size ≤ 4000 := by rw [ByteArray.size_append]; omega
        exact ⟨DigestOf_spec _ this K (by omega), by omega⟩
      | 2, _ =>
        show spec_DigestOf.f K (digS (digS (digS s ++ s) ++ t) ++ ⟨#[]⟩) = some (digS (digS (digS (digS s ++ s) ++ t) ++ ⟨#[]⟩), true) ∧ (digS (digS (digS s ++ s) ++ t) ++ ⟨#[]⟩).size ≤ 100000
        have : (digS (digS (digS s ++ s) ++ t) ++ ⟨#[]⟩).size ≤ 4000 := by rw [ByteArray.size_append, z2]; decide
        exact ⟨DigestOf_spec _ this K (by omega), by omega⟩
    h21 := by omega }

end Go.Proofs.YtallocgnpbpbhaaDoor.Pure
