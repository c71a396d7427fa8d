/- The program's ReadList returns what the reference's returns, for every text that can be read. -/
import Derived.Test.YtopdflppdpmblaaDoorXFnExactReadListx3
import Derived.Test.YtopdflppdpmblaaDoorXP
namespace Go.Proofs.YtopdflppdpmblaaDoor.Pure
open Go.RowKit Go.Proofs.YtopdflppdpmblaaDoor.XFnExactReadList Go.Proofs.YtopdflppdpmblaaDoorW.PrintWords Go.Proofs.YtopdflppdpmblaaDoorW.PrintLast Go.Proofs.YtopdflppdpmblaaDoor.XP Go.Proofs.YtopdflppdpmblaaDoor.XP
set_option linter.unusedVariables false
set_option linter.unusedSimpArgs false

theorem in_eq (a b c : Int) : spec_l00In.f a b c = impl_in.f a b c := rfl
theorem in_some (a b c : Int) : impl_in.f a b c = some (decide (b ≤ a ∧ a ≤ c)) := by
  unfold impl_in.f
  split
  · congr 1; rw [decide_eq_decide]; omega
  · congr 1; symm; rw [decide_eq_false_iff_not]; omega

def digI (u : Nat) : List Int := (Lib.decDigits u).map fun b => (b.toNat : Int)
theorem digI_small {u : Nat} (h : u < 10) : digI u = [48 + (u : Int)] := by
  rw [digI, Lib.decDigits, dif_pos h]
  simp only [List.map_cons, List.map_nil, UInt8.toNat_ofNat']
  congr 1
  omega
theorem digI_big {u : Nat} (h : ¬ u < 10) : digI u = digI (u / 10) ++ [48 + ((u % 10 : Nat) : Int)] := by
  rw [digI, Lib.decDigits, dif_neg h, List.map_append]
  simp only [List.map_cons, List.map_nil, UInt8.toNat_ofNat']
  congr 2
  omega
def signed (n : Int) (xs : List Int) : List Int := if n < 0 then 45 :: xs else xs
theorem tm10 (x : Int) : Int.tmod x 10 = if x < 0 then -((x.natAbs % 10 : Nat) : Int) else ((x.natAbs % 10 : Nat) : Int) := by
  split
  · rename_i h
    obtain ⟨y, rfl⟩ : ∃ y : Int, x = -y := ⟨-x, by omega⟩
    rw [Int.neg_tmod, Int.tmod_eq_emod_of_nonneg (by omega)]; omega
  · rw [Int.tmod_eq_emod_of_nonneg (by omega)]; omega
theorem td10 (x : Int) : Int.tdiv x 10 = if x < 0 then -((x.natAbs / 10 : Nat) : Int) else ((x.natAbs / 10 : Nat) : Int) := by
  split
  · rename_i h
    obtain ⟨y, rfl⟩ : ∃ y : Int, x = -y := ⟨-x, by omega⟩
    rw [Int.neg_tdiv, Int.tdiv_eq_ediv_of_nonneg (by omega)]; omega
  · rw [Int.tdiv_eq_ediv_of_nonneg (by omega)]; omega
theorem wr (x : Int) (h0 : -9223372036854775808 ≤ x) (h1 : x ≤ 9223372036854775807) : wrap64 x = x := by unfold wrap64; omega
theorem dec_step (n : Int) (x3 : List Int) (x : Int) (h0 : -9223372036854775808 ≤ x) (h1 : x ≤ 9223372036854775807) (hl : x3.length ≤ 100) (k : Nat) :
    spec_l01Dec.j1 (k + 1) n x3 x true = spec_l01Dec.l0 k n ((48 + ((x.natAbs % 10 : Nat) : Int)) :: x3) (Int.tdiv x 10) := by
  have ht := tm10 x
  have hd := td10 x
  have hw : wrap64 (Int.tdiv x 10) = Int.tdiv x 10 := by
    rw [hd]; split <;> exact wr _ (by omega) (by omega)
  have hlen : ∀ c : Int, ([c] : List Int).length + x3.length < 140737488355328 := fun c => by simp only [List.length_cons, List.length_nil]; omega
  rw [spec_l01Dec.j1, if_pos rfl, hw]
  by_cases c : Int.tmod x 10 < 0
  · have hx : x < 0 := by rw [ht] at c; split at c <;> omega
    rw [if_pos c, Option.bind_some, if_pos (hlen _), ht, if_pos hx, Int.neg_neg, wr ((x.natAbs % 10 : Nat) : Int) (by omega) (by omega), wr (48 + ((x.natAbs % 10 : Nat) : Int)) (by omega) (by omega)]
    congr 1
    show _ :: x3 = _
    congr 1
    omega
  · have hx : Int.tmod x 10 = ((x.natAbs % 10 : Nat) : Int) := by rw [ht] at c ⊢; split at c <;> split <;> omega
    rw [if_neg c, Option.bind_some, if_pos (hlen _), hx, wr _ (by omega) (by omega)]
    congr 1
    show _ :: x3 = _
    congr 1
    omega
theorem dec_end (n : Int) (x3 : List Int) (h : x3.length ≠ 0) (hl : x3.length ≤ 101) (k : Nat) : spec_l01Dec.l0 (k + 2) n x3 0 = some (strOfNums (signed n x3)) := by
  rw [spec_l01Dec.l0, if_neg (by omega), spec_l01Dec.j1]
  simp only [bne_self_eq_false, Bool.false_eq_true, if_false]
  unfold signed
  split
  · rw [Option.bind_some, if_pos (by simp only [List.length_cons, List.length_nil]; omega)]; rfl
  · rfl
theorem dec_loop (n : Int) : ∀ (m u : Nat), u < 10 ^ m → ∀ (x : Int) (x3 : List Int), x.natAbs = u → (x3.length = 0 ∨ u ≠ 0) → x3.length + m ≤ 100 → -9223372036854775808 ≤ x → x ≤ 9223372036854775807 → ∀ k, 2 * m + 4 ≤ k →
    spec_l01Dec.l0 k n x3 x = some (strOfNums (signed n (digI u ++ x3)))
  | m, u, hm, x, x3, hu, h3, hl, h0, h1, k, hk => by
    obtain ⟨k, rfl⟩ : ∃ j, k = j + 2 := ⟨k - 2, by omega⟩
    have hgo : spec_l01Dec.l0 (k + 2) n x3 x = spec_l01Dec.j1 (k + 1) n x3 x true := by
      rw [spec_l01Dec.l0]
      split
      · rfl
      · rename_i hc
        have : (x != 0) = true := by
          simp only [bne_iff_ne, ne_eq]
          intro e; subst e; simp at hu; omega
        rw [this]
    rw [hgo, dec_step n x3 x h0 h1 (by omega), hu]
    by_cases hs : u < 10
    · have hz : Int.tdiv x 10 = 0 := by rw [td10]; split <;> omega
      obtain ⟨k, rfl⟩ : ∃ j, k = j + 2 := ⟨k - 2, by omega⟩
      rw [hz, dec_end _ _ (by simp) (by simp; omega), digI_small hs, Nat.mod_eq_of_lt hs]
      rfl
    · match m, hm with
      | 0, hm => simp at hm; omega
      | m + 1, hm =>
        have hu2 : (Int.tdiv x 10).natAbs = u / 10 := by rw [td10]; split <;> omega
        rw [dec_loop n m (u / 10) (by rw [Nat.pow_succ] at hm; omega) (Int.tdiv x 10) _ hu2 (Or.inr (by omega)) (by simp; omega) (by rw [td10]; split <;> omega) (by rw [td10]; split <;> omega) k (by omega), digI_big hs, List.append_assoc]
        rfl
theorem nums_bytes (l : List UInt8) : strOfNums (l.map fun b => (b.toNat : Int)) = ⟨l.toArray⟩ := by
  show (⟨((l.map fun b => (b.toNat : Int)).map fun n => UInt8.ofNat n.toNat).toArray⟩ : ByteArray) = _
  congr 2
  rw [List.map_map]
  conv => rhs; rw [← List.map_id l]
  apply List.map_congr_left
  intro b _
  simp
theorem dec_spec (n : Int) (h0 : -9223372036854775808 ≤ n) (h1 : n ≤ 9223372036854775807) (k : Nat) (hk : 100 ≤ k) : spec_l01Dec.f k n = some (decB n) := by
  unfold spec_l01Dec.f
  rw [dec_loop n 19 n.natAbs (by omega) n [] rfl (Or.inl rfl) (by simp) h0 h1 k (by omega), List.append_nil]
  congr 1
  unfold decB Lib.itoa signed
  split
  · rw [← nums_bytes]; rfl
  · rw [← nums_bytes, show n.toNat = n.natAbs by omega]; rfl
theorem dec_impl (n : Int) (h0 : -9223372036854775808 ≤ n) (h1 : n ≤ 9223372036854775807) : impl_Decimal.f n = some (decB n) := by
  unfold impl_Decimal.f; rw [if_pos ⟨h0, h1⟩]
def dstep (a : Nat) (c : UInt8) : Nat := if 48 ≤ c.toNat ∧ c.toNat ≤ 57 then 10 * a + (c.toNat - 48) else a
def foldV (l : List UInt8) (a : Nat) : Nat := l.foldl dstep a
theorem foldV_append (l m : List UInt8) (a : Nat) : foldV (l ++ m) a = foldV m (foldV l a) := List.foldl_append ..
theorem c48 (d : Nat) (h : d < 10) : (UInt8.ofNat (48 + d)).toNat = 48 + d := by
  rw [UInt8.toNat_ofNat']; omega
theorem dig_all : ∀ (n u : Nat), u ≤ n → (∀ c ∈ Lib.decDigits u, 48 ≤ c.toNat ∧ c.toNat ≤ 57) ∧ foldV (Lib.decDigits u) 0 = u ∧ Lib.decDigits u ≠ [] ∧ ∀ m, u < 10 ^ (m + 1) → (Lib.decDigits u).length ≤ m + 1
  | n, u, h => by
    rw [Lib.decDigits]
    by_cases hs : u < 10
    · rw [dif_pos hs]
      have hc := c48 u hs
      refine ⟨?_, ?_, by simp, fun m _ => by simp⟩
      · intro c hm
        simp only [List.mem_cons, List.not_mem_nil, or_false] at hm
        subst hm
        rw [hc]; omega
      · show dstep 0 _ = u
        unfold dstep
        rw [hc, if_pos (by omega)]; omega
    · rw [dif_neg hs]
      match n, h with
      | 0, h => omega
      | n + 1, h =>
        obtain ⟨i1, i2, i3, i4⟩ := dig_all n (u / 10) (by omega)
        have hc := c48 (u % 10) (by omega)
        refine ⟨?_, ?_, by simp, ?_⟩
        · intro c hm
          rcases List.mem_append.1 hm with hm | hm
          · exact i1 c hm
          · simp only [List.mem_cons, List.not_mem_nil, or_false] at hm
            subst hm
            rw [hc]; omega
        · rw [foldV_append, i2]
          show dstep (u / 10) _ = u
          unfold dstep
          rw [hc, if_pos (by omega)]; omega
        · intro m hm
          match m, hm with
          | 0, hm => simp at hm; omega
          | m + 1, hm =>
            have := i4 m (by rw [Nat.pow_succ] at hm; omega)
            simp only [List.length_append, List.length_cons, List.length_nil]
            omega
theorem itoa_len (v : Int) (h0 : -1000000000 ≤ v) (h1 : v ≤ 1000000000) : (Lib.itoa v).length ≤ 11 := by
  obtain ⟨_, _, _, i4⟩ := dig_all v.natAbs v.natAbs (Nat.le_refl _)
  have i5 := i4 9 (by omega)
  unfold Lib.itoa
  split
  · simp only [List.length_cons]; omega
  · rw [show v.toNat = v.natAbs by omega]; omega
theorem foldV_le : ∀ (l : List UInt8) (a : Nat), a ≤ foldV l a
  | [], a => Nat.le_refl _
  | c :: l, a => by
    have := foldV_le l (dstep a c)
    show a ≤ foldV l (dstep a c)
    have h2 : a ≤ dstep a c := by unfold dstep; split <;> omega
    omega
theorem parse_digits : ∀ (l : List UInt8) (a : Nat), (∀ c ∈ l, 48 ≤ c.toNat ∧ c.toNat ≤ 57) → foldV l a ≤ 10000000000 → Lib.parseUintM (2 ^ 64 - 1) a l = .ok (foldV l a)
  | [], a, _, _ => rfl
  | c :: l, a, h, hb => by
    have hc := h c (List.mem_cons_self ..)
    have hm : foldV (c :: l) a = foldV l (dstep a c) := rfl
    have hd : dstep a c = a * 10 + (c.toNat - 48) := by unfold dstep; rw [if_pos hc]; omega
    have hl := foldV_le l (dstep a c)
    rw [hm] at hb ⊢
    have hdb : a * 10 + (c.toNat - 48) ≤ 10000000000 := by omega
    rw [Lib.parseUintM, if_pos hc, if_neg (by omega), if_neg (by omega), ← hd]
    exact parse_digits l _ (fun x hx => h x (List.mem_cons_of_mem _ hx)) hb
theorem parse_dec (v : Int) (h0 : -1000000000 ≤ v) (h1 : v ≤ 1000000000) : Lib.parseIntB 64 (decB v).data.toList = .ok v := by
  show Lib.parseIntB 64 (Lib.itoa v) = .ok v
  have key : ∀ u : Nat, u ≤ 1000000000 → Lib.parseUintB 64 (Lib.decDigits u) = .ok u := by
    intro u hu
    obtain ⟨i1, i2, i3, _⟩ := dig_all u u (Nat.le_refl _)
    unfold Lib.parseUintB
    rw [if_neg i3, parse_digits _ 0 i1 (by rw [i2]; omega), i2]
  unfold Lib.itoa
  split
  · rw [Lib.parseIntB_minus, key _ (by omega)]
    unfold Lib.signedC
    simp only
    rw [if_neg (by omega)]
    congr 1
    omega
  · have hk := key v.toNat (by omega)
    obtain ⟨i1, _, i3, _⟩ := dig_all v.toNat v.toNat (Nat.le_refl _)
    generalize Lib.decDigits v.toNat = l at *
    match l, i3 with
    | c :: r, _ =>
      have hc := i1 c (List.mem_cons_self ..)
      rw [Lib.parseIntB_plain 64 c r (by omega) (by omega), hk]
      unfold Lib.signlessC
      simp only
      rw [if_neg (by omega)]
      congr 1
      omega
def sval (s : ByteArray) : Int := if bt s 0 = 45 then -((foldV s.data.toList 0 : Nat) : Int) else ((foldV s.data.toList 0 : Nat) : Int)
theorem bt_at (s : ByteArray) (i : Nat) (h : i < s.size) : ∃ c : UInt8, s.data.toList[i]? = some c ∧ bt s (i : Int) = (c.toNat : Int) := by
  refine ⟨s[i], ?_, ?_⟩
  · have : i < s.data.toList.length := by simpa using h
    rw [List.getElem?_eq_getElem this]; rfl
  · unfold bt
    rw [dif_pos (by simpa using h)]
    rfl
theorem sval_dec (v : Int) (h0 : -1000000000 ≤ v) (h1 : v ≤ 1000000000) : sval (decB v) = v ∧ 1 ≤ (decB v).size ∧ (decB v).size ≤ 11 := by
  have hsz : (decB v).size = (Lib.itoa v).length := by unfold decB; show (Lib.itoa v).toArray.size = _; simp
  have hl : (decB v).data.toList = Lib.itoa v := rfl
  obtain ⟨i1, i2, i3, i4⟩ := dig_all v.natAbs v.natAbs (Nat.le_refl _)
  have i5 := i4 9 (by omega)
  by_cases hv : v < 0
  · have e : Lib.itoa v = 45 :: Lib.decDigits v.natAbs := by unfold Lib.itoa; rw [if_pos hv]
    have hn : 1 ≤ (decB v).size := by rw [hsz, e]; simp
    obtain ⟨c, c1, c2⟩ := bt_at (decB v) 0 (by omega)
    rw [hl, e] at c1
    simp only [List.getElem?_cons_zero, Option.some.injEq] at c1
    subst c1
    refine ⟨?_, hn, by rw [hsz, e]; simp; omega⟩
    unfold sval
    rw [if_pos (by exact c2), hl, e]
    show -((foldV (Lib.decDigits v.natAbs) 0 : Nat) : Int) = v
    rw [i2]; omega
  · have e : Lib.itoa v = Lib.decDigits v.natAbs := by unfold Lib.itoa; rw [if_neg hv]; congr 1; omega
    have hn : 1 ≤ (decB v).size := by rw [hsz, e]; exact List.length_pos_iff.2 i3
    obtain ⟨c, c1, c2⟩ := bt_at (decB v) 0 (by omega)
    rw [hl, e] at c1
    have hc := i1 c (List.mem_of_getElem? c1)
    refine ⟨?_, hn, by rw [hsz, e]; omega⟩
    unfold sval
    have hne : ¬ bt (decB v) 0 = 45 := by
      intro h
      have c3 : bt (decB v) 0 = (c.toNat : Int) := c2
      rw [c3] at h; omega
    rw [if_neg hne, hl, e, i2]; omega
/-- What both answer. -/
def specD (s : ByteArray) : Int × Bool := if (1 ≤ s.size ∧ s.size ≤ 11) ∧ (-1000000000 ≤ sval s ∧ sval s ≤ 1000000000) ∧ decB (sval s) = s then (sval s, true) else (0, false)
theorem specD_readD (s : ByteArray) : readD s = specD s := by
  have back : ∀ n : Int, -1000000000 ≤ n → n ≤ 1000000000 → decB n = s → Lib.parseIntB 64 s.data.toList = .ok n ∧ specD s = (n, true) := by
    intro n h0 h1 e
    subst e
    obtain ⟨a, b, c⟩ := sval_dec n h0 h1
    refine ⟨parse_dec n h0 h1, ?_⟩
    unfold specD
    rw [a, if_pos ⟨⟨b, c⟩, ⟨h0, h1⟩, rfl⟩]
  by_cases hs : (1 ≤ s.size ∧ s.size ≤ 11) ∧ (-1000000000 ≤ sval s ∧ sval s ≤ 1000000000) ∧ decB (sval s) = s
  · obtain ⟨p, q⟩ := back _ hs.2.1.1 hs.2.1.2 hs.2.2
    rw [q, readD_ok p, if_pos ⟨hs.2.1, hs.2.2⟩]
  · have hz : specD s = (0, false) := by unfold specD; rw [if_neg hs]
    rw [hz]
    by_cases hk : ∃ v, Lib.parseIntB 64 s.data.toList = .ok v
    · obtain ⟨v, hv⟩ := hk
      rw [readD_ok hv]
      split
      · rename_i hc
        obtain ⟨_, q⟩ := back v hc.1.1 hc.1.2 hc.2
        rw [hz] at q
        cases q
      · rfl
    · exact readD_not fun v e => hk ⟨v, e⟩
theorem spec_j2 (s : ByteArray) (n : Int) (h0 : -9223372036854775808 ≤ n) (h1 : n ≤ 9223372036854775807) (k : Nat) (hk : 101 ≤ k) : spec_l01Value.j2 k s n = some (if (-1000000000 ≤ n ∧ n ≤ 1000000000) ∧ decB n = s then (n, true) else (0, false)) := by
  obtain ⟨k, rfl⟩ : ∃ j, k = j + 1 := ⟨k - 1, by omega⟩
  rw [spec_l01Value.j2, in_eq, in_some, Option.bind_some]
  by_cases c : -1000000000 ≤ n ∧ n ≤ 1000000000
  · simp only [c, and_self, decide_true, if_true, dec_spec n h0 h1 k (by omega), Option.bind_some, true_and]
    by_cases e : decB n = s
    · rw [if_pos (by rw [e]), if_pos e]
    · rw [if_neg (fun h => e (toList_inj' h)), if_neg e]
  · simp only [c, decide_false, Bool.false_eq_true, if_false, false_and]
theorem foldV_small (l : List UInt8) : ∀ (m : Nat) (a : Nat), a < 10 ^ m → foldV l a < 10 ^ (m + l.length) := by
  induction l with
  | nil => intro m a h; exact h
  | cons c l ih =>
    intro m a h
    have hd : dstep a c < 10 ^ (m + 1) := by
      unfold dstep
      rw [Nat.pow_succ]
      split <;> omega
    have := ih (m + 1) _ hd
    rwa [show m + 1 + l.length = m + (l.length + 1) by omega] at this
theorem spec_loop (s : ByteArray) (h1 : 1 ≤ s.size) (h2 : s.size ≤ 11) : ∀ (d i : Nat), i + d = s.size → ∀ k, 101 ≤ k →
    spec_l01Value.l0 (k + d + 1) s ((foldV (s.data.toList.take i) 0 : Nat) : Int) (i : Int) = some (if (-1000000000 ≤ sval s ∧ sval s ≤ 1000000000) ∧ decB (sval s) = s then (sval s, true) else (0, false))
  | 0, i, h, k, hk => by
    have hi : i = s.size := by omega
    have ht : s.data.toList.take i = s.data.toList := List.take_of_length_le (by rw [hi]; simp)
    have hb : foldV s.data.toList 0 < 10 ^ 11 := by
      have := foldV_small s.data.toList 0 0 (by omega)
      have hl : s.data.toList.length ≤ 11 := by simpa using h2
      exact Nat.lt_of_lt_of_le this (Nat.pow_le_pow_right (by omega) (by omega))
    rw [ht, spec_l01Value.l0, if_neg (by omega), if_pos (by omega)]
    have hn : wrap64 (-((foldV s.data.toList 0 : Nat) : Int)) = -((foldV s.data.toList 0 : Nat) : Int) := wr _ (by omega) (by omega)
    have hsv : ∀ x, sval s = x → -9223372036854775808 ≤ x → x ≤ 9223372036854775807 → spec_l01Value.j2 (k + 0) s x = some (if (-1000000000 ≤ sval s ∧ sval s ≤ 1000000000) ∧ decB (sval s) = s then (sval s, true) else (0, false)) := fun x e a b => by
      rw [e]; exact spec_j2 s x a b _ (by omega)
    by_cases c : bt s 0 = 45
    · rw [if_pos c, hn]
      exact hsv _ (by unfold sval; rw [if_pos c]) (by omega) (by omega)
    · rw [if_neg c]
      exact hsv _ (by unfold sval; rw [if_neg c]) (by omega) (by omega)
  | d + 1, i, h, k, hk => by
    have hi : i < s.size := by omega
    obtain ⟨c, c1, c2⟩ := bt_at s i hi
    have hc : c.toNat < 256 := c.toNat_lt
    have ht : s.data.toList.take (i + 1) = s.data.toList.take i ++ [c] := by
      rw [List.take_add_one, c1]; rfl
    have ih := spec_loop s h1 h2 d (i + 1) (by omega) k hk
    have hb : foldV (s.data.toList.take i) 0 < 10 ^ 11 := by
      have := foldV_small (s.data.toList.take i) 0 0 (by omega)
      have hl : (s.data.toList.take i).length ≤ 11 := by rw [List.length_take]; omega
      exact Nat.lt_of_lt_of_le this (Nat.pow_le_pow_right (by omega) (by omega))
    rw [ht, foldV_append] at ih
    have hstep : foldV [c] (foldV (s.data.toList.take i) 0) = dstep (foldV (s.data.toList.take i) 0) c := rfl
    rw [hstep] at ih
    generalize foldV (s.data.toList.take i) 0 = a at *
    rw [show k + (d + 1) + 1 = (k + d + 1) + 1 by omega, spec_l01Value.l0, if_pos (by omega), if_pos (by omega), c2, wsucc (by omega) (by omega)]
    by_cases g1 : (c.toNat : Int) ≥ 48
    · by_cases g2 : (c.toNat : Int) ≤ 57
      · rw [if_pos g1, if_pos g2, wr (10 * (a : Int)) (by omega) (by omega), wr _ (by omega) (by omega)]
        have e : dstep a c = 10 * a + (c.toNat - 48) := by unfold dstep; rw [if_pos (by omega)]
        rw [e] at ih
        rw [← ih]
        congr 1
        omega
      · rw [if_pos g1, if_neg g2]
        have e : dstep a c = a := by unfold dstep; rw [if_neg (by omega)]
        rw [e] at ih
        exact ih
    · rw [if_neg g1]
      have e : dstep a c = a := by unfold dstep; rw [if_neg (by omega)]
      rw [e] at ih
      exact ih
theorem value_spec (s : ByteArray) (k : Nat) (hk : 120 ≤ k) : spec_l01Value.f k s = some (specD s) := by
  obtain ⟨k, rfl⟩ : ∃ j, k = j + 1 := ⟨k - 1, by omega⟩
  unfold spec_l01Value.f specD
  by_cases h1 : (s.size : Int) < 1
  · rw [if_pos h1, spec_l01Value.j0, if_pos rfl, if_neg (by omega)]
  · rw [if_neg h1, spec_l01Value.j0]
    by_cases h2 : (s.size : Int) > 11
    · rw [if_pos (by simpa using h2), if_neg (by omega)]
    · rw [if_neg (by simpa using h2)]
      obtain ⟨j, rfl⟩ : ∃ j, k = j + s.size + 1 := ⟨k - s.size - 1, by omega⟩
      have := spec_loop s (by omega) (by omega) s.size 0 (by omega) j (by omega)
      refine this.trans ?_
      congr 1
      by_cases c : (-1000000000 ≤ sval s ∧ sval s ≤ 1000000000) ∧ decB (sval s) = s
      · rw [if_pos c, if_pos ⟨by omega, c⟩]
      · rw [if_neg c, if_neg (fun h => c h.2)]
def bsC (l : List UInt8) : ByteArray := ⟨l.toArray⟩
def consH (b : UInt8) : List (List UInt8) → List (List UInt8)
  | [] => [[b]]
  | h :: t => (b :: h) :: t
def cutL : List UInt8 → List (List UInt8)
  | [] => [[]]
  | b :: l => if b = 44 then [] :: cutL l else consH b (cutL l)
def preH (p : List UInt8) : List (List UInt8) → List (List UInt8)
  | [] => [p]
  | h :: t => (p ++ h) :: t
theorem preH_cons (p : List UInt8) (b : UInt8) (x : List (List UInt8)) : preH p (consH b x) = preH (p ++ [b]) x := by
  cases x with
  | nil => rfl
  | cons h t => simp [preH, consH]
theorem cutL_ne (l : List UInt8) : ∃ h t, cutL l = h :: t := by
  cases l with
  | nil => exact ⟨_, _, rfl⟩
  | cons b l =>
    unfold cutL
    split
    · exact ⟨_, _, rfl⟩
    · cases cutL l with
      | nil => exact ⟨_, _, rfl⟩
      | cons h t => exact ⟨_, _, rfl⟩
theorem preH_nil (l : List UInt8) : preH [] (cutL l) = cutL l := by
  obtain ⟨h, t, e⟩ := cutL_ne l
  rw [e]; rfl
theorem cutL_len : ∀ l : List UInt8, (cutL l).length ≤ l.length + 1 ∧ ∀ h ∈ cutL l, h.length ≤ l.length
  | [] => ⟨by simp [cutL], by simp [cutL]⟩
  | b :: l => by
    obtain ⟨i1, i2⟩ := cutL_len l
    unfold cutL
    split
    · refine ⟨by simp only [List.length_cons]; omega, fun h hm => ?_⟩
      rcases List.mem_cons.1 hm with rfl | hm
      · simp
      · have := i2 h hm; simp only [List.length_cons]; omega
    · obtain ⟨x, t, e⟩ := cutL_ne l
      rw [e] at i1 i2 ⊢
      refine ⟨by simp only [consH, List.length_cons] at *; omega, fun h hm => ?_⟩
      rcases List.mem_cons.1 hm with rfl | hm
      · have := i2 x (List.mem_cons_self ..); simp only [List.length_cons]; omega
      · have := i2 h (List.mem_cons_of_mem _ hm); simp only [List.length_cons]; omega
theorem index_head (b : UInt8) (l : List UInt8) : Lib.index (b :: l) [44] = if b = 44 then 0 else if Lib.index l [44] == -1 then -1 else Lib.index l [44] + 1 := by
  rw [Lib.index]
  by_cases c : b = 44
  · subst c; simp [List.isPrefixOf]
  · have : ([44] : List UInt8).isPrefixOf (b :: l) = false := by
      simp only [List.isPrefixOf, Bool.and_true]
      exact beq_eq_false_iff_ne.2 (fun e => c e.symm)
    rw [this, if_neg c]; simp
theorem index_cases (l : List UInt8) : Lib.index l [44] = -1 ∨ ∃ i : Nat, Lib.index l [44] = i := by
  have := Lib.index_ge l [44]
  rcases Int.lt_or_le (Lib.index l [44]) 0 with h | h
  · left; omega
  · right; exact ⟨(Lib.index l [44]).toNat, by omega⟩
theorem split_cut : ∀ l : List UInt8, Lib.splitK [44] 0 (Lib.count l [44]) l = cutL l
  | [] => by
    have h : Lib.index [] [44] = -1 := rfl
    rw [Lib.count_miss h]; rfl
  | b :: l => by
    have ih := split_cut l
    have hi := index_head b l
    unfold cutL
    by_cases c : b = 44
    · rw [if_pos c] at hi ⊢
      rw [Lib.count_hit (i := 0) (by simp) hi, Nat.add_comm, Lib.splitK, hi, ← ih]
      simp
    · rw [if_neg c] at hi ⊢
      rcases index_cases l with h | ⟨j, h⟩
      · rw [h] at hi
        have hi' : Lib.index (b :: l) [44] = -1 := by rw [hi]; simp
        rw [Lib.count_miss hi', Lib.splitK, ← ih, Lib.count_miss h, Lib.splitK]
        rfl
      · rw [h] at hi
        have hi' : Lib.index (b :: l) [44] = ((j + 1 : Nat) : Int) := by
          rw [hi, if_neg (by simp <;> omega)]; rfl
        have e1 := Lib.count_hit (sub := [44]) (by simp) hi'
        have e2 := Lib.count_hit (sub := [44]) (by simp) h
        rw [List.length_singleton, show j + 1 + 1 = (j + 1) + 1 from rfl, List.drop_succ_cons] at e1
        rw [List.length_singleton] at e2
        rw [e1, Nat.add_comm, Lib.splitK, hi', if_neg (by simp <;> omega), Int.toNat_natCast, Nat.add_zero, List.take_succ_cons, List.length_singleton, List.drop_succ_cons]
        rw [← ih, e2, Nat.add_comm 1, Lib.splitK, h, if_neg (by simp <;> omega), Int.toNat_natCast, Nat.add_zero, List.length_singleton]
        rfl
theorem extract_bs (s : ByteArray) (a b : Nat) : s.extract a b = bsC ((s.data.toList.take b).drop a) := by
  apply ByteArray.ext
  apply Array.toList_inj.1
  rw [Lib.extract_data, ← List.drop_take]
  rfl
theorem split_bs (s : ByteArray) : splitS s (⟨#[44]⟩ : ByteArray) = (cutL s.data.toList).map bsC := by
  have h := Lib.splitB_data (⟨#[44]⟩ : ByteArray) 0 (Lib.countB s (⟨#[44]⟩ : ByteArray)) s
  have e : Lib.countB s (⟨#[44]⟩ : ByteArray) = Lib.count s.data.toList [44] := rfl
  have h2 : (splitS s (⟨#[44]⟩ : ByteArray)).map (·.data.toList) = cutL s.data.toList := by
    unfold splitS
    rw [h, e]
    exact split_cut _
  rw [← h2, List.map_map]
  conv => lhs; rw [← List.map_id (splitS s (⟨#[44]⟩ : ByteArray))]
  apply List.map_congr_left
  intro x _
  rfl
theorem bt_drop (s : ByteArray) (i : Nat) (h : i < s.size) : ∃ c : UInt8, s.data.toList.drop i = c :: s.data.toList.drop (i + 1) ∧ s.data.toList.take (i + 1) = s.data.toList.take i ++ [c] ∧ bt s (i : Int) = (c.toNat : Int) := by
  have hl : i < s.data.toList.length := by simpa using h
  refine ⟨s.data.toList[i], List.drop_eq_getElem_cons hl, ?_, ?_⟩
  · rw [List.take_add_one, List.getElem?_eq_getElem hl]; rfl
  · unfold bt
    rw [dif_pos (by simpa using h)]
    rfl
theorem cut_loop (s : ByteArray) (hs : s.size ≤ 1048576) : ∀ (d i f : Nat) (out : List ByteArray), i + d = s.size → f ≤ i → out.length ≤ i → ∀ k, d + 1 < k →
    spec_l01Cut.l0 k s 44 out (f : Int) (i : Int) = some (out ++ (preH ((s.data.toList.take i).drop f) (cutL (s.data.toList.drop i))).map bsC)
  | 0, i, f, out, h, hf, ho, k, hk => by
    obtain ⟨k, rfl⟩ : ∃ n, k = n + 2 := ⟨k - 2, by omega⟩
    have hd : s.data.toList.drop i = [] := List.drop_eq_nil_of_le (by simp; omega)
    rw [spec_l01Cut.l0, if_pos (by omega), if_pos (by omega), if_pos (by omega), if_pos (by omega), if_pos (by omega), wsucc (by omega) (by omega), spec_l01Cut.l0, if_neg (by omega), Int.toNat_natCast, Int.toNat_natCast, extract_bs, hd]
    simp [cutL, preH]
  | d + 1, i, f, out, h, hf, ho, k, hk => by
    obtain ⟨k, rfl⟩ : ∃ n, k = n + 1 := ⟨k - 1, by omega⟩
    obtain ⟨c, c1, c2, c3⟩ := bt_drop s i (by omega)
    rw [spec_l01Cut.l0, if_pos (by omega), if_neg (by omega), if_pos (by omega), if_pos (by omega), c3, c1]
    unfold cutL
    by_cases g : c = 44
    · subst g
      rw [if_pos (show (((44 : UInt8).toNat : Nat) : Int) = 44 from rfl), if_pos (rfl : (44 : UInt8) = 44), if_pos (by omega), if_pos (by omega), if_pos (by omega), wsucc (by omega) (by omega), Int.toNat_natCast, Int.toNat_natCast, extract_bs]
      have := cut_loop s hs d (i + 1) (i + 1) (out ++ [bsC ((s.data.toList.take i).drop f)]) (by omega) (Nat.le_refl _) (by simp; omega) k (by omega)
      refine this.trans ?_
      have hz : (s.data.toList.take (i + 1)).drop (i + 1) = [] := List.drop_eq_nil_of_le (by rw [List.length_take]; omega)
      rw [hz, preH_nil]
      simp [preH]
    · have hne : ¬ (c.toNat : Int) = 44 := by
        intro e
        apply g
        apply UInt8.toNat_inj.1
        show c.toNat = 44
        omega
      rw [if_neg hne, if_neg g, wsucc (by omega) (by omega)]
      refine (cut_loop s hs d (i + 1) f out (by omega) (by omega) (by omega) k (by omega)).trans ?_
      have hz : (s.data.toList.take (i + 1)).drop f = (s.data.toList.take i).drop f ++ [c] := by
        rw [c2, List.drop_append_of_le_length (by rw [List.length_take]; simp; omega)]
      rw [hz, preH_cons]
theorem cut_spec (s : ByteArray) (hs : s.size ≤ 1048576) (k : Nat) (hk : s.size + 1 < k) : spec_l01Cut.f k s 44 = some ((cutL s.data.toList).map bsC) := by
  have := cut_loop s hs s.size 0 0 [] (by omega) (Nat.le_refl _) (by simp) k hk
  simp only [List.take_zero, List.drop_zero, List.drop_nil, preH_nil, List.nil_append] at this
  exact this
theorem eqInt64S_from (l : List Int) (h : l.length ≤ 1073741824) : From (fun k => laws_eqInt64S.f k l l) true := by
  obtain ⟨K, hK⟩ := all_loop (fun k i => laws_eqInt64S.l0 k l l i) l.length (by omega) 0 true (fun k i _ h0 h1 => by
      simp only [laws_eqInt64S.l0, h0, h1, if_true, wsucc h0 (by omega)]) (fun k i _ h _ => by simp only [laws_eqInt64S.l0, h, if_false])
  refine ⟨K, fun k hk => ?_⟩
  simp only [laws_eqInt64S.f, if_true]
  exact hK k hk
theorem markInt64S_from (l : List Int) (m : Int) (hm : 0 ≤ m) (hb : m ≤ 4294967296) (h : l.length ≤ 1073741824) :
    ∃ ys, From (fun k => laws_markInt64S.f k l m) (m + 1 * l.length, ys) ∧ ys.length = l.length ∧ ∀ j : Nat, j < l.length → ys[j]? = some (m + 1 * j) :=
  mark_all (F := fun k xs m i => laws_markInt64S.l0 k xs m i) 1 (by omega) (by omega) (fun m => m) (fun k xs m i h0 h1 h2 h3 h4 => by
    simp only [laws_markInt64S.l0, h0, h1, if_true, wsucc h0 h2, wsucc h3 (by omega)]) (fun k xs m i h => by simp only [laws_markInt64S.l0, h, if_false]) l m hm (by omega) (by omega)
theorem heldInt64S_from (ys : List Int) (m : Int) (hm : 0 ≤ m) (hb : m ≤ 4294967296) (h : ys.length ≤ 1073741824) (hy : ∀ j : Nat, j < ys.length → ys[j]? = some (m + 1 * j)) :
    From (fun k => laws_heldInt64S.f k ys m) (m + 1 * ys.length) := by
  obtain ⟨K, hK⟩ := all_loop (fun k i => laws_heldInt64S.l0 k ys (m + 1 * i) i) ys.length (by omega) 0 (m + 1 * ys.length) (fun k i _ h0 h1 => by
      have hr : rd ys i = m + 1 * i := by
        have := hy i.toNat (by omega)
        rw [rd, getD_of this]; omega
      simp only [laws_heldInt64S.l0, h0, h1, if_true, hr, wsucc h0 (by omega), wsucc (show 0 ≤ m + 1 * i by omega) (by omega)]
      congr 1; omega) (fun k i _ h he => by subst he; simp only [laws_heldInt64S.l0, h, if_false])
  refine ⟨K, fun k hk => ?_⟩
  simp only [laws_heldInt64S.f]
  have := hK k hk
  simpa using this
/-- What the law does to numbers that were returned: equal to themselves, marked, and the marks held. -/
theorem ints_law (l : List Int) (h : l.length ≤ 1073741824) : ∃ ys : List Int, From (fun k => laws_markInt64S.f k l 1) (1 + l.length, ys) ∧ From (fun k => laws_heldInt64S.f k ys 1) (1 + l.length) := by
  obtain ⟨ys, h1, h2, h3⟩ := markInt64S_from l 1 (by omega) (by omega) h
  refine ⟨ys, by simpa using h1, ?_⟩
  have := heldInt64S_from ys 1 (by omega) (by omega) (by omega) (fun j hj => h3 j (by omega))
  rw [h2] at this
  simpa using this
def okD (s : ByteArray) : Bool := (specD s).2
theorem drop_rdB (l : List ByteArray) (i : Nat) (hi : i < l.length) : l.drop i = rdOf ByteArray.empty l (i : Int) :: l.drop (i + 1) := by
  rw [List.drop_eq_getElem_cons hi]
  congr 1
  simp [rdOf, List.getElem?_eq_getElem hi]
theorem rdB_mem (l : List ByteArray) (i : Nat) (hi : i < l.length) : rdOf ByteArray.empty l (i : Int) ∈ l := by
  have : rdOf ByteArray.empty l (i : Int) = l[i] := by simp [rdOf, List.getElem?_eq_getElem hi]
  rw [this]; exact List.getElem_mem hi
theorem spec_nums (l : List ByteArray) (hl : l.length ≤ 300) : ∀ (d i : Nat) (out : List Int), i + d = l.length → out.length = i → ∀ k, d + 120 < k →
    spec_l01Numbers.l0 k out l (i : Int) = some (if (l.drop i).all okD = true then (out ++ (l.drop i).map (fun s => (specD s).1), true) else ([], false))
  | 0, i, out, h, ho, k, hk => by
    obtain ⟨k, rfl⟩ : ∃ n, k = n + 1 := ⟨k - 1, by omega⟩
    rw [spec_l01Numbers.l0, if_neg (by omega), List.drop_eq_nil_of_le (by omega)]
    simp
  | d + 1, i, out, h, ho, k, hk => by
    obtain ⟨k, rfl⟩ : ∃ n, k = n + 1 := ⟨k - 1, by omega⟩
    rw [spec_l01Numbers.l0, if_pos (by omega), if_pos (by omega), drop_rdB l i (by omega), value_spec _ k (by omega), Option.bind_some, List.all_cons, List.map_cons]
    generalize rdOf ByteArray.empty l (i : Int) = s
    have hd : okD s = (specD s).2 := rfl
    cases hb : (specD s).2 with
    | true =>
      rw [if_pos rfl, if_pos (by omega), wsucc (by omega) (by omega), hd, hb, Bool.true_and]
      refine (spec_nums l hl d (i + 1) (out ++ [(specD s).1]) (by omega) (by simp; omega) k (by omega)).trans ?_
      simp only [List.append_assoc, List.singleton_append]
    | false =>
      rw [if_neg (by simp), hd, hb, Bool.false_and, if_neg (by simp)]
theorem impl_nums (l : List ByteArray) (hl : l.length ≤ 1073741824) (hz : ∀ s ∈ l, s.size ≤ 281474976710656) : ∀ (d i : Nat) (out : List Int), i + d = l.length → out.length = i → i ≤ 300 → ∀ k, d < k →
    impl_ReadList.l0 k out l l.length (i : Int) = some (if (l.drop i).all okD = true ∧ l.length ≤ 300 then (out ++ (l.drop i).map (fun s => (specD s).1), true) else ([], false))
  | 0, i, out, h, ho, h3, k, hk => by
    obtain ⟨k, rfl⟩ : ∃ n, k = n + 1 := ⟨k - 1, by omega⟩
    rw [impl_ReadList.l0, if_neg (by omega), List.drop_eq_nil_of_le (by omega), if_pos ⟨rfl, by omega⟩]
    simp
  | d + 1, i, out, h, ho, h3, k, hk => by
    obtain ⟨k, rfl⟩ : ∃ n, k = n + 1 := ⟨k - 1, by omega⟩
    have hs := hz _ (rdB_mem l i (by omega))
    rw [impl_ReadList.l0, if_pos (by omega), if_pos (by omega), if_pos (by omega), drop_rdB l i (by omega), impl_ReadDecimal.f, if_pos hs, specD_readD, Option.bind_some, List.all_cons, List.map_cons]
    generalize rdOf ByteArray.empty l (i : Int) = s
    have hd : okD s = (specD s).2 := rfl
    cases hb : (specD s).2 with
    | true =>
      rw [if_pos rfl, hd, hb, Bool.true_and]
      by_cases c : (out.length : Int) = 300
      · rw [if_pos c, if_neg (fun z => by have := z.2; omega)]
      · rw [if_neg c, if_pos (by omega), wsucc (by omega) (by omega)]
        refine (impl_nums l hl hz d (i + 1) (out ++ [(specD s).1]) (by omega) (by simp; omega) (by omega) k (by omega)).trans ?_
        simp only [List.append_assoc, List.singleton_append]
    | false =>
      rw [if_neg (by simp), hd, hb, Bool.false_and, if_neg (by simp)]
theorem both_from (s : ByteArray) (hs : s.size ≤ 1048576) : ∃ g : List Int × Bool, g.1.length ≤ 1048576 ∧ From (fun k => spec_ReadList.f k s) g ∧ From (fun k => impl_ReadList.f k s) g := by
  by_cases cn : s.toList = ([110, 111, 110, 101] : List UInt8)
  · refine ⟨([], true), by simp, ⟨0, fun k _ => ?_⟩, ⟨0, fun k _ => ?_⟩⟩
    · simp only [spec_ReadList.f, spec_l01Numbers.f, cn, Option.bind_some, if_true]
    · simp only [impl_ReadList.f, cn, Option.bind_some, if_true]
  · obtain ⟨l1, l2⟩ := cutL_len s.data.toList
    have hsz : s.data.toList.length = s.size := by simp
    obtain ⟨l, hl⟩ : ∃ l : List ByteArray, l = (cutL s.data.toList).map bsC := ⟨_, rfl⟩
    have hll : l.length ≤ 1048577 := by rw [hl, List.length_map]; omega
    have hpos : 1 ≤ (⟨#[44]⟩ : ByteArray).size := by decide
    have hz : ∀ x ∈ l, x.size ≤ 281474976710656 := by
      intro x hx
      rw [hl] at hx
      obtain ⟨y, hy, rfl⟩ := List.mem_map.1 hx
      have := l2 y hy
      show y.toArray.size ≤ _
      simp; omega
    have e1 := fun k (hk : s.size + 1 < k) => cut_spec s hs k hk
    have e2 := split_bs s
    rw [← hl] at e1 e2
    have hsp : strings_Split.f s (⟨#[44]⟩ : ByteArray) = some l := by
      unfold strings_Split.f
      rw [e2, if_pos ⟨by omega, hpos, by omega⟩]
    have i1 := fun k (hk : l.length < k) => impl_nums l (by omega) hz l.length 0 [] (by omega) rfl (by omega) k hk
    simp only [List.drop_zero, List.nil_append] at i1
    by_cases c3 : (l.length : Int) > 300
    · refine ⟨([], false), by simp, ⟨s.size + 2, fun k hk => ?_⟩, ⟨l.length + 1, fun k hk => ?_⟩⟩
      · simp only [spec_ReadList.f, spec_l01Numbers.f, cn, Option.bind_some, if_false, e1 k (by omega), c3, if_true]
      · have := i1 k (by omega)
        rw [if_neg (fun z => by have := z.2; omega)] at this
        simp only [impl_ReadList.f, cn, Option.bind_some, if_false, hsp]
        exact this
    · have s1 := fun k (hk : l.length + 120 < k) => spec_nums l (by omega) l.length 0 [] (by omega) rfl k hk
      simp only [List.drop_zero, List.nil_append] at s1
      refine ⟨if l.all okD = true then (l.map (fun s => (specD s).1), true) else ([], false), ?_, ⟨s.size + l.length + 122, fun k hk => ?_⟩, ⟨l.length + 1, fun k hk => ?_⟩⟩
      · split
        · simp only [List.length_map]; omega
        · simp
      · simp only [spec_ReadList.f, spec_l01Numbers.f, cn, Option.bind_some, if_false, e1 k (by omega), c3]
        have := s1 k (by omega)
        rw [show spec_l01Numbers.l0 k [] l 0 = _ from this]
        rfl
      · have := i1 k (by omega)
        simp only [impl_ReadList.f, cn, Option.bind_some, if_false, hsp]
        refine this.trans ?_
        cases l.all okD with
        | true => rw [if_pos ⟨rfl, by omega⟩, if_pos rfl]
        | false => rw [if_neg (by simp), if_neg (by simp)]
theorem FnExactReadList : laws_FnExactReadList.Pure := by
  intro s _
  by_cases c0 : (s.size : Int) > 1048576
  · exact ⟨0, by simp only [laws_FnExactReadList.f, c0, if_true]⟩
  obtain ⟨g, hg, ⟨K8, e8⟩, ⟨K9, e9⟩⟩ := both_from s (by omega)
  obtain ⟨K10, e10⟩ := eqInt64S_from g.1 (by omega)
  obtain ⟨ys, ⟨K11, e11⟩, ⟨K12, e12⟩⟩ := ints_law g.1 (by omega)
  generalize hK : K8 + K9 + K10 + K11 + K12 = K
  refine ⟨K + 10, ?_⟩
  have hp : ¬ (1 + (g.1.length : Int)) < 0 := by omega
  have hb : (g.2 != g.2) = false := by simp
  have E8 := fun i => e8 (K + i) (by omega)
  have E9 := fun i => e9 (K + i) (by omega)
  have E10 := fun i => e10 (K + i) (by omega)
  have E11 := fun i => e11 (K + i) (by omega)
  have E12 := fun i => e12 (K + i) (by omega)
  simp only [laws_FnExactReadList.f, c0, if_false]
  simp only [laws_FnExactReadList.j0, E8, E9, E10, hb, Option.bind_some, if_true]
  simp only [laws_FnExactReadList.j1, Bool.false_eq_true, if_false]
  simp only [laws_FnExactReadList.j2, E11, E12, hp, Option.bind_some, if_false]
  simp only [laws_FnExactReadList.j3, if_true]
  simp only [laws_FnExactReadList.j4, E9, E10, hb, Option.bind_some, if_true]
  simp only [laws_FnExactReadList.j5, Bool.false_eq_true, if_false]
  simp only [laws_FnExactReadList.j6, E12, hp, Option.bind_some, if_true, if_false]

end Go.Proofs.YtopdflppdpmblaaDoor.Pure
