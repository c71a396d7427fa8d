/- The program's MentionsOf returns what the reference's returns, for every text that can be read. -/
import Derived.Test.YtohaaidbnabkiaaDoorXFnExactMentionsOfx5
import Derived.Test.YtohaaidbnabkiaaDoorXP
import Derived.Test.YtohaaidbnabkiaaDoorXQ
namespace Go.Proofs.YtohaaidbnabkiaaDoor.Pure
open Go.RowKit Go.Proofs.YtohaaidbnabkiaaDoor.XFnExactMentionsOf Go.Proofs.YtohaaidbnabkiaaDoorW.PrintWords Go.Proofs.YtohaaidbnabkiaaDoorW.PrintLast Go.Proofs.YtohaaidbnabkiaaDoor.XP Go.Proofs.YtohaaidbnabkiaaDoor.XQ
set_option linter.unusedVariables false
set_option linter.unusedSimpArgs false

theorem in_eq (a b c : Int) : spec_l00In.f a b c = impl_in.f a b c := rfl
theorem in_some (a b c : Int) : impl_in.f a b c = some (decide (b ≤ a ∧ a ≤ c)) := by
  unfold impl_in.f
  split
  · congr 1; rw [decide_eq_decide]; omega
  · congr 1; symm; rw [decide_eq_false_iff_not]; omega

def digI (u : Nat) : List Int := (Lib.decDigits u).map fun b => (b.toNat : Int)
theorem digI_small {u : Nat} (h : u < 10) : digI u = [48 + (u : Int)] := by
  rw [digI, Lib.decDigits, dif_pos h]
  simp only [List.map_cons, List.map_nil, UInt8.toNat_ofNat']
  congr 1
  omega
theorem digI_big {u : Nat} (h : ¬ u < 10) : digI u = digI (u / 10) ++ [48 + ((u % 10 : Nat) : Int)] := by
  rw [digI, Lib.decDigits, dif_neg h, List.map_append]
  simp only [List.map_cons, List.map_nil, UInt8.toNat_ofNat']
  congr 2
  omega
def signed (n : Int) (xs : List Int) : List Int := if n < 0 then 45 :: xs else xs
theorem tm10 (x : Int) : Int.tmod x 10 = if x < 0 then -((x.natAbs % 10 : Nat) : Int) else ((x.natAbs % 10 : Nat) : Int) := by
  split
  · rename_i h
    obtain ⟨y, rfl⟩ : ∃ y : Int, x = -y := ⟨-x, by omega⟩
    rw [Int.neg_tmod, Int.tmod_eq_emod_of_nonneg (by omega)]; omega
  · rw [Int.tmod_eq_emod_of_nonneg (by omega)]; omega
theorem td10 (x : Int) : Int.tdiv x 10 = if x < 0 then -((x.natAbs / 10 : Nat) : Int) else ((x.natAbs / 10 : Nat) : Int) := by
  split
  · rename_i h
    obtain ⟨y, rfl⟩ : ∃ y : Int, x = -y := ⟨-x, by omega⟩
    rw [Int.neg_tdiv, Int.tdiv_eq_ediv_of_nonneg (by omega)]; omega
  · rw [Int.tdiv_eq_ediv_of_nonneg (by omega)]; omega
theorem wr (x : Int) (h0 : -9223372036854775808 ≤ x) (h1 : x ≤ 9223372036854775807) : wrap64 x = x := by unfold wrap64; omega
theorem dec_step (n : Int) (x3 : List Int) (x : Int) (h0 : -9223372036854775808 ≤ x) (h1 : x ≤ 9223372036854775807) (hl : x3.length ≤ 100) (k : Nat) :
    spec_l01Dec.j1 (k + 1) n x3 x true = spec_l01Dec.l0 k n ((48 + ((x.natAbs % 10 : Nat) : Int)) :: x3) (Int.tdiv x 10) := by
  have ht := tm10 x
  have hd := td10 x
  have hw : wrap64 (Int.tdiv x 10) = Int.tdiv x 10 := by
    rw [hd]; split <;> exact wr _ (by omega) (by omega)
  have hlen : ∀ c : Int, ([c] : List Int).length + x3.length < 140737488355328 := fun c => by simp only [List.length_cons, List.length_nil]; omega
  rw [spec_l01Dec.j1, if_pos rfl, hw]
  by_cases c : Int.tmod x 10 < 0
  · have hx : x < 0 := by rw [ht] at c; split at c <;> omega
    rw [if_pos c, Option.bind_some, if_pos (hlen _), ht, if_pos hx, Int.neg_neg, wr ((x.natAbs % 10 : Nat) : Int) (by omega) (by omega), wr (48 + ((x.natAbs % 10 : Nat) : Int)) (by omega) (by omega)]
    congr 1
    show _ :: x3 = _
    congr 1
    omega
  · have hx : Int.tmod x 10 = ((x.natAbs % 10 : Nat) : Int) := by rw [ht] at c ⊢; split at c <;> split <;> omega
    rw [if_neg c, Option.bind_some, if_pos (hlen _), hx, wr _ (by omega) (by omega)]
    congr 1
    show _ :: x3 = _
    congr 1
    omega
theorem dec_end (n : Int) (x3 : List Int) (h : x3.length ≠ 0) (hl : x3.length ≤ 101) (k : Nat) : spec_l01Dec.l0 (k + 2) n x3 0 = some (strOfNums (signed n x3)) := by
  rw [spec_l01Dec.l0, if_neg (by omega), spec_l01Dec.j1]
  simp only [bne_self_eq_false, Bool.false_eq_true, if_false]
  unfold signed
  split
  · rw [Option.bind_some, if_pos (by simp only [List.length_cons, List.length_nil]; omega)]; rfl
  · rfl
theorem dec_loop (n : Int) : ∀ (m u : Nat), u < 10 ^ m → ∀ (x : Int) (x3 : List Int), x.natAbs = u → (x3.length = 0 ∨ u ≠ 0) → x3.length + m ≤ 100 → -9223372036854775808 ≤ x → x ≤ 9223372036854775807 → ∀ k, 2 * m + 4 ≤ k →
    spec_l01Dec.l0 k n x3 x = some (strOfNums (signed n (digI u ++ x3)))
  | m, u, hm, x, x3, hu, h3, hl, h0, h1, k, hk => by
    obtain ⟨k, rfl⟩ : ∃ j, k = j + 2 := ⟨k - 2, by omega⟩
    have hgo : spec_l01Dec.l0 (k + 2) n x3 x = spec_l01Dec.j1 (k + 1) n x3 x true := by
      rw [spec_l01Dec.l0]
      split
      · rfl
      · rename_i hc
        have : (x != 0) = true := by
          simp only [bne_iff_ne, ne_eq]
          intro e; subst e; simp at hu; omega
        rw [this]
    rw [hgo, dec_step n x3 x h0 h1 (by omega), hu]
    by_cases hs : u < 10
    · have hz : Int.tdiv x 10 = 0 := by rw [td10]; split <;> omega
      obtain ⟨k, rfl⟩ : ∃ j, k = j + 2 := ⟨k - 2, by omega⟩
      rw [hz, dec_end _ _ (by simp) (by simp; omega), digI_small hs, Nat.mod_eq_of_lt hs]
      rfl
    · match m, hm with
      | 0, hm => simp at hm; omega
      | m + 1, hm =>
        have hu2 : (Int.tdiv x 10).natAbs = u / 10 := by rw [td10]; split <;> omega
        rw [dec_loop n m (u / 10) (by rw [Nat.pow_succ] at hm; omega) (Int.tdiv x 10) _ hu2 (Or.inr (by omega)) (by simp; omega) (by rw [td10]; split <;> omega) (by rw [td10]; split <;> omega) k (by omega), digI_big hs, List.append_assoc]
        rfl
theorem nums_bytes (l : List UInt8) : strOfNums (l.map fun b => (b.toNat : Int)) = ⟨l.toArray⟩ := by
  show (⟨((l.map fun b => (b.toNat : Int)).map fun n => UInt8.ofNat n.toNat).toArray⟩ : ByteArray) = _
  congr 2
  rw [List.map_map]
  conv => rhs; rw [← List.map_id l]
  apply List.map_congr_left
  intro b _
  simp
theorem dec_spec (n : Int) (h0 : -9223372036854775808 ≤ n) (h1 : n ≤ 9223372036854775807) (k : Nat) (hk : 100 ≤ k) : spec_l01Dec.f k n = some (decB n) := by
  unfold spec_l01Dec.f
  rw [dec_loop n 19 n.natAbs (by omega) n [] rfl (Or.inl rfl) (by simp) h0 h1 k (by omega), List.append_nil]
  congr 1
  unfold decB Lib.itoa signed
  split
  · rw [← nums_bytes]; rfl
  · rw [← nums_bytes, show n.toNat = n.natAbs by omega]; rfl
theorem dec_impl (n : Int) (h0 : -9223372036854775808 ≤ n) (h1 : n ≤ 9223372036854775807) : impl_Decimal.f n = some (decB n) := by
  unfold impl_Decimal.f; rw [if_pos ⟨h0, h1⟩]
def dstep (a : Nat) (c : UInt8) : Nat := if 48 ≤ c.toNat ∧ c.toNat ≤ 57 then 10 * a + (c.toNat - 48) else a
def foldV (l : List UInt8) (a : Nat) : Nat := l.foldl dstep a
theorem foldV_append (l m : List UInt8) (a : Nat) : foldV (l ++ m) a = foldV m (foldV l a) := List.foldl_append ..
theorem c48 (d : Nat) (h : d < 10) : (UInt8.ofNat (48 + d)).toNat = 48 + d := by
  rw [UInt8.toNat_ofNat']; omega
theorem dig_all : ∀ (n u : Nat), u ≤ n → (∀ c ∈ Lib.decDigits u, 48 ≤ c.toNat ∧ c.toNat ≤ 57) ∧ foldV (Lib.decDigits u) 0 = u ∧ Lib.decDigits u ≠ [] ∧ ∀ m, u < 10 ^ (m + 1) → (Lib.decDigits u).length ≤ m + 1
  | n, u, h => by
    rw [Lib.decDigits]
    by_cases hs : u < 10
    · rw [dif_pos hs]
      have hc := c48 u hs
      refine ⟨?_, ?_, by simp, fun m _ => by simp⟩
      · intro c hm
        simp only [List.mem_cons, List.not_mem_nil, or_false] at hm
        subst hm
        rw [hc]; omega
      · show dstep 0 _ = u
        unfold dstep
        rw [hc, if_pos (by omega)]; omega
    · rw [dif_neg hs]
      match n, h with
      | 0, h => omega
      | n + 1, h =>
        obtain ⟨i1, i2, i3, i4⟩ := dig_all n (u / 10) (by omega)
        have hc := c48 (u % 10) (by omega)
        refine ⟨?_, ?_, by simp, ?_⟩
        · intro c hm
          rcases List.mem_append.1 hm with hm | hm
          · exact i1 c hm
          · simp only [List.mem_cons, List.not_mem_nil, or_false] at hm
            subst hm
            rw [hc]; omega
        · rw [foldV_append, i2]
          show dstep (u / 10) _ = u
          unfold dstep
          rw [hc, if_pos (by omega)]; omega
        · intro m hm
          match m, hm with
          | 0, hm => simp at hm; omega
          | m + 1, hm =>
            have := i4 m (by rw [Nat.pow_succ] at hm; omega)
            simp only [List.length_append, List.length_cons, List.length_nil]
            omega
theorem itoa_len (v : Int) (h0 : -1000000000 ≤ v) (h1 : v ≤ 1000000000) : (Lib.itoa v).length ≤ 11 := by
  obtain ⟨_, _, _, i4⟩ := dig_all v.natAbs v.natAbs (Nat.le_refl _)
  have i5 := i4 9 (by omega)
  unfold Lib.itoa
  split
  · simp only [List.length_cons]; omega
  · rw [show v.toNat = v.natAbs by omega]; omega
theorem foldV_le : ∀ (l : List UInt8) (a : Nat), a ≤ foldV l a
  | [], a => Nat.le_refl _
  | c :: l, a => by
    have := foldV_le l (dstep a c)
    show a ≤ foldV l (dstep a c)
    have h2 : a ≤ dstep a c := by unfold dstep; split <;> omega
    omega
theorem parse_digits : ∀ (l : List UInt8) (a : Nat), (∀ c ∈ l, 48 ≤ c.toNat ∧ c.toNat ≤ 57) → foldV l a ≤ 10000000000 → Lib.parseUintM (2 ^ 64 - 1) a l = .ok (foldV l a)
  | [], a, _, _ => rfl
  | c :: l, a, h, hb => by
    have hc := h c (List.mem_cons_self ..)
    have hm : foldV (c :: l) a = foldV l (dstep a c) := rfl
    have hd : dstep a c = a * 10 + (c.toNat - 48) := by unfold dstep; rw [if_pos hc]; omega
    have hl := foldV_le l (dstep a c)
    rw [hm] at hb ⊢
    have hdb : a * 10 + (c.toNat - 48) ≤ 10000000000 := by omega
    rw [Lib.parseUintM, if_pos hc, if_neg (by omega), if_neg (by omega), ← hd]
    exact parse_digits l _ (fun x hx => h x (List.mem_cons_of_mem _ hx)) hb
theorem parse_dec (v : Int) (h0 : -1000000000 ≤ v) (h1 : v ≤ 1000000000) : Lib.parseIntB 64 (decB v).data.toList = .ok v := by
  show Lib.parseIntB 64 (Lib.itoa v) = .ok v
  have key : ∀ u : Nat, u ≤ 1000000000 → Lib.parseUintB 64 (Lib.decDigits u) = .ok u := by
    intro u hu
    obtain ⟨i1, i2, i3, _⟩ := dig_all u u (Nat.le_refl _)
    unfold Lib.parseUintB
    rw [if_neg i3, parse_digits _ 0 i1 (by rw [i2]; omega), i2]
  unfold Lib.itoa
  split
  · rw [Lib.parseIntB_minus, key _ (by omega)]
    unfold Lib.signedC
    simp only
    rw [if_neg (by omega)]
    congr 1
    omega
  · have hk := key v.toNat (by omega)
    obtain ⟨i1, _, i3, _⟩ := dig_all v.toNat v.toNat (Nat.le_refl _)
    generalize Lib.decDigits v.toNat = l at *
    match l, i3 with
    | c :: r, _ =>
      have hc := i1 c (List.mem_cons_self ..)
      rw [Lib.parseIntB_plain 64 c r (by omega) (by omega), hk]
      unfold Lib.signlessC
      simp only
      rw [if_neg (by omega)]
      congr 1
      omega
def sval (s : ByteArray) : Int := if bt s 0 = 45 then -((foldV s.data.toList 0 : Nat) : Int) else ((foldV s.data.toList 0 : Nat) : Int)
theorem bt_at (s : ByteArray) (i : Nat) (h : i < s.size) : ∃ c : UInt8, s.data.toList[i]? = some c ∧ bt s (i : Int) = (c.toNat : Int) := by
  refine ⟨s[i], ?_, ?_⟩
  · have : i < s.data.toList.length := by simpa using h
    rw [List.getElem?_eq_getElem this]; rfl
  · unfold bt
    rw [dif_pos (by simpa using h)]
    rfl
theorem sval_dec (v : Int) (h0 : -1000000000 ≤ v) (h1 : v ≤ 1000000000) : sval (decB v) = v ∧ 1 ≤ (decB v).size ∧ (decB v).size ≤ 11 := by
  have hsz : (decB v).size = (Lib.itoa v).length := by unfold decB; show (Lib.itoa v).toArray.size = _; simp
  have hl : (decB v).data.toList = Lib.itoa v := rfl
  obtain ⟨i1, i2, i3, i4⟩ := dig_all v.natAbs v.natAbs (Nat.le_refl _)
  have i5 := i4 9 (by omega)
  by_cases hv : v < 0
  · have e : Lib.itoa v = 45 :: Lib.decDigits v.natAbs := by unfold Lib.itoa; rw [if_pos hv]
    have hn : 1 ≤ (decB v).size := by rw [hsz, e]; simp
    obtain ⟨c, c1, c2⟩ := bt_at (decB v) 0 (by omega)
    rw [hl, e] at c1
    simp only [List.getElem?_cons_zero, Option.some.injEq] at c1
    subst c1
    refine ⟨?_, hn, by rw [hsz, e]; simp; omega⟩
    unfold sval
    rw [if_pos (by exact c2), hl, e]
    show -((foldV (Lib.decDigits v.natAbs) 0 : Nat) : Int) = v
    rw [i2]; omega
  · have e : Lib.itoa v = Lib.decDigits v.natAbs := by unfold Lib.itoa; rw [if_neg hv]; congr 1; omega
    have hn : 1 ≤ (decB v).size := by rw [hsz, e]; exact List.length_pos_iff.2 i3
    obtain ⟨c, c1, c2⟩ := bt_at (decB v) 0 (by omega)
    rw [hl, e] at c1
    have hc := i1 c (List.mem_of_getElem? c1)
    refine ⟨?_, hn, by rw [hsz, e]; omega⟩
    unfold sval
    have hne : ¬ bt (decB v) 0 = 45 := by
      intro h
      have c3 : bt (decB v) 0 = (c.toNat : Int) := c2
      rw [c3] at h; omega
    rw [if_neg hne, hl, e, i2]; omega
/-- What both answer. -/
def specD (s : ByteArray) : Int × Bool := if (1 ≤ s.size ∧ s.size ≤ 11) ∧ (-1000000000 ≤ sval s ∧ sval s ≤ 1000000000) ∧ decB (sval s) = s then (sval s, true) else (0, false)
theorem specD_readD (s : ByteArray) : readD s = specD s := by
  have back : ∀ n : Int, -1000000000 ≤ n → n ≤ 1000000000 → decB n = s → Lib.parseIntB 64 s.data.toList = .ok n ∧ specD s = (n, true) := by
    intro n h0 h1 e
    subst e
    obtain ⟨a, b, c⟩ := sval_dec n h0 h1
    refine ⟨parse_dec n h0 h1, ?_⟩
    unfold specD
    rw [a, if_pos ⟨⟨b, c⟩, ⟨h0, h1⟩, rfl⟩]
  by_cases hs : (1 ≤ s.size ∧ s.size ≤ 11) ∧ (-1000000000 ≤ sval s ∧ sval s ≤ 1000000000) ∧ decB (sval s) = s
  · obtain ⟨p, q⟩ := back _ hs.2.1.1 hs.2.1.2 hs.2.2
    rw [q, readD_ok p, if_pos ⟨hs.2.1, hs.2.2⟩]
  · have hz : specD s = (0, false) := by unfold specD; rw [if_neg hs]
    rw [hz]
    by_cases hk : ∃ v, Lib.parseIntB 64 s.data.toList = .ok v
    · obtain ⟨v, hv⟩ := hk
      rw [readD_ok hv]
      split
      · rename_i hc
        obtain ⟨_, q⟩ := back v hc.1.1 hc.1.2 hc.2
        rw [hz] at q
        cases q
      · rfl
    · exact readD_not fun v e => hk ⟨v, e⟩
theorem spec_j2 (s : ByteArray) (n : Int) (h0 : -9223372036854775808 ≤ n) (h1 : n ≤ 9223372036854775807) (k : Nat) (hk : 101 ≤ k) : spec_l01Value.j2 k s n = some (if (-1000000000 ≤ n ∧ n ≤ 1000000000) ∧ decB n = s then (n, true) else (0, false)) := by
  obtain ⟨k, rfl⟩ : ∃ j, k = j + 1 := ⟨k - 1, by omega⟩
  rw [spec_l01Value.j2, in_eq, in_some, Option.bind_some]
  by_cases c : -1000000000 ≤ n ∧ n ≤ 1000000000
  · simp only [c, and_self, decide_true, if_true, dec_spec n h0 h1 k (by omega), Option.bind_some, true_and]
    by_cases e : decB n = s
    · rw [if_pos (by rw [e]), if_pos e]
    · rw [if_neg (fun h => e (toList_inj' h)), if_neg e]
  · simp only [c, decide_false, Bool.false_eq_true, if_false, false_and]
theorem foldV_small (l : List UInt8) : ∀ (m : Nat) (a : Nat), a < 10 ^ m → foldV l a < 10 ^ (m + l.length) := by
  induction l with
  | nil => intro m a h; exact h
  | cons c l ih =>
    intro m a h
    have hd : dstep a c < 10 ^ (m + 1) := by
      unfold dstep
      rw [Nat.pow_succ]
      split <;> omega
    have := ih (m + 1) _ hd
    rwa [show m + 1 + l.length = m + (l.length + 1) by omega] at this
theorem spec_loop (s : ByteArray) (h1 : 1 ≤ s.size) (h2 : s.size ≤ 11) : ∀ (d i : Nat), i + d = s.size → ∀ k, 101 ≤ k →
    spec_l01Value.l0 (k + d + 1) s ((foldV (s.data.toList.take i) 0 : Nat) : Int) (i : Int) = some (if (-1000000000 ≤ sval s ∧ sval s ≤ 1000000000) ∧ decB (sval s) = s then (sval s, true) else (0, false))
  | 0, i, h, k, hk => by
    have hi : i = s.size := by omega
    have ht : s.data.toList.take i = s.data.toList := List.take_of_length_le (by rw [hi]; simp)
    have hb : foldV s.data.toList 0 < 10 ^ 11 := by
      have := foldV_small s.data.toList 0 0 (by omega)
      have hl : s.data.toList.length ≤ 11 := by simpa using h2
      exact Nat.lt_of_lt_of_le this (Nat.pow_le_pow_right (by omega) (by omega))
    rw [ht, spec_l01Value.l0, if_neg (by omega), if_pos (by omega)]
    have hn : wrap64 (-((foldV s.data.toList 0 : Nat) : Int)) = -((foldV s.data.toList 0 : Nat) : Int) := wr _ (by omega) (by omega)
    have hsv : ∀ x, sval s = x → -9223372036854775808 ≤ x → x ≤ 9223372036854775807 → spec_l01Value.j2 (k + 0) s x = some (if (-1000000000 ≤ sval s ∧ sval s ≤ 1000000000) ∧ decB (sval s) = s then (sval s, true) else (0, false)) := fun x e a b => by
      rw [e]; exact spec_j2 s x a b _ (by omega)
    by_cases c : bt s 0 = 45
    · rw [if_pos c, hn]
      exact hsv _ (by unfold sval; rw [if_pos c]) (by omega) (by omega)
    · rw [if_neg c]
      exact hsv _ (by unfold sval; rw [if_neg c]) (by omega) (by omega)
  | d + 1, i, h, k, hk => by
    have hi : i < s.size := by omega
    obtain ⟨c, c1, c2⟩ := bt_at s i hi
    have hc : c.toNat < 256 := c.toNat_lt
    have ht : s.data.toList.take (i + 1) = s.data.toList.take i ++ [c] := by
      rw [List.take_add_one, c1]; rfl
    have ih := spec_loop s h1 h2 d (i + 1) (by omega) k hk
    have hb : foldV (s.data.toList.take i) 0 < 10 ^ 11 := by
      have := foldV_small (s.data.toList.take i) 0 0 (by omega)
      have hl : (s.data.toList.take i).length ≤ 11 := by rw [List.length_take]; omega
      exact Nat.lt_of_lt_of_le this (Nat.pow_le_pow_right (by omega) (by omega))
    rw [ht, foldV_append] at ih
    have hstep : foldV [c] (foldV (s.data.toList.take i) 0) = dstep (foldV (s.data.toList.take i) 0) c := rfl
    rw [hstep] at ih
    generalize foldV (s.data.toList.take i) 0 = a at *
    rw [show k + (d + 1) + 1 = (k + d + 1) + 1 by omega, spec_l01Value.l0, if_pos (by omega), if_pos (by omega), c2, wsucc (by omega) (by omega)]
    by_cases g1 : (c.toNat : Int) ≥ 48
    · by_cases g2 : (c.toNat : Int) ≤ 57
      · rw [if_pos g1, if_pos g2, wr (10 * (a : Int)) (by omega) (by omega), wr _ (by omega) (by omega)]
        have e : dstep a c = 10 * a + (c.toNat - 48) := by unfold dstep; rw [if_pos (by omega)]
        rw [e] at ih
        rw [← ih]
        congr 1
        omega
      · rw [if_pos g1, if_neg g2]
        have e : dstep a c = a := by unfold dstep; rw [if_neg (by omega)]
        rw [e] at ih
        exact ih
    · rw [if_neg g1]
      have e : dstep a c = a := by unfold dstep; rw [if_neg (by omega)]
      rw [e] at ih
      exact ih
theorem value_spec (s : ByteArray) (k : Nat) (hk : 120 ≤ k) : spec_l01Value.f k s = some (specD s) := by
  obtain ⟨k, rfl⟩ : ∃ j, k = j + 1 := ⟨k - 1, by omega⟩
  unfold spec_l01Value.f specD
  by_cases h1 : (s.size : Int) < 1
  · rw [if_pos h1, spec_l01Value.j0, if_pos rfl, if_neg (by omega)]
  · rw [if_neg h1, spec_l01Value.j0]
    by_cases h2 : (s.size : Int) > 11
    · rw [if_pos (by simpa using h2), if_neg (by omega)]
    · rw [if_neg (by simpa using h2)]
      obtain ⟨j, rfl⟩ : ∃ j, k = j + s.size + 1 := ⟨k - s.size - 1, by omega⟩
      have := spec_loop s (by omega) (by omega) s.size 0 (by omega) j (by omega)
      refine this.trans ?_
      congr 1
      by_cases c : (-1000000000 ≤ sval s ∧ sval s ≤ 1000000000) ∧ decB (sval s) = s
      · rw [if_pos c, if_pos ⟨by omega, c⟩]
      · rw [if_neg c, if_neg (fun h => c h.2)]
def textByte (s : ByteArray) (j : Nat) : Bool := decide (32 ≤ bt s j ∧ bt s j ≤ 126)
def textB (s : ByteArray) : Bool := (List.range s.size).all (textByte s) && decide ((s.size : Int) ≤ 80)
theorem bt_nat (s : ByteArray) (i : Int) (h0 : 0 ≤ i) : bt s ((i.toNat : Nat) : Int) = bt s i := by rw [Int.toNat_of_nonneg h0]
theorem IsText_from (s : ByteArray) (hs : s.size ≤ 1048576) : From (fun k => impl_IsText.f k s) (textB s) := by
  have := test_loopB (fun k i => impl_IsText.l0 k s s.size i) s.size 0 (textByte s) (decide ((s.size : Int) ≤ 80)) (fun k i _ h0 h1 => by
    simp only [impl_IsText.l0, h0, h1, if_true, wsucc h0 (by omega), textByte, bt_nat s i h0]
    by_cases c1 : bt s i < 32
    · have c2 : ¬ (32 ≤ bt s i ∧ bt s i ≤ 126) := by omega
      simp only [c1, c2, if_true, decide_false, Bool.false_eq_true, if_false]
    · by_cases c3 : bt s i > 126
      · have c2 : ¬ (32 ≤ bt s i ∧ bt s i ≤ 126) := by omega
        simp only [c1, c3, c2, if_true, decide_false, Bool.false_eq_true, if_false]
      · have c2 : 32 ≤ bt s i ∧ bt s i ≤ 126 := by omega
        simp only [c1, c3, c2, if_false, decide_true, if_true, and_self]) (fun k _ => by simp only [impl_IsText.l0, Int.lt_irrefl, if_false])
  exact this
theorem l01IsText_from (s : ByteArray) (hs : s.size ≤ 1048576) : From (fun k => spec_l01IsText.f k s) (textB s) := by
  have := test_loopB (fun k i => spec_l01IsText.l0 k s i) s.size 0 (textByte s) (decide ((s.size : Int) ≤ 80)) (fun k i _ h0 h1 => by
    simp only [spec_l01IsText.l0, h0, h1, if_true, wsucc h0 (by omega), textByte, bt_nat s i h0]
    by_cases c1 : bt s i < 32
    · have c2 : ¬ (32 ≤ bt s i ∧ bt s i ≤ 126) := by omega
      simp only [c1, c2, if_true, decide_false, Bool.false_eq_true, if_false]
    · by_cases c3 : bt s i > 126
      · have c2 : ¬ (32 ≤ bt s i ∧ bt s i ≤ 126) := by omega
        simp only [c1, c3, c2, if_true, decide_false, Bool.false_eq_true, if_false]
      · have c2 : 32 ≤ bt s i ∧ bt s i ≤ 126 := by omega
        simp only [c1, c3, c2, if_false, decide_true, if_true, and_self]) (fun k _ => by simp only [spec_l01IsText.l0, Int.lt_irrefl, if_false])
  exact this
theorem text_short {s : ByteArray} (h : textB s = true) : s.size ≤ 80 := by
  unfold textB at h
  rw [Bool.and_eq_true, decide_eq_true_eq] at h
  omega
theorem l00Put_done (l : List Int) (n : Int) (h : l.length ≤ 1048576) : ∀ (m k : Nat) (out : List Int) (i : Int), 0 ≤ i → i ≤ l.length → (l.length : Int) - i = m → 2 * m < k → out.length ≤ 2097152 - m → spec_l00Put.l0 k l n out true i = some (out ++ l.drop i.toNat) := by
  intro m
  induction m with
  | zero =>
    intro k out i h0 h1 hm hk ho
    obtain ⟨k, rfl⟩ : ∃ m, k = m + 1 := ⟨k - 1, by omega⟩
    have hi : ¬ i < (l.length : Int) := by omega
    simp only [spec_l00Put.l0, hi, if_false, if_true]
    rw [List.drop_of_length_le (by omega), List.append_nil]
  | succ m ih =>
    intro k out i h0 h1 hm hk ho
    obtain ⟨k, rfl⟩ : ∃ m, k = m + 2 := ⟨k - 2, by omega⟩
    have hi : i < (l.length : Int) := by omega
    have hin : i.toNat < l.length := by omega
    have hb : out.length < 17592186044416 := by omega
    simp only [spec_l00Put.l0, spec_l00Put.j1, hi, h0, hb, if_true, if_false, Bool.false_eq_true, wsucc h0 (by omega), rd]
    rw [ih k _ (i + 1) (by omega) (by omega) (by omega) (by omega) (by simp; omega), List.drop_eq_getElem_cons hin, show (i + 1).toNat = i.toNat + 1 by omega, List.getD_eq_getElem?_getD, List.getElem?_eq_getElem hin]
    simp [-List.getElem_cons_drop]
theorem l00Put_rounds (l : List Int) (n : Int) (h : l.length ≤ 1048576) : ∀ (m k : Nat) (out : List Int) (i : Int), 0 ≤ i → i ≤ l.length → (l.length : Int) - i = m → 2 * m < k → (out.length : Int) = i → spec_l00Put.l0 k l n out false i = some (out ++ putL (l.drop i.toNat) n) := by
  intro m
  induction m with
  | zero =>
    intro k out i h0 h1 hm hk ho
    obtain ⟨k, rfl⟩ : ∃ m, k = m + 1 := ⟨k - 1, by omega⟩
    have hi : ¬ i < (l.length : Int) := by omega
    have hb : out.length < 17592186044416 := by omega
    simp only [spec_l00Put.l0, hi, hb, if_false, if_true, Bool.false_eq_true]
    rw [List.drop_of_length_le (by omega), putL]
  | succ m ih =>
    intro k out i h0 h1 hm hk ho
    obtain ⟨k, rfl⟩ : ∃ m, k = m + 2 := ⟨k - 2, by omega⟩
    have hi : i < (l.length : Int) := by omega
    have hin : i.toNat < l.length := by omega
    have hb : out.length < 17592186044416 := by omega
    have hb2 : out.length + 1 < 17592186044416 := by omega
    have hx : l.getD i.toNat 0 = l[i.toNat] := by rw [List.getD_eq_getElem?_getD, List.getElem?_eq_getElem hin]; rfl
    rw [List.drop_eq_getElem_cons hin]
    by_cases c1 : l[i.toNat] ≥ n
    · by_cases c2 : l[i.toNat] > n
      · simp only [spec_l00Put.l0, spec_l00Put.j1, hi, h0, hb, hb2, if_true, if_false, Bool.false_eq_true, wsucc h0 (by omega), rd, hx, c1, c2, decide_true, Option.bind_some, List.length_append, List.length_singleton, putL]
        rw [l00Put_done l n h m k _ (i + 1) (by omega) (by omega) (by omega) (by omega) (by simp; omega), show (i + 1).toNat = i.toNat + 1 by omega]
        simp [-List.getElem_cons_drop]
      · simp only [spec_l00Put.l0, spec_l00Put.j1, hi, h0, hb, if_true, if_false, Bool.false_eq_true, wsucc h0 (by omega), rd, hx, c1, c2, decide_true, putL]
        rw [l00Put_done l n h m k _ (i + 1) (by omega) (by omega) (by omega) (by omega) (by simp; omega), show (i + 1).toNat = i.toNat + 1 by omega]
        simp [-List.getElem_cons_drop]
    · simp only [spec_l00Put.l0, spec_l00Put.j1, hi, h0, hb, if_true, if_false, Bool.false_eq_true, wsucc h0 (by omega), rd, hx, c1, decide_false, putL]
      rw [ih k _ (i + 1) (by omega) (by omega) (by omega) (by omega) (by simp; omega), show (i + 1).toNat = i.toNat + 1 by omega]
      simp
theorem l00Put_from (l : List Int) (n : Int) (h : l.length ≤ 1048576) : ∀ k, 2 * l.length + 1 ≤ k → spec_l00Put.f k l n = some (putL l n) := fun k hk => by
  have := l00Put_rounds l n h l.length k [] 0 (by omega) (by omega) (by omega) (by omega) (by simp)
  simpa [spec_l00Put.f] using this
theorem eqInt64S_from (l : List Int) (h : l.length ≤ 1073741824) : From (fun k => laws_eqInt64S.f k l l) true := by
  obtain ⟨K, hK⟩ := all_loop (fun k i => laws_eqInt64S.l0 k l l i) l.length (by omega) 0 true (fun k i _ h0 h1 => by
      simp only [laws_eqInt64S.l0, h0, h1, if_true, wsucc h0 (by omega)]) (fun k i _ h _ => by simp only [laws_eqInt64S.l0, h, if_false])
  refine ⟨K, fun k hk => ?_⟩
  simp only [laws_eqInt64S.f, if_true]
  exact hK k hk
theorem markInt64S_from (l : List Int) (m : Int) (hm : 0 ≤ m) (hb : m ≤ 4294967296) (h : l.length ≤ 1073741824) :
    ∃ ys, From (fun k => laws_markInt64S.f k l m) (m + 1 * l.length, ys) ∧ ys.length = l.length ∧ ∀ j : Nat, j < l.length → ys[j]? = some (m + 1 * j) :=
  mark_all (F := fun k xs m i => laws_markInt64S.l0 k xs m i) 1 (by omega) (by omega) (fun m => m) (fun k xs m i h0 h1 h2 h3 h4 => by
    simp only [laws_markInt64S.l0, h0, h1, if_true, wsucc h0 h2, wsucc h3 (by omega)]) (fun k xs m i h => by simp only [laws_markInt64S.l0, h, if_false]) l m hm (by omega) (by omega)
theorem heldInt64S_from (ys : List Int) (m : Int) (hm : 0 ≤ m) (hb : m ≤ 4294967296) (h : ys.length ≤ 1073741824) (hy : ∀ j : Nat, j < ys.length → ys[j]? = some (m + 1 * j)) :
    From (fun k => laws_heldInt64S.f k ys m) (m + 1 * ys.length) := by
  obtain ⟨K, hK⟩ := all_loop (fun k i => laws_heldInt64S.l0 k ys (m + 1 * i) i) ys.length (by omega) 0 (m + 1 * ys.length) (fun k i _ h0 h1 => by
      have hr : rd ys i = m + 1 * i := by
        have := hy i.toNat (by omega)
        rw [rd, getD_of this]; omega
      simp only [laws_heldInt64S.l0, h0, h1, if_true, hr, wsucc h0 (by omega), wsucc (show 0 ≤ m + 1 * i by omega) (by omega)]
      congr 1; omega) (fun k i _ h he => by subst he; simp only [laws_heldInt64S.l0, h, if_false])
  refine ⟨K, fun k hk => ?_⟩
  simp only [laws_heldInt64S.f]
  have := hK k hk
  simpa using this
/-- What the law does to numbers that were returned: equal to themselves, marked, and the marks held. -/
theorem ints_law (l : List Int) (h : l.length ≤ 1073741824) : ∃ ys : List Int, From (fun k => laws_markInt64S.f k l 1) (1 + l.length, ys) ∧ From (fun k => laws_heldInt64S.f k ys 1) (1 + l.length) := by
  obtain ⟨ys, h1, h2, h3⟩ := markInt64S_from l 1 (by omega) (by omega) h
  refine ⟨ys, by simpa using h1, ?_⟩
  have := heldInt64S_from ys 1 (by omega) (by omega) (by omega) (fun j hj => h3 j (by omega))
  rw [h2] at this
  simpa using this
/-- The law over a text whose answer is a list of numbers: from what both answer. -/
theorem law_str (both_from : ∀ s : ByteArray, s.size ≤ 1048576 → ∃ g : List Int × Bool, g.1.length ≤ 1048576 ∧ From (fun k => spec_MentionsOf.f k s) g ∧ From (fun k => impl_MentionsOf.f k s) g) : laws_FnExactMentionsOf.Pure := by
  intro s _
  by_cases c0 : (s.size : Int) > 1048576
  · exact ⟨0, by simp only [laws_FnExactMentionsOf.f, c0, if_true]⟩
  obtain ⟨g, hg, ⟨K8, e8⟩, ⟨K9, e9⟩⟩ := both_from s (by omega)
  obtain ⟨K10, e10⟩ := eqInt64S_from g.1 (by omega)
  obtain ⟨ys, ⟨K11, e11⟩, ⟨K12, e12⟩⟩ := ints_law g.1 (by omega)
  generalize hK : K8 + K9 + K10 + K11 + K12 = K
  refine ⟨K + 10, ?_⟩
  have hp : ¬ (1 + (g.1.length : Int)) < 0 := by omega
  have hb : (g.2 != g.2) = false := by simp
  have E8 := fun i => e8 (K + i) (by omega)
  have E9 := fun i => e9 (K + i) (by omega)
  have E10 := fun i => e10 (K + i) (by omega)
  have E11 := fun i => e11 (K + i) (by omega)
  have E12 := fun i => e12 (K + i) (by omega)
  simp only [laws_FnExactMentionsOf.f, c0, if_false]
  simp only [laws_FnExactMentionsOf.j0, E8, E9, E10, hb, Option.bind_some, if_true]
  simp only [laws_FnExactMentionsOf.j1, Bool.false_eq_true, if_false]
  simp only [laws_FnExactMentionsOf.j2, E11, E12, hp, Option.bind_some, if_false]
  simp only [laws_FnExactMentionsOf.j3, if_true]
  simp only [laws_FnExactMentionsOf.j4, E9, E10, hb, Option.bind_some, if_true]
  simp only [laws_FnExactMentionsOf.j5, Bool.false_eq_true, if_false]
  simp only [laws_FnExactMentionsOf.j6, E12, hp, Option.bind_some, if_true, if_false]
def digitB (c : Int) : Bool := decide (48 ≤ c ∧ c ≤ 57)
theorem digit_spec (c : Int) : spec_l01Digit.f c = some (digitB c) := by
  unfold spec_l01Digit.f digitB
  split
  · congr 1; rw [decide_eq_decide]; omega
  · congr 1; symm; rw [decide_eq_false_iff_not]; omega
theorem digit_impl (c : Int) : impl_isDigit.f c = some (digitB c) := digit_spec c
/-- Where the digits end. -/
def endAt (s : ByteArray) : Nat → Nat → Nat
  | 0, i => i
  | d + 1, i => if digitB (bt s (i : Int)) = true then endAt s d (i + 1) else i
theorem endAt_le (s : ByteArray) : ∀ d i, i ≤ endAt s d i ∧ endAt s d i ≤ i + d
  | 0, i => ⟨Nat.le_refl _, Nat.le_refl _⟩
  | d + 1, i => by
    unfold endAt
    split
    · have := endAt_le s d (i + 1); omega
    · omega
def menAt (s : ByteArray) (i : Nat) : Option Int :=
  if bt s (i : Int) = 64 then (if (specD (s.extract (i + 1) (endAt s (s.size - (i + 1)) (i + 1)))).2 = true ∧ (1 ≤ (specD (s.extract (i + 1) (endAt s (s.size - (i + 1)) (i + 1)))).1 ∧ (specD (s.extract (i + 1) (endAt s (s.size - (i + 1)) (i + 1)))).1 ≤ 1000) then some (specD (s.extract (i + 1) (endAt s (s.size - (i + 1)) (i + 1)))).1 else none) else none
def mens (s : ByteArray) : Nat → Nat → List Int
  | 0, _ => []
  | d + 1, i => (menAt s i).toList ++ mens s d (i + 1)
theorem mens_len (s : ByteArray) : ∀ d i, (mens s d i).length ≤ d
  | 0, _ => Nat.le_refl _
  | d + 1, i => by
    have := mens_len s d (i + 1)
    unfold mens
    rw [List.length_append]
    have : (menAt s i).toList.length ≤ 1 := by cases menAt s i <;> simp
    omega
theorem from_step {α : Type} {f g : Nat → Option α} {r : α} (h : From f r) (K : Nat) (e : ∀ k, K ≤ k → g (k + 1) = f k) : From g r := by
  obtain ⟨L, hL⟩ := h
  refine ⟨K + L + 1, fun k hk => ?_⟩
  obtain ⟨k, rfl⟩ : ∃ n, k = n + 1 := ⟨k - 1, by omega⟩
  rw [e k (by omega)]
  exact hL k (by omega)
theorem spec_l1 (s : ByteArray) (hs : s.size ≤ 1048576) (out : List Int) (i : Nat) (r : List Int) : ∀ (d j : Nat), j + d = s.size → From (fun k => spec_l01Mentions.j2 k s out (i : Int) ((endAt s d j : Nat) : Int)) r → From (fun k => spec_l01Mentions.l1 k s out (i : Int) (j : Int)) r
  | 0, j, h, hf => from_step hf 0 fun k _ => by
    rw [spec_l01Mentions.l1, if_neg (by omega)]
    rfl
  | d + 1, j, h, hf => by
    by_cases c : digitB (bt s (j : Int)) = true
    · rw [endAt, if_pos c] at hf
      refine from_step (spec_l1 s hs out i r d (j + 1) (by omega) hf) 0 fun k _ => ?_
      rw [spec_l01Mentions.l1, if_pos (by omega), if_pos (by omega), digit_spec, Option.bind_some, if_pos c, wsucc (by omega) (by omega)]
      rfl
    · rw [endAt, if_neg c] at hf
      refine from_step hf 0 fun k _ => ?_
      rw [spec_l01Mentions.l1, if_pos (by omega), if_pos (by omega), digit_spec, Option.bind_some, if_neg c]
theorem impl_l1 (s : ByteArray) (hs : s.size ≤ 1048576) (out : List Int) (i : Nat) (n m : Int) (r : List Int) : ∀ (d j : Nat), j + d = s.size → From (fun k => impl_mentions.j2 k s out (i : Int) ((endAt s d j : Nat) : Int) n m) r → From (fun k => impl_mentions.l1 k s out (i : Int) (j : Int) n m) r
  | 0, j, h, hf => from_step hf 0 fun k _ => by
    rw [impl_mentions.l1, if_neg (by omega)]
    rfl
  | d + 1, j, h, hf => by
    by_cases c : digitB (bt s (j : Int)) = true
    · rw [endAt, if_pos c] at hf
      refine from_step (impl_l1 s hs out i n m r d (j + 1) (by omega) hf) 0 fun k _ => ?_
      rw [impl_mentions.l1, if_pos (by omega), if_pos (by omega), digit_impl, Option.bind_some, if_pos c, wsucc (by omega) (by omega)]
      rfl
    · rw [endAt, if_neg c] at hf
      refine from_step hf 0 fun k _ => ?_
      rw [impl_mentions.l1, if_pos (by omega), if_pos (by omega), digit_impl, Option.bind_some, if_neg c]
theorem part_size (s : ByteArray) (a b : Nat) : (s.extract a b).size ≤ s.size := by
  rw [ByteArray.size_extract]; omega
theorem spec_mens (s : ByteArray) (hs : s.size ≤ 524288) : ∀ (d i : Nat) (out : List Int), i + d = s.size → out.length ≤ i → From (fun k => spec_l01Mentions.l0 k s out (i : Int)) (putMany out (mens s d i))
  | 0, i, out, h, ho => by
    refine ⟨1, fun k hk => ?_⟩
    obtain ⟨k, rfl⟩ : ∃ n, k = n + 1 := ⟨k - 1, by omega⟩
    show spec_l01Mentions.l0 (k + 1) s out (i : Int) = _
    rw [spec_l01Mentions.l0, if_neg (by omega)]
    rfl
  | d + 1, i, out, h, ho => by
    have hi : i < s.size := by omega
    have hw : wrap64 ((i : Int) + 1) = ((i + 1 : Nat) : Int) := by rw [wsucc (by omega) (by omega)]; rfl
    unfold mens
    by_cases c : bt s (i : Int) = 64
    · have hle := endAt_le s (s.size - (i + 1)) (i + 1)
      obtain ⟨t, ht⟩ : ∃ t, t = endAt s (s.size - (i + 1)) (i + 1) := ⟨_, rfl⟩
      have hm : menAt s i = (if (specD (s.extract (i + 1) t)).2 = true ∧ (1 ≤ (specD (s.extract (i + 1) t)).1 ∧ (specD (s.extract (i + 1) t)).1 ≤ 1000) then some (specD (s.extract (i + 1) t)).1 else none) := by
        unfold menAt; rw [if_pos c, ← ht]
      rw [← ht] at hle
      rw [hm]
      refine from_step (f := fun k => spec_l01Mentions.l1 k s out (i : Int) ((i + 1 : Nat) : Int)) (spec_l1 s (by omega) out i _ (s.size - (i + 1)) (i + 1) (by omega) ?_) 0 fun k _ => ?_
      · rw [← ht]
        have hv := fun k (hk : 120 ≤ k) => value_spec (s.extract (i + 1) t) k hk
        generalize specD (s.extract (i + 1) t) = g at *
        obtain ⟨v, b⟩ := g
        cases b with
        | false =>
          refine from_step (spec_mens s hs d (i + 1) out (by omega) (by omega)) 120 fun k hk => ?_
          rw [spec_l01Mentions.j2, hw, if_pos (by omega), if_pos (by omega), if_pos (by omega), Int.toNat_natCast, Int.toNat_natCast, hv k hk, Option.bind_some]
          simp
        | true =>
          by_cases g : 1 ≤ v ∧ v ≤ 1000
          · have hp := l00Put_from out v (by omega)
            have hlen : (putL out v).length ≤ i + 1 := by have := putMany_length [v] out; simp [putMany] at this; omega
            have := spec_mens s hs d (i + 1) (putL out v) (by omega) hlen
            refine from_step (f := fun k => spec_l01Mentions.l0 k s (putL out v) ((i + 1 : Nat) : Int)) (by simpa [g, putMany] using this) (2 * out.length + 200) fun k hk => ?_
            rw [spec_l01Mentions.j2, hw, if_pos (by omega), if_pos (by omega), if_pos (by omega), Int.toNat_natCast, Int.toNat_natCast, hv k (by omega), Option.bind_some]
            simp only [if_true, spec_l01Member.f, in_eq, in_some, Option.bind_some, g, and_self, decide_true, hp k (by omega)]
          · refine from_step (f := fun k => spec_l01Mentions.l0 k s out ((i + 1 : Nat) : Int)) (by simpa [g] using spec_mens s hs d (i + 1) out (by omega) (by omega)) 120 fun k hk => ?_
            rw [spec_l01Mentions.j2, hw, if_pos (by omega), if_pos (by omega), if_pos (by omega), Int.toNat_natCast, Int.toNat_natCast, hv k hk, Option.bind_some]
            simp only [if_true, spec_l01Member.f, in_eq, in_some, Option.bind_some, g, decide_false, Bool.false_eq_true, if_false]
      · show spec_l01Mentions.l0 (k + 1) s out (i : Int) = _
        rw [spec_l01Mentions.l0, if_pos (by omega), if_pos (by omega), if_pos c, hw]
    · have hm : menAt s i = none := by unfold menAt; rw [if_neg c]
      rw [hm]
      refine from_step (spec_mens s hs d (i + 1) out (by omega) (by omega)) 0 fun k _ => ?_
      show spec_l01Mentions.l0 (k + 1) s out (i : Int) = _
      rw [spec_l01Mentions.l0, if_pos (by omega), if_pos (by omega), if_neg c, hw]
theorem impl_mens (s : ByteArray) (hs : s.size ≤ 524288) : ∀ (d i : Nat) (out : List Int), i + d = s.size → out.length ≤ i → From (fun k => impl_mentions.l0 k s out (s.size : Int) (i : Int)) (setOf (out ++ mens s d i))
  | 0, i, out, h, ho => by
    refine ⟨1, fun k hk => ?_⟩
    obtain ⟨k, rfl⟩ : ∃ n, k = n + 1 := ⟨k - 1, by omega⟩
    show impl_mentions.l0 (k + 1) s out (s.size : Int) (i : Int) = _
    have h3 : out.length < 4611686018427387904 := by omega
    have h4 : (out.mergeSort fun x y => decide (x ≤ y)).length ≤ 9223372036854775807 := by rw [List.length_mergeSort]; omega
    rw [impl_mentions.l0, if_neg (by omega), slices_Sort.f, if_pos h3, Option.bind_some, slices_Compact.f, if_pos h4, Option.bind_some]
    unfold mens setOf
    rw [List.append_nil]
  | d + 1, i, out, h, ho => by
    have hi : i < s.size := by omega
    have hw : wrap64 ((i : Int) + 1) = ((i + 1 : Nat) : Int) := by rw [wsucc (by omega) (by omega)]; rfl
    unfold mens
    by_cases c : bt s (i : Int) = 64
    · have hle := endAt_le s (s.size - (i + 1)) (i + 1)
      obtain ⟨t, ht⟩ : ∃ t, t = endAt s (s.size - (i + 1)) (i + 1) := ⟨_, rfl⟩
      have hm : menAt s i = (if (specD (s.extract (i + 1) t)).2 = true ∧ (1 ≤ (specD (s.extract (i + 1) t)).1 ∧ (specD (s.extract (i + 1) t)).1 ≤ 1000) then some (specD (s.extract (i + 1) t)).1 else none) := by
        unfold menAt; rw [if_pos c, ← ht]
      rw [← ht] at hle
      rw [hm]
      refine from_step (f := fun k => impl_mentions.l1 k s out (i : Int) ((i + 1 : Nat) : Int) (s.size : Int) (i : Int)) (impl_l1 s (by omega) out i _ _ _ (s.size - (i + 1)) (i + 1) (by omega) ?_) 0 fun k _ => ?_
      · rw [← ht]
        have hv : impl_ReadDecimal.f (s.extract (i + 1) t) = some (specD (s.extract (i + 1) t)) := by
          unfold impl_ReadDecimal.f
          rw [if_pos (by have := part_size s (i + 1) t; omega), specD_readD]
        generalize specD (s.extract (i + 1) t) = g at *
        obtain ⟨v, b⟩ := g
        have hb : out.length < 17592186044416 := by omega
        cases b with
        | false =>
          refine from_step (impl_mens s hs d (i + 1) out (by omega) (by omega)) 0 fun k hk => ?_
          rw [impl_mentions.j2, hw, if_pos (by omega), if_pos (by omega), if_pos (by omega), Int.toNat_natCast, Int.toNat_natCast, hv, Option.bind_some]
          simp
        | true =>
          by_cases g : 1 ≤ v ∧ v ≤ 1000
          · have := impl_mens s hs d (i + 1) (out ++ [v]) (by omega) (by simp; omega)
            refine from_step (f := fun k => impl_mentions.l0 k s (out ++ [v]) (s.size : Int) ((i + 1 : Nat) : Int)) (by simpa [g] using this) 0 fun k hk => ?_
            rw [impl_mentions.j2, hw, if_pos (by omega), if_pos (by omega), if_pos (by omega), Int.toNat_natCast, Int.toNat_natCast, hv, Option.bind_some]
            simp only [if_true, impl_isMember.f, in_some, Option.bind_some, g, and_self, decide_true, hb]
          · refine from_step (f := fun k => impl_mentions.l0 k s out (s.size : Int) ((i + 1 : Nat) : Int)) (by simpa [g] using impl_mens s hs d (i + 1) out (by omega) (by omega)) 0 fun k hk => ?_
            rw [impl_mentions.j2, hw, if_pos (by omega), if_pos (by omega), if_pos (by omega), Int.toNat_natCast, Int.toNat_natCast, hv, Option.bind_some]
            simp only [if_true, impl_isMember.f, in_some, Option.bind_some, g, decide_false, Bool.false_eq_true, if_false]
      · show impl_mentions.l0 (k + 1) s out (s.size : Int) (i : Int) = _
        rw [impl_mentions.l0, if_pos (by omega), if_pos (by omega), if_pos (by omega), if_pos c, hw]
    · have hm : menAt s i = none := by unfold menAt; rw [if_neg c]
      rw [hm]
      refine from_step (impl_mens s hs d (i + 1) out (by omega) (by omega)) 0 fun k _ => ?_
      show impl_mentions.l0 (k + 1) s out (s.size : Int) (i : Int) = _
      rw [impl_mentions.l0, if_pos (by omega), if_pos (by omega), if_pos (by omega), if_neg c, hw]
theorem FnExactMentionsOf : laws_FnExactMentionsOf.Pure := law_str fun s hs => by
  obtain ⟨K1, e1⟩ := l01IsText_from s hs
  obtain ⟨K2, e2⟩ := IsText_from s hs
  cases ho : textB s with
  | false =>
    rw [ho] at e1 e2
    exact ⟨([], false), by simp, ⟨K1, fun k hk => by simp only [spec_MentionsOf.f, e1 k hk, Option.bind_some, Bool.false_eq_true, if_false]⟩, ⟨K2, fun k hk => by simp only [impl_MentionsOf.f, e2 k hk, Option.bind_some, Bool.false_eq_true, if_false]⟩⟩
  | true =>
    have hz := text_short ho
    obtain ⟨K3, e3⟩ := spec_mens s (by omega) s.size 0 [] (by omega) (by simp)
    obtain ⟨K4, e4⟩ := impl_mens s (by omega) s.size 0 [] (by omega) (by simp)
    rw [List.nil_append, setOf_eq_putMany] at e4
    have hlen : (putMany [] (mens s s.size 0)).length ≤ 1048576 := by
      have h1 := putMany_length (mens s s.size 0) []
      have h2 := mens_len s s.size 0
      simp only [List.length_nil] at h1
      omega
    rw [ho] at e1 e2
    refine ⟨(putMany [] (mens s s.size 0), true), hlen, ⟨K1 + K3, fun k hk => ?_⟩, ⟨K2 + K4, fun k hk => ?_⟩⟩
    · have : spec_l01Mentions.f k s = some (putMany [] (mens s s.size 0)) := e3 k (by omega)
      simp only [spec_MentionsOf.f, e1 k (by omega), this, Option.bind_some, if_true]
    · have : impl_mentions.f k s = some (putMany [] (mens s s.size 0)) := e4 k (by omega)
      simp only [impl_MentionsOf.f, e2 k (by omega), this, Option.bind_some, if_true]

end Go.Proofs.YtohaaidbnabkiaaDoor.Pure
