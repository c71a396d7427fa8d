/- The program's Decimal returns what the reference's returns, for every number. -/
import Derived.Test.YtopdflppdpmblaaDoorXFnExactDecimalx1
namespace Go.Proofs.YtopdflppdpmblaaDoor.Pure
open Go.RowKit Go.Proofs.YtopdflppdpmblaaDoor.XFnExactDecimal Go.Proofs.YtopdflppdpmblaaDoorW.PrintWords Go.Proofs.YtopdflppdpmblaaDoorW.PrintLast
set_option linter.unusedVariables false
set_option linter.unusedSimpArgs false

def digI (u : Nat) : List Int := (Lib.decDigits u).map fun b => (b.toNat : Int)
theorem digI_small {u : Nat} (h : u < 10) : digI u = [48 + (u : Int)] := by
  rw [digI, Lib.decDigits, dif_pos h]
  simp only [List.map_cons, List.map_nil, UInt8.toNat_ofNat']
  congr 1
  omega
theorem digI_big {u : Nat} (h : ¬ u < 10) : digI u = digI (u / 10) ++ [48 + ((u % 10 : Nat) : Int)] := by
  rw [digI, Lib.decDigits, dif_neg h, List.map_append]
  simp only [List.map_cons, List.map_nil, UInt8.toNat_ofNat']
  congr 2
  omega
def signed (n : Int) (xs : List Int) : List Int := if n < 0 then 45 :: xs else xs
theorem tm10 (x : Int) : Int.tmod x 10 = if x < 0 then -((x.natAbs % 10 : Nat) : Int) else ((x.natAbs % 10 : Nat) : Int) := by
  split
  · rename_i h
    obtain ⟨y, rfl⟩ : ∃ y : Int, x = -y := ⟨-x, by omega⟩
    rw [Int.neg_tmod, Int.tmod_eq_emod_of_nonneg (by omega)]; omega
  · rw [Int.tmod_eq_emod_of_nonneg (by omega)]; omega
theorem td10 (x : Int) : Int.tdiv x 10 = if x < 0 then -((x.natAbs / 10 : Nat) : Int) else ((x.natAbs / 10 : Nat) : Int) := by
  split
  · rename_i h
    obtain ⟨y, rfl⟩ : ∃ y : Int, x = -y := ⟨-x, by omega⟩
    rw [Int.neg_tdiv, Int.tdiv_eq_ediv_of_nonneg (by omega)]; omega
  · rw [Int.tdiv_eq_ediv_of_nonneg (by omega)]; omega
theorem wr (x : Int) (h0 : -9223372036854775808 ≤ x) (h1 : x ≤ 9223372036854775807) : wrap64 x = x := by unfold wrap64; omega
theorem dec_step (n : Int) (x3 : List Int) (x : Int) (h0 : -9223372036854775808 ≤ x) (h1 : x ≤ 9223372036854775807) (hl : x3.length ≤ 100) (k : Nat) :
    spec_l01Dec.j1 (k + 1) n x3 x true = spec_l01Dec.l0 k n ((48 + ((x.natAbs % 10 : Nat) : Int)) :: x3) (Int.tdiv x 10) := by
  have ht := tm10 x
  have hd := td10 x
  have hw : wrap64 (Int.tdiv x 10) = Int.tdiv x 10 := by
    rw [hd]; split <;> exact wr _ (by omega) (by omega)
  have hlen : ∀ c : Int, ([c] : List Int).length + x3.length < 140737488355328 := fun c => by simp only [List.length_cons, List.length_nil]; omega
  rw [spec_l01Dec.j1, if_pos rfl, hw]
  by_cases c : Int.tmod x 10 < 0
  · have hx : x < 0 := by rw [ht] at c; split at c <;> omega
    rw [if_pos c, Option.bind_some, if_pos (hlen _), ht, if_pos hx, Int.neg_neg, wr ((x.natAbs % 10 : Nat) : Int) (by omega) (by omega), wr (48 + ((x.natAbs % 10 : Nat) : Int)) (by omega) (by omega)]
    congr 1
    show _ :: x3 = _
    congr 1
    omega
  · have hx : Int.tmod x 10 = ((x.natAbs % 10 : Nat) : Int) := by rw [ht] at c ⊢; split at c <;> split <;> omega
    rw [if_neg c, Option.bind_some, if_pos (hlen _), hx, wr _ (by omega) (by omega)]
    congr 1
    show _ :: x3 = _
    congr 1
    omega
theorem dec_end (n : Int) (x3 : List Int) (h : x3.length ≠ 0) (hl : x3.length ≤ 101) (k : Nat) : spec_l01Dec.l0 (k + 2) n x3 0 = some (strOfNums (signed n x3)) := by
  rw [spec_l01Dec.l0, if_neg (by omega), spec_l01Dec.j1]
  simp only [bne_self_eq_false, Bool.false_eq_true, if_false]
  unfold signed
  split
  · rw [Option.bind_some, if_pos (by simp only [List.length_cons, List.length_nil]; omega)]; rfl
  · rfl
theorem dec_loop (n : Int) : ∀ (m u : Nat), u < 10 ^ m → ∀ (x : Int) (x3 : List Int), x.natAbs = u → (x3.length = 0 ∨ u ≠ 0) → x3.length + m ≤ 100 → -9223372036854775808 ≤ x → x ≤ 9223372036854775807 → ∀ k, 2 * m + 4 ≤ k →
    spec_l01Dec.l0 k n x3 x = some (strOfNums (signed n (digI u ++ x3)))
  | m, u, hm, x, x3, hu, h3, hl, h0, h1, k, hk => by
    obtain ⟨k, rfl⟩ : ∃ j, k = j + 2 := ⟨k - 2, by omega⟩
    have hgo : spec_l01Dec.l0 (k + 2) n x3 x = spec_l01Dec.j1 (k + 1) n x3 x true := by
      rw [spec_l01Dec.l0]
      split
      · rfl
      · rename_i hc
        have : (x != 0) = true := by
          simp only [bne_iff_ne, ne_eq]
          intro e; subst e; simp at hu; omega
        rw [this]
    rw [hgo, dec_step n x3 x h0 h1 (by omega), hu]
    by_cases hs : u < 10
    · have hz : Int.tdiv x 10 = 0 := by rw [td10]; split <;> omega
      obtain ⟨k, rfl⟩ : ∃ j, k = j + 2 := ⟨k - 2, by omega⟩
      rw [hz, dec_end _ _ (by simp) (by simp; omega), digI_small hs, Nat.mod_eq_of_lt hs]
      rfl
    · match m, hm with
      | 0, hm => simp at hm; omega
      | m + 1, hm =>
        have hu2 : (Int.tdiv x 10).natAbs = u / 10 := by rw [td10]; split <;> omega
        rw [dec_loop n m (u / 10) (by rw [Nat.pow_succ] at hm; omega) (Int.tdiv x 10) _ hu2 (Or.inr (by omega)) (by simp; omega) (by rw [td10]; split <;> omega) (by rw [td10]; split <;> omega) k (by omega), digI_big hs, List.append_assoc]
        rfl
theorem nums_bytes (l : List UInt8) : strOfNums (l.map fun b => (b.toNat : Int)) = ⟨l.toArray⟩ := by
  show (⟨((l.map fun b => (b.toNat : Int)).map fun n => UInt8.ofNat n.toNat).toArray⟩ : ByteArray) = _
  congr 2
  rw [List.map_map]
  conv => rhs; rw [← List.map_id l]
  apply List.map_congr_left
  intro b _
  simp
theorem dec_spec (n : Int) (h0 : -9223372036854775808 ≤ n) (h1 : n ≤ 9223372036854775807) (k : Nat) (hk : 100 ≤ k) : spec_l01Dec.f k n = some (decB n) := by
  unfold spec_l01Dec.f
  rw [dec_loop n 19 n.natAbs (by omega) n [] rfl (Or.inl rfl) (by simp) h0 h1 k (by omega), List.append_nil]
  congr 1
  unfold decB Lib.itoa signed
  split
  · rw [← nums_bytes]; rfl
  · rw [← nums_bytes, show n.toNat = n.natAbs by omega]; rfl
theorem dec_impl (n : Int) (h0 : -9223372036854775808 ≤ n) (h1 : n ≤ 9223372036854775807) : impl_Decimal.f n = some (decB n) := by
  unfold impl_Decimal.f; rw [if_pos ⟨h0, h1⟩]
theorem FnExactDecimal : laws_FnExactDecimal.Pure := by
  intro n hn
  have hr : -9223372036854775808 ≤ n ∧ n ≤ 9223372036854775807 := by
    simp only [Lit.wf, IntKind.min, IntKind.max, IntKind.signed, IntKind.bits, Bool.and_eq_true, decide_eq_true_eq, if_true] at hn
    omega
  refine ⟨100, ?_⟩
  simp only [laws_FnExactDecimal.f, spec_Decimal.f, dec_spec n hr.1 hr.2 100 (Nat.le_refl _), dec_impl n hr.1 hr.2, Option.bind_some, if_true]

end Go.Proofs.YtopdflppdpmblaaDoor.Pure
