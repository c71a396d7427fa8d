/- The program's ListText returns what the reference's returns, for every list that can be read. -/
import Derived.Test.YtopdflppdpmblaaDoorXFnExactListTextx2
import Derived.Test.YtopdflppdpmblaaDoorXP
namespace Go.Proofs.YtopdflppdpmblaaDoor.Pure
open Go.RowKit Go.Proofs.YtopdflppdpmblaaDoor.XFnExactListText Go.Proofs.YtopdflppdpmblaaDoorW.PrintWords Go.Proofs.YtopdflppdpmblaaDoorW.PrintLast Go.Proofs.YtopdflppdpmblaaDoor.XP Go.Proofs.YtopdflppdpmblaaDoor.XP
set_option linter.unusedVariables false
set_option linter.unusedSimpArgs false

theorem in_eq (a b c : Int) : spec_l00In.f a b c = impl_in.f a b c := rfl
theorem in_some (a b c : Int) : impl_in.f a b c = some (decide (b ≤ a ∧ a ≤ c)) := by
  unfold impl_in.f
  split
  · congr 1; rw [decide_eq_decide]; omega
  · congr 1; symm; rw [decide_eq_false_iff_not]; omega

def digI (u : Nat) : List Int := (Lib.decDigits u).map fun b => (b.toNat : Int)
theorem digI_small {u : Nat} (h : u < 10) : digI u = [48 + (u : Int)] := by
  rw [digI, Lib.decDigits, dif_pos h]
  simp only [List.map_cons, List.map_nil, UInt8.toNat_ofNat']
  congr 1
  omega
theorem digI_big {u : Nat} (h : ¬ u < 10) : digI u = digI (u / 10) ++ [48 + ((u % 10 : Nat) : Int)] := by
  rw [digI, Lib.decDigits, dif_neg h, List.map_append]
  simp only [List.map_cons, List.map_nil, UInt8.toNat_ofNat']
  congr 2
  omega
def signed (n : Int) (xs : List Int) : List Int := if n < 0 then 45 :: xs else xs
theorem tm10 (x : Int) : Int.tmod x 10 = if x < 0 then -((x.natAbs % 10 : Nat) : Int) else ((x.natAbs % 10 : Nat) : Int) := by
  split
  · rename_i h
    obtain ⟨y, rfl⟩ : ∃ y : Int, x = -y := ⟨-x, by omega⟩
    rw [Int.neg_tmod, Int.tmod_eq_emod_of_nonneg (by omega)]; omega
  · rw [Int.tmod_eq_emod_of_nonneg (by omega)]; omega
theorem td10 (x : Int) : Int.tdiv x 10 = if x < 0 then -((x.natAbs / 10 : Nat) : Int) else ((x.natAbs / 10 : Nat) : Int) := by
  split
  · rename_i h
    obtain ⟨y, rfl⟩ : ∃ y : Int, x = -y := ⟨-x, by omega⟩
    rw [Int.neg_tdiv, Int.tdiv_eq_ediv_of_nonneg (by omega)]; omega
  · rw [Int.tdiv_eq_ediv_of_nonneg (by omega)]; omega
theorem wr (x : Int) (h0 : -9223372036854775808 ≤ x) (h1 : x ≤ 9223372036854775807) : wrap64 x = x := by unfold wrap64; omega
theorem dec_step (n : Int) (x3 : List Int) (x : Int) (h0 : -9223372036854775808 ≤ x) (h1 : x ≤ 9223372036854775807) (hl : x3.length ≤ 100) (k : Nat) :
    spec_l01Dec.j1 (k + 1) n x3 x true = spec_l01Dec.l0 k n ((48 + ((x.natAbs % 10 : Nat) : Int)) :: x3) (Int.tdiv x 10) := by
  have ht := tm10 x
  have hd := td10 x
  have hw : wrap64 (Int.tdiv x 10) = Int.tdiv x 10 := by
    rw [hd]; split <;> exact wr _ (by omega) (by omega)
  have hlen : ∀ c : Int, ([c] : List Int).length + x3.length < 140737488355328 := fun c => by simp only [List.length_cons, List.length_nil]; omega
  rw [spec_l01Dec.j1, if_pos rfl, hw]
  by_cases c : Int.tmod x 10 < 0
  · have hx : x < 0 := by rw [ht] at c; split at c <;> omega
    rw [if_pos c, Option.bind_some, if_pos (hlen _), ht, if_pos hx, Int.neg_neg, wr ((x.natAbs % 10 : Nat) : Int) (by omega) (by omega), wr (48 + ((x.natAbs % 10 : Nat) : Int)) (by omega) (by omega)]
    congr 1
    show _ :: x3 = _
    congr 1
    omega
  · have hx : Int.tmod x 10 = ((x.natAbs % 10 : Nat) : Int) := by rw [ht] at c ⊢; split at c <;> split <;> omega
    rw [if_neg c, Option.bind_some, if_pos (hlen _), hx, wr _ (by omega) (by omega)]
    congr 1
    show _ :: x3 = _
    congr 1
    omega
theorem dec_end (n : Int) (x3 : List Int) (h : x3.length ≠ 0) (hl : x3.length ≤ 101) (k : Nat) : spec_l01Dec.l0 (k + 2) n x3 0 = some (strOfNums (signed n x3)) := by
  rw [spec_l01Dec.l0, if_neg (by omega), spec_l01Dec.j1]
  simp only [bne_self_eq_false, Bool.false_eq_true, if_false]
  unfold signed
  split
  · rw [Option.bind_some, if_pos (by simp only [List.length_cons, List.length_nil]; omega)]; rfl
  · rfl
theorem dec_loop (n : Int) : ∀ (m u : Nat), u < 10 ^ m → ∀ (x : Int) (x3 : List Int), x.natAbs = u → (x3.length = 0 ∨ u ≠ 0) → x3.length + m ≤ 100 → -9223372036854775808 ≤ x → x ≤ 9223372036854775807 → ∀ k, 2 * m + 4 ≤ k →
    spec_l01Dec.l0 k n x3 x = some (strOfNums (signed n (digI u ++ x3)))
  | m, u, hm, x, x3, hu, h3, hl, h0, h1, k, hk => by
    obtain ⟨k, rfl⟩ : ∃ j, k = j + 2 := ⟨k - 2, by omega⟩
    have hgo : spec_l01Dec.l0 (k + 2) n x3 x = spec_l01Dec.j1 (k + 1) n x3 x true := by
      rw [spec_l01Dec.l0]
      split
      · rfl
      · rename_i hc
        have : (x != 0) = true := by
          simp only [bne_iff_ne, ne_eq]
          intro e; subst e; simp at hu; omega
        rw [this]
    rw [hgo, dec_step n x3 x h0 h1 (by omega), hu]
    by_cases hs : u < 10
    · have hz : Int.tdiv x 10 = 0 := by rw [td10]; split <;> omega
      obtain ⟨k, rfl⟩ : ∃ j, k = j + 2 := ⟨k - 2, by omega⟩
      rw [hz, dec_end _ _ (by simp) (by simp; omega), digI_small hs, Nat.mod_eq_of_lt hs]
      rfl
    · match m, hm with
      | 0, hm => simp at hm; omega
      | m + 1, hm =>
        have hu2 : (Int.tdiv x 10).natAbs = u / 10 := by rw [td10]; split <;> omega
        rw [dec_loop n m (u / 10) (by rw [Nat.pow_succ] at hm; omega) (Int.tdiv x 10) _ hu2 (Or.inr (by omega)) (by simp; omega) (by rw [td10]; split <;> omega) (by rw [td10]; split <;> omega) k (by omega), digI_big hs, List.append_assoc]
        rfl
theorem nums_bytes (l : List UInt8) : strOfNums (l.map fun b => (b.toNat : Int)) = ⟨l.toArray⟩ := by
  show (⟨((l.map fun b => (b.toNat : Int)).map fun n => UInt8.ofNat n.toNat).toArray⟩ : ByteArray) = _
  congr 2
  rw [List.map_map]
  conv => rhs; rw [← List.map_id l]
  apply List.map_congr_left
  intro b _
  simp
theorem dec_spec (n : Int) (h0 : -9223372036854775808 ≤ n) (h1 : n ≤ 9223372036854775807) (k : Nat) (hk : 100 ≤ k) : spec_l01Dec.f k n = some (decB n) := by
  unfold spec_l01Dec.f
  rw [dec_loop n 19 n.natAbs (by omega) n [] rfl (Or.inl rfl) (by simp) h0 h1 k (by omega), List.append_nil]
  congr 1
  unfold decB Lib.itoa signed
  split
  · rw [← nums_bytes]; rfl
  · rw [← nums_bytes, show n.toNat = n.natAbs by omega]; rfl
theorem dec_impl (n : Int) (h0 : -9223372036854775808 ≤ n) (h1 : n ≤ 9223372036854775807) : impl_Decimal.f n = some (decB n) := by
  unfold impl_Decimal.f; rw [if_pos ⟨h0, h1⟩]
def dstep (a : Nat) (c : UInt8) : Nat := if 48 ≤ c.toNat ∧ c.toNat ≤ 57 then 10 * a + (c.toNat - 48) else a
def foldV (l : List UInt8) (a : Nat) : Nat := l.foldl dstep a
theorem foldV_append (l m : List UInt8) (a : Nat) : foldV (l ++ m) a = foldV m (foldV l a) := List.foldl_append ..
theorem c48 (d : Nat) (h : d < 10) : (UInt8.ofNat (48 + d)).toNat = 48 + d := by
  rw [UInt8.toNat_ofNat']; omega
theorem dig_all : ∀ (n u : Nat), u ≤ n → (∀ c ∈ Lib.decDigits u, 48 ≤ c.toNat ∧ c.toNat ≤ 57) ∧ foldV (Lib.decDigits u) 0 = u ∧ Lib.decDigits u ≠ [] ∧ ∀ m, u < 10 ^ (m + 1) → (Lib.decDigits u).length ≤ m + 1
  | n, u, h => by
    rw [Lib.decDigits]
    by_cases hs : u < 10
    · rw [dif_pos hs]
      have hc := c48 u hs
      refine ⟨?_, ?_, by simp, fun m _ => by simp⟩
      · intro c hm
        simp only [List.mem_cons, List.not_mem_nil, or_false] at hm
        subst hm
        rw [hc]; omega
      · show dstep 0 _ = u
        unfold dstep
        rw [hc, if_pos (by omega)]; omega
    · rw [dif_neg hs]
      match n, h with
      | 0, h => omega
      | n + 1, h =>
        obtain ⟨i1, i2, i3, i4⟩ := dig_all n (u / 10) (by omega)
        have hc := c48 (u % 10) (by omega)
        refine ⟨?_, ?_, by simp, ?_⟩
        · intro c hm
          rcases List.mem_append.1 hm with hm | hm
          · exact i1 c hm
          · simp only [List.mem_cons, List.not_mem_nil, or_false] at hm
            subst hm
            rw [hc]; omega
        · rw [foldV_append, i2]
          show dstep (u / 10) _ = u
          unfold dstep
          rw [hc, if_pos (by omega)]; omega
        · intro m hm
          match m, hm with
          | 0, hm => simp at hm; omega
          | m + 1, hm =>
            have := i4 m (by rw [Nat.pow_succ] at hm; omega)
            simp only [List.length_append, List.length_cons, List.length_nil]
            omega
theorem itoa_len (v : Int) (h0 : -1000000000 ≤ v) (h1 : v ≤ 1000000000) : (Lib.itoa v).length ≤ 11 := by
  obtain ⟨_, _, _, i4⟩ := dig_all v.natAbs v.natAbs (Nat.le_refl _)
  have i5 := i4 9 (by omega)
  unfold Lib.itoa
  split
  · simp only [List.length_cons]; omega
  · rw [show v.toNat = v.natAbs by omega]; omega
def okV (v : Int) : Bool := decide (-1000000000 ≤ v ∧ v ≤ 1000000000)
theorem okV_of {l : List Int} (h : l.all okV = true) {v : Int} (hv : v ∈ l) : -1000000000 ≤ v ∧ v ≤ 1000000000 := by
  have := List.all_eq_true.1 h v hv
  simpa [okV] using this
theorem drop_rdI (l : List Int) (i : Nat) (hi : i < l.length) : l.drop i = rd l (i : Int) :: l.drop (i + 1) := by
  rw [List.drop_eq_getElem_cons hi]
  congr 1
  simp [rd, List.getElem?_eq_getElem hi]
theorem rd_mem (l : List Int) (i : Nat) (hi : i < l.length) : rd l (i : Int) ∈ l := by
  have : rd l (i : Int) = l[i] := by simp [rd, List.getElem?_eq_getElem hi]
  rw [this]; exact List.getElem_mem hi
def bs (l : List UInt8) : ByteArray := ⟨l.toArray⟩
theorem bs_append (a b : List UInt8) : bs a ++ bs b = bs (a ++ b) := by
  apply ByteArray.ext
  rw [ByteArray.data_append]
  show a.toArray ++ b.toArray = (a ++ b).toArray
  simp
theorem bs_size (a : List UInt8) : (bs a).size = a.length := by
  show a.toArray.size = _
  simp
/-- The text of numbers. -/
def textB' : List Int → ByteArray
  | [] => ⟨#[110, 111, 110, 101]⟩
  | x :: r => bs (Lib.itoa x ++ Lib.joinTail [44] (r.map Lib.itoa))
theorem tail_len (r : List Int) (h : ∀ v ∈ r, -1000000000 ≤ v ∧ v ≤ 1000000000) : (Lib.joinTail [44] (r.map Lib.itoa)).length ≤ 12 * r.length := by
  induction r with
  | nil => simp [Lib.joinTail]
  | cons x r ih =>
    have i1 := ih (fun v hv => h v (List.mem_cons_of_mem _ hv))
    have i2 := itoa_len x (h x (List.mem_cons_self ..)).1 (h x (List.mem_cons_self ..)).2
    have e : Lib.joinTail [44] ((x :: r).map Lib.itoa) = [44] ++ Lib.itoa x ++ Lib.joinTail [44] (r.map Lib.itoa) := by simp [Lib.joinTail]
    rw [e]
    simp only [List.length_append, List.length_cons, List.length_nil]
    omega
theorem tail_snoc (xs : List (List UInt8)) (y : List UInt8) : Lib.joinTail [44] (xs ++ [y]) = Lib.joinTail [44] xs ++ ([44] ++ y) := by
  unfold Lib.joinTail
  rw [List.map_append, List.flatten_append]
  simp
theorem spec_text_loop (x : Int) (r : List Int) (hl : r.length ≤ 1048576) (h : ∀ v ∈ x :: r, -1000000000 ≤ v ∧ v ≤ 1000000000) : ∀ (d j : Nat), j + d = r.length → ∀ k, 100 ≤ k →
    spec_l01Text.l0 (k + d + 1) (x :: r) (bs (Lib.itoa x ++ Lib.joinTail [44] ((r.take j).map Lib.itoa))) ((j + 1 : Nat) : Int) = some (textB' (x :: r))
  | 0, j, hj, k, hk => by
    have : j = r.length := by omega
    rw [spec_l01Text.l0, if_neg (by simp only [List.length_cons]; omega), this, List.take_length]
    rfl
  | d + 1, j, hj, k, hk => by
    have hjl : j < r.length := by omega
    have hy : r[j]? = some r[j] := List.getElem?_eq_getElem hjl
    have hrd : rd (x :: r) ((j + 1 : Nat) : Int) = r[j] := by
      show (x :: r).getD ((j + 1 : Nat) : Int).toNat 0 = _
      rw [Int.toNat_natCast, List.getD_eq_getElem?_getD, List.getElem?_cons_succ, hy]; rfl
    have hv := h r[j] (List.mem_cons_of_mem _ (List.getElem_mem hjl))
    have hlen := itoa_len r[j] hv.1 hv.2
    have hx := itoa_len x (h x (List.mem_cons_self ..)).1 (h x (List.mem_cons_self ..)).2
    have htl := tail_len (r.take j) (fun v hv => h v (List.mem_cons_of_mem _ (List.mem_of_mem_take hv)))
    have htk : (r.take j).length ≤ r.length := by rw [List.length_take]; omega
    have hd : decB r[j] = bs (Lib.itoa r[j]) := rfl
    have hc : (⟨#[44]⟩ : ByteArray) = bs [44] := rfl
    rw [show k + (d + 1) + 1 = (k + d + 1) + 1 by omega, spec_l01Text.l0, if_pos (by simp only [List.length_cons]; omega), if_pos (by omega), hrd, dec_spec _ (by omega) (by omega) _ (by omega), Option.bind_some, hd, hc, bs_append, bs_append,
      if_pos (by rw [bs_size]; omega), if_pos (by rw [bs_size, bs_size]; simp only [List.length_append, List.length_cons, List.length_nil]; omega), wsucc (by omega) (by omega)]
    have e : Lib.itoa x ++ Lib.joinTail [44] ((r.take j).map Lib.itoa) ++ ([44] ++ Lib.itoa r[j]) = Lib.itoa x ++ Lib.joinTail [44] ((r.take (j + 1)).map Lib.itoa) := by
      rw [List.take_add_one, hy, List.map_append, show (some r[j]).toList.map Lib.itoa = [Lib.itoa r[j]] from rfl, tail_snoc, List.append_assoc]
    rw [e]
    exact spec_text_loop x r hl h d (j + 1) (by omega) k hk
theorem spec_text (l : List Int) (hl : l.length ≤ 1048576) (h : ∀ v ∈ l, -1000000000 ≤ v ∧ v ≤ 1000000000) : From (fun k => spec_l01Text.f k l) (textB' l) := by
  cases l with
  | nil => exact ⟨0, fun k _ => by simp only [spec_l01Text.f, List.length_nil]; rfl⟩
  | cons x r =>
    refine ⟨100 + r.length + 1, fun k hk => ?_⟩
    have hx := h x (List.mem_cons_self ..)
    obtain ⟨k, rfl⟩ : ∃ n, k = n + r.length + 1 := ⟨k - r.length - 1, by omega⟩
    have hr : rd (x :: r) 0 = x := rfl
    simp only [spec_l01Text.f]
    rw [if_neg (by simp only [List.length_cons]; omega), if_pos (by simp only [List.length_cons]; omega), hr, dec_spec x (by omega) (by omega) _ (by omega), Option.bind_some]
    have := spec_text_loop x r (by simp only [List.length_cons] at hl; omega) h r.length 0 (by omega) k (by omega)
    rw [List.take_zero, show Lib.joinTail [44] (([] : List Int).map Lib.itoa) = [] from rfl, List.append_nil] at this
    exact this
theorem join_text (x : Int) (r : List Int) : joinB ((x :: r).map decB) (⟨#[44]⟩ : ByteArray) = textB' (x :: r) := by
  unfold joinB textB'
  have e : ((x :: r).map decB).map (fun b : ByteArray => b.data.toList) = (x :: r).map Lib.itoa := by
    rw [List.map_map]; rfl
  rw [e, List.map_cons, Lib.join_cons]
  rfl
theorem impl_text (l : List Int) (hl : l.length ≤ 1048576) (h : ∀ v ∈ l, -1000000000 ≤ v ∧ v ≤ 1000000000) : From (fun k => impl_listText.f k l) (textB' l) := by
  have := collect_then (fun k out i => impl_listText.l0 k out l l.length i) l 0 0 (fun v => some (decB v)) (textB' l) (fun k out i _ h0 h1 ho => by
    have hb : out.length < 8796093022208 := by omega
    have hv := h _ (getD_mem 0 (show i.toNat < l.length by omega))
    simp only [impl_listText.l0, h0, h1, hb, if_true, rd, dec_impl _ (show -9223372036854775808 ≤ l.getD i.toNat 0 by omega) (by omega), Option.bind_some, wsucc h0 (by omega), Option.toList]) (fun k _ => by
    simp only [impl_listText.l0, Int.lt_irrefl, if_false]
    rw [List.filterMap_eq_map']
    cases l with
    | nil => rfl
    | cons x r =>
      rw [if_neg (by simp only [List.map_cons, List.length_cons]; omega)]
      have hx := itoa_len x (h x (List.mem_cons_self ..)).1 (h x (List.mem_cons_self ..)).2
      have ht := tail_len r (fun v hv => h v (List.mem_cons_of_mem _ hv))
      have e : (Lib.join (((x :: r).map decB).map (·.data.toList)) [44]).length = (Lib.itoa x ++ Lib.joinTail [44] (r.map Lib.itoa)).length := by
        have e2 : ((x :: r).map decB).map (fun b : ByteArray => b.data.toList) = (x :: r).map Lib.itoa := by
          rw [List.map_map]; rfl
        rw [e2, List.map_cons, Lib.join_cons]
      unfold strings_Join.f
      rw [if_pos ⟨by simp only [List.length_map]; omega, by
        show (Lib.join (((x :: r).map decB).map (·.data.toList)) [44]).length ≤ _
        rw [e]; simp only [List.length_append, List.length_cons] at *; omega⟩, Option.bind_some, join_text])
  exact this
theorem toInt64S_from (l : List Int) (h : l.length ≤ 1073741824) : From (fun k => laws_toInt64S.f k l) l := by
  obtain ⟨K, hK⟩ := fill_all (F := laws_toInt64S.l0) (fun x : Int => x) 0 0 (fun k xs ys i h0 h1 h2 h3 => by
      simp only [laws_toInt64S.l0, h0, h1, h2, if_true, wsucc h0 h3]; rfl) (fun k xs ys i h => by simp only [laws_toInt64S.l0, h, if_false]) l (by omega)
  refine ⟨K, fun k hk => ?_⟩
  simp only [laws_toInt64S.f, Int.toNat_natCast]
  rw [if_pos (by omega), if_pos (by omega)]
  simpa using hK k hk
theorem eqInt64S_from (l : List Int) (h : l.length ≤ 1073741824) : From (fun k => laws_eqInt64S.f k l l) true := by
  obtain ⟨K, hK⟩ := all_loop (fun k i => laws_eqInt64S.l0 k l l i) l.length (by omega) 0 true (fun k i _ h0 h1 => by
      simp only [laws_eqInt64S.l0, h0, h1, if_true, wsucc h0 (by omega)]) (fun k i _ h _ => by simp only [laws_eqInt64S.l0, h, if_false])
  refine ⟨K, fun k hk => ?_⟩
  simp only [laws_eqInt64S.f, if_true]
  exact hK k hk
theorem few_loop (l : List Int) (hl : l.length ≤ 1048576) : ∀ (d i : Nat), i + d = l.length → ∀ k, d < k → spec_l01Few.l0 k l (i : Int) = some ((l.drop i).all okV && decide ((l.length : Int) ≤ 300))
  | 0, i, h, k, hk => by
    obtain ⟨k, rfl⟩ : ∃ n, k = n + 1 := ⟨k - 1, by omega⟩
    rw [spec_l01Few.l0, if_neg (by omega), List.drop_eq_nil_of_le (by omega)]
    rfl
  | d + 1, i, h, k, hk => by
    obtain ⟨k, rfl⟩ : ∃ n, k = n + 1 := ⟨k - 1, by omega⟩
    have hi : i < l.length := by omega
    rw [spec_l01Few.l0, if_pos (by omega), if_pos (by omega), in_eq, in_some, Option.bind_some, drop_rdI l i hi, List.all_cons]
    by_cases c : -1000000000 ≤ rd l (i : Int) ∧ rd l (i : Int) ≤ 1000000000
    · have e : okV (rd l (i : Int)) = true := decide_eq_true c
      rw [e, decide_eq_true c, if_pos rfl, Bool.true_and, wsucc (by omega) (by omega)]
      exact few_loop l hl d (i + 1) (by omega) k (by omega)
    · have e : okV (rd l (i : Int)) = false := decide_eq_false c
      rw [e, decide_eq_false c, if_neg (by simp)]
      rfl
theorem index_loop (l : List Int) (hl : l.length ≤ 1048576) : ∀ (d i : Nat), i + d = l.length → ∀ k, d < k → ∃ r : Int, slices_IndexFunc_int64_int64_notValue.l0 k l l.length (i : Int) = some r ∧ decide (r ≥ 0) = !(l.drop i).all okV
  | 0, i, h, k, hk => by
    obtain ⟨k, rfl⟩ : ∃ n, k = n + 1 := ⟨k - 1, by omega⟩
    refine ⟨-1, ?_, ?_⟩
    · rw [slices_IndexFunc_int64_int64_notValue.l0, if_neg (by omega)]
    · rw [List.drop_eq_nil_of_le (by omega)]; rfl
  | d + 1, i, h, k, hk => by
    obtain ⟨k, rfl⟩ : ∃ n, k = n + 1 := ⟨k - 1, by omega⟩
    have hi : i < l.length := by omega
    rw [slices_IndexFunc_int64_int64_notValue.l0, if_pos (by omega), if_pos (by omega), if_pos (by omega), drop_rdI l i hi, List.all_cons]
    unfold impl_notValue.f
    rw [in_some, Option.bind_some, Option.bind_some]
    by_cases c : -1000000000 ≤ rd l (i : Int) ∧ rd l (i : Int) ≤ 1000000000
    · have e : okV (rd l (i : Int)) = true := decide_eq_true c
      rw [e, decide_eq_true c, if_neg (by simp), Bool.true_and, wsucc (by omega) (by omega)]
      exact index_loop l hl d (i + 1) (by omega) k (by omega)
    · have e : okV (rd l (i : Int)) = false := decide_eq_false c
      rw [e, decide_eq_false c, if_pos (by simp)]
      exact ⟨_, rfl, by simp⟩
theorem both_from (l : List Int) (hl : l.length ≤ 1048576) : ∃ g : ByteArray × Bool, From (fun k => spec_ListText.f k l) g ∧ From (fun k => impl_ListText.f k l) g := by
  have e1 := fun k (hk : l.length < k) => few_loop l hl l.length 0 (by omega) k hk
  have e2 := fun k (hk : l.length < k) => index_loop l hl l.length 0 (by omega) k hk
  simp only [List.drop_zero] at e1 e2
  by_cases c3 : (l.length : Int) > 300
  · refine ⟨((⟨#[]⟩ : ByteArray), false), ⟨l.length + 1, fun k hk => ?_⟩, ⟨0, fun k _ => by simp only [impl_ListText.f, c3, if_true]⟩⟩
    have := e1 k (by omega)
    rw [decide_eq_false (by omega), Bool.and_false] at this
    have t : spec_l01Few.f k l = some false := this
    simp only [spec_ListText.f, t, Option.bind_some, Bool.false_eq_true, if_false]
  · cases ha : l.all okV with
    | false =>
      refine ⟨((⟨#[]⟩ : ByteArray), false), ⟨l.length + 1, fun k hk => ?_⟩, ⟨l.length + 1, fun k hk => ?_⟩⟩
      · have := e1 k (by omega)
        rw [ha, Bool.false_and] at this
        have t : spec_l01Few.f k l = some false := this
        simp only [spec_ListText.f, t, Option.bind_some, Bool.false_eq_true, if_false]
      · obtain ⟨r, h1, h2⟩ := e2 k (by omega)
        rw [ha] at h2
        have t : slices_IndexFunc_int64_int64_notValue.f k l = some r := h1
        simp only [impl_ListText.f, c3, if_false, slices_ContainsFunc_int64_int64_notValue.f, t, Option.bind_some, h2, Bool.not_false, if_true]
    | true =>
      obtain ⟨K1, s1⟩ := spec_text l hl (fun v hv => okV_of ha hv)
      obtain ⟨K2, s2⟩ := impl_text l hl (fun v hv => okV_of ha hv)
      refine ⟨(textB' l, true), ⟨K1 + l.length + 1, fun k hk => ?_⟩, ⟨K2 + l.length + 1, fun k hk => ?_⟩⟩
      · have := e1 k (by omega)
        rw [ha, decide_eq_true (by omega)] at this
        have t : spec_l01Few.f k l = some true := this
        simp only [spec_ListText.f, t, Option.bind_some, if_true, s1 k (by omega)]
      · obtain ⟨r, h1, h2⟩ := e2 k (by omega)
        rw [ha] at h2
        have t : slices_IndexFunc_int64_int64_notValue.f k l = some r := h1
        simp only [impl_ListText.f, c3, if_false, slices_ContainsFunc_int64_int64_notValue.f, t, Option.bind_some, h2, Bool.not_true, Bool.false_eq_true, s2 k (by omega)]
theorem FnExactListText : laws_FnExactListText.Pure := by
  intro l _ _ _
  by_cases c0 : (l.length : Int) > 1048576
  · exact ⟨0, by simp only [laws_FnExactListText.f, c0, if_true]⟩
  obtain ⟨g, ⟨K1, e1⟩, ⟨K2, e2⟩⟩ := both_from l (by omega)
  obtain ⟨K3, e3⟩ := toInt64S_from l (by omega)
  obtain ⟨K4, e4⟩ := eqInt64S_from l (by omega)
  generalize hK : K1 + K2 + K3 + K4 = K
  refine ⟨K + 5, ?_⟩
  have hb : (g.2 != g.2) = false := by simp
  have E1 := fun i => e1 (K + i) (by omega)
  have E2 := fun i => e2 (K + i) (by omega)
  have E3 := fun i => e3 (K + i) (by omega)
  have E4 := fun i => e4 (K + i) (by omega)
  simp only [laws_FnExactListText.f, c0, if_false]
  simp only [laws_FnExactListText.j0, E1, E2, E3, hb, Option.bind_some, if_true]
  simp only [laws_FnExactListText.j1, Bool.false_eq_true, if_false]
  simp only [laws_FnExactListText.j2, E3, E4, Option.bind_some, if_true]

end Go.Proofs.YtopdflppdpmblaaDoor.Pure
