/- The program's FairOrder returns what the reference's returns, for every slice of parcels and every number that can be read. -/
import Derived.Test.YtgpiaeklhhacjabXFnExactFairOrderx5
import Derived.Test.YtgpiaeklhhacjabXP
import Derived.Test.YtgpiaeklhhacjabXQ
import Derived.Shelf.SlicesE.DeleteFunc
namespace Go.Proofs.Ytgpiaeklhhacjab.Pure
open Go.RowKit Go.Proofs.Ytgpiaeklhhacjab.XFnExactFairOrder Go.Proofs.YtgpiaeklhhacjabW.PrintWords Go.Proofs.YtgpiaeklhhacjabW.PrintLast Go.Proofs.Ytgpiaeklhhacjab.XP Go.Proofs.Ytgpiaeklhhacjab.XQ Go.Proofs.Ytgpiaeklhhacjab.XQ
set_option linter.unusedVariables false
set_option linter.unusedSimpArgs false

def convParcel : S38 → S36 := (fun x : S38 => (⟨x.f0, x.f1⟩ : S36))
theorem toParcelS_from (l : List S38) (h : l.length ≤ 1048576) : From (fun k => laws_toParcelS.f k l) (l.map convParcel) := by
  obtain ⟨K, hK⟩ := fill_all (F := laws_toParcelS.l0) convParcel z38 z36 (fun k xs ys i h0 h1 h2 h3 => by
      simp only [laws_toParcelS.l0, h0, h1, h2, if_true, laws_toParcel.f, Option.bind_some, wsucc h0 h3]; rfl) (fun k xs ys i h => by simp only [laws_toParcelS.l0, h, if_false]) l (by omega)
  refine ⟨K, fun k hk => ?_⟩
  simp only [laws_toParcelS.f, Int.toNat_natCast]
  rw [if_pos (by omega), if_pos (by omega)]
  exact hK k hk
theorem eqParcelS_from (l : List S36) (h : l.length ≤ 1048576) : From (fun k => laws_eqParcelS.f k l l) true := by
  obtain ⟨K, hK⟩ := all_loop (fun k i => laws_eqParcelS.l0 k l l i) l.length (by omega) 0 true (fun k i _ h0 h1 => by
      simp only [laws_eqParcelS.l0, h0, h1, if_true, laws_eqParcel.f, Option.bind_some, wsucc h0 (by omega)]) (fun k i _ h _ => by simp only [laws_eqParcelS.l0, h, if_false])
  refine ⟨K, fun k hk => ?_⟩
  simp only [laws_eqParcelS.f, if_true]
  exact hK k hk
theorem markParcelS_from (l : List S36) (m : Int) (hm : 0 ≤ m) (hb : m ≤ 1152921504606846976) (h : l.length ≤ 1048576) :
    ∃ ys, From (fun k => laws_markParcelS.f k l m) (m + 2 * l.length, ys) ∧ ys.length = l.length ∧ ∀ j : Nat, j < l.length → ys[j]? = some (⟨m + 2 * j, m + 2 * j + 1⟩ : S36) :=
  mark_all (F := fun k xs m i => laws_markParcelS.l0 k xs m i) 2 (by omega) (by omega) (fun m => (⟨m, m + 1⟩ : S36)) (fun k xs m i h0 h1 h2 h3 h4 => by
    have hi : i.toNat < xs.length := by omega
    simp only [laws_markParcelS.l0, h0, h1, if_true, wsucc h0 h2, Option.bind_some, rd_T36, getD_set hi, List.set_set, List.length_set, wsucc (show 0 ≤ m by omega) (by omega), wsucc (show 0 ≤ m + 1 by omega) (by omega)]
    congr 1; omega) (fun k xs m i h => by simp only [laws_markParcelS.l0, h, if_false]) l m hm (by have := mul_mono (c := 2) (by omega) h; omega) (by omega)
theorem in_eq (a b c : Int) : spec_l00In.f a b c = impl_in.f a b c := rfl
theorem in_some (a b c : Int) : impl_in.f a b c = some (decide (b ≤ a ∧ a ≤ c)) := by
  unfold impl_in.f
  split
  · congr 1; rw [decide_eq_decide]; omega
  · congr 1; symm; rw [decide_eq_false_iff_not]; omega

def okP (p : S36) : Bool := decide (1 ≤ p.f0 ∧ p.f0 ≤ 1000) && decide (1 ≤ p.f1 ∧ p.f1 ≤ 1000000)
def okPs (l : List S36) : Bool := decide (l.length ≤ 64) && (List.range l.length).all fun j => okP (l.getD j z36)
theorem l04Parcel_some (p : S36) : spec_l04Parcel.f p.f0 p.f1 = some (okP p) := by
  simp only [spec_l04Parcel.f, in_eq, in_some, Option.bind_some, okP]
  by_cases h : 1 ≤ p.f0 ∧ p.f0 ≤ 1000 <;> simp [h]
theorem parcelOk_some (p : S36) : impl_parcelOk.f p.f0 p.f1 = some (okP p) := by
  simp only [impl_parcelOk.f, in_some, Option.bind_some, okP]
  by_cases h : 1 ≤ p.f0 ∧ p.f0 ≤ 1000 <;> simp [h]
theorem l04Parcels_from (l : List S36) (h : l.length ≤ 1048576) : From (fun k => spec_l04Parcels.f k l) (okPs l) := by
  by_cases hl : l.length ≤ 64
  · have hli : (l.length : Int) ≤ 64 := by omega
    obtain ⟨K, hK⟩ := test_loopC (fun k i => spec_l04Parcels.l0 k l i) 2 l.length 0 (fun j => okP (l.getD j z36)) true (fun k i _ h0 h1 => by
      simp only [spec_l04Parcels.l0, spec_l04Parcels.j1, h0, h1, hli, if_true, decide_true, rd_T36, l04Parcel_some, Option.bind_some, wsucc h0 (by omega)]) (fun k _ => by
      simp only [spec_l04Parcels.l0, spec_l04Parcels.j1, Int.lt_irrefl, if_false, Bool.false_eq_true, hli, decide_true])
    exact ⟨K, fun k hk => by simpa [okPs, hl, spec_l04Parcels.f] using hK k hk⟩
  · have hli : ¬ (l.length : Int) ≤ 64 := by omega
    refine ⟨2, fun k hk => ?_⟩
    obtain ⟨k, rfl⟩ : ∃ n, k = n + 2 := ⟨k - 2, by omega⟩
    have h1 : (0 : Int) < l.length := by omega
    simp only [spec_l04Parcels.f, spec_l04Parcels.l0, spec_l04Parcels.j1, h1, hli, if_true, decide_false, Bool.false_eq_true, if_false, okPs, hl, Bool.false_and]
theorem parcelsOk_from (l : List S36) (h : l.length ≤ 1048576) : From (fun k => impl_parcelsOk.f k l) (okPs l) := by
  by_cases hl : l.length ≤ 64
  · have hli : (l.length : Int) ≤ 64 := by omega
    obtain ⟨K, hK⟩ := test_loopB (fun k i => (impl_Parcel_badParcel_68.l0 k l l.length i).bind fun t => some (!(decide (t ≥ 0)))) l.length 0 (fun j => okP (l.getD j z36)) true (fun k i _ h0 h1 => by
      simp only [impl_Parcel_badParcel_68.l0, impl_badParcel.f, h0, h1, if_true, rd_T36, parcelOk_some, Option.bind_some, wsucc h0 (by omega)]
      rcases Bool.eq_false_or_eq_true (okP (l.getD i.toNat z36)) with c | c <;> simp [c, h0, -List.getD_eq_getElem?_getD]) (fun k _ => by
      simp only [impl_Parcel_badParcel_68.l0, Int.lt_irrefl, if_false, Option.bind_some]
      rfl)
    refine ⟨K, fun k hk => ?_⟩
    have := hK k hk
    simp only [impl_parcelsOk.f, impl_Parcel_badParcel_69.f, impl_Parcel_badParcel_68.f, hli, if_true]
    cases he : impl_Parcel_badParcel_68.l0 k l l.length 0 with
    | none => rw [he] at this; cases this
    | some t =>
      rw [he] at this
      simpa [okPs, hl] using this
  · have hli : ¬ (l.length : Int) ≤ 64 := by omega
    exact ⟨0, fun k hk => by simp only [impl_parcelsOk.f, hli, if_false, okPs, hl, decide_false, Bool.false_and]⟩
theorem l00Put_done (l : List Int) (n : Int) (h : l.length ≤ 1048576) : ∀ (m k : Nat) (out : List Int) (i : Int), 0 ≤ i → i ≤ l.length → (l.length : Int) - i = m → 2 * m < k → out.length ≤ 2097152 - m → spec_l00Put.l0 k l n out true i = some (out ++ l.drop i.toNat) := by
  intro m
  induction m with
  | zero =>
    intro k out i h0 h1 hm hk ho
    obtain ⟨k, rfl⟩ : ∃ m, k = m + 1 := ⟨k - 1, by omega⟩
    have hi : ¬ i < (l.length : Int) := by omega
    simp only [spec_l00Put.l0, hi, if_false, if_true]
    rw [List.drop_of_length_le (by omega), List.append_nil]
  | succ m ih =>
    intro k out i h0 h1 hm hk ho
    obtain ⟨k, rfl⟩ : ∃ m, k = m + 2 := ⟨k - 2, by omega⟩
    have hi : i < (l.length : Int) := by omega
    have hin : i.toNat < l.length := by omega
    have hb : out.length < 17592186044416 := by omega
    simp only [spec_l00Put.l0, spec_l00Put.j1, hi, h0, hb, if_true, if_false, Bool.false_eq_true, wsucc h0 (by omega), rd]
    rw [ih k _ (i + 1) (by omega) (by omega) (by omega) (by omega) (by simp; omega), List.drop_eq_getElem_cons hin, show (i + 1).toNat = i.toNat + 1 by omega, List.getD_eq_getElem?_getD, List.getElem?_eq_getElem hin]
    simp [-List.getElem_cons_drop]
theorem l00Put_rounds (l : List Int) (n : Int) (h : l.length ≤ 1048576) : ∀ (m k : Nat) (out : List Int) (i : Int), 0 ≤ i → i ≤ l.length → (l.length : Int) - i = m → 2 * m < k → (out.length : Int) = i → spec_l00Put.l0 k l n out false i = some (out ++ putL (l.drop i.toNat) n) := by
  intro m
  induction m with
  | zero =>
    intro k out i h0 h1 hm hk ho
    obtain ⟨k, rfl⟩ : ∃ m, k = m + 1 := ⟨k - 1, by omega⟩
    have hi : ¬ i < (l.length : Int) := by omega
    have hb : out.length < 17592186044416 := by omega
    simp only [spec_l00Put.l0, hi, hb, if_false, if_true, Bool.false_eq_true]
    rw [List.drop_of_length_le (by omega), putL]
  | succ m ih =>
    intro k out i h0 h1 hm hk ho
    obtain ⟨k, rfl⟩ : ∃ m, k = m + 2 := ⟨k - 2, by omega⟩
    have hi : i < (l.length : Int) := by omega
    have hin : i.toNat < l.length := by omega
    have hb : out.length < 17592186044416 := by omega
    have hb2 : out.length + 1 < 17592186044416 := by omega
    have hx : l.getD i.toNat 0 = l[i.toNat] := by rw [List.getD_eq_getElem?_getD, List.getElem?_eq_getElem hin]; rfl
    rw [List.drop_eq_getElem_cons hin]
    by_cases c1 : l[i.toNat] ≥ n
    · by_cases c2 : l[i.toNat] > n
      · simp only [spec_l00Put.l0, spec_l00Put.j1, hi, h0, hb, hb2, if_true, if_false, Bool.false_eq_true, wsucc h0 (by omega), rd, hx, c1, c2, decide_true, Option.bind_some, List.length_append, List.length_singleton, putL]
        rw [l00Put_done l n h m k _ (i + 1) (by omega) (by omega) (by omega) (by omega) (by simp; omega), show (i + 1).toNat = i.toNat + 1 by omega]
        simp [-List.getElem_cons_drop]
      · simp only [spec_l00Put.l0, spec_l00Put.j1, hi, h0, hb, if_true, if_false, Bool.false_eq_true, wsucc h0 (by omega), rd, hx, c1, c2, decide_true, putL]
        rw [l00Put_done l n h m k _ (i + 1) (by omega) (by omega) (by omega) (by omega) (by simp; omega), show (i + 1).toNat = i.toNat + 1 by omega]
        simp [-List.getElem_cons_drop]
    · simp only [spec_l00Put.l0, spec_l00Put.j1, hi, h0, hb, if_true, if_false, Bool.false_eq_true, wsucc h0 (by omega), rd, hx, c1, decide_false, putL]
      rw [ih k _ (i + 1) (by omega) (by omega) (by omega) (by omega) (by simp; omega), show (i + 1).toNat = i.toNat + 1 by omega]
      simp
theorem l00Put_from (l : List Int) (n : Int) (h : l.length ≤ 1048576) : ∀ k, 2 * l.length + 1 ≤ k → spec_l00Put.f k l n = some (putL l n) := fun k hk => by
  have := l00Put_rounds l n h l.length k [] 0 (by omega) (by omega) (by omega) (by omega) (by simp)
  simpa [spec_l00Put.f] using this
theorem impl_rooms_from (l : List S36) (h : l.length ≤ 1048576) : From (fun k => impl_rooms.f k l) (setOf (l.map fun p => p.f0)) := by
  refine collect_then (fun k out i => impl_rooms.l0 k out l l.length i) l z36 0 (fun p => some p.f0) _ (fun k out i _ h0 h1 ho => by
    have hb : out.length < 17592186044416 := by omega
    simp only [impl_rooms.l0, h0, h1, hb, if_true, wsucc h0 (by omega), rd_T36, Option.toList]) (fun k _ => by
    have e : (l.filterMap fun p => some p.f0) = l.map fun p => p.f0 := congrFun (List.filterMap_eq_map' ..) l
    have h3 : (l.map fun p => p.f0).length < 4611686018427387904 := by rw [List.length_map]; omega
    have h4 : ((l.map fun p => p.f0).mergeSort fun x y => decide (x ≤ y)).length ≤ 9223372036854775807 := by rw [List.length_mergeSort, List.length_map]; omega
    simp only [impl_rooms.l0, Int.lt_irrefl, if_false, e, slices_Sort.f, slices_Compact.f, if_pos h3, if_pos h4, Option.bind_some]
    rfl)
theorem spec_rooms_from (l : List S36) (h : l.length ≤ 524288) : From (fun k => spec_l04Rooms.f k l) (putMany [] (l.map fun p => p.f0)) := by
  have hl : ∀ j, ((l.take j).foldl (fun s p => putL s p.f0) []).length ≤ 524288 := fun j => by
    have := putMany_length ((l.take j).map fun p => p.f0) []
    unfold putMany at this
    rw [List.foldl_map] at this
    simp only [List.length_nil, List.length_map, List.length_take] at this
    omega
  have := fold_then (fun k s i => spec_l04Rooms.l0 k l s i) l z36 2097152 (fun s p => putL s p.f0) [] (putMany [] (l.map fun p => p.f0)) (fun k i hk h0 h1 => by
    have e := l00Put_from ((l.take i.toNat).foldl (fun s p => putL s p.f0) []) (l.getD i.toNat z36).f0 (by have := hl i.toNat; omega) k (by have := hl i.toNat; omega)
    simp only [spec_l04Rooms.l0, h0, h1, if_true, rd_T36, e, Option.bind_some, wsucc h0 (by omega)]) (fun k _ => by
    simp only [spec_l04Rooms.l0, Int.lt_irrefl, if_false, putMany, List.foldl_map])
  exact this
/-- The rooms of parcels, rising. -/
def roomsL (l : List S36) : List Int := setOf (l.map fun p => p.f0)
def nextR (rs : List Int) (la : Int) : Int := (rs.find? fun n => decide (n > la)).getD (rs.getD 0 0)
theorem getB {l : List S36} {j : Nat} (h : j < l.length) : l[j]! = l.getD j z36 := by
  rw [getElem!_pos l j h, List.getD_eq_getElem?_getD, List.getElem?_eq_getElem h]; rfl
theorem getBI {l : List Int} {j : Nat} (h : j < l.length) : l[j]! = l.getD j 0 := by
  rw [getElem!_pos l j h, List.getD_eq_getElem?_getD, List.getElem?_eq_getElem h]; rfl
theorem find_at : ∀ (rs : List Int) (q : Int → Bool) (m : Nat), m < rs.length → q (rs.getD m 0) = true → (∀ j, j < m → q (rs.getD j 0) = false) → rs.find? q = some (rs.getD m 0)
  | [], _, m, h, _, _ => by simp at h
  | r :: rs, q, 0, _, h1, _ => by
    rw [List.find?_cons]; simp only [List.getD_cons_zero] at h1 ⊢; rw [h1]
  | r :: rs, q, m + 1, h, h1, h2 => by
    have h0 := h2 0 (by omega)
    simp only [List.getD_cons_zero] at h0
    rw [List.find?_cons, h0]
    simp only [List.getD_cons_succ] at h1 ⊢
    exact find_at rs q m (by simpa using h) h1 (fun j hj => by have := h2 (j + 1) (by omega); simpa only [List.getD_cons_succ] using this)
theorem find_no (rs : List Int) (q : Int → Bool) (h : ∀ j, j < rs.length → q (rs.getD j 0) = false) : rs.find? q = none := by
  rw [List.find?_eq_none]
  intro x hx
  obtain ⟨j, hj, rfl⟩ := List.mem_iff_getElem.1 hx
  have := h j hj
  rw [List.getD_eq_getElem?_getD, List.getElem?_eq_getElem hj] at this
  simpa using this
theorem idxN_tells (rs : List Int) (la : Int) (hne : rs ≠ []) : 0 ≤ top0 (idxN rs la) ∧ top0 (idxN rs la) < rs.length ∧ rs.getD (top0 (idxN rs la)).toNat 0 = nextR rs la := by
  have hl : 0 < rs.length := List.length_pos_iff.2 hne
  rcases Go.Proofs.idxByFrom_spec (fun _ (n : Int) => decide (n > la)) (default : Int) rs 0 with ⟨e, hall⟩ | ⟨k, hk, e, ht, hall⟩
  · have e' : idxN rs la = -1 := e
    have h : top0 (idxN rs la) = 0 := by rw [e']; rfl
    rw [h]
    refine ⟨by omega, by omega, ?_⟩
    unfold nextR
    rw [find_no rs _ (fun j hj => by rw [← getBI hj]; exact hall j hj)]
    rfl
  · have e' : idxN rs la = (k : Int) := by
      have : idxN rs la = ((0 + k : Nat) : Int) := e
      rw [this, Nat.zero_add]
    have h : top0 (idxN rs la) = k := by rw [e']; exact if_neg (by omega)
    rw [h]
    refine ⟨by omega, by omega, ?_⟩
    unfold nextR
    rw [Int.toNat_natCast, find_at rs _ k hk (by rw [← getBI hk]; exact ht) (fun j hj => by rw [← getBI (by omega)]; exact hall j hj)]
    rfl
theorem nextR_mem (rs : List Int) (la : Int) (hne : rs ≠ []) : nextR rs la ∈ rs := by
  obtain ⟨h0, h1, h2⟩ := idxN_tells rs la hne
  rw [← h2]
  exact getD_mem 0 (by omega)
def firstAt (l : List S36) (nx : Int) : Nat := (idxR l nx).toNat
theorem firstAt_tells (l : List S36) (nx : Int) (h : ∃ p ∈ l, p.f0 = nx) : idxR l nx = (firstAt l nx : Int) ∧ firstAt l nx < l.length ∧ (l.getD (firstAt l nx) z36).f0 = nx ∧ ∀ j, j < firstAt l nx → ¬ (l.getD j z36).f0 = nx := by
  rcases Go.Proofs.idxByFrom_spec (fun _ (p : S36) => p.f0 == nx) (default : S36) l 0 with ⟨e, hall⟩ | ⟨k, hk, e, ht, hall⟩
  · exfalso
    obtain ⟨p, hp, hx⟩ := h
    obtain ⟨j, hj, rfl⟩ := List.mem_iff_getElem.1 hp
    have := hall j hj
    rw [getElem!_pos l j hj] at this
    simp [hx] at this
  · have e' : idxR l nx = (k : Int) := by
      have : idxR l nx = ((0 + k : Nat) : Int) := e
      rw [this, Nat.zero_add]
    have hf : firstAt l nx = k := by unfold firstAt; rw [e']; rfl
    rw [hf]
    refine ⟨e', hk, ?_, fun j hj => ?_⟩
    · rw [getB hk] at ht; simpa using ht
    · have := hall j hj
      rw [getB (by omega)] at this
      simpa using this
theorem rooms_mem (l : List S36) (x : Int) : x ∈ roomsL l ↔ ∃ p ∈ l, p.f0 = x := by
  unfold roomsL
  rw [(setOf_tells _).2 x, List.mem_map]
theorem rooms_ne (l : List S36) (h : l.length ≠ 0) : roomsL l ≠ [] := by
  intro e
  obtain ⟨p, hp⟩ := List.exists_mem_of_length_pos (by omega : 0 < l.length)
  have := (rooms_mem l p.f0).2 ⟨p, hp, rfl⟩
  rw [e] at this
  simp at this
def nextOf (l : List S36) (la : Int) : Int := nextR (roomsL l) la
theorem next_in (l : List S36) (la : Int) (h : l.length ≠ 0) : ∃ p ∈ l, p.f0 = nextOf l la := (rooms_mem l _).1 (nextR_mem _ la (rooms_ne l h))
def restOf (l : List S36) (la : Int) : List S36 := l.take (firstAt l (nextOf l la)) ++ l.drop (firstAt l (nextOf l la) + 1)
def pickOf (l : List S36) (la : Int) : S36 := l.getD (firstAt l (nextOf l la)) z36
def seqF : Nat → List S36 → Int → List S36
  | 0, _, _ => []
  | d + 1, l, la => pickOf l la :: seqF d (restOf l la) (nextOf l la)
theorem restOf_len (l : List S36) (la : Int) (h : l.length ≠ 0) : (restOf l la).length + 1 = l.length := by
  have := (firstAt_tells l _ (next_in l la h)).2.1
  unfold restOf
  rw [List.length_append, List.length_take, List.length_drop]; omega
theorem seqF_len : ∀ (d : Nat) (l : List S36) (la : Int), (seqF d l la).length = d
  | 0, _, _ => rfl
  | d + 1, l, la => by simp [seqF, seqF_len d]
theorem roomsL_len (l : List S36) : (roomsL l).length ≤ l.length := by
  have := setOf_length (l.map fun p => p.f0)
  rwa [List.length_map] at this
theorem fairL_from : ∀ (d : Nat) (l out : List S36) (la : Int), l.length = d → d ≤ 1000 → out.length + d ≤ 1000 → ∃ K, ∀ k, K ≤ k → ∀ f, d < f → fairL k f l out la = some (out ++ seqF d l la)
  | 0, l, out, la, hl, _, _ => ⟨0, fun k _ f hf => by
      obtain ⟨f, rfl⟩ : ∃ n, f = n + 1 := ⟨f - 1, by omega⟩
      rw [fairL, if_pos hl, seqF, List.append_nil]⟩
  | d + 1, l, out, la, hl, hd, ho => by
    have hne : l.length ≠ 0 := by omega
    obtain ⟨a1, a2, a3, a4⟩ := firstAt_tells l _ (next_in l la hne)
    obtain ⟨b1, b2, b3⟩ := idxN_tells (roomsL l) la (rooms_ne l hne)
    have hr := restOf_len l la hne
    have hrl := roomsL_len l
    obtain ⟨K1, e1⟩ := impl_rooms_from l (by omega)
    obtain ⟨K2, e2⟩ := fairL_from d (restOf l la) (out ++ [pickOf l la]) (nextOf l la) (by omega) (by omega) (by simp; omega)
    refine ⟨K1 + K2, fun k hk f hf => ?_⟩
    obtain ⟨f, rfl⟩ : ∃ n, f = n + 1 := ⟨f - 1, by omega⟩
    have E1 : impl_rooms.f k l = some (roomsL l) := e1 k (by omega)
    have E2 := e2 k (by omega) f (by omega)
    have hn : (roomsL l).getD (top0 (idxN (roomsL l) la)).toNat 0 = nextOf l la := b3
    rw [fairL, if_neg hne, E1]
    simp only [Option.bind_some]
    rw [if_pos ⟨b1, b2, by omega⟩, hn, a1, if_pos ⟨by omega, by omega, by omega, by omega⟩, Int.toNat_natCast]
    refine Eq.trans ?_ (E2.trans ?_)
    · rfl
    · rw [seqF, List.append_assoc]; rfl
theorem szParcelS_tells (l : List S38) (h2 : l.length ≤ 9223372036854775807) :
    ∃ r, laws_szParcelS.f l 1048576 = some r ∧ (r < 0 ∨ (l.length ≤ 1048576 ∧ 0 ≤ r)) := by
  unfold laws_szParcelS.f
  rw [w64 (by omega) (by omega)]
  by_cases c2 : (1048576 : Int) - l.length < 0
  · rw [if_pos c2]; exact ⟨-1, rfl, .inl (by omega)⟩
  · rw [if_neg c2]; exact ⟨_, rfl, .inr (by omega)⟩
theorem from_step {α : Type} {f g : Nat → Option α} {r : α} (h : From f r) (K : Nat) (e : ∀ k, K ≤ k → g (k + 1) = f k) : From g r := by
  obtain ⟨L, hL⟩ := h
  refine ⟨K + L + 1, fun k hk => ?_⟩
  obtain ⟨k, rfl⟩ : ∃ n, k = n + 1 := ⟨k - 1, by omega⟩
  rw [e k (by omega)]
  exact hL k (by omega)
abbrev P1 := S36
theorem spec_l2_done (left out : List P1) (nx : Int) (hl : left.length ≤ 1000) (ho : out.length ≤ 2000) (r : List P1 × Bool) : ∀ (d i : Nat) (x11 : List P1), i + d = left.length → x11.length ≤ i →
    From (fun k => spec_FairOrder.l0 k nx (x11 ++ left.drop i) out) r → From (fun k => spec_FairOrder.l2 k left out nx x11 true (i : Int)) r
  | 0, i, x11, hi, hx, h => by
    rw [List.drop_of_length_le (by omega), List.append_nil] at h
    refine from_step h 0 fun k _ => ?_
    rw [spec_FairOrder.l2, if_neg (by omega)]
  | d + 1, i, x11, hi, hx, h => by
    have hin : i < left.length := by omega
    have e : (⟨(left.getD i z36).f0, (left.getD i z36).f1⟩ : P1) = left[i] := by
      rw [List.getD_eq_getElem?_getD, List.getElem?_eq_getElem hin]; rfl
    have ih := spec_l2_done left out nx hl ho r d (i + 1) (x11 ++ [left[i]]) (by omega) (by simp; omega) (by
      rw [List.drop_eq_getElem_cons hin] at h
      simpa using h)
    refine from_step ih 0 fun k _ => ?_
    rw [spec_FairOrder.l2, if_pos (by omega), if_pos rfl, if_pos (by omega), if_pos (by omega), rd_T36, Int.toNat_natCast, e, wsucc (by omega) (by omega)]
    rfl
theorem spec_l2_find (left out : List P1) (nx : Int) (a : Nat) (ha : a < left.length) (hnx : (left.getD a z36).f0 = nx) (hno : ∀ j, j < a → ¬ (left.getD j z36).f0 = nx) (hl : left.length ≤ 1000) (ho : out.length ≤ 1000) (r : List P1 × Bool)
    (h : From (fun k => spec_FairOrder.l0 k nx (left.take a ++ left.drop (a + 1)) (out ++ [left.getD a z36])) r) : ∀ (d i : Nat), i + d = a → From (fun k => spec_FairOrder.l2 k left out nx (left.take i) false (i : Int)) r
  | 0, i, hi => by
    obtain rfl : i = a := by omega
    have e : (⟨(left.getD i z36).f0, (left.getD i z36).f1⟩ : P1) = left.getD i z36 := rfl
    have := spec_l2_done left (out ++ [left.getD i z36]) nx hl (by simp; omega) r (left.length - (i + 1)) (i + 1) (left.take i) (by omega) (by rw [List.length_take]; omega) h
    refine from_step this 0 fun k _ => ?_
    rw [spec_FairOrder.l2, if_pos (by omega), if_neg (by simp), if_pos (by omega), rd_T36, Int.toNat_natCast, if_pos hnx, if_pos (by omega), e, wsucc (by omega) (by omega)]
    rfl
  | d + 1, i, hi => by
    have hin : i < left.length := by omega
    have e : (⟨(left.getD i z36).f0, (left.getD i z36).f1⟩ : P1) = left[i] := by
      rw [List.getD_eq_getElem?_getD, List.getElem?_eq_getElem hin]; rfl
    have ih := spec_l2_find left out nx a ha hnx hno hl ho r h d (i + 1) (by omega)
    rw [List.take_succ_eq_append_getElem hin] at ih
    have htl : (left.take i).length < 8796093022208 := by rw [List.length_take]; omega
    refine from_step ih 0 fun k _ => ?_
    rw [spec_FairOrder.l2, if_pos (by omega), if_neg (by simp), if_pos (by omega), rd_T36, Int.toNat_natCast, if_neg (hno i (by omega)), if_pos htl, e, wsucc (by omega) (by omega)]
    rfl
def after (rs : List Int) (la : Int) (i : Nat) : Int := ((rs.drop i).find? fun n => decide (n > la)).getD (rs.getD 0 0)
theorem after_step (rs : List Int) (la : Int) (i : Nat) (hi : i < rs.length) : after rs la i = if rs.getD i 0 > la then rs.getD i 0 else after rs la (i + 1) := by
  have hx : rs.getD i 0 = rs[i] := by rw [List.getD_eq_getElem?_getD, List.getElem?_eq_getElem hi]; rfl
  unfold after
  rw [List.drop_eq_getElem_cons hi, List.find?_cons, hx]
  by_cases c : rs[i] > la
  · rw [if_pos c, decide_eq_true c]; rfl
  · rw [if_neg c, decide_eq_false c]
theorem spec_l1_loop (la : Int) (left out : List P1) (rs : List Int) (hl : rs.length ≤ 1000) (r : List P1 × Bool) (h : From (fun k => spec_FairOrder.l2 k left out (after rs la 0) [] false 0) r) : ∀ (i : Nat), i ≤ rs.length →
    From (fun k => spec_FairOrder.l1 k la left out rs (after rs la i) ((i : Int) - 1)) r
  | 0, _ => by
    refine from_step h 0 fun k _ => ?_
    rw [spec_FairOrder.l1, if_neg (by omega)]
  | i + 1, hi => by
    have ih := spec_l1_loop la left out rs hl r h i (by omega)
    have hs := after_step rs la i (by omega)
    refine from_step ih 0 fun k _ => ?_
    have e : (((i + 1 : Nat) : Int) - 1) = (i : Int) := by omega
    have hw : wrap64 ((i : Int) - 1) = (i : Int) - 1 := w64 (by omega) (by omega)
    rw [e, spec_FairOrder.l1, if_pos (by omega), if_pos (by omega), if_pos (by omega), hw, hs]
    have hrd : rd rs (i : Int) = rs.getD i 0 := by unfold rd; rw [Int.toNat_natCast]
    rw [hrd]
    by_cases c : rs.getD i 0 > la
    · rw [if_pos c, if_pos c]
    · rw [if_neg c, if_neg c]
theorem spec_fair : ∀ (d : Nat) (l out : List P1) (la : Int), l.length = d → d ≤ 1000 → out.length + d ≤ 1000 → From (fun k => spec_FairOrder.l0 k la l out) (out ++ seqF d l la, true)
  | 0, l, out, la, hl, _, _ => ⟨1, fun k hk => by
      obtain ⟨k, rfl⟩ : ∃ n, k = n + 1 := ⟨k - 1, by omega⟩
      show spec_FairOrder.l0 (k + 1) la l out = _
      rw [spec_FairOrder.l0, if_neg (by omega), seqF, List.append_nil]⟩
  | d + 1, l, out, la, hl, hd, ho => by
    have hne : l.length ≠ 0 := by omega
    obtain ⟨a1, a2, a3, a4⟩ := firstAt_tells l _ (next_in l la hne)
    have hr := restOf_len l la hne
    have hrl := roomsL_len l
    have hrn := rooms_ne l hne
    have hrp : 0 < (roomsL l).length := List.length_pos_iff.2 hrn
    have ih := spec_fair d (restOf l la) (out ++ [pickOf l la]) (nextOf l la) (by omega) (by omega) (by simp; omega)
    have H2 := spec_l2_find l out (nextOf l la) (firstAt l (nextOf l la)) a2 a3 a4 (by omega) (by omega) _ ih (firstAt l (nextOf l la)) 0 (by omega)
    rw [List.take_zero] at H2
    have hn0 : after (roomsL l) la 0 = nextOf l la := rfl
    have H1 := spec_l1_loop la l out (roomsL l) (by omega) _ (by rw [hn0]; exact H2) (roomsL l).length (Nat.le_refl _)
    have hend : after (roomsL l) la (roomsL l).length = rd (roomsL l) 0 := by
      unfold after
      rw [List.drop_length]; rfl
    rw [hend] at H1
    obtain ⟨K, e⟩ := spec_rooms_from l (by omega)
    have e' : ∀ k, K ≤ k → spec_l04Rooms.f k l = some (roomsL l) := fun k hk => by
      have := e k hk
      unfold roomsL
      rw [setOf_eq_putMany]; exact this
    have hres : (out ++ [pickOf l la]) ++ seqF d (restOf l la) (nextOf l la) = out ++ seqF (d + 1) l la := by rw [seqF, List.append_assoc]; rfl
    rw [hres] at H1
    refine from_step H1 K fun k hk => ?_
    show spec_FairOrder.l0 (k + 1) la l out = _
    rw [spec_FairOrder.l0, if_pos (by omega), e' k hk]
    simp only [Option.bind_some]
    rw [if_pos (by omega), w64 (by omega) (by omega)]
theorem both_from (l : List P1) (la : Int) (h : l.length ≤ 1048576) : ∃ g : List P1 × Bool, g.1.length ≤ 1048576 ∧ From (fun k => spec_FairOrder.f k l la) g ∧ From (fun k => impl_FairOrder.f k l la) g := by
  obtain ⟨K1, e1⟩ := l04Parcels_from l h
  obtain ⟨K2, e2⟩ := parcelsOk_from l h
  cases ho : okPs l with
  | false =>
    rw [ho] at e1 e2
    refine ⟨([], false), by simp, ⟨K1 + 1, fun k hk => ?_⟩, ⟨K2, fun k hk => by simp only [impl_FairOrder.f, e2 k hk, Option.bind_some, Bool.false_eq_true, if_false]⟩⟩
    obtain ⟨k, rfl⟩ : ∃ n, k = n + 1 := ⟨k - 1, by omega⟩
    simp only [spec_FairOrder.f, e1 (k + 1) (by omega), Option.bind_some, Bool.false_eq_true, if_false, spec_FairOrder.j0, if_true]
  | true =>
    have hl : l.length ≤ 64 := by
      unfold okPs at ho
      rw [Bool.and_eq_true, decide_eq_true_eq] at ho
      exact ho.1
    rw [ho] at e1 e2
    by_cases c : 0 ≤ la ∧ la ≤ 1000
    · obtain ⟨K3, e3⟩ := spec_fair l.length l [] la rfl (by omega) (by simp; omega)
      obtain ⟨K4, e4⟩ := fairL_from l.length l [] la rfl (by omega) (by simp; omega)
      rw [List.nil_append] at e3
      refine ⟨(seqF l.length l la, true), by simp [seqF_len]; omega, ⟨K1 + K3 + 1, fun k hk => ?_⟩, ⟨K2 + K4 + l.length + 1, fun k hk => ?_⟩⟩
      · obtain ⟨k, rfl⟩ : ∃ n, k = n + 1 := ⟨k - 1, by omega⟩
        have E3 := e3 k (by omega)
        have hz : ([] : List P1).length + l.length < 8796093022208 := by simp; omega
        simp only [spec_FairOrder.f, e1 (k + 1) (by omega), Option.bind_some, if_true, in_eq, in_some, c, and_self, decide_true, Bool.not_true, spec_FairOrder.j0, Bool.false_eq_true, if_false, hz, List.nil_append]
        exact E3
      · have hc : slices_CloneP.f l = some l := by
          unfold slices_CloneP.f
          rw [if_pos (by omega)]
        have E4 := e4 k (by omega) k (by omega)
        rw [List.nil_append] at E4
        simp only [impl_FairOrder.f, e2 k (by omega), Option.bind_some, if_true, in_some, c, and_self, decide_true, hc, E4]
    · refine ⟨([], false), by simp, ⟨K1 + 1, fun k hk => ?_⟩, ⟨K2, fun k hk => by simp only [impl_FairOrder.f, e2 k hk, Option.bind_some, if_true, in_some, c, decide_false, Bool.false_eq_true, if_false]⟩⟩
      obtain ⟨k, rfl⟩ : ∃ n, k = n + 1 := ⟨k - 1, by omega⟩
      simp only [spec_FairOrder.f, e1 (k + 1) (by omega), Option.bind_some, if_true, in_eq, in_some, c, decide_false, Bool.not_false, spec_FairOrder.j0]
theorem heldParcelS_from (ys : List P1) (m : Int) (hm : 0 ≤ m) (hb : m ≤ 4294967296) (h : ys.length ≤ 1048576) (hy : ∀ j : Nat, j < ys.length → ys[j]? = some (⟨m + 2 * j, m + 2 * j + 1⟩ : P1)) :
    From (fun k => laws_heldParcelS.f k ys m) (m + 2 * ys.length) := by
  obtain ⟨K, hK⟩ := all_loop (fun k i => laws_heldParcelS.l0 k ys (m + 2 * i) i) ys.length (by omega) 0 (m + 2 * ys.length) (fun k i _ h0 h1 => by
      have hr : rd_T36 ys i = (⟨m + 2 * i, m + 2 * i + 1⟩ : P1) := by
        have := hy i.toNat (by omega)
        unfold rd_T36
        rw [getD_of this]; congr 1 <;> omega
      simp only [laws_heldParcelS.l0, h0, h1, if_true, hr, wsucc h0 (by omega), wsucc (show 0 ≤ m + 2 * i by omega) (by omega), wsucc (show 0 ≤ m + 2 * i + 1 by omega) (by omega)]
      congr 1; omega) (fun k i _ h he => by subst he; simp only [laws_heldParcelS.l0, h, if_false])
  refine ⟨K, fun k hk => ?_⟩
  simp only [laws_heldParcelS.f]
  have := hK k hk
  simpa using this
theorem FnExactFairOrder : laws_FnExactFairOrder.Pure := by
  intro l la ⟨h1, q1⟩ _
  obtain ⟨s, hs, hc⟩ := szParcelS_tells l h1
  rcases hc with hc | ⟨b1, b2⟩
  · exact ⟨0, by simp only [laws_FnExactFairOrder.f, hs, Option.bind_some, hc, if_true]⟩
  have hn : ¬ s < 0 := by omega
  obtain ⟨K1, e1⟩ := toParcelS_from l b1
  have b1' : (l.map convParcel).length ≤ 1048576 := by simpa using b1
  generalize l.map convParcel = l' at *
  obtain ⟨K2, e2⟩ := eqParcelS_from l' b1'
  obtain ⟨us, ⟨K7, e7⟩, _, _⟩ := markParcelS_from l' 1 (by omega) (by omega) b1'
  obtain ⟨g, hg, ⟨K8, e8⟩, ⟨K9, e9⟩⟩ := both_from l' la b1'
  obtain ⟨K10, e10⟩ := eqParcelS_from g.1 (by omega)
  obtain ⟨ys, ⟨K11, e11⟩, hyl, hyy⟩ := markParcelS_from g.1 1 (by omega) (by omega) hg
  obtain ⟨K12, e12⟩ := heldParcelS_from ys 1 (by omega) (by omega) (by omega) (fun j hj => by rw [hyy j (by omega)])
  rw [hyl] at e12
  generalize hK : K1 + K2 + K7 + K8 + K9 + K10 + K11 + K12 = K
  refine ⟨K + 12, ?_⟩
  have hp : ¬ (1 + 2 * (g.1.length : Int)) < 0 := by omega
  have hu : ¬ (1 + 2 * (l'.length : Int)) < 0 := by omega
  have hb : (g.2 != g.2) = false := by simp
  have E1 := fun i => e1 (K + i) (by omega)
  have E2 := fun i => e2 (K + i) (by omega)
  have E7 : ∀ i, laws_markParcelS.f (K + i) l' 1 = some (1 + 2 * (l'.length : Int), us) := fun i => e7 (K + i) (by omega)
  have E8 := fun i => e8 (K + i) (by omega)
  have E9 := fun i => e9 (K + i) (by omega)
  have E10 := fun i => e10 (K + i) (by omega)
  have E11 : ∀ i, laws_markParcelS.f (K + i) g.1 1 = some (1 + 2 * (g.1.length : Int), ys) := fun i => e11 (K + i) (by omega)
  have E12 := fun i => e12 (K + i) (by omega)
  clear e1 e2 e7 e8 e9 e10 e11 e12
  simp only [laws_FnExactFairOrder.f, hs, hn, Option.bind_some, if_false]
  simp only [laws_FnExactFairOrder.j0, E1, E8, E9, E10, hb, Option.bind_some, if_true]
  simp only [laws_FnExactFairOrder.j1, Bool.false_eq_true, if_false]
  simp only [laws_FnExactFairOrder.j2, E1, E2, Option.bind_some, if_true]
  simp only [laws_FnExactFairOrder.j3, E7, E10, hu, hb, Option.bind_some, if_true, if_false]
  simp only [laws_FnExactFairOrder.j4, Bool.false_eq_true, if_false]
  simp only [laws_FnExactFairOrder.j5, E11, E12, hp, Option.bind_some, if_false]
  simp only [laws_FnExactFairOrder.j6, if_true]
  simp only [laws_FnExactFairOrder.j7, E1, E9, E10, hb, Option.bind_some, if_true]
  simp only [laws_FnExactFairOrder.j8, Bool.false_eq_true, if_false]
  simp only [laws_FnExactFairOrder.j9, E12, hp, Option.bind_some, if_true, if_false]

end Go.Proofs.Ytgpiaeklhhacjab.Pure
