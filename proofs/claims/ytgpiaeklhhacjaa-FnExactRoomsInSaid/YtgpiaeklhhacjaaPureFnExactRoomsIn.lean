/- The program's RoomsIn returns what the reference's returns, for every slice of parcels that can be read. -/
import Derived.Test.YtgpiaeklhhacjaaXFnExactRoomsInx5
import Derived.Test.YtgpiaeklhhacjaaXP
import Derived.Test.YtgpiaeklhhacjaaXQ
namespace Go.Proofs.Ytgpiaeklhhacjaa.Pure
open Go.RowKit Go.Proofs.Ytgpiaeklhhacjaa.XFnExactRoomsIn Go.Proofs.YtgpiaeklhhacjaaW.PrintWords Go.Proofs.YtgpiaeklhhacjaaW.PrintLast Go.Proofs.Ytgpiaeklhhacjaa.XP Go.Proofs.Ytgpiaeklhhacjaa.XQ Go.Proofs.Ytgpiaeklhhacjaa.XP Go.Proofs.Ytgpiaeklhhacjaa.XQ
set_option linter.unusedVariables false
set_option linter.unusedSimpArgs false

def convParcel : S70 → S60 := (fun x : S70 => (⟨x.f0, x.f1⟩ : S60))
theorem toParcelS_from (l : List S70) (h : l.length ≤ 1048576) : From (fun k => laws_toParcelS.f k l) (l.map convParcel) := by
  obtain ⟨K, hK⟩ := fill_all (F := laws_toParcelS.l0) convParcel z70 z60 (fun k xs ys i h0 h1 h2 h3 => by
      simp only [laws_toParcelS.l0, h0, h1, h2, if_true, laws_toParcel.f, Option.bind_some, wsucc h0 h3]; rfl) (fun k xs ys i h => by simp only [laws_toParcelS.l0, h, if_false]) l (by omega)
  refine ⟨K, fun k hk => ?_⟩
  simp only [laws_toParcelS.f, Int.toNat_natCast]
  rw [if_pos (by omega), if_pos (by omega)]
  exact hK k hk
theorem eqParcelS_from (l : List S60) (h : l.length ≤ 1048576) : From (fun k => laws_eqParcelS.f k l l) true := by
  obtain ⟨K, hK⟩ := all_loop (fun k i => laws_eqParcelS.l0 k l l i) l.length (by omega) 0 true (fun k i _ h0 h1 => by
      simp only [laws_eqParcelS.l0, h0, h1, if_true, laws_eqParcel.f, Option.bind_some, wsucc h0 (by omega)]) (fun k i _ h _ => by simp only [laws_eqParcelS.l0, h, if_false])
  refine ⟨K, fun k hk => ?_⟩
  simp only [laws_eqParcelS.f, if_true]
  exact hK k hk
theorem markParcelS_from (l : List S60) (m : Int) (hm : 0 ≤ m) (hb : m ≤ 1152921504606846976) (h : l.length ≤ 1048576) :
    ∃ ys, From (fun k => laws_markParcelS.f k l m) (m + 2 * l.length, ys) ∧ ys.length = l.length ∧ ∀ j : Nat, j < l.length → ys[j]? = some (⟨m + 2 * j, m + 2 * j + 1⟩ : S60) :=
  mark_all (F := fun k xs m i => laws_markParcelS.l0 k xs m i) 2 (by omega) (by omega) (fun m => (⟨m, m + 1⟩ : S60)) (fun k xs m i h0 h1 h2 h3 h4 => by
    have hi : i.toNat < xs.length := by omega
    simp only [laws_markParcelS.l0, h0, h1, if_true, wsucc h0 h2, Option.bind_some, rd_T60, getD_set hi, List.set_set, List.length_set, wsucc (show 0 ≤ m by omega) (by omega), wsucc (show 0 ≤ m + 1 by omega) (by omega)]
    congr 1; omega) (fun k xs m i h => by simp only [laws_markParcelS.l0, h, if_false]) l m hm (by have := mul_mono (c := 2) (by omega) h; omega) (by omega)
theorem in_eq (a b c : Int) : spec_l00In.f a b c = impl_in.f a b c := rfl
theorem in_some (a b c : Int) : impl_in.f a b c = some (decide (b ≤ a ∧ a ≤ c)) := by
  unfold impl_in.f
  split
  · congr 1; rw [decide_eq_decide]; omega
  · congr 1; symm; rw [decide_eq_false_iff_not]; omega

def okP (p : S60) : Bool := decide (1 ≤ p.f0 ∧ p.f0 ≤ 1000) && decide (1 ≤ p.f1 ∧ p.f1 ≤ 1000000)
def okPs (l : List S60) : Bool := decide (l.length ≤ 64) && (List.range l.length).all fun j => okP (l.getD j z60)
theorem l04Parcel_some (p : S60) : spec_l04Parcel.f p.f0 p.f1 = some (okP p) := by
  simp only [spec_l04Parcel.f, in_eq, in_some, Option.bind_some, okP]
  by_cases h : 1 ≤ p.f0 ∧ p.f0 ≤ 1000 <;> simp [h]
theorem parcelOk_some (p : S60) : impl_parcelOk.f p.f0 p.f1 = some (okP p) := by
  simp only [impl_parcelOk.f, in_some, Option.bind_some, okP]
  by_cases h : 1 ≤ p.f0 ∧ p.f0 ≤ 1000 <;> simp [h]
theorem l04Parcels_from (l : List S60) (h : l.length ≤ 1048576) : From (fun k => spec_l04Parcels.f k l) (okPs l) := by
  by_cases hl : l.length ≤ 64
  · have hli : (l.length : Int) ≤ 64 := by omega
    obtain ⟨K, hK⟩ := test_loopC (fun k i => spec_l04Parcels.l0 k l i) 2 l.length 0 (fun j => okP (l.getD j z60)) true (fun k i _ h0 h1 => by
      simp only [spec_l04Parcels.l0, spec_l04Parcels.j1, h0, h1, hli, if_true, decide_true, rd_T60, l04Parcel_some, Option.bind_some, wsucc h0 (by omega)]) (fun k _ => by
      simp only [spec_l04Parcels.l0, spec_l04Parcels.j1, Int.lt_irrefl, if_false, Bool.false_eq_true, hli, decide_true])
    exact ⟨K, fun k hk => by simpa [okPs, hl, spec_l04Parcels.f] using hK k hk⟩
  · have hli : ¬ (l.length : Int) ≤ 64 := by omega
    refine ⟨2, fun k hk => ?_⟩
    obtain ⟨k, rfl⟩ : ∃ n, k = n + 2 := ⟨k - 2, by omega⟩
    have h1 : (0 : Int) < l.length := by omega
    simp only [spec_l04Parcels.f, spec_l04Parcels.l0, spec_l04Parcels.j1, h1, hli, if_true, decide_false, Bool.false_eq_true, if_false, okPs, hl, Bool.false_and]
theorem parcelsOk_from (l : List S60) (h : l.length ≤ 1048576) : From (fun k => impl_parcelsOk.f k l) (okPs l) := by
  by_cases hl : l.length ≤ 64
  · have hli : (l.length : Int) ≤ 64 := by omega
    obtain ⟨K, hK⟩ := test_loopB (fun k i => (impl_Parcel_badParcel_161.l0 k l l.length i).bind fun t => some (!(decide (t ≥ 0)))) l.length 0 (fun j => okP (l.getD j z60)) true (fun k i _ h0 h1 => by
      simp only [impl_Parcel_badParcel_161.l0, impl_badParcel.f, h0, h1, if_true, rd_T60, parcelOk_some, Option.bind_some, wsucc h0 (by omega)]
      rcases Bool.eq_false_or_eq_true (okP (l.getD i.toNat z60)) with c | c <;> simp [c, h0, -List.getD_eq_getElem?_getD]) (fun k _ => by
      simp only [impl_Parcel_badParcel_161.l0, Int.lt_irrefl, if_false, Option.bind_some]
      rfl)
    refine ⟨K, fun k hk => ?_⟩
    have := hK k hk
    simp only [impl_parcelsOk.f, impl_Parcel_badParcel_162.f, impl_Parcel_badParcel_161.f, hli, if_true]
    cases he : impl_Parcel_badParcel_161.l0 k l l.length 0 with
    | none => rw [he] at this; cases this
    | some t =>
      rw [he] at this
      simpa [okPs, hl] using this
  · have hli : ¬ (l.length : Int) ≤ 64 := by omega
    exact ⟨0, fun k hk => by simp only [impl_parcelsOk.f, hli, if_false, okPs, hl, decide_false, Bool.false_and]⟩
theorem eqInt64S_from (l : List Int) (h : l.length ≤ 1073741824) : From (fun k => laws_eqInt64S.f k l l) true := by
  obtain ⟨K, hK⟩ := all_loop (fun k i => laws_eqInt64S.l0 k l l i) l.length (by omega) 0 true (fun k i _ h0 h1 => by
      simp only [laws_eqInt64S.l0, h0, h1, if_true, wsucc h0 (by omega)]) (fun k i _ h _ => by simp only [laws_eqInt64S.l0, h, if_false])
  refine ⟨K, fun k hk => ?_⟩
  simp only [laws_eqInt64S.f, if_true]
  exact hK k hk
theorem markInt64S_from (l : List Int) (m : Int) (hm : 0 ≤ m) (hb : m ≤ 4294967296) (h : l.length ≤ 1073741824) :
    ∃ ys, From (fun k => laws_markInt64S.f k l m) (m + 1 * l.length, ys) ∧ ys.length = l.length ∧ ∀ j : Nat, j < l.length → ys[j]? = some (m + 1 * j) :=
  mark_all (F := fun k xs m i => laws_markInt64S.l0 k xs m i) 1 (by omega) (by omega) (fun m => m) (fun k xs m i h0 h1 h2 h3 h4 => by
    simp only [laws_markInt64S.l0, h0, h1, if_true, wsucc h0 h2, wsucc h3 (by omega)]) (fun k xs m i h => by simp only [laws_markInt64S.l0, h, if_false]) l m hm (by omega) (by omega)
theorem heldInt64S_from (ys : List Int) (m : Int) (hm : 0 ≤ m) (hb : m ≤ 4294967296) (h : ys.length ≤ 1073741824) (hy : ∀ j : Nat, j < ys.length → ys[j]? = some (m + 1 * j)) :
    From (fun k => laws_heldInt64S.f k ys m) (m + 1 * ys.length) := by
  obtain ⟨K, hK⟩ := all_loop (fun k i => laws_heldInt64S.l0 k ys (m + 1 * i) i) ys.length (by omega) 0 (m + 1 * ys.length) (fun k i _ h0 h1 => by
      have hr : rd ys i = m + 1 * i := by
        have := hy i.toNat (by omega)
        rw [rd, getD_of this]; omega
      simp only [laws_heldInt64S.l0, h0, h1, if_true, hr, wsucc h0 (by omega), wsucc (show 0 ≤ m + 1 * i by omega) (by omega)]
      congr 1; omega) (fun k i _ h he => by subst he; simp only [laws_heldInt64S.l0, h, if_false])
  refine ⟨K, fun k hk => ?_⟩
  simp only [laws_heldInt64S.f]
  have := hK k hk
  simpa using this
/-- What the law does to numbers that were returned: equal to themselves, marked, and the marks held. -/
theorem ints_law (l : List Int) (h : l.length ≤ 1073741824) : ∃ ys : List Int, From (fun k => laws_markInt64S.f k l 1) (1 + l.length, ys) ∧ From (fun k => laws_heldInt64S.f k ys 1) (1 + l.length) := by
  obtain ⟨ys, h1, h2, h3⟩ := markInt64S_from l 1 (by omega) (by omega) h
  refine ⟨ys, by simpa using h1, ?_⟩
  have := heldInt64S_from ys 1 (by omega) (by omega) (by omega) (fun j hj => h3 j (by omega))
  rw [h2] at this
  simpa using this
theorem l00Put_done (l : List Int) (n : Int) (h : l.length ≤ 1048576) : ∀ (m k : Nat) (out : List Int) (i : Int), 0 ≤ i → i ≤ l.length → (l.length : Int) - i = m → 2 * m < k → out.length ≤ 2097152 - m → spec_l00Put.l0 k l n out true i = some (out ++ l.drop i.toNat) := by
  intro m
  induction m with
  | zero =>
    intro k out i h0 h1 hm hk ho
    obtain ⟨k, rfl⟩ : ∃ m, k = m + 1 := ⟨k - 1, by omega⟩
    have hi : ¬ i < (l.length : Int) := by omega
    simp only [spec_l00Put.l0, hi, if_false, if_true]
    rw [List.drop_of_length_le (by omega), List.append_nil]
  | succ m ih =>
    intro k out i h0 h1 hm hk ho
    obtain ⟨k, rfl⟩ : ∃ m, k = m + 2 := ⟨k - 2, by omega⟩
    have hi : i < (l.length : Int) := by omega
    have hin : i.toNat < l.length := by omega
    have hb : out.length < 17592186044416 := by omega
    simp only [spec_l00Put.l0, spec_l00Put.j1, hi, h0, hb, if_true, if_false, Bool.false_eq_true, wsucc h0 (by omega), rd]
    rw [ih k _ (i + 1) (by omega) (by omega) (by omega) (by omega) (by simp; omega), List.drop_eq_getElem_cons hin, show (i + 1).toNat = i.toNat + 1 by omega, List.getD_eq_getElem?_getD, List.getElem?_eq_getElem hin]
    simp [-List.getElem_cons_drop]
theorem l00Put_rounds (l : List Int) (n : Int) (h : l.length ≤ 1048576) : ∀ (m k : Nat) (out : List Int) (i : Int), 0 ≤ i → i ≤ l.length → (l.length : Int) - i = m → 2 * m < k → (out.length : Int) = i → spec_l00Put.l0 k l n out false i = some (out ++ putL (l.drop i.toNat) n) := by
  intro m
  induction m with
  | zero =>
    intro k out i h0 h1 hm hk ho
    obtain ⟨k, rfl⟩ : ∃ m, k = m + 1 := ⟨k - 1, by omega⟩
    have hi : ¬ i < (l.length : Int) := by omega
    have hb : out.length < 17592186044416 := by omega
    simp only [spec_l00Put.l0, hi, hb, if_false, if_true, Bool.false_eq_true]
    rw [List.drop_of_length_le (by omega), putL]
  | succ m ih =>
    intro k out i h0 h1 hm hk ho
    obtain ⟨k, rfl⟩ : ∃ m, k = m + 2 := ⟨k - 2, by omega⟩
    have hi : i < (l.length : Int) := by omega
    have hin : i.toNat < l.length := by omega
    have hb : out.length < 17592186044416 := by omega
    have hb2 : out.length + 1 < 17592186044416 := by omega
    have hx : l.getD i.toNat 0 = l[i.toNat] := by rw [List.getD_eq_getElem?_getD, List.getElem?_eq_getElem hin]; rfl
    rw [List.drop_eq_getElem_cons hin]
    by_cases c1 : l[i.toNat] ≥ n
    · by_cases c2 : l[i.toNat] > n
      · simp only [spec_l00Put.l0, spec_l00Put.j1, hi, h0, hb, hb2, if_true, if_false, Bool.false_eq_true, wsucc h0 (by omega), rd, hx, c1, c2, decide_true, Option.bind_some, List.length_append, List.length_singleton, putL]
        rw [l00Put_done l n h m k _ (i + 1) (by omega) (by omega) (by omega) (by omega) (by simp; omega), show (i + 1).toNat = i.toNat + 1 by omega]
        simp [-List.getElem_cons_drop]
      · simp only [spec_l00Put.l0, spec_l00Put.j1, hi, h0, hb, if_true, if_false, Bool.false_eq_true, wsucc h0 (by omega), rd, hx, c1, c2, decide_true, putL]
        rw [l00Put_done l n h m k _ (i + 1) (by omega) (by omega) (by omega) (by omega) (by simp; omega), show (i + 1).toNat = i.toNat + 1 by omega]
        simp [-List.getElem_cons_drop]
    · simp only [spec_l00Put.l0, spec_l00Put.j1, hi, h0, hb, if_true, if_false, Bool.false_eq_true, wsucc h0 (by omega), rd, hx, c1, decide_false, putL]
      rw [ih k _ (i + 1) (by omega) (by omega) (by omega) (by omega) (by simp; omega), show (i + 1).toNat = i.toNat + 1 by omega]
      simp
theorem l00Put_from (l : List Int) (n : Int) (h : l.length ≤ 1048576) : ∀ k, 2 * l.length + 1 ≤ k → spec_l00Put.f k l n = some (putL l n) := fun k hk => by
  have := l00Put_rounds l n h l.length k [] 0 (by omega) (by omega) (by omega) (by omega) (by simp)
  simpa [spec_l00Put.f] using this
theorem szParcelS_tells (l : List S70) (h2 : l.length ≤ 9223372036854775807) :
    ∃ r, laws_szParcelS.f l 1048576 = some r ∧ (r < 0 ∨ (l.length ≤ 1048576 ∧ 0 ≤ r)) := by
  unfold laws_szParcelS.f
  rw [w64 (by omega) (by omega)]
  by_cases c2 : (1048576 : Int) - l.length < 0
  · rw [if_pos c2]; exact ⟨-1, rfl, .inl (by omega)⟩
  · rw [if_neg c2]; exact ⟨_, rfl, .inr (by omega)⟩
theorem impl_rooms_from (l : List S60) (h : l.length ≤ 1048576) : From (fun k => impl_rooms.f k l) (setOf (l.map fun p => p.f0)) := by
  refine collect_then (fun k out i => impl_rooms.l0 k out l l.length i) l z60 0 (fun p => some p.f0) _ (fun k out i _ h0 h1 ho => by
    have hb : out.length < 17592186044416 := by omega
    simp only [impl_rooms.l0, h0, h1, hb, if_true, wsucc h0 (by omega), rd_T60, Option.toList]) (fun k _ => by
    have e : (l.filterMap fun p => some p.f0) = l.map fun p => p.f0 := congrFun (List.filterMap_eq_map' ..) l
    have h3 : (l.map fun p => p.f0).length < 4611686018427387904 := by rw [List.length_map]; omega
    have h4 : ((l.map fun p => p.f0).mergeSort fun x y => decide (x ≤ y)).length ≤ 9223372036854775807 := by rw [List.length_mergeSort, List.length_map]; omega
    simp only [impl_rooms.l0, Int.lt_irrefl, if_false, e, slices_Sort.f, slices_Compact.f, if_pos h3, if_pos h4, Option.bind_some]
    rfl)
theorem spec_rooms_from (l : List S60) (h : l.length ≤ 524288) : From (fun k => spec_l04Rooms.f k l) (putMany [] (l.map fun p => p.f0)) := by
  have hl : ∀ j, ((l.take j).foldl (fun s p => putL s p.f0) []).length ≤ 524288 := fun j => by
    have := putMany_length ((l.take j).map fun p => p.f0) []
    unfold putMany at this
    rw [List.foldl_map] at this
    simp only [List.length_nil, List.length_map, List.length_take] at this
    omega
  have := fold_then (fun k s i => spec_l04Rooms.l0 k l s i) l z60 2097152 (fun s p => putL s p.f0) [] (putMany [] (l.map fun p => p.f0)) (fun k i hk h0 h1 => by
    have e := l00Put_from ((l.take i.toNat).foldl (fun s p => putL s p.f0) []) (l.getD i.toNat z60).f0 (by have := hl i.toNat; omega) k (by have := hl i.toNat; omega)
    simp only [spec_l04Rooms.l0, h0, h1, if_true, rd_T60, e, Option.bind_some, wsucc h0 (by omega)]) (fun k _ => by
    simp only [spec_l04Rooms.l0, Int.lt_irrefl, if_false, putMany, List.foldl_map])
  exact this
theorem both_from (l : List S60) (h : l.length ≤ 1048576) : ∃ g : List Int × Bool, g.1.length ≤ 1048576 ∧ From (fun k => spec_RoomsIn.f k l) g ∧ From (fun k => impl_RoomsIn.f k l) g := by
  obtain ⟨K1, e1⟩ := l04Parcels_from l h
  obtain ⟨K2, e2⟩ := parcelsOk_from l h
  cases ho : okPs l with
  | false =>
    rw [ho] at e1 e2
    exact ⟨([], false), by simp, ⟨K1, fun k hk => by simp only [spec_RoomsIn.f, e1 k hk, Option.bind_some, Bool.false_eq_true, if_false]⟩, ⟨K2, fun k hk => by simp only [impl_RoomsIn.f, e2 k hk, Option.bind_some, Bool.false_eq_true, if_false]⟩⟩
  | true =>
    have hl : l.length ≤ 64 := by
      unfold okPs at ho
      rw [Bool.and_eq_true, decide_eq_true_eq] at ho
      exact ho.1
    obtain ⟨K3, e3⟩ := spec_rooms_from l (by omega)
    obtain ⟨K4, e4⟩ := impl_rooms_from l h
    rw [setOf_eq_putMany] at e4
    rw [ho] at e1 e2
    exact ⟨(putMany [] (l.map fun p => p.f0), true), by have := putMany_length (l.map fun p => p.f0) []; simp at this; simp; omega, ⟨K1 + K3, fun k hk => by simp only [spec_RoomsIn.f, e1 k (by omega), e3 k (by omega), Option.bind_some, if_true]⟩, ⟨K2 + K4, fun k hk => by simp only [impl_RoomsIn.f, e2 k (by omega), e4 k (by omega), Option.bind_some, if_true]⟩⟩
theorem FnExactRoomsIn : laws_FnExactRoomsIn.Pure := by
  intro l ⟨h1, q1⟩
  obtain ⟨s, hs, hc⟩ := szParcelS_tells l h1
  rcases hc with hc | ⟨b1, b2⟩
  · exact ⟨0, by simp only [laws_FnExactRoomsIn.f, hs, Option.bind_some, hc, if_true]⟩
  have hn : ¬ s < 0 := by omega
  obtain ⟨K1, e1⟩ := toParcelS_from l b1
  have b1' : (l.map convParcel).length ≤ 1048576 := by simpa using b1
  generalize l.map convParcel = l' at *
  obtain ⟨K2, e2⟩ := eqParcelS_from l' b1'
  obtain ⟨us, ⟨K7, e7⟩, _, _⟩ := markParcelS_from l' 1 (by omega) (by omega) b1'
  obtain ⟨g, hg, ⟨K8, e8⟩, ⟨K9, e9⟩⟩ := both_from l' b1'
  obtain ⟨K10, e10⟩ := eqInt64S_from g.1 (by omega)
  obtain ⟨ys, ⟨K11, e11⟩, ⟨K12, e12⟩⟩ := ints_law g.1 (by omega)
  generalize hK : K1 + K2 + K7 + K8 + K9 + K10 + K11 + K12 = K
  refine ⟨K + 12, ?_⟩
  have hp : ¬ (1 + (g.1.length : Int)) < 0 := by omega
  have hu : ¬ (1 + 2 * (l'.length : Int)) < 0 := by omega
  have hb : (g.2 != g.2) = false := by simp
  have E1 := fun i => e1 (K + i) (by omega)
  have E2 := fun i => e2 (K + i) (by omega)
  have E7 : ∀ i, laws_markParcelS.f (K + i) l' 1 = some (1 + 2 * (l'.length : Int), us) := fun i => e7 (K + i) (by omega)
  have E8 := fun i => e8 (K + i) (by omega)
  have E9 := fun i => e9 (K + i) (by omega)
  have E10 := fun i => e10 (K + i) (by omega)
  have E11 := fun i => e11 (K + i) (by omega)
  have E12 := fun i => e12 (K + i) (by omega)
  clear e1 e2 e7 e8 e9 e10 e11 e12
  simp only [laws_FnExactRoomsIn.f, hs, hn, Option.bind_some, if_false]
  simp only [laws_FnExactRoomsIn.j0, E1, E8, E9, E10, hb, Option.bind_some, if_true]
  simp only [laws_FnExactRoomsIn.j1, Bool.false_eq_true, if_false]
  simp only [laws_FnExactRoomsIn.j2, E1, E2, Option.bind_some, if_true]
  simp only [laws_FnExactRoomsIn.j3, E7, E10, hu, hb, Option.bind_some, if_true, if_false]
  simp only [laws_FnExactRoomsIn.j4, Bool.false_eq_true, if_false]
  simp only [laws_FnExactRoomsIn.j5, E11, E12, hp, Option.bind_some, if_false]
  simp only [laws_FnExactRoomsIn.j6, if_true]
  simp only [laws_FnExactRoomsIn.j7, E1, E9, E10, hb, Option.bind_some, if_true]
  simp only [laws_FnExactRoomsIn.j8, Bool.false_eq_true, if_false]
  simp only [laws_FnExactRoomsIn.j9, E12, hp, Option.bind_some, if_true, if_false]

end Go.Proofs.Ytgpiaeklhhacjaa.Pure
