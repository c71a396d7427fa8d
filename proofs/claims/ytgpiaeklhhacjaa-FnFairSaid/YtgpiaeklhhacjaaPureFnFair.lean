/- Fair turns have the same parcels, keep the order of each room, and each next room is the next one of those that wait, around, for every two rows of bytes that can be read. -/
import Derived.Test.YtgpiaeklhhacjaaXFnFairx5
import Derived.Test.YtgpiaeklhhacjaaXP
import Derived.Test.YtgpiaeklhhacjaaXQ
import Derived.Shelf.SlicesE.DeleteFunc
import Derived.Laws.BitsAllLaws
namespace Go.Proofs.Ytgpiaeklhhacjaa.Pure
open Go.RowKit Go.Proofs.Ytgpiaeklhhacjaa.XFnFair Go.Proofs.YtgpiaeklhhacjaaW.PrintWords Go.Proofs.YtgpiaeklhhacjaaW.PrintLast Go.Proofs.Ytgpiaeklhhacjaa.XP Go.Proofs.Ytgpiaeklhhacjaa.XQ Go.Proofs.Ytgpiaeklhhacjaa.XP Go.Proofs.Ytgpiaeklhhacjaa.XQ Go.Proofs.Ytgpiaeklhhacjaa.XP Go.Proofs.Ytgpiaeklhhacjaa.XQ Go.Proofs.Ytgpiaeklhhacjaa.XP Go.Proofs.Ytgpiaeklhhacjaa.XQ Go.Proofs.Ytgpiaeklhhacjaa.XP Go.Proofs.Ytgpiaeklhhacjaa.XQ Go.Proofs.Ytgpiaeklhhacjaa.XP Go.Proofs.Ytgpiaeklhhacjaa.XQ Go.Proofs.Ytgpiaeklhhacjaa.XP Go.Proofs.Ytgpiaeklhhacjaa.XQ Go.Proofs.Ytgpiaeklhhacjaa.XP Go.Proofs.Ytgpiaeklhhacjaa.XQ
set_option linter.unusedVariables false
set_option linter.unusedSimpArgs false

theorem from_step {α : Type} {f g : Nat → Option α} {r : α} (h : From f r) (K : Nat) (e : ∀ k, K ≤ k → g (k + 1) = f k) : From g r := by
  obtain ⟨L, hL⟩ := h
  refine ⟨K + L + 1, fun k hk => ?_⟩
  obtain ⟨k, rfl⟩ : ∃ n, k = n + 1 := ⟨k - 1, by omega⟩
  rw [e k (by omega)]
  exact hL k (by omega)
theorem in_some (a b c : Int) : impl_in.f a b c = some (decide (b ≤ a ∧ a ≤ c)) := by
  unfold impl_in.f
  split
  · congr 1; rw [decide_eq_decide]; omega
  · congr 1; symm; rw [decide_eq_false_iff_not]; omega

def okP (p : S60) : Bool := decide (1 ≤ p.f0 ∧ p.f0 ≤ 1000) && decide (1 ≤ p.f1 ∧ p.f1 ≤ 1000000)
def okPs (l : List S60) : Bool := decide (l.length ≤ 64) && (List.range l.length).all fun j => okP (l.getD j z60)
theorem parcelOk_some (p : S60) : impl_parcelOk.f p.f0 p.f1 = some (okP p) := by
  simp only [impl_parcelOk.f, in_some, Option.bind_some, okP]
  by_cases h : 1 ≤ p.f0 ∧ p.f0 ≤ 1000 <;> simp [h]
theorem parcelsOk_from (l : List S60) (h : l.length ≤ 1048576) : From (fun k => impl_parcelsOk.f k l) (okPs l) := by
  by_cases hl : l.length ≤ 64
  · have hli : (l.length : Int) ≤ 64 := by omega
    obtain ⟨K, hK⟩ := test_loopB (fun k i => (impl_Parcel_badParcel_161.l0 k l l.length i).bind fun t => some (!(decide (t ≥ 0)))) l.length 0 (fun j => okP (l.getD j z60)) true (fun k i _ h0 h1 => by
      simp only [impl_Parcel_badParcel_161.l0, impl_badParcel.f, h0, h1, if_true, rd_T60, parcelOk_some, Option.bind_some, wsucc h0 (by omega)]
      rcases Bool.eq_false_or_eq_true (okP (l.getD i.toNat z60)) with c | c <;> simp [c, h0, -List.getD_eq_getElem?_getD]) (fun k _ => by
      simp only [impl_Parcel_badParcel_161.l0, Int.lt_irrefl, if_false, Option.bind_some]
      rfl)
    refine ⟨K, fun k hk => ?_⟩
    have := hK k hk
    simp only [impl_parcelsOk.f, impl_Parcel_badParcel_162.f, impl_Parcel_badParcel_161.f, hli, if_true]
    cases he : impl_Parcel_badParcel_161.l0 k l l.length 0 with
    | none => rw [he] at this; cases this
    | some t =>
      rw [he] at this
      simpa [okPs, hl] using this
  · have hli : ¬ (l.length : Int) ≤ 64 := by omega
    exact ⟨0, fun k hk => by simp only [impl_parcelsOk.f, hli, if_false, okPs, hl, decide_false, Bool.false_and]⟩
theorem impl_rooms_from (l : List S60) (h : l.length ≤ 1048576) : From (fun k => impl_rooms.f k l) (setOf (l.map fun p => p.f0)) := by
  refine collect_then (fun k out i => impl_rooms.l0 k out l l.length i) l z60 0 (fun p => some p.f0) _ (fun k out i _ h0 h1 ho => by
    have hb : out.length < 17592186044416 := by omega
    simp only [impl_rooms.l0, h0, h1, hb, if_true, wsucc h0 (by omega), rd_T60, Option.toList]) (fun k _ => by
    have e : (l.filterMap fun p => some p.f0) = l.map fun p => p.f0 := congrFun (List.filterMap_eq_map' ..) l
    have h3 : (l.map fun p => p.f0).length < 4611686018427387904 := by rw [List.length_map]; omega
    have h4 : ((l.map fun p => p.f0).mergeSort fun x y => decide (x ≤ y)).length ≤ 9223372036854775807 := by rw [List.length_mergeSort, List.length_map]; omega
    simp only [impl_rooms.l0, Int.lt_irrefl, if_false, e, slices_Sort.f, slices_Compact.f, if_pos h3, if_pos h4, Option.bind_some]
    rfl)
/-- The rooms of parcels, rising. -/
def roomsL (l : List S60) : List Int := setOf (l.map fun p => p.f0)
def nextR (rs : List Int) (la : Int) : Int := (rs.find? fun n => decide (n > la)).getD (rs.getD 0 0)
theorem getB {l : List S60} {j : Nat} (h : j < l.length) : l[j]! = l.getD j z60 := by
  rw [getElem!_pos l j h, List.getD_eq_getElem?_getD, List.getElem?_eq_getElem h]; rfl
theorem getBI {l : List Int} {j : Nat} (h : j < l.length) : l[j]! = l.getD j 0 := by
  rw [getElem!_pos l j h, List.getD_eq_getElem?_getD, List.getElem?_eq_getElem h]; rfl
theorem find_at : ∀ (rs : List Int) (q : Int → Bool) (m : Nat), m < rs.length → q (rs.getD m 0) = true → (∀ j, j < m → q (rs.getD j 0) = false) → rs.find? q = some (rs.getD m 0)
  | [], _, m, h, _, _ => by simp at h
  | r :: rs, q, 0, _, h1, _ => by
    rw [List.find?_cons]; simp only [List.getD_cons_zero] at h1 ⊢; rw [h1]
  | r :: rs, q, m + 1, h, h1, h2 => by
    have h0 := h2 0 (by omega)
    simp only [List.getD_cons_zero] at h0
    rw [List.find?_cons, h0]
    simp only [List.getD_cons_succ] at h1 ⊢
    exact find_at rs q m (by simpa using h) h1 (fun j hj => by have := h2 (j + 1) (by omega); simpa only [List.getD_cons_succ] using this)
theorem find_no (rs : List Int) (q : Int → Bool) (h : ∀ j, j < rs.length → q (rs.getD j 0) = false) : rs.find? q = none := by
  rw [List.find?_eq_none]
  intro x hx
  obtain ⟨j, hj, rfl⟩ := List.mem_iff_getElem.1 hx
  have := h j hj
  rw [List.getD_eq_getElem?_getD, List.getElem?_eq_getElem hj] at this
  simpa using this
theorem idxN_tells (rs : List Int) (la : Int) (hne : rs ≠ []) : 0 ≤ top0 (idxN rs la) ∧ top0 (idxN rs la) < rs.length ∧ rs.getD (top0 (idxN rs la)).toNat 0 = nextR rs la := by
  have hl : 0 < rs.length := List.length_pos_iff.2 hne
  rcases Go.Proofs.idxByFrom_spec (fun _ (n : Int) => decide (n > la)) (default : Int) rs 0 with ⟨e, hall⟩ | ⟨k, hk, e, ht, hall⟩
  · have e' : idxN rs la = -1 := e
    have h : top0 (idxN rs la) = 0 := by rw [e']; rfl
    rw [h]
    refine ⟨by omega, by omega, ?_⟩
    unfold nextR
    rw [find_no rs _ (fun j hj => by rw [← getBI hj]; exact hall j hj)]
    rfl
  · have e' : idxN rs la = (k : Int) := by
      have : idxN rs la = ((0 + k : Nat) : Int) := e
      rw [this, Nat.zero_add]
    have h : top0 (idxN rs la) = k := by rw [e']; exact if_neg (by omega)
    rw [h]
    refine ⟨by omega, by omega, ?_⟩
    unfold nextR
    rw [Int.toNat_natCast, find_at rs _ k hk (by rw [← getBI hk]; exact ht) (fun j hj => by rw [← getBI (by omega)]; exact hall j hj)]
    rfl
theorem nextR_mem (rs : List Int) (la : Int) (hne : rs ≠ []) : nextR rs la ∈ rs := by
  obtain ⟨h0, h1, h2⟩ := idxN_tells rs la hne
  rw [← h2]
  exact getD_mem 0 (by omega)
def firstAt (l : List S60) (nx : Int) : Nat := (idxR l nx).toNat
theorem firstAt_tells (l : List S60) (nx : Int) (h : ∃ p ∈ l, p.f0 = nx) : idxR l nx = (firstAt l nx : Int) ∧ firstAt l nx < l.length ∧ (l.getD (firstAt l nx) z60).f0 = nx ∧ ∀ j, j < firstAt l nx → ¬ (l.getD j z60).f0 = nx := by
  rcases Go.Proofs.idxByFrom_spec (fun _ (p : S60) => p.f0 == nx) (default : S60) l 0 with ⟨e, hall⟩ | ⟨k, hk, e, ht, hall⟩
  · exfalso
    obtain ⟨p, hp, hx⟩ := h
    obtain ⟨j, hj, rfl⟩ := List.mem_iff_getElem.1 hp
    have := hall j hj
    rw [getElem!_pos l j hj] at this
    simp [hx] at this
  · have e' : idxR l nx = (k : Int) := by
      have : idxR l nx = ((0 + k : Nat) : Int) := e
      rw [this, Nat.zero_add]
    have hf : firstAt l nx = k := by unfold firstAt; rw [e']; rfl
    rw [hf]
    refine ⟨e', hk, ?_, fun j hj => ?_⟩
    · rw [getB hk] at ht; simpa using ht
    · have := hall j hj
      rw [getB (by omega)] at this
      simpa using this
theorem rooms_mem (l : List S60) (x : Int) : x ∈ roomsL l ↔ ∃ p ∈ l, p.f0 = x := by
  unfold roomsL
  rw [(setOf_tells _).2 x, List.mem_map]
theorem rooms_ne (l : List S60) (h : l.length ≠ 0) : roomsL l ≠ [] := by
  intro e
  obtain ⟨p, hp⟩ := List.exists_mem_of_length_pos (by omega : 0 < l.length)
  have := (rooms_mem l p.f0).2 ⟨p, hp, rfl⟩
  rw [e] at this
  simp at this
def nextOf (l : List S60) (la : Int) : Int := nextR (roomsL l) la
theorem next_in (l : List S60) (la : Int) (h : l.length ≠ 0) : ∃ p ∈ l, p.f0 = nextOf l la := (rooms_mem l _).1 (nextR_mem _ la (rooms_ne l h))
def restOf (l : List S60) (la : Int) : List S60 := l.take (firstAt l (nextOf l la)) ++ l.drop (firstAt l (nextOf l la) + 1)
def pickOf (l : List S60) (la : Int) : S60 := l.getD (firstAt l (nextOf l la)) z60
def seqF : Nat → List S60 → Int → List S60
  | 0, _, _ => []
  | d + 1, l, la => pickOf l la :: seqF d (restOf l la) (nextOf l la)
theorem restOf_len (l : List S60) (la : Int) (h : l.length ≠ 0) : (restOf l la).length + 1 = l.length := by
  have := (firstAt_tells l _ (next_in l la h)).2.1
  unfold restOf
  rw [List.length_append, List.length_take, List.length_drop]; omega
theorem seqF_len : ∀ (d : Nat) (l : List S60) (la : Int), (seqF d l la).length = d
  | 0, _, _ => rfl
  | d + 1, l, la => by simp [seqF, seqF_len d]
theorem roomsL_len (l : List S60) : (roomsL l).length ≤ l.length := by
  have := setOf_length (l.map fun p => p.f0)
  rwa [List.length_map] at this
theorem fairL_from : ∀ (d : Nat) (l out : List S60) (la : Int), l.length = d → d ≤ 1000 → out.length + d ≤ 1000 → ∃ K, ∀ k, K ≤ k → ∀ f, d < f → fairL k f l out la = some (out ++ seqF d l la)
  | 0, l, out, la, hl, _, _ => ⟨0, fun k _ f hf => by
      obtain ⟨f, rfl⟩ : ∃ n, f = n + 1 := ⟨f - 1, by omega⟩
      rw [fairL, if_pos hl, seqF, List.append_nil]⟩
  | d + 1, l, out, la, hl, hd, ho => by
    have hne : l.length ≠ 0 := by omega
    obtain ⟨a1, a2, a3, a4⟩ := firstAt_tells l _ (next_in l la hne)
    obtain ⟨b1, b2, b3⟩ := idxN_tells (roomsL l) la (rooms_ne l hne)
    have hr := restOf_len l la hne
    have hrl := roomsL_len l
    obtain ⟨K1, e1⟩ := impl_rooms_from l (by omega)
    obtain ⟨K2, e2⟩ := fairL_from d (restOf l la) (out ++ [pickOf l la]) (nextOf l la) (by omega) (by omega) (by simp; omega)
    refine ⟨K1 + K2, fun k hk f hf => ?_⟩
    obtain ⟨f, rfl⟩ : ∃ n, f = n + 1 := ⟨f - 1, by omega⟩
    have E1 : impl_rooms.f k l = some (roomsL l) := e1 k (by omega)
    have E2 := e2 k (by omega) f (by omega)
    have hn : (roomsL l).getD (top0 (idxN (roomsL l) la)).toNat 0 = nextOf l la := b3
    rw [fairL, if_neg hne, E1]
    simp only [Option.bind_some]
    rw [if_pos ⟨b1, b2, by omega⟩, hn, a1, if_pos ⟨by omega, by omega, by omega, by omega⟩, Int.toNat_natCast]
    refine Eq.trans ?_ (E2.trans ?_)
    · rfl
    · rw [seqF, List.append_assoc]; rfl
def after (rs : List Int) (la : Int) (i : Nat) : Int := ((rs.drop i).find? fun n => decide (n > la)).getD (rs.getD 0 0)
theorem after_step (rs : List Int) (la : Int) (i : Nat) (hi : i < rs.length) : after rs la i = if rs.getD i 0 > la then rs.getD i 0 else after rs la (i + 1) := by
  have hx : rs.getD i 0 = rs[i] := by rw [List.getD_eq_getElem?_getD, List.getElem?_eq_getElem hi]; rfl
  unfold after
  rw [List.drop_eq_getElem_cons hi, List.find?_cons, hx]
  by_cases c : rs[i] > la
  · rw [if_pos c, decide_eq_true c]; rfl
  · rw [if_neg c, decide_eq_false c]
theorem and255 (y : Int) (h0 : 0 ≤ y) (h1 : y < 18446744073709551616) : 0 ≤ Go.bits .and .u64 y 255 ∧ Go.bits .and .u64 y 255 ≤ 255 := by
  rw [u64_and y 255 h0 h1 (by omega) (by omega)]
  have := @Nat.and_le_right y.toNat (255 : Int).toNat
  have h : (255 : Int).toNat = 255 := rfl
  rw [h] at this ⊢
  omega
theorem shift_range (z : Int) : 0 ≤ IntKind.u64.wrap z / 1099511627776 ∧ IntKind.u64.wrap z / 1099511627776 < 18446744073709551616 := by
  have h : 0 ≤ IntKind.u64.wrap z ∧ IntKind.u64.wrap z < 18446744073709551616 := by
    unfold IntKind.wrap IntKind.bits IntKind.signed
    simp
    omega
  omega
theorem nxt_range (z : Int) : 0 ≤ wrap64 (Go.bits .and .u64 (IntKind.u64.wrap z / 1099511627776) 255) ∧ wrap64 (Go.bits .and .u64 (IntKind.u64.wrap z / 1099511627776) 255) ≤ 255 := by
  obtain ⟨q0, q1⟩ := shift_range z
  obtain ⟨a0, a1⟩ := and255 _ q0 q1
  rw [w64 (by omega) (by omega)]
  exact ⟨a0, a1⟩
def bytesOk (l : List Int) : Prop := ∀ x ∈ l, 0 ≤ x ∧ x ≤ 255
theorem bytes_of_wf {l : List Int} (h : ∀ x ∈ l, (Lit.int .u8 x).wf = true) : bytesOk l := fun x hx => by
  have := h x hx
  simp only [Lit.wf, Bool.and_eq_true, decide_eq_true_eq] at this
  have h1 : IntKind.u8.min = 0 := by decide
  have h2 : IntKind.u8.max = 255 := by decide
  omega
theorem rd_ok {l : List Int} (h : bytesOk l) (i : Int) (h0 : 0 ≤ i) (h1 : i < l.length) : 0 ≤ rd l i ∧ rd l i ≤ 255 := by
  unfold rd
  exact h _ (getD_mem 0 (by omega))
theorem next_from {l : List Int} (h : bytesOk l) (p s : Int) (h0 : 0 ≤ p) (h1 : p ≤ 1000000) : ∃ r s', spec_l00Src_next.f l p s = some (r, p + 1, s') ∧ 0 ≤ r ∧ r ≤ 255 := by
  have hw : wrap64 (p + 1) = p + 1 := wsucc h0 (by omega)
  unfold spec_l00Src_next.f
  rw [hw]
  by_cases c : p < (l.length : Int)
  · have hr := rd_ok h p h0 c
    have hr' : wrap64 (rd l p) = rd l p := w64 (by omega) (by omega)
    rw [if_pos c, if_pos h0, if_pos (by omega), hr']
    exact ⟨_, _, rfl, hr.1, hr.2⟩
  · rw [if_neg c, if_neg (by omega)]
    exact ⟨_, _, rfl, (nxt_range _).1, (nxt_range _).2⟩
theorem pick_from {l : List Int} (h : bytesOk l) (p s n : Int) (h0 : 0 ≤ p) (h1 : p ≤ 999999) (hn : 1 < n) : ∃ r p' s', spec_l00Src_pick.f l p s n = some (r, p', s') ∧ 0 ≤ r ∧ r < n ∧ p ≤ p' ∧ p' ≤ p + 2 := by
  obtain ⟨r, s1, e1, a1, a2⟩ := next_from h p s h0 (by omega)
  obtain ⟨r2, s2, e2, b1, b2⟩ := next_from h (p + 1) s1 (by omega) (by omega)
  unfold spec_l00Src_pick.f
  rw [if_neg (by omega), e1]
  simp only [Option.bind_some]
  rw [e2]
  simp only [Option.bind_some]
  by_cases c : n > 200
  · rw [if_pos c, if_neg (by omega)]
    refine ⟨_, _, _, rfl, ?_, ?_, by omega, by omega⟩
    · rw [w64 (x := r * 256) (by omega) (by omega), w64 (by omega) (by omega)]; exact Int.tmod_nonneg _ (by omega)
    · exact Int.tmod_lt_of_pos _ (by omega)
  · rw [if_neg c, if_neg (by omega)]
    exact ⟨_, _, _, rfl, Int.tmod_nonneg _ a1, Int.tmod_lt_of_pos _ (by omega), by omega, by omega⟩
theorem from_pick {l : List Int} (h : bytesOk l) (n : Int) (hn : 1 < n) (p s : Int) (h0 : 0 ≤ p) (h1 : p ≤ 999999) : ∃ r p' s', spec_l00Src_pick.f l p s n = some (r, p', s') ∧ 0 ≤ r ∧ r < n ∧ 0 ≤ p' ∧ p' ≤ p + 2 := by
  obtain ⟨r, p', s', e, a, b, c, d⟩ := pick_from h p s n h0 h1 hn
  exact ⟨r, p', s', e, a, b, by omega, d⟩
abbrev P1 := S60
theorem draw_parcels {c : List Int} (h : bytesOk c) : ∀ (d : Nat) (out : List P1) (p s : Int), 0 ≤ p → p + 4 * d ≤ 999 → d ≤ 11 → (∀ x ∈ out, okP x = true) → out.length + d ≤ 11 →
    ∃ l, (∀ k, d + 1 ≤ k → spec_R8Parcels.l0 k (d : Int) out c p s = some l) ∧ (∀ x ∈ l, okP x = true) ∧ l.length ≤ 11
  | 0, out, p, s, h0, h1, hd, hx, hl => ⟨out, fun k hk => by
      obtain ⟨k, rfl⟩ : ∃ n, k = n + 1 := ⟨k - 1, by omega⟩
      rw [spec_R8Parcels.l0, if_neg (by omega)], hx, by omega⟩
  | d + 1, out, p, s, h0, h1, hd, hx, hl => by
    have hw : wrap64 (((d + 1 : Nat) : Int) - 1) = (d : Int) := by rw [w64 (by omega) (by omega)]; omega
    obtain ⟨r, p1, s1, e1, a1, b1, c1, d1⟩ := from_pick h 4 (by omega) p s h0 (by omega)
    obtain ⟨q, p2, s2, e2, a2, b2, c2, d2⟩ := from_pick h 50 (by omega) p1 s1 c1 (by omega)
    obtain ⟨l, e, r1, r2⟩ := draw_parcels h d (out ++ [(⟨1 + r, 1 + q⟩ : P1)]) p2 s2 c2 (by omega) (by omega) (fun x hx' => by
      rcases List.mem_append.1 hx' with hx' | hx'
      · exact hx x hx'
      · rw [List.mem_singleton] at hx'; subst hx'
        unfold okP
        rw [Bool.and_eq_true, decide_eq_true_eq, decide_eq_true_eq]
        exact ⟨⟨by show 1 ≤ 1 + r; omega, by show 1 + r ≤ 1000; omega⟩, ⟨by show 1 ≤ 1 + q; omega, by show 1 + q ≤ 1000000; omega⟩⟩) (by simp; omega)
    refine ⟨l, fun k hk => ?_, r1, r2⟩
    obtain ⟨k, rfl⟩ : ∃ n, k = n + 1 := ⟨k - 1, by omega⟩
    rw [spec_R8Parcels.l0, if_pos (by omega), e1]
    simp only [Option.bind_some]
    rw [e2]
    simp only [Option.bind_some]
    rw [if_pos (by omega), hw, w64 (x := 1 + r) (by omega) (by omega), w64 (x := 1 + q) (by omega) (by omega)]
    exact e k (by omega)
theorem okPs_of {l : List P1} (hl : l.length ≤ 64) (hx : ∀ x ∈ l, okP x = true) : okPs l = true := by
  unfold okPs
  rw [Bool.and_eq_true, decide_eq_true_eq, List.all_eq_true]
  exact ⟨hl, fun j hj => hx _ (getD_mem _ (List.mem_range.1 hj))⟩
theorem r8At_from {c : List Int} (h : bytesOk c) (i n : Int) (h0 : 0 ≤ i) (hn : 1 < n) : ∃ r, laws_r8At.f c i n = some r ∧ 0 ≤ r ∧ r < n := by
  unfold laws_r8At.f
  rw [if_neg (by omega)]
  by_cases c1 : i ≥ (c.length : Int)
  · rw [if_pos c1]; exact ⟨0, rfl, by omega, by omega⟩
  · have hr := rd_ok h i h0 (by omega)
    rw [if_neg c1, if_pos h0, if_pos (by omega), if_neg (by omega), w64 (by omega) (by omega)]
    exact ⟨_, rfl, Int.tmod_nonneg _ hr.1, Int.tmod_lt_of_pos _ (by omega)⟩
def ofRoom (l : List P1) (r : Int) : List P1 := l.filter fun p => decide (p.f0 = r)
theorem split_pick (l : List P1) (la : Int) (h : l.length ≠ 0) : l = l.take (firstAt l (nextOf l la)) ++ pickOf l la :: l.drop (firstAt l (nextOf l la) + 1) := by
  have ha := (firstAt_tells l _ (next_in l la h)).2.1
  have e : pickOf l la = l[firstAt l (nextOf l la)] := by
    unfold pickOf
    rw [List.getD_eq_getElem?_getD, List.getElem?_eq_getElem ha]; rfl
  rw [e, ← List.drop_eq_getElem_cons ha, List.take_append_drop]
theorem pick_room (l : List P1) (la : Int) (h : l.length ≠ 0) : (pickOf l la).f0 = nextOf l la := (firstAt_tells l _ (next_in l la h)).2.2.1
theorem take_none (l : List P1) (la : Int) (h : l.length ≠ 0) : ofRoom (l.take (firstAt l (nextOf l la))) (nextOf l la) = [] := by
  obtain ⟨_, a2, _, a4⟩ := firstAt_tells l _ (next_in l la h)
  unfold ofRoom
  rw [List.filter_eq_nil_iff]
  intro p hp
  obtain ⟨j, hj, rfl⟩ := List.mem_iff_getElem.1 hp
  have hj2 : j < firstAt l (nextOf l la) := by rw [List.length_take] at hj; omega
  have := a4 j hj2
  rw [List.getD_eq_getElem?_getD, List.getElem?_eq_getElem (by omega)] at this
  rw [List.getElem_take]
  simpa using this
theorem seqF_room : ∀ (d : Nat) (l : List P1) (la : Int) (r : Int), l.length = d → ofRoom (seqF d l la) r = ofRoom l r
  | 0, l, la, r, hl => by rw [List.length_eq_zero_iff.1 hl]; rfl
  | d + 1, l, la, r, hl => by
    have hne : l.length ≠ 0 := by omega
    have ih := seqF_room d (restOf l la) (nextOf l la) r (by have := restOf_len l la hne; omega)
    have hp := pick_room l la hne
    have hs := split_pick l la hne
    have hr : ofRoom (restOf l la) r = ofRoom (l.take (firstAt l (nextOf l la))) r ++ ofRoom (l.drop (firstAt l (nextOf l la) + 1)) r := by
      unfold restOf ofRoom; rw [List.filter_append]
    have hl2 : ofRoom l r = ofRoom (l.take (firstAt l (nextOf l la))) r ++ ofRoom (pickOf l la :: l.drop (firstAt l (nextOf l la) + 1)) r := by
      conv => lhs; rw [hs]
      unfold ofRoom; rw [List.filter_append]
    rw [seqF]
    by_cases c : nextOf l la = r
    · subst c
      have ht := take_none l la hne
      rw [hl2, ht, List.nil_append]
      rw [ht, List.nil_append] at hr
      have e1 : ofRoom (pickOf l la :: seqF d (restOf l la) (nextOf l la)) (nextOf l la) = pickOf l la :: ofRoom (seqF d (restOf l la) (nextOf l la)) (nextOf l la) := by
        unfold ofRoom; rw [List.filter_cons, if_pos (by rw [hp]; exact decide_eq_true rfl)]
      have e2 : ofRoom (pickOf l la :: l.drop (firstAt l (nextOf l la) + 1)) (nextOf l la) = pickOf l la :: ofRoom (l.drop (firstAt l (nextOf l la) + 1)) (nextOf l la) := by
        unfold ofRoom; rw [List.filter_cons, if_pos (by rw [hp]; exact decide_eq_true rfl)]
      rw [e1, e2, ih, hr]
    · have e1 : ofRoom (pickOf l la :: seqF d (restOf l la) (nextOf l la)) r = ofRoom (seqF d (restOf l la) (nextOf l la)) r := by
        unfold ofRoom; rw [List.filter_cons, if_neg (by rw [hp]; simpa using c)]
      have e2 : ofRoom (pickOf l la :: l.drop (firstAt l (nextOf l la) + 1)) r = ofRoom (l.drop (firstAt l (nextOf l la) + 1)) r := by
        unfold ofRoom; rw [List.filter_cons, if_neg (by rw [hp]; simpa using c)]
      rw [e1, ih, hr, hl2, e2]
theorem seqF_mem (d : Nat) (l : List P1) (la : Int) (hl : l.length = d) (p : P1) : p ∈ seqF d l la ↔ p ∈ l := by
  have h := seqF_room d l la p.f0 hl
  constructor
  · intro hp
    have : p ∈ ofRoom (seqF d l la) p.f0 := List.mem_filter.2 ⟨hp, by simp⟩
    rw [h] at this
    exact (List.mem_filter.1 this).1
  · intro hp
    have : p ∈ ofRoom l p.f0 := List.mem_filter.2 ⟨hp, by simp⟩
    rw [← h] at this
    exact (List.mem_filter.1 this).1
theorem seqF_rooms (d : Nat) (l : List P1) (la : Int) (hl : l.length = d) : roomsL (seqF d l la) = roomsL l := by
  refine rise_ext (setOf_tells _).1 (setOf_tells _).1 fun x => ?_
  show x ∈ roomsL _ ↔ x ∈ roomsL _
  rw [rooms_mem, rooms_mem]
  constructor
  · rintro ⟨p, hp, e⟩; exact ⟨p, (seqF_mem d l la hl p).1 hp, e⟩
  · rintro ⟨p, hp, e⟩; exact ⟨p, (seqF_mem d l la hl p).2 hp, e⟩
theorem rest_sub (l : List P1) (la : Int) : ∀ x ∈ restOf l la, x ∈ l := by
  intro x hx
  rcases List.mem_append.1 hx with h | h
  · exact List.mem_of_mem_take h
  · exact List.mem_of_mem_drop h
theorem RoomsIn_from (l : List P1) (hl : l.length ≤ 64) (hx : ∀ x ∈ l, okP x = true) : From (fun k => impl_RoomsIn.f k l) (roomsL l, true) := by
  obtain ⟨K2, e2⟩ := parcelsOk_from l (by omega)
  obtain ⟨K4, e4⟩ := impl_rooms_from l (by omega)
  rw [okPs_of hl hx] at e2
  exact ⟨K2 + K4, fun k hk => by
    have E4 : impl_rooms.f k l = some (roomsL l) := e4 k (by omega)
    simp only [impl_RoomsIn.f, e2 k (by omega), E4, Option.bind_some, if_true]⟩
theorem l2_loop (la : Int) (out : List P1) (i : Int) (rs : List Int) (hl : rs.length ≤ 1000) (hi0 : 0 ≤ i) (hi : i < out.length) (hr : (rd_T60 out i).f0 = after rs la 0) (r : Bool) (h : From (fun k => laws_FnFair.l1 k (after rs la 0) out (wrap64 (i + 1))) r) : ∀ (j : Nat), j ≤ rs.length →
    From (fun k => laws_FnFair.l2 k la out i rs (after rs la j) ((j : Int) - 1)) r
  | 0, _ => by
    refine from_step h 0 fun k _ => ?_
    rw [laws_FnFair.l2, if_neg (by omega), if_pos hi0, if_pos hi, if_pos hr]
  | j + 1, hj => by
    have ih := l2_loop la out i rs hl hi0 hi hr r h j (by omega)
    have hs := after_step rs la j (by omega)
    refine from_step ih 0 fun k _ => ?_
    have e : (((j + 1 : Nat) : Int) - 1) = (j : Int) := by omega
    have hw : wrap64 ((j : Int) - 1) = (j : Int) - 1 := w64 (by omega) (by omega)
    rw [e, laws_FnFair.l2, if_pos (by omega), if_pos (by omega), if_pos (by omega), hw, hs]
    have hrd : rd rs (j : Int) = rs.getD j 0 := by unfold rd; rw [Int.toNat_natCast]
    rw [hrd]
    by_cases c : rs.getD j 0 > la
    · rw [if_pos c, if_pos c]
    · rw [if_neg c, if_neg c]
theorem l1_loop : ∀ (d : Nat) (l pre : List P1) (la : Int), l.length = d → d ≤ 64 → pre.length + d ≤ 1000 → (∀ x ∈ l, okP x = true) →
    From (fun k => laws_FnFair.l1 k la (pre ++ seqF d l la) ((pre.length : Nat) : Int)) true
  | 0, l, pre, la, hl, _, hp, _ => ⟨1, fun k hk => by
      obtain ⟨k, rfl⟩ : ∃ n, k = n + 1 := ⟨k - 1, by omega⟩
      show laws_FnFair.l1 (k + 1) _ _ _ = _
      rw [laws_FnFair.l1, if_neg (by rw [seqF, List.append_nil]; omega)]⟩
  | d + 1, l, pre, la, hl, hd, hp, hx => by
    have hne : l.length ≠ 0 := by omega
    have ih := l1_loop d (restOf l la) (pre ++ [pickOf l la]) (nextOf l la) (by have := restOf_len l la hne; omega) (by omega) (by simp; omega) (fun x h => hx x (rest_sub l la x h))
    have hout : (pre ++ [pickOf l la]) ++ seqF d (restOf l la) (nextOf l la) = pre ++ seqF (d + 1) l la := by rw [seqF]; simp
    rw [hout] at ih
    have hlen : (pre ++ seqF (d + 1) l la).length = pre.length + (d + 1) := by rw [List.length_append, seqF_len]
    have hdrop : (pre ++ seqF (d + 1) l la).drop pre.length = seqF (d + 1) l la := List.drop_left
    have hn0 : after (roomsL l) la 0 = nextOf l la := rfl
    have hrl := roomsL_len l
    have hrp : 0 < (roomsL l).length := List.length_pos_iff.2 (rooms_ne l hne)
    have hw : wrap64 (((pre.length : Nat) : Int) + 1) = (((pre ++ [pickOf l la]).length : Nat) : Int) := by rw [wsucc (by omega) (by omega)]; simp
    have hrd : (rd_T60 (pre ++ seqF (d + 1) l la) ((pre.length : Nat) : Int)).f0 = after (roomsL l) la 0 := by
      rw [hn0, ← pick_room l la hne]
      unfold rd_T60
      rw [Int.toNat_natCast, List.getD_eq_getElem?_getD, List.getElem?_append_right (Nat.le_refl _), Nat.sub_self, seqF]
      rfl
    have hil : ((pre.length : Nat) : Int) < ((pre ++ seqF (d + 1) l la).length : Int) := by rw [hlen]; omega
    have H := l2_loop la (pre ++ seqF (d + 1) l la) ((pre.length : Nat) : Int) (roomsL l) (by omega) (by omega) hil hrd true (by rw [hn0, hw]; exact ih) (roomsL l).length (Nat.le_refl _)
    have hend : after (roomsL l) la (roomsL l).length = rd (roomsL l) 0 := by
      unfold after
      rw [List.drop_length]; rfl
    rw [hend] at H
    obtain ⟨K, e⟩ := RoomsIn_from (seqF (d + 1) l la) (by rw [seqF_len]; omega) (fun x h => hx x ((seqF_mem (d + 1) l la hl x).1 h))
    rw [seqF_rooms (d + 1) l la hl] at e
    refine from_step (f := fun k => laws_FnFair.j6 k la (pre ++ seqF (d + 1) l la) ((pre.length : Nat) : Int)) (from_step (f := fun k => laws_FnFair.j7 k la (pre ++ seqF (d + 1) l la) ((pre.length : Nat) : Int) (roomsL l) false) (from_step (f := fun k => laws_FnFair.j8 k la (pre ++ seqF (d + 1) l la) ((pre.length : Nat) : Int) (roomsL l)) (from_step H 0 fun k _ => ?_) 0 fun k _ => ?_) K fun k hk => ?_) 0 fun k _ => ?_
    · show laws_FnFair.j8 (k + 1) _ _ _ _ = _
      rw [laws_FnFair.j8, if_pos (by omega), w64 (by omega) (by omega)]
    · show laws_FnFair.j7 (k + 1) _ _ _ _ _ = _
      rw [laws_FnFair.j7]; simp
    · show laws_FnFair.j6 (k + 1) _ _ _ = _
      have E := e k hk
      simp only at E
      have hz : (((roomsL l).length : Int) == 0) = false := beq_eq_false_iff_ne.2 (by omega)
      rw [laws_FnFair.j6, if_pos (by omega), if_pos (by omega), Int.toNat_natCast, hdrop, E]
      simp only [Option.bind_some, if_true, hz]
    · show laws_FnFair.l1 (k + 1) _ _ _ = _
      rw [laws_FnFair.l1, if_pos (by omega)]
theorem ofRoom_from (l : List P1) (r : Int) (hl : l.length ≤ 1000) : From (fun k => laws_r8OfRoom.f k l r) (ofRoom l r) := by
  refine collect_then (fun k out i => laws_r8OfRoom.l0 k l r out i) l z60 0 (fun p => if p.f0 = r then some p else none) _ (fun k out i _ h0 h1 ho => by
    have hb : out.length < 8796093022208 := by omega
    by_cases c : (l.getD i.toNat z60).f0 = r
    · simp only [laws_r8OfRoom.l0, h0, h1, hb, if_true, wsucc h0 (by omega), rd_T60, c, Option.toList]
      rw [← c]
    · simp only [laws_r8OfRoom.l0, h0, h1, hb, if_true, if_false, wsucc h0 (by omega), rd_T60, c, Option.toList, List.append_nil]) (fun k _ => by
    have e : (l.filterMap fun p => if p.f0 = r then some p else none) = ofRoom l r := by
      unfold ofRoom
      induction l with
      | nil => rfl
      | cons p l ih =>
        rw [List.filterMap_cons, List.filter_cons]
        by_cases c : p.f0 = r
        · rw [if_pos c, if_pos (decide_eq_true c), ih (by simp only [List.length_cons] at hl; omega)]
        · rw [if_neg c, if_neg (by simpa using c), ih (by simp only [List.length_cons] at hl; omega)]
    simp only [laws_r8OfRoom.l0, Int.lt_irrefl, if_false, e])
theorem r8Parcels_from (l : List P1) (h : l.length ≤ 1000) : From (fun k => laws_r8Parcels.f k l l) true := by
  obtain ⟨K, hK⟩ := all_loop (fun k i => laws_r8Parcels.l0 k l l i) l.length (by omega) 0 true (fun k i _ h0 h1 => by
      simp only [laws_r8Parcels.l0, h0, h1, if_true, wsucc h0 (by omega), beq_self_eq_true, Bool.not_true, Bool.or_self, Bool.false_eq_true, if_false]) (fun k i _ h _ => by simp only [laws_r8Parcels.l0, h, if_false])
  refine ⟨K, fun k hk => ?_⟩
  simp only [laws_r8Parcels.f, if_true]
  exact hK k hk
theorem rooms_up (l : List P1) (j : Nat) (h0 : 0 < j) (hj : j < (roomsL l).length) : (roomsL l).getD (j - 1) 0 < (roomsL l).getD j 0 := by
  have := List.pairwise_iff_getElem.1 (setOf_tells (l.map fun p => p.f0)).1 (j - 1) j (by show j - 1 < (roomsL l).length; omega) hj (by omega)
  have e1 : (roomsL l).getD (j - 1) 0 = (roomsL l)[j - 1] := by rw [List.getD_eq_getElem?_getD, List.getElem?_eq_getElem (by omega)]; rfl
  have e2 : (roomsL l).getD j 0 = (roomsL l)[j] := by rw [List.getD_eq_getElem?_getD, List.getElem?_eq_getElem hj]; rfl
  rw [e1, e2]; exact this
theorem l0_loop (l : List P1) (la : Int) (d : Nat) (hl : l.length = d) (hd : d ≤ 64) (h : From (fun k => laws_FnFair.l1 k la (seqF d l la) 0) true) : ∀ (m i : Nat), i + m = (roomsL l).length →
    From (fun k => laws_FnFair.l0 k l la (seqF d l la) (roomsL l) (i : Int)) true
  | 0, i, hi => by
    refine from_step h 0 fun k _ => ?_
    show laws_FnFair.l0 (k + 1) _ _ _ _ _ = _
    rw [laws_FnFair.l0, if_neg (by omega)]
  | m + 1, i, hi => by
    have hrl := roomsL_len l
    have ih := l0_loop l la d hl hd h m (i + 1) (by omega)
    have hrd : rd (roomsL l) (i : Int) = (roomsL l).getD i 0 := by unfold rd; rw [Int.toNat_natCast]
    obtain ⟨p, hp, hpr⟩ := (rooms_mem l _).1 (getD_mem 0 (show i < (roomsL l).length by omega))
    have hne : (ofRoom l ((roomsL l).getD i 0)).length ≠ 0 := by
      intro e
      have : p ∈ ofRoom l ((roomsL l).getD i 0) := List.mem_filter.2 ⟨hp, by simp [hpr]⟩
      rw [List.length_eq_zero_iff.1 e] at this
      simp at this
    have hro := seqF_room d l la ((roomsL l).getD i 0) hl
    obtain ⟨K1, e1⟩ := ofRoom_from (seqF d l la) ((roomsL l).getD i 0) (by rw [seqF_len]; omega)
    obtain ⟨K2, e2⟩ := ofRoom_from l ((roomsL l).getD i 0) (by omega)
    obtain ⟨K3, e3⟩ := r8Parcels_from (ofRoom l ((roomsL l).getD i 0)) (by have := List.length_filter_le (fun p : P1 => decide (p.f0 = (roomsL l).getD i 0)) l; unfold ofRoom; omega)
    rw [hro] at e1
    refine from_step (f := fun k => laws_FnFair.j4 k l la (seqF d l la) (roomsL l) (i : Int)) (from_step ih (K1 + K2 + K3) fun k hk => ?_) 0 fun k _ => ?_
    · show laws_FnFair.j4 (k + 1) _ _ _ _ _ = _
      have E1 := e1 k (by omega)
      have E2 := e2 k (by omega)
      have E3 := e3 k (by omega)
      simp only at E1 E2 E3
      have hne' : ¬ ((ofRoom l ((roomsL l).getD i 0)).length : Int) = 0 := by omega
      rw [laws_FnFair.j4, if_pos (by omega), if_pos (by omega), hrd, E1]
      simp only [Option.bind_some]
      rw [E2]
      simp only [Option.bind_some, E3, if_true]
      rw [if_neg hne']
      by_cases c : (i : Int) > 0
      · have hup := rooms_up l i (by omega) (by omega)
        have hw : wrap64 ((i : Int) - 1) = ((i - 1 : Nat) : Int) := by rw [w64 (by omega) (by omega)]; omega
        have hrd2 : rd (roomsL l) ((i - 1 : Nat) : Int) = (roomsL l).getD (i - 1) 0 := by unfold rd; rw [Int.toNat_natCast]
        rw [if_pos c, hw, if_pos (by omega), if_pos (by omega), hrd2, if_neg (by omega), wsucc (by omega) (by omega)]
        rfl
      · rw [if_neg c, wsucc (by omega) (by omega)]; rfl
    · show laws_FnFair.l0 (k + 1) _ _ _ _ _ = _
      rw [laws_FnFair.l0, if_pos (by omega)]
theorem FnFair : laws_FnFair.Pure := by
  intro x0 x1 _ _ q0 _ _ q1
  have b0 := bytes_of_wf q0
  have b1 := bytes_of_wf q1
  by_cases c0 : (x0.length : Int) > 48
  · exact ⟨0, by simp only [laws_FnFair.f, laws_r8Long.f, c0, if_true, Option.bind_some]⟩
  by_cases c1 : (x1.length : Int) > 48
  · exact ⟨0, by simp only [laws_FnFair.f, laws_r8Long.f, c0, c1, if_true, if_false, Option.bind_some, decide_true]⟩
  obtain ⟨n, e1, n0, n1⟩ := r8At_from b1 0 12 (by omega) (by omega)
  obtain ⟨la, e2, l0, l1⟩ := r8At_from b1 1 5 (by omega) (by omega)
  obtain ⟨m, rfl⟩ : ∃ m : Nat, n = m := ⟨n.toNat, by omega⟩
  obtain ⟨l, e3, hx, hl⟩ := draw_parcels b0 m [] 0 0 (by omega) (by omega) (by omega) (fun x h => by simp at h) (by simp; omega)
  have hok := okPs_of (by omega) hx
  obtain ⟨K1, f1⟩ := parcelsOk_from l (by omega)
  rw [hok] at f1
  obtain ⟨K2, f2⟩ := fairL_from l.length l [] la rfl (by omega) (by simp; omega)
  obtain ⟨K3, f3⟩ := RoomsIn_from l (by omega) hx
  have H1 := l1_loop l.length l [] la rfl (by omega) (by simp; omega) hx
  rw [List.nil_append] at H1
  obtain ⟨K4, f4⟩ := l0_loop l la l.length rfl (by omega) H1 (roomsL l).length 0 (by omega)
  have hc : slices_CloneP.f l = some l := by
    unfold slices_CloneP.f
    rw [if_pos (by omega)]
  generalize hK : m + 1 + K1 + K2 + K3 + K4 + l.length + 1 = K
  refine ⟨K + 3, ?_⟩
  have hla : 0 ≤ la ∧ la ≤ 1000 := by omega
  have E3 : spec_R8Parcels.f (K + 2) x0 (m : Int) = some l := by
    simp only [spec_R8Parcels.f, spec_l00From.f, Option.bind_some]; exact e3 (K + 2) (by omega)
  have E2 := f2 (K + 2) (by omega) (K + 2) (by omega)
  rw [List.nil_append] at E2
  have EF : impl_FairOrder.f (K + 2) l la = some (seqF l.length l la, true) := by
    simp only [impl_FairOrder.f, f1 (K + 2) (by omega), Option.bind_some, if_true, in_some, hla, and_self, decide_true, hc, E2]
  have ER := f3 (K + 2) (by omega)
  simp only at ER
  have hb : (((seqF l.length l la).length : Int) != (l.length : Int)) = false := by rw [seqF_len]; simp
  have E4 := f4 K (by omega)
  simp only [laws_FnFair.f, laws_r8Long.f, c0, c1, if_false, Option.bind_some, decide_false, Bool.false_eq_true]
  simp only [laws_FnFair.j0, e1, e2, E3, EF, ER, Option.bind_some, if_true, hb]
  simp only [laws_FnFair.j1, Bool.false_eq_true, if_false]
  simp only [laws_FnFair.j2]
  exact E4

end Go.Proofs.Ytgpiaeklhhacjaa.Pure
