-- Written by a program of this session (wip/xprint: over the kit's print). Not trusted: Lean checks it.
import Derived.Test.YtallocgnpbpbhaaDoorXFnDigestsx0
import Derived.Test.YtallocgnpbpbhaaDoorXFnDigestsx1
import Derived.Test.YtallocgnpbpbhaaDoorXFnDigestsx2
import Derived.Test.YtallocgnpbpbhaaDoorXFnDigestsx3
import Derived.Test.YtallocgnpbpbhaaDoorXFnDigestsx4
import Derived.Test.YtallocgnpbpbhaaDoorXFnDigestsx5
namespace Go.Proofs.YtallocgnpbpbhaaDoor.XFnDigests
open Go.RowKit Go.Proofs.YtallocgnpbpbhaaDoorW.PrintWords Go.Proofs.YtallocgnpbpbhaaDoorW.PrintLast Go.Proofs.YtallocgnpbpbhaaDoorW.PrintMore
open Go.Proofs.YtallocgnpbpbhaaDoor.XW
open Go.Proofs.YtallocgnpbpbhaaDoor.XD
attribute [local go_sem] max2_int min2_int max_two min_two max_three min_three max_four min_four   -- for this text's walks alone
set_option linter.unusedVariables false
set_option linter.unusedSimpArgs false

/-! ### laws_FnDigests: function 3 (by hand; numbers of the seat Ytallocgnpbpbhaa.D (r5)) -/
/-- A byte of a text is made greater by 1 + x. -/
def chgB (s : ByteArray) (j x : Int) : ByteArray := strOfNums ((bytesOf s).set j.toNat (IntKind.u8.wrap (rd (bytesOf s) j + IntKind.u8.wrap (wrap64 (1 + x)))))
noncomputable def sureO (p : Prop) : Option Bool := @ite _ p (Classical.propDecidable p) (some true) none
theorem sureO_some {p : Prop} {r : Bool} (h : sureO p = some r) : p ∧ r = true := by
  unfold sureO at h
  split at h
  · next hp => injection h with h; exact ⟨hp, h.symm⟩
  · cases h
theorem sureO_mk {p : Prop} (h : p) : sureO p = some true := by unfold sureO; exact if_pos h
/-- Another text has another digest. -/
def ChgOK (more : List Int) (s digest : ByteArray) (j x : Int) (other : ByteArray) : Prop :=
  0 < s.size → laws_b10At.f more 2 (s.size : Int) = some j ∧ 0 ≤ j ∧ j < (s.size : Int) ∧ laws_b10At.f more 3 255 = some x ∧ impl_DigestOf.f (chgB s j x) = some (other, true) ∧ ¬ other.toList = digest.toList
/-- What stands before a part of a chain. -/
def nowJ (digest : ByteArray) (chain : List ByteArray) : Nat → ByteArray
  | 0 => digest
  | i + 1 => chain.getD i ByteArray.empty
/-- All that the law finds. -/
structure DigOK (k : Nat) (code more : List Int) (s hex digest tok text t : ByteArray) (a b : Int) (list : List Int) (chain : List ByteArray) : Prop where
  h0 : laws_b10Long.f code more = some false
  h1 : spec_B10Bytes.f k code = some s
  h2 : impl_HexText.f k s = some (hex, true)
  h3 : impl_ReadHex.f k hex = some (s, true)
  h4 : impl_DigestOf.f s = some (digest, true)
  h5 : laws_b10At.f more 0 200 = some a
  h6 : laws_b10At.f more 1 200 = some b
  h7 : impl_TokenOf.f k a b = some (tok, true)
  h8 : spec_B10List.f k more = some list
  h9 : impl_ListText.f k list = some (text, true)
  h10 : impl_ReadList.f k text = some (list, true)
  h11 : impl_IsDigest.f digest = some true
  h12 : impl_IsToken.f tok = some true
  h13 : laws_b10Nums.f k list list = some true
  h14 : ∃ j x other, ChgOK more s digest j x other
  h15 : spec_B10Bytes.f k more = some t
  h16 : impl_ChainOf.f k digest [s, t, ⟨#[]⟩] = some (chain, true)
  h17 : chain.length = 3
  h18 : ∀ i, i < 3 → spec_DigestOf.f k (nowJ digest chain i ++ List.getD [s, t, ⟨#[]⟩] i ByteArray.empty) = some (chain.getD i ByteArray.empty, true) ∧ (nowJ digest chain i ++ List.getD [s, t, ⟨#[]⟩] i ByteArray.empty).size ≤ 100000
  h21 : s.size ≤ 1000
noncomputable def laws_FnDigests.f (k : Nat) (l0 : List Int) (l1 : List Int) : Option Bool :=
  (laws_b10Long.f l0 l1).bind fun t => if t = true then some true else sureO (∃ s hex digest tok text t a b list chain, DigOK k l0 l1 s hex digest tok text t a b list chain)
theorem blk_putF {W : World} {g : Nat} {cs : Array Value} {t : TypeId} {fr : Nat × Nat} (h : W.heap[g]? = some (.cells cs t fr)) (i : Nat) (v : Value) : (W.setCell ⟨g, i, none⟩ v).heap[g]? = some (.cells (cs.setIfInBounds i v) t fr) := by
  simp [World.setCell, Array.getElem?_modify, h]
theorem blk_cellF {W : World} {g : Nat} {cs : Array Value} {t : TypeId} {fr : Nat × Nat} (h : W.heap[g]? = some (.cells cs t fr)) (i : Nat) : W.cell? ⟨g, i, none⟩ = cs[i]? := by
  simp [World.cell?, h]
/-- One byte of a block that bears a mark is written. -/
theorem setC {W : World} {gb n : Nat} {xs : List Int} {CS : Array Value} {t : TypeId} {fr : Nat × Nat} (h : ReadsInt W .u8 (some ⟨gb, 0, none⟩) n xs) (hk : W.heap[gb]? = some (.cells CS t fr)) (j : Nat) (hj : j < n) (v : Int) (m : Nat) : Kd.C (Kd.int .u8) ((W.drewN m).setCell ⟨gb, j, none⟩ (.int .u8 v)) (some ⟨gb, 0, none⟩) n (xs.set j v) := by
  have hk2 : (W.drewN m).heap[gb]? = some (.cells CS t fr) := hk
  refine Kd.C_of_reads (d := (0 : Int)) (h1 := fun _ => rfl) ⟨by rw [List.length_set]; exact h.1, h.2.1, fun hn => ⟨_, rfl, fun i hi => ?_⟩⟩
  obtain ⟨ad, e1, e2⟩ := h.2.2 hn
  injection e1 with e1
  subst e1
  have hc := e2 i hi
  have hcj := e2 j hj
  rw [add_plain, blk_cellF hk] at hc hcj
  rw [add_plain, blk_cellF (blk_putF hk2 j (.int .u8 v))]
  have hjs : j < CS.size := by
    rcases Nat.lt_or_ge j CS.size with h' | h'
    · exact h'
    · rw [Array.getElem?_eq_none h'] at hcj; cases hcj
  have hl := h.1
  by_cases c : i = j
  · subst c
    rw [Array.getElem?_setIfInBounds_self_of_lt hjs, List.getD_eq_getElem?_getD, List.getElem?_set_self (by omega)]
    rfl
  · rw [Array.getElem?_setIfInBounds_ne (Ne.symm c), hc, List.getD_eq_getElem?_getD, List.getD_eq_getElem?_getD, List.getElem?_set_ne (Ne.symm c)]
theorem chgB_is (s : ByteArray) (j : Nat) (x : Int) : chgB s (j : Int) x = strOfNums ((bytesOf s).set j (IntKind.u8.wrap ((bytesOf s)[j]?.getD 0 + IntKind.u8.wrap (IntKind.i64.wrap (1 + x))))) := by
  unfold chgB rd
  rw [Int.toNat_natCast, List.getD_eq_getElem?_getD]
  simp only [i64_w]
theorem strC (W : World) (xs : List ByteArray) (hx : xs.length ≤ 100) : Kd.C Kd.string (W.alloc (.cells (xs.map Value.string).toArray 9)) (some ⟨W.heap.size, 0, none⟩) xs.length xs := by
  refine ⟨rfl, by omega, fun hn => ⟨_, rfl, fun j p hj => ⟨[.string p], rfl, rfl, fun i u hu => ?_⟩⟩⟩
  obtain ⟨hl, hp⟩ := List.getElem?_eq_some_iff.1 hj
  have hi : i = 0 := by
    cases i with
    | zero => rfl
    | succ i => cases hu
  subst hi
  injection hu with hu
  subst hu
  have hb := blk_cell (heap_alloc_new W (.cells (xs.map Value.string).toArray 9)) j
  have ha : ∀ n, (⟨W.heap.size, 0, none⟩ : Addr).add n = ⟨W.heap.size, n, none⟩ := fun n => by cases n <;> simp [Addr.add]
  show World.cell? _ ((⟨W.heap.size, 0, none⟩ : Addr).add (j * 1 + 0)) = _
  rw [ha, Nat.mul_one, Nat.add_zero, hb]
  simp [hj]
theorem at_S {w : World} {A : Option Addr} {n : Nat} {xs : List ByteArray} (h : Kd.C Kd.string w A n xs) (i : Nat) (hi : i < n) : ∃ ad, A = some ad ∧ w.cell? (ad.add i) = some (.string (xs.getD i ByteArray.empty)) := by
  obtain ⟨ad, c, e, _, hK, hc0⟩ := Kd.C_get h ByteArray.empty (i : Int) (by omega) (by omega)
  obtain rfl := hK
  have hq := hc0 0 _ rfl
  refine ⟨ad, e, ?_⟩
  rw [Int.toNat_natCast] at hq
  have hq2 : w.cell? (ad.add (i * 1 + 0)) = some (.string (xs.getD i ByteArray.empty)) := hq
  rwa [Nat.mul_one, Nat.add_zero] at hq2
set_option maxHeartbeats 16000000 in
set_option maxRecDepth 100000 in
theorem laws_FnDigests.good (k : Nat) (A0 : Option Addr) (c0 : Nat) (code : List Int) (A1 : Option Addr) (c1 : Nat) (more : List Int) (w : World) (hr0 : Kd.C (Kd.int .u8) w A0 code.length code) (hc0 : code.length ≤ c0) (hr1 : Kd.C (Kd.int .u8) w A1 more.length more) (hc1 : more.length ≤ c1) (hD_ : Aside0 (Door true w))
    (s hex digest tok text t : ByteArray) (a b : Int) (list : List Int) (chain : List ByteArray) (h : DigOK k code more s hex digest tok text t a b list chain) :
    Calls Tryd.prog 3 #[.slice A0 code.length c0, .slice A1 more.length c1] w fun e w' => e = .returned (.bool true) ∧ Below w.heap.size w w' := by
  have HR0 := Aside0.mk hr0
  have HC0 := Aside0.mk hc0
  have HR1 := Aside0.mk hr1
  have HC1 := Aside0.mk hc1
  have Q := Aside0.mk h
  clear hr0 hc0 hr1 hc1 h
  go_enter Tryd.func3, Tryd.ntmps3
  go_upto_region 7 with (first
    | (go_at_call 4; refine (laws_b10Long.calls A0 c0 code A1 c1 more false w HR0.out HC0.out HR1.out HC1.out Q.out.h0).mono ?_; rintro e w1 ⟨rfl, hb⟩; have B1 := Aside0.mk (show Below w.heap.size w w1 from hb.below); clear hb)
    | (go_at_call 5; refine (spec_B10Bytes.calls k A0 c0 code s w1 (Kd.C_below HR0.out B1.out) HC0.out Q.out.h1).mono ?_; rintro e w2 ⟨rfl, hb⟩; have B2 := Aside0.mk (B1.out.trans (hb.mono B1.out.size)); clear hb)
    | (go_at_call 6; refine (impl_HexText.calls k s hex true w2 Q.out.h2).mono ?_; rintro e w3 ⟨rfl, hb⟩; have B3 := Aside0.mk (B2.out.trans (hb.mono B2.out.size)); clear hb)
    | (go_at_call 7; refine (impl_ReadHex.calls k hex s true w3 Q.out.h3).mono ?_; rintro e w4 ⟨rfl, hb⟩; have B4 := Aside0.mk (B3.out.trans (hb.mono B3.out.size)); clear hb)
    | (go_at_call 8; refine (impl_DigestOf.calls s digest true w4 Q.out.h4).mono ?_; rintro e w5 ⟨rfl, hb⟩; have B5 := Aside0.mk (B4.out.trans (hb.mono B4.out.size)); clear hb))
  have m0 : True := trivial
  go_upto_region 11 with (first
    | (go_at_call 10; have _g := m0; clear _g m0; refine (laws_b10At.calls A1 c1 more 0 200 a w5 (Kd.C_below HR1.out B5.out) HC1.out Q.out.h5).mono ?_; rintro e w6 ⟨rfl, hb⟩; have B6 := Aside0.mk (B5.out.trans (hb.below.mono B5.out.size)); clear hb; have m1 : True := trivial)
    | (go_at_call 10; have _g := m1; clear _g m1; refine (laws_b10At.calls A1 c1 more 1 200 b w6 (Kd.C_below HR1.out B6.out) HC1.out Q.out.h6).mono ?_; rintro e w7 ⟨rfl, hb⟩; have B7 := Aside0.mk (B6.out.trans (hb.below.mono B6.out.size)); clear hb)
    | (go_at_call 9; refine (impl_TokenOf.calls k a b tok true w7 Q.out.h7).mono ?_; rintro e w8 ⟨rfl, hb⟩; have B8 := Aside0.mk (B7.out.trans (hb.mono B7.out.size)); clear hb)
    | (go_at_call 11; refine (spec_B10List.calls k A1 c1 more list w8 (Kd.C_below HR1.out B8.out) HC1.out Q.out.h8).mono ?_; rintro e w9 ⟨v, rfl, hr, hb⟩; obtain ⟨Al, cl, ev⟩ := Kd.R_slice hr; subst ev; have Cl9 := Aside0.mk (Kd.R_reads' hr).2.2; have Ll := Aside0.mk (Kd.R_reads' hr).2.1; have B9 := Aside0.mk (B8.out.trans (hb.mono B8.out.size)); clear hr hb)
    | (go_at_call 12; refine (impl_ListText.calls k Al cl list text true w9 Cl9.out Ll.out ⟨Door.below hD_.out B9.out⟩ Q.out.h9).mono ?_; rintro e w10 ⟨rfl, hb⟩; have Cl10 := Aside0.mk (Kd.C_below Cl9.out hb); have B10 := Aside0.mk (B9.out.trans (hb.mono B9.out.size)); clear hb)
    | (go_at_call 13; refine (impl_ReadList.calls k text list true w10 ⟨Door.below hD_.out B10.out⟩ Q.out.h10).mono ?_; rintro e w11 ⟨v, rfl, hr, hb⟩; obtain ⟨Ar, cr, ev⟩ := Kd.R_slice hr; subst ev; have Cr11 := Aside0.mk (Kd.R_reads' hr).2.2; have Lr := Aside0.mk (Kd.R_reads' hr).2.1; have Cl11 := Aside0.mk (Kd.C_below Cl10.out hb); have B11 := Aside0.mk (B10.out.trans (hb.mono B10.out.size)); clear hr hb))
  clear B1 B2 B3 B4 B5 B6 B7 B8 B9 B10 Cl9 Cl10
  go_upto_region 13 with (first
    | (go_at_call 14; refine (impl_IsDigest.calls digest true w11 Q.out.h11).mono ?_; rintro e w12 ⟨rfl, hb⟩; have h12b : Below w11.heap.size w11 w12 := hb.below; have Cr12 := Aside0.mk (Kd.C_below Cr11.out h12b); have Cl12 := Aside0.mk (Kd.C_below Cl11.out h12b); have B12 := Aside0.mk (B11.out.trans (h12b.mono B11.out.size)); clear hb h12b)
    | (go_at_call 15; refine (impl_IsToken.calls tok true w12 Q.out.h12).mono ?_; rintro e w13 ⟨rfl, hb⟩; have h12b : Below w12.heap.size w12 w13 := hb.below; have Cr13 := Aside0.mk (Kd.C_below Cr12.out h12b); have Cl13 := Aside0.mk (Kd.C_below Cl12.out h12b); have B13 := Aside0.mk (B12.out.trans (h12b.mono B12.out.size)); clear hb h12b)
    | (go_at_call 16; refine (laws_b10Nums.calls k Ar cr list Al cl list true w13 Cr13.out Lr.out Cl13.out Ll.out Q.out.h13).mono ?_; rintro e w14 ⟨rfl, hb⟩; have B14 := Aside0.mk (B13.out.trans (hb.below.mono B13.out.size)); clear hb))
  clear Cr11 Cl11 Cr12 Cl12 Cr13 Cl13 B11 B12 B13 Ll Lr
  by_cases hs : (0 : Int) < (s.size : Int)
  · have gs : decide ((0 : Int) < (s.size : Int)) = true := decide_eq_true hs
    have kb := fun W => print_bytes (P := Tryd.prog) 9 22 5 Tryd.underlying9 Tryd.underlying22 Tryd.underlying5 s W
    go_upto_region 15 with (fail)
    clear kb
    obtain ⟨j, x, other, hch⟩ := Q.out.h14
    obtain ⟨g1, g2, g3, g4, g5, g6⟩ := hch (by omega)
    obtain ⟨j, rfl⟩ : ∃ n : Nat, j = n := ⟨j.toNat, by omega⟩
    obtain ⟨cap, hcap⟩ : ∃ cap, cap = grownCap w14 s.size 0 5 := ⟨_, rfl⟩
    obtain ⟨gb, hgb⟩ : ∃ gb, gb = w14.heap.size := ⟨_, rfl⟩
    obtain ⟨W, hW⟩ : ∃ W, W = Lib.bytesWorld w14 5 s := ⟨_, rfl⟩
    have BW : Aside0 (Below w.heap.size w W) := ⟨by rw [hW]; exact bytes_below B14.out B14.out.size 5 s⟩
    have RW : Aside0 (ReadsInt W .u8 (some ⟨gb, 0, none⟩) s.size (bytesOf s)) := ⟨by rw [hW, hgb]; exact bytes_reads w14 5 s (by have := Q.out.h21; omega)⟩
    have GB : Aside0 (w.heap.size ≤ gb) := ⟨by rw [hgb]; exact B14.out.size⟩
    have hl0 : W.cell? ⟨gb, j, none⟩ = some (.int .u8 ((bytesOf s).getD j 0)) := by
      obtain ⟨ad, e1, e2⟩ := RW.out.2.2 (by omega)
      injection e1 with e1
      subst e1
      have := e2 j (by omega)
      rwa [add_plain] at this
    obtain ⟨CS, hCS⟩ : ∃ CS, CS = Lib.bytesCells w14 5 s := ⟨_, rfl⟩
    have KW : Aside0 (W.heap[gb]? = some (.cells CS 5 (CS.size, CS.size + 1))) := ⟨by rw [hW, hgb, hCS]; exact Lib.bytesWorld_at_new w14 5 s⟩
    have hsz : s.size ≤ CS.size := by rw [hCS]; unfold Lib.bytesCells; simp
    have hfz : W.frozen? ⟨gb, j, none⟩ = false := by simp [World.frozen?, KW.out]; omega
    try rw [← hW]
    try rw [← hgb]
    try rw [← hcap]
    have G1 := Aside0.mk g1
    have G4 := Aside0.mk g4
    have G5 := g5
    have G6 := Aside0.mk g6
    clear hW hgb hcap hch hCS g1 g4 g5 g6 B14
    have hw1 : decide ((0 : Int) ≤ (j : Int)) = true := decide_eq_true (by omega)
    have hw2 : decide ((j : Int) < (s.size : Int)) = true := decide_eq_true (by omega)
    rw [chgB_is] at G5
    obtain ⟨v, hv⟩ : ∃ v, v = IntKind.u8.wrap ((bytesOf s)[j]?.getD 0 + IntKind.u8.wrap (IntKind.i64.wrap (1 + x))) := ⟨_, rfl⟩
    rw [← hv] at G5
    have m0 : True := trivial
    go_cut [] (fun wc => Aside0 (Kd.C (Kd.int .u8) wc (some ⟨gb, 0, none⟩) s.size ((bytesOf s).set j v)) ∧ Aside0 (Below w.heap.size w wc))
    case first =>
      go_region_with (first | (go_at_call 10; have _g := m0; clear _g m0; refine (laws_b10At.calls A1 c1 more 2 s.size j _ (by repeat (first | exact Kd.C_below HR1.out BW.out | (with_reducible refine Kd.C_drewN ?_ _) | (with_reducible refine Kd.C_drew ?_))) HC1.out G1.out).mono ?_; rintro e u1 ⟨rfl, nd, rfl⟩; have m1 : True := trivial) | (go_at_call 10; have _g := m1; clear _g m1; refine (laws_b10At.calls A1 c1 more 3 255 x _ (by repeat (first | exact Kd.C_below HR1.out BW.out | (with_reducible refine Kd.C_drewN ?_ _) | (with_reducible refine Kd.C_drew ?_))) HC1.out G4.out).mono ?_; rintro e u1 ⟨rfl, nd2, rfl⟩))
      all_goals (go_wp2; go_meet)
      all_goals exact ⟨⟨by rw [hv]; exact setC RW.out KW.out j (by omega) _ _⟩, ⟨below_set (pw_below_drewN BW.out _) GB.out⟩⟩
    case rest =>
      rename World => wc
      obtain ⟨HCB, HBW⟩ := hcut
      clear hv hl0 hfz hw1 hw2 RW KW BW
      have kc := Kd.C_string (P := Tryd.prog) Tryd.underlying22 Tryd.underlying5 Tryd.underlying9 HCB.out (c := cap)
      have go6 : (other.toList == digest.toList) = false := by simpa using G6.out
      go_upto_region 19 with (go_at_call 8; refine (impl_DigestOf.calls _ other true _ G5).mono ?_; rintro e w15 ⟨rfl, hb⟩; have B15 := Aside0.mk (HBW.out.trans (hb.mono HBW.out.size)); clear hb)
      clear kc go6 G5 G6 G1 G4 HCB HBW
      obtain ⟨d1, d2, d3, rfl⟩ : ∃ d1 d2 d3, chain = [d1, d2, d3] := by
        match chain, Q.out.h17 with
        | [d1, d2, d3], _ => exact ⟨d1, d2, d3, rfl⟩
      go_upto_region 24 with (first | (go_at_call 5; refine (spec_B10Bytes.calls k A1 c1 more t w15 (Kd.C_below HR1.out B15.out) HC1.out Q.out.h15).mono ?_; rintro e y1 ⟨rfl, hb⟩; have BY1 := Aside0.mk (B15.out.trans (hb.mono B15.out.size)); clear hb) | (go_at_call 17; refine (impl_ChainOf.calls k digest (some ⟨y1.heap.size, 0, none⟩) 3 [s, t, ⟨#[]⟩] [d1, d2, d3] true _ (strC y1 [s, t, ⟨#[]⟩] (by simp)) (Nat.le_refl _) Q.out.h16).mono ?_; rintro e y2 ⟨v, rfl, hr, hb⟩; obtain ⟨Ac, cc, ev⟩ := Kd.R_slice hr; subst ev; have CC := Aside0.mk (Kd.R_reads' hr).2.2; have CP := Aside0.mk (Kd.C_below (strC y1 [s, t, ⟨#[]⟩] (by simp)) hb); have BA := BY1.out.alloc BY1.out.size (.cells ([s, t, ⟨#[]⟩].map Value.string).toArray 9); have BY2 := Aside0.mk (BA.trans (hb.mono BA.size)); clear hr hb BA))
      obtain ⟨gp, hgp⟩ : ∃ gp, gp = y1.heap.size := ⟨_, rfl⟩
      rw [← hgp] at CP
      try rw [← hgp]
      clear hgp BY1
      go_wp2_with fail
      go_loopg [25, 165] 3 (fun gg v25 v165 wr => ∃ i : Nat, i ≤ 3 ∧ 3 - i ≤ gg ∧ v165 = .int .i64 i ∧ v25 = .string (nowJ digest [d1, d2, d3] i) ∧ Aside0 (Kd.C Kd.string wr (some ⟨gp, 0, none⟩) 3 [s, t, ⟨#[]⟩]) ∧ Aside0 (Kd.C Kd.string wr Ac 3 [d1, d2, d3]) ∧ Aside0 (Below w.heap.size w wr))
      case atStart => exact ⟨0, by omega, by omega, rfl, rfl, CP, CC, BY2⟩
      case round =>
        clear CP CC BY2
        rename World => wr
        obtain ⟨i, hi3, hgi, rfl, rfl, CP, CC, BR⟩ := hrel
        by_cases hi : i < 3
        · have q1 : decide ((i : Int) < 3) = true := decide_eq_true (by omega)
          have q2 : decide ((0 : Int) ≤ (i : Int)) = true := decide_eq_true (by omega)
          obtain ⟨pz, hpz⟩ : ∃ pz, pz = List.getD [s, t, ⟨#[]⟩] i ByteArray.empty := ⟨_, rfl⟩
          obtain ⟨nz, hnz⟩ : ∃ nz, nz = nowJ digest [d1, d2, d3] i := ⟨_, rfl⟩
          obtain ⟨dz, hdz⟩ : ∃ dz, dz = List.getD [d1, d2, d3] i ByteArray.empty := ⟨_, rfl⟩
          have HZ := Q.out.h18 i hi
          obtain ⟨ad, ea, hca⟩ := at_S CC.out i hi
          subst ea
          obtain ⟨ap, ep, hcp⟩ := at_S CP.out i hi
          injection ep with ep
          subst ep
          rw [add_plain] at hcp
          rw [← hpz] at HZ hcp
          rw [← hnz] at HZ
          rw [← hdz] at HZ hca
          try rw [← hnz]
          have HZ1 := Aside0.mk HZ.1
          have hsz : (9223372036854775807 < nz.size + pz.size) = False := eq_false (by have := HZ.2; rw [ByteArray.size_append] at this; omega)
          have hnj : nowJ digest [d1, d2, d3] (i + 1) = dz := by rw [hdz]; rfl
          have HNJ := Aside0.mk hnj
          clear HZ hpz hnz hdz hnj
          have wi : wrap64 ((i : Int) + 1) = ((i + 1 : Nat) : Int) := by unfold wrap64; omega
          have WI := Aside0.mk wi
          clear wi
          go_wp2_with (go_at_call 18; refine (spec_DigestOf.calls k (nz ++ pz) dz true wr HZ1.out).mono ?_; rintro e y3 ⟨rfl, hb⟩; have CP3 := Aside0.mk (Kd.C_below CP.out hb); have CC3 := Aside0.mk (Kd.C_below CC.out hb); have hca3 : y3.cell? (ad.add i) = some (.string dz) := pw_cell_below hb hca; have BR3 := Aside0.mk (BR.out.trans (hb.mono BR.out.size)); clear hb hca)
          go_roundg (gk - 1)
          all_goals (first | omega | exact ⟨i + 1, by omega, by omega, by first | rfl | (rw [WI.out]), by rw [HNJ.out], CP3, CC3, BR3⟩)
        · obtain rfl : i = 3 := by omega
          have q1 : decide (((3 : Nat) : Int) < 3) = false := by decide
          go_wp2_with fail
          go_ret
          exact ⟨rfl, BR.out⟩
  · have gs : decide ((0 : Int) < (s.size : Int)) = false := decide_eq_false hs
    obtain ⟨d1, d2, d3, rfl⟩ : ∃ d1 d2 d3, chain = [d1, d2, d3] := by
      match chain, Q.out.h17 with
      | [d1, d2, d3], _ => exact ⟨d1, d2, d3, rfl⟩
    go_upto_region 24 with (first | (go_at_call 5; refine (spec_B10Bytes.calls k A1 c1 more t w14 (Kd.C_below HR1.out B14.out) HC1.out Q.out.h15).mono ?_; rintro e y1 ⟨rfl, hb⟩; have BY1 := Aside0.mk (B14.out.trans (hb.mono B14.out.size)); clear hb) | (go_at_call 17; refine (impl_ChainOf.calls k digest (some ⟨y1.heap.size, 0, none⟩) 3 [s, t, ⟨#[]⟩] [d1, d2, d3] true _ (strC y1 [s, t, ⟨#[]⟩] (by simp)) (Nat.le_refl _) Q.out.h16).mono ?_; rintro e y2 ⟨v, rfl, hr, hb⟩; obtain ⟨Ac, cc, ev⟩ := Kd.R_slice hr; subst ev; have CC := Aside0.mk (Kd.R_reads' hr).2.2; have CP := Aside0.mk (Kd.C_below (strC y1 [s, t, ⟨#[]⟩] (by simp)) hb); have BA := BY1.out.alloc BY1.out.size (.cells ([s, t, ⟨#[]⟩].map Value.string).toArray 9); have BY2 := Aside0.mk (BA.trans (hb.mono BA.size)); clear hr hb BA))
    obtain ⟨gp, hgp⟩ : ∃ gp, gp = y1.heap.size := ⟨_, rfl⟩
    rw [← hgp] at CP
    try rw [← hgp]
    clear hgp BY1
    go_wp2_with fail
    go_loopg [25, 165] 3 (fun gg v25 v165 wr => ∃ i : Nat, i ≤ 3 ∧ 3 - i ≤ gg ∧ v165 = .int .i64 i ∧ v25 = .string (nowJ digest [d1, d2, d3] i) ∧ Aside0 (Kd.C Kd.string wr (some ⟨gp, 0, none⟩) 3 [s, t, ⟨#[]⟩]) ∧ Aside0 (Kd.C Kd.string wr Ac 3 [d1, d2, d3]) ∧ Aside0 (Below w.heap.size w wr))
    case atStart => exact ⟨0, by omega, by omega, rfl, rfl, CP, CC, BY2⟩
    case round =>
      clear CP CC BY2
      rename World => wr
      obtain ⟨i, hi3, hgi, rfl, rfl, CP, CC, BR⟩ := hrel
      by_cases hi : i < 3
      · have q1 : decide ((i : Int) < 3) = true := decide_eq_true (by omega)
        have q2 : decide ((0 : Int) ≤ (i : Int)) = true := decide_eq_true (by omega)
        obtain ⟨pz, hpz⟩ : ∃ pz, pz = List.getD [s, t, ⟨#[]⟩] i ByteArray.empty := ⟨_, rfl⟩
        obtain ⟨nz, hnz⟩ : ∃ nz, nz = nowJ digest [d1, d2, d3] i := ⟨_, rfl⟩
        obtain ⟨dz, hdz⟩ : ∃ dz, dz = List.getD [d1, d2, d3] i ByteArray.empty := ⟨_, rfl⟩
        have HZ := Q.out.h18 i hi
        obtain ⟨ad, ea, hca⟩ := at_S CC.out i hi
        subst ea
        obtain ⟨ap, ep, hcp⟩ := at_S CP.out i hi
        injection ep with ep
        subst ep
        rw [add_plain] at hcp
        rw [← hpz] at HZ hcp
        rw [← hnz] at HZ
        rw [← hdz] at HZ hca
        try rw [← hnz]
        have HZ1 := Aside0.mk HZ.1
        have hsz : (9223372036854775807 < nz.size + pz.size) = False := eq_false (by have := HZ.2; rw [ByteArray.size_append] at this; omega)
        have hnj : nowJ digest [d1, d2, d3] (i + 1) = dz := by rw [hdz]; rfl
        have HNJ := Aside0.mk hnj
        clear HZ hpz hnz hdz hnj
        have wi : wrap64 ((i : Int) + 1) = ((i + 1 : Nat) : Int) := by unfold wrap64; omega
        have WI := Aside0.mk wi
        clear wi
        go_wp2_with (go_at_call 18; refine (spec_DigestOf.calls k (nz ++ pz) dz true wr HZ1.out).mono ?_; rintro e y3 ⟨rfl, hb⟩; have CP3 := Aside0.mk (Kd.C_below CP.out hb); have CC3 := Aside0.mk (Kd.C_below CC.out hb); have hca3 : y3.cell? (ad.add i) = some (.string dz) := pw_cell_below hb hca; have BR3 := Aside0.mk (BR.out.trans (hb.mono BR.out.size)); clear hb hca)
        go_roundg (gk - 1)
        all_goals (first | omega | exact ⟨i + 1, by omega, by omega, by first | rfl | (rw [WI.out]), by rw [HNJ.out], CP3, CC3, BR3⟩)
      · obtain rfl : i = 3 := by omega
        have q1 : decide (((3 : Nat) : Int) < 3) = false := by decide
        go_wp2_with fail
        go_ret
        exact ⟨rfl, BR.out⟩
set_option maxHeartbeats 16000000 in
set_option maxRecDepth 100000 in
theorem laws_FnDigests.calls (k : Nat) (A0 : Option Addr) (c0 : Nat) (l0 : List Int) (A1 : Option Addr) (c1 : Nat) (l1 : List Int) (r : Bool) (w : World) (hr0 : Kd.C (Kd.int .u8) w A0 l0.length l0) (hc0 : l0.length ≤ c0) (hr1 : Kd.C (Kd.int .u8) w A1 l1.length l1) (hc1 : l1.length ≤ c1) (hD_ : Aside0 (Door true w)) (h : laws_FnDigests.f k l0 l1 = some r) :
    Calls Tryd.prog 3 #[.slice A0 l0.length c0, .slice A1 l1.length c1] w fun e w' => e = .returned (.bool r) ∧ Below w.heap.size w w' := by
  unfold laws_FnDigests.f at h
  obtain ⟨t0, ht0, h⟩ := Option.bind_eq_some_iff.mp h
  cases t0 with
  | true =>
    rw [if_pos rfl] at h
    injection h with h
    subst h
    have HT := Aside0.mk ht0
    clear ht0
    have HR0 := Aside0.mk hr0
    have HC0 := Aside0.mk hc0
    have HR1 := Aside0.mk hr1
    have HC1 := Aside0.mk hc1
    clear hr0 hc0 hr1 hc1
    go_enter Tryd.func3, Tryd.ntmps3
    go_wp2_with (go_at_call 4; refine (laws_b10Long.calls A0 c0 l0 A1 c1 l1 true w HR0.out HC0.out HR1.out HC1.out HT.out).mono ?_; rintro e w1 ⟨rfl, hb⟩; have B1 := Aside0.mk (show Below w.heap.size w w1 from hb.below); clear hb)
    go_ret
    exact ⟨rfl, B1.out⟩
  | false =>
    rw [if_neg (by simp)] at h
    obtain ⟨⟨s, hex, digest, tok, text, t, a, b, list, chain, hq⟩, rfl⟩ := sureO_some h
    exact laws_FnDigests.good k A0 c0 l0 A1 c1 l1 w hr0 hc0 hr1 hc1 hD_ s hex digest tok text t a b list chain hq

/-- THE ONE PURE STATEMENT of laws_FnDigests. -/
def laws_FnDigests.Pure : Prop := ∀ (l0 : List Int) (l1 : List Int), (l0.length ≤ 9223372036854775807 ∧ ∀ y ∈ l0, (Lit.int .u8 y).wf = true) → (l1.length ≤ 9223372036854775807 ∧ ∀ y ∈ l1, (Lit.int .u8 y).wf = true) → ∃ k, laws_FnDigests.f k l0 l1 = some true
theorem laws_FnDigests.walk (P : laws_FnDigests.Pure) (a0 : Option Addr) (len0 cap0 : Nat) (z0 : List Int) (a1 : Option Addr) (len1 cap1 : Nat) (z1 : List Int) (w : World) (w0 : (a0 = none ∧ len0 = 0 ∧ cap0 = 0 ∧ z0 = []) ∨ ∃ x, a0 = some x ∧ len0 ≤ cap0 ∧ cap0 ≤ maxLen ∧ z0.length = cap0 ∧ (∀ i, i < z0.length → w.cell? (x.add i) = some (.int .u8 (z0.getD i 0))) ∧ ∀ n ∈ z0, (Lit.int .u8 n).wf = true) (y0 : len0 * 1 ≤ 140737488351232) (w1 : (a1 = none ∧ len1 = 0 ∧ cap1 = 0 ∧ z1 = []) ∨ ∃ x, a1 = some x ∧ len1 ≤ cap1 ∧ cap1 ≤ maxLen ∧ z1.length = cap1 ∧ (∀ i, i < z1.length → w.cell? (x.add i) = some (.int .u8 (z1.getD i 0))) ∧ ∀ n ∈ z1, (Lit.int .u8 n).wf = true) (y1 : len1 * 1 ≤ 140737488351232) (hD_ : Aside0 (Door true w)) :
  Calls Tryd.prog 3 #[.slice a0 len0 cap0, .slice a1 len1 cap1] w fun e w' => e = .returned (.bool true) ∧ Below w.heap.size w w' := by
 obtain ⟨l0, rfl, hr0, hm0, hw0, hc0⟩ := ReadsInt.ofRowC w0
 obtain ⟨l1, rfl, hr1, hm1, hw1, hc1⟩ := ReadsInt.ofRowC w1
 obtain ⟨k, h⟩ := P l0 l1 ⟨by omega, hw0⟩ ⟨by omega, hw1⟩
 refine (laws_FnDigests.calls k _ _ l0 _ _ l1 true w (Kd.C_of_reads (d := (0 : Int)) (h1 := fun _ => rfl) hr0) hc0 (Kd.C_of_reads (d := (0 : Int)) (h1 := fun _ => rfl) hr1) hc1 hD_ h).mono ?_
 rintro e w' ⟨rfl, hd⟩
 exact ⟨rfl, hd⟩

end Go.Proofs.YtallocgnpbpbhaaDoor.XFnDigests
