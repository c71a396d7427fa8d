-- Written by a program of this session (wip/xprint: over the kit's print). Not trusted: Lean checks it.
import Derived.Test.YtgpiaeklhhacjaaXFnExactWithoutRoomx0
import Derived.Test.YtgpiaeklhhacjaaXFnExactWithoutRoomx1
import Derived.Test.YtgpiaeklhhacjaaXFnExactWithoutRoomx3
import Derived.Test.YtgpiaeklhhacjaaXFnExactWithoutRoomx4
import Derived.Test.YtgpiaeklhhacjaaXFnExactWithoutRoomx7
import Derived.Test.YtgpiaeklhhacjaaXFnExactWithoutRoomx9
namespace Go.Proofs.Ytgpiaeklhhacjaa.XFnExactWithoutRoom
open Go.RowKit Go.Proofs.YtgpiaeklhhacjaaW.PrintWords Go.Proofs.YtgpiaeklhhacjaaW.PrintLast Go.Proofs.YtgpiaeklhhacjaaW.PrintMore
open Go.Proofs.Ytgpiaeklhhacjaa.XW
attribute [local go_sem] max2_int min2_int max_two min_two max_three min_three max_four min_four   -- for this text's walks alone
set_option linter.unusedVariables false
set_option linter.unusedSimpArgs false

/-! ### laws_FnExactWithoutRoom: function 9 (by hand; numbers of the seat jaa) -/
noncomputable def sureO (p : Prop) : Option Bool := @ite _ p (Classical.propDecidable p) (some true) none
theorem sureO_some {p : Prop} {r : Bool} (h : sureO p = some r) : p ∧ r = true := by
 unfold sureO at h
 split at h
 ·next hp => injection h with h; exact ⟨hp, h.symm⟩
 ·cases h
theorem sureO_mk {p : Prop} (h : p) : sureO p = some true := by unfold sureO; exact if_pos h
/-- A new post's block, filled. -/
def mk29 (W : World) (r : Int) (v : Value) : World := W.alloc (.cells #[.int .i64 r, v] 29)
theorem mk29_blk (W : World) (r : Int) (v : Value) : (mk29 W r v).heap[W.heap.size]? = some (.cells #[.int .i64 r, v] 29 (0, 0)) := heap_alloc_new W _
theorem mk29_below (W : World) (r : Int) (v : Value) : Below W.heap.size W (mk29 W r v) := below_alloc (Below.refl _ _) _
theorem mk29_size (W : World) (r : Int) (v : Value) : (mk29 W r v).heap.size = W.heap.size + 1 := by simp [mk29]
noncomputable def laws_FnExactWithoutRoom.f (k : Nat) (a0_0 : Int) (l0_1 : List (S115)) (a1 : Int) : Option Bool :=
 (laws_szPost.f k a0_0 l0_1 1048576).bind fun left => if left < 0 then some true else (laws_toPost.f k a0_0 l0_1).bind fun x => (spec_WithoutRoom.f k x.1 x.2 a1).bind fun s => (impl_WithoutRoom.f k x.1 x.2 a1).bind fun g => (laws_eqPost.f k s.1 s.2.1 s.1 s.2.1).bind fun e1 => (laws_eqPost.f k x.1 x.2 x.1 x.2).bind fun e2 => (laws_markPost.f k x.1 x.2 1).bind fun m1 => (laws_markPost.f k s.1 s.2.1 1).bind fun m2 => (laws_heldPost.f k s.1 m2.2 1).bind fun q => sureO (s = g ∧ e1 = true ∧ e2 = true ∧ 0 ≤ m1.1 ∧ 0 ≤ q ∧ q = m2.1)
set_option maxHeartbeats 16000000 in
set_option maxRecDepth 100000 in
theorem laws_FnExactWithoutRoom.calls (k : Nat) (a0_0 : Int) (A0_1 : Option Addr) (c0_1 : Nat) (l0_1 : List (S115)) (a1 : Int) (r : Bool) (w : World) (hr0_1 : Kd.C k115 w A0_1 l0_1.length l0_1) (hc0_1 : l0_1.length ≤ c0_1) (h : laws_FnExactWithoutRoom.f k a0_0 l0_1 a1 = some r) :
  Calls Try.prog 9 #[.agg #[.int .i64 a0_0, .slice A0_1 l0_1.length c0_1], .int .i64 a1] w fun e w' => e = .returned (.bool r) ∧ Below w.heap.size w w' := by
 unfold laws_FnExactWithoutRoom.f at h
 obtain ⟨left, hleft, h⟩ := Option.bind_eq_some_iff.mp h
 have HR0 := Aside0.mk hr0_1
 have HC0 := Aside0.mk hc0_1
 have LE := Aside0.mk hleft
 have b20 := Aside0.mk (heap_alloc_new w (.cells #[.int .i64 a0_0, .slice A0_1 l0_1.length c0_1] 24))
 have HB0 := Aside0.mk (below_alloc (Below.refl w.heap.size w) (.cells #[.int .i64 a0_0, .slice A0_1 l0_1.length c0_1] 24))
 clear hr0_1 hc0_1 hleft
 by_cases hneg : left < 0
 ·rw [if_pos hneg] at h
  injection h with h
  subst h
  go_enter Try.func9, Try.ntmps9
  go_wp2_with (go_at_call 15; refine (laws_szPost.calls k a0_0 A0_1 c0_1 l0_1 1048576 left _ (Kd.C_below HR0.out HB0.out) HC0.out LE.out).mono ?_; rintro e w1 ⟨rfl, hb1⟩; have HB1 := Aside0.mk (HB0.out.trans (hb1.mono HB0.out.size)); clear hb1)
  go_ret
  exact ⟨rfl, HB1.out⟩
 rw [if_neg hneg] at h
 obtain ⟨⟨lim, bs⟩, h1, h⟩ := Option.bind_eq_some_iff.mp h
 obtain ⟨⟨r1, r2, r3⟩, h2, h⟩ := Option.bind_eq_some_iff.mp h
 obtain ⟨g, h3, h⟩ := Option.bind_eq_some_iff.mp h
 obtain ⟨e1, h4, h⟩ := Option.bind_eq_some_iff.mp h
 obtain ⟨e2, h5, h⟩ := Option.bind_eq_some_iff.mp h
 obtain ⟨⟨kk, bs'⟩, h6, h⟩ := Option.bind_eq_some_iff.mp h
 obtain ⟨⟨m, r2'⟩, h7, h⟩ := Option.bind_eq_some_iff.mp h
 obtain ⟨q, h8, h⟩ := Option.bind_eq_some_iff.mp h
 obtain ⟨⟨rfl, rfl, rfl, hkk, hq, rfl⟩, rfl⟩ := sureO_some h
 simp only at h2 h3 h4 h5 h6 h7 h8 hkk hq
 have TP := Aside0.mk h1
 have SP := Aside0.mk h2
 have IM := Aside0.mk h3
 have EQ1 := Aside0.mk h4
 have EQ2 := Aside0.mk h5
 have MK1 := Aside0.mk h6
 have MK2 := Aside0.mk h7
 have HE := Aside0.mk h8
 have hl0 : (left < 0) = False := eq_false hneg
 have hk0 : (kk < 0) = False := eq_false (by omega)
 have hm0 : (q < 0) = False := eq_false (by omega)
 clear h h1 h2 h3 h4 h5 h6 h7 h8 hneg hkk hq
 go_enter Try.func9, Try.ntmps9
 go_wp2_with (first
  | (go_at_call 15; refine (laws_szPost.calls k a0_0 A0_1 c0_1 l0_1 1048576 left _ (Kd.C_below HR0.out HB0.out) HC0.out LE.out).mono ?_; rintro e w1 ⟨rfl, hb1⟩; have HB1 := Aside0.mk (HB0.out.trans (hb1.mono HB0.out.size)); have b21 := Aside0.mk (blk_bel b20.out hb1); clear hb1; have hc20 : (w1).cell? ⟨w.heap.size, 0, none⟩ = some (.int .i64 a0_0) := (blk_cell b21.out 0).trans rfl; have hc21 : (w1).cell? ⟨w.heap.size, 1, none⟩ = some (.slice A0_1 l0_1.length c0_1) := (blk_cell b21.out 1).trans rfl)
  | (go_at_call 17; refine (laws_toPost.calls k a0_0 A0_1 c0_1 l0_1 lim bs w1 (Kd.C_below HR0.out HB1.out) HC0.out TP.out).mono ?_; clear hc20 hc21; rintro e w2 ⟨v2, rfl, hs2, hb2⟩; obtain ⟨A2, c2, e2⟩ := Kd.S_slice hs2; subst e2; have S2 := Aside0.mk hs2; have HB2 := Aside0.mk (HB1.out.trans (hb2.mono HB1.out.size)); have b22 := Aside0.mk (blk_bel b21.out hb2); clear hs2 hb2)
  | (go_at_call 42; refine (spec_WithoutRoom.calls k lim A2 c2 bs a1 r1 r2 r3 w2 (Kd.S_reads' S2.out).2.2 (Kd.S_reads' S2.out).2.1 SP.out).mono ?_; rintro e w3 ⟨v3, rfl, hs3, hb3⟩; obtain ⟨A3, c3, e3⟩ := Kd.S_slice hs3; subst e3; have HB3 := Aside0.mk (HB2.out.trans (hb3.mono HB2.out.size)); have b23 := blk_bel b22.out hb3; have M3 := Aside0.mk (mk29_below w3 r1 (.slice A3 r2.length c3)); have K63 := Aside0.mk (mk29_blk w3 r1 (.slice A3 r2.length c3)); have b2m3 := Aside0.mk (blk_bel b23 M3.out); have S3 := Aside0.mk (Kd.S_below hs3 M3.out); have HM3 := Aside0.mk (HB3.out.trans (M3.out.mono HB3.out.size)); clear hs3 hb3 b23; have hx20 : (mk29 w3 r1 (.slice A3 r2.length c3)).cell? ⟨w.heap.size, 0, none⟩ = some (.int .i64 a0_0) := (blk_cell b2m3.out 0).trans rfl; have hx21 : (mk29 w3 r1 (.slice A3 r2.length c3)).cell? ⟨w.heap.size, 1, none⟩ = some (.slice A0_1 l0_1.length c0_1) := (blk_cell b2m3.out 1).trans rfl; unfold mk29 at hx20 hx21)
  | (go_at_call 17; refine (laws_toPost.calls k a0_0 A0_1 c0_1 l0_1 lim bs (mk29 w3 r1 (.slice A3 r2.length c3)) (Kd.C_below HR0.out HM3.out) HC0.out TP.out).mono ?_; clear hx20 hx21; rintro e w4 ⟨v4, rfl, hs4, hb4⟩; obtain ⟨A4, c4, e4⟩ := Kd.S_slice hs4; subst e4; have M4 := Aside0.mk (mk29_below w4 lim (.slice A4 bs.length c4)); have K84 := Aside0.mk (mk29_blk w4 lim (.slice A4 bs.length c4)); have LO4 := Aside0.mk (hb4.trans (M4.out.mono hb4.size)); have HM4 := Aside0.mk (HM3.out.trans (LO4.out.mono HM3.out.size)); have P4 := Aside0.mk (Kd.S_below (Kd.S_bound hs4) M4.out); have LS4 := Aside0.mk hb4.size; clear hs4 hb4)
  | (go_at_call 43; refine (impl_WithoutRoom.calls k lim A4 c4 bs a1 r1 r2 r3 (mk29 w4 lim (.slice A4 bs.length c4)) (Kd.S_reads' P4.out).2.2 (Kd.S_reads' P4.out).2.1 IM.out).mono ?_; rintro e w5 ⟨v5, rfl, hs5, hb5⟩; obtain ⟨A5, c5, e5⟩ := Kd.S_slice hs5; subst e5; have M5 := Aside0.mk (mk29_below w5 r1 (.slice A5 r2.length c5)); have K95 := Aside0.mk (mk29_blk w5 r1 (.slice A5 r2.length c5)); have LO5 := Aside0.mk (hb5.trans (M5.out.mono hb5.size)); have P5 := Aside0.mk (Kd.S_below (Kd.S_bound hs5) M5.out); have LS5 := Aside0.mk hb5.size; clear hs5 hb5; have HM5 := Aside0.mk (LO4.out.trans (LO5.out.mono LO4.out.size)); have K65 := Aside0.mk (blk_bel K63.out HM5.out); have hy60 : (mk29 w5 r1 (.slice A5 r2.length c5)).cell? ⟨w3.heap.size, 0, none⟩ = some (.int .i64 r1) := (blk_cell K65.out 0).trans rfl; have hy61 : (mk29 w5 r1 (.slice A5 r2.length c5)).cell? ⟨w3.heap.size, 1, none⟩ = some (.slice A3 r2.length c3) := (blk_cell K65.out 1).trans rfl; unfold mk29 at hy60 hy61)
  | (go_at_call 19; refine (laws_eqPost.calls k r1 A5 c5 r2 r1 A3 c3 r2 true (mk29 w5 r1 (.slice A5 r2.length c5)) (Kd.S_reads' P5.out).2.2 (Kd.S_reads' P5.out).2.1 (Kd.C_below (Kd.S_reads' S3.out).2.2 HM5.out) (Kd.S_reads' S3.out).2.1 EQ1.out).mono ?_; clear hy60 hy61; rintro e w6 ⟨rfl, hb6⟩; have HB6 := Aside0.mk hb6; clear hb6))
 have D6 := Aside0.mk (HM5.out.trans (HB6.out.mono HM5.out.size))
 have D46 := Aside0.mk (LO5.out.trans (HB6.out.mono LO5.out.size))
 have b26 := Aside0.mk (blk_bel b2m3.out D6.out)
 have K86 := Aside0.mk (blk_bel K84.out D46.out)
 have K96 := Aside0.mk (blk_bel K95.out HB6.out)
 have P46 := Aside0.mk (Kd.S_below P4.out D46.out)
 have P56 := Aside0.mk (Kd.S_below P5.out HB6.out)
 have W6 := Aside0.mk (HM3.out.trans (D6.out.mono HM3.out.size))
 have hs80 : (w6).cell? ⟨w4.heap.size, 0, none⟩ = some (.int .i64 lim) := (blk_cell K86.out 0).trans rfl
 have hs81 : (w6).cell? ⟨w4.heap.size, 1, none⟩ = some (.slice A4 bs.length c4) := (blk_cell K86.out 1).trans rfl
 have hs20 : (w6).cell? ⟨w.heap.size, 0, none⟩ = some (.int .i64 a0_0) := (blk_cell b26.out 0).trans rfl
 have hs21 : (w6).cell? ⟨w.heap.size, 1, none⟩ = some (.slice A0_1 l0_1.length c0_1) := (blk_cell b26.out 1).trans rfl
 go_region_held3 (fun w' => w'.cell? ⟨w4.heap.size, 0, none⟩ = some (.int .i64 lim) ∧ w'.cell? ⟨w4.heap.size, 1, none⟩ = some (.slice A4 bs.length c4) ∧ w'.cell? ⟨w.heap.size, 0, none⟩ = some (.int .i64 a0_0) ∧ w'.cell? ⟨w.heap.size, 1, none⟩ = some (.slice A0_1 l0_1.length c0_1))
  (first | (go_keep; done) | exact ⟨hz80, hz81, hz20, hz21⟩ | exact ⟨hv80, hv81, hv20, hv21⟩)
  (first | (go_at_call 17; refine (laws_toPost.calls k a0_0 A0_1 c0_1 l0_1 lim bs w6.drew (Kd.C_drew (Kd.C_below HR0.out W6.out)) HC0.out TP.out).mono ?_; rintro e w7 ⟨v7, rfl, hs7, hb7⟩; obtain ⟨A7, c7, e7⟩ := Kd.S_slice hs7; subst e7; have S7 := Aside0.mk hs7; have HB7 := Aside0.mk (show Below w6.heap.size w6 w7 from (below_drew (Below.refl _ _)).trans hb7); clear hs7 hb7; have b27 := Aside0.mk (blk_bel b26.out HB7.out); have K87 := Aside0.mk (blk_bel K86.out HB7.out); have hz80 : (w7).cell? ⟨w4.heap.size, 0, none⟩ = some (.int .i64 lim) := (blk_cell K87.out 0).trans rfl; have hz81 : (w7).cell? ⟨w4.heap.size, 1, none⟩ = some (.slice A4 bs.length c4) := (blk_cell K87.out 1).trans rfl; have hz20 : (w7).cell? ⟨w.heap.size, 0, none⟩ = some (.int .i64 a0_0) := (blk_cell b27.out 0).trans rfl; have hz21 : (w7).cell? ⟨w.heap.size, 1, none⟩ = some (.slice A0_1 l0_1.length c0_1) := (blk_cell b27.out 1).trans rfl) | (go_at_call 19; refine (laws_eqPost.calls k lim A4 c4 bs lim A7 c7 bs true w7 (Kd.C_below (Kd.S_reads' P46.out).2.2 HB7.out) (Kd.S_reads' P46.out).2.1 (Kd.S_reads' S7.out).2.2 (Kd.S_reads' S7.out).2.1 EQ2.out).mono ?_; rintro e w8 ⟨rfl, hb8⟩; have HB8 := Aside0.mk (HB7.out.trans (hb8.mono HB7.out.size)); clear hb8; have b28 := Aside0.mk (blk_bel b26.out HB8.out); have K88 := Aside0.mk (blk_bel K86.out HB8.out); have hv80 : (w8).cell? ⟨w4.heap.size, 0, none⟩ = some (.int .i64 lim) := (blk_cell K88.out 0).trans rfl; have hv81 : (w8).cell? ⟨w4.heap.size, 1, none⟩ = some (.slice A4 bs.length c4) := (blk_cell K88.out 1).trans rfl; have hv20 : (w8).cell? ⟨w.heap.size, 0, none⟩ = some (.int .i64 a0_0) := (blk_cell b28.out 0).trans rfl; have hv21 : (w8).cell? ⟨w.heap.size, 1, none⟩ = some (.slice A0_1 l0_1.length c0_1) := (blk_cell b28.out 1).trans rfl))
 have D8 := Aside0.mk (D6.out.trans (HB8.out.mono D6.out.size))
 have K98 := Aside0.mk (blk_bel K96.out HB8.out)
 have P48 := Aside0.mk (Kd.S_below P46.out HB8.out)
 have P58 := Aside0.mk (Kd.S_below P56.out HB8.out)
 clear P4 P5 P46 P56 K84 K95 K86 K96 b26 S2 S7 b22 b27 K87 b20 b21
 clear hs80 hs81 hs20 hs21 hz80 hz81 hz20 hz21
 have Z4 := Aside0.mk (mk29_size w4 lim (.slice A4 bs.length c4))
 have Z3 := Aside0.mk (mk29_size w3 r1 (.slice A3 r2.length c3))
 go_wp2_with (first
  | (go_at_call 22; have _g := hv80; clear _g; refine (laws_markPost.calls k lim _ (.slice A4 bs.length c4) bs 1 kk bs' (mk29 w3 r1 (.slice A3 r2.length c3)) w8 D8.out P48.out MK1.out).mono ?_; rintro e w9 ⟨rfl, hs9, hb9, hk9⟩; have D9 := Aside0.mk hb9; have b29 := Aside0.mk (blk_bel b2m3.out hb9); have K69 := Aside0.mk (blk_bel K63.out hb9); have K99 := Aside0.mk (blk_kept K98.out hk9 (fun h => by have h1 := h.2.2.1; have h2 := LS5.out; rw [Z4.out] at h2; omega)); have P59 := Aside0.mk (Kd.S_step P58.out (fun k_ h h1 => hk9.2 k_ h1 (fun h2 => by have h3 := h.2.1; rw [Z4.out] at h3; have := h2.2.2.1; omega))); clear hs9 hb9 hk9 hv80 hv81 hv20 hv21; have hq90 : (w9).cell? ⟨w5.heap.size, 0, none⟩ = some (.int .i64 r1) := (blk_cell K99.out 0).trans rfl; have hq91 : (w9).cell? ⟨w5.heap.size, 1, none⟩ = some (.slice A5 r2.length c5) := (blk_cell K99.out 1).trans rfl; have hq60 : (w9).cell? ⟨w3.heap.size, 0, none⟩ = some (.int .i64 r1) := (blk_cell K69.out 0).trans rfl; have hq61 : (w9).cell? ⟨w3.heap.size, 1, none⟩ = some (.slice A3 r2.length c3) := (blk_cell K69.out 1).trans rfl)
  | (go_at_call 19; have _g := hq90; clear _g; refine (laws_eqPost.calls k r1 A5 c5 r2 r1 A3 c3 r2 true w9 (Kd.S_reads' P59.out).2.2 (Kd.S_reads' P59.out).2.1 (Kd.C_below (Kd.S_reads' S3.out).2.2 D9.out) (Kd.S_reads' S3.out).2.1 EQ1.out).mono ?_; clear hq90 hq91 hq60 hq61; rintro e w10 ⟨rfl, hb10⟩; have D10 := Aside0.mk (D9.out.trans (hb10.mono D9.out.size)); have K910 := Aside0.mk (blk_bel K99.out hb10); have P510 := Aside0.mk (Kd.S_lower (Kd.S_below P59.out hb10) (Nat.le_trans LS4.out (by rw [Z4.out]; omega))); clear hb10; have hr90 : (w10).cell? ⟨w5.heap.size, 0, none⟩ = some (.int .i64 r1) := (blk_cell K910.out 0).trans rfl; have hr91 : (w10).cell? ⟨w5.heap.size, 1, none⟩ = some (.slice A5 r2.length c5) := (blk_cell K910.out 1).trans rfl)
  | (go_at_call 22; have _g := hr90; clear _g; refine (laws_markPost.calls k r1 _ (.slice A5 r2.length c5) r2 1 q r2' (mk29 w3 r1 (.slice A3 r2.length c3)) w10 D10.out P510.out MK2.out).mono ?_; clear hr90 hr91; rintro e w11 ⟨rfl, hs11, hb11, hk11⟩; have D11 := Aside0.mk hb11; have K911 := Aside0.mk (blk_kept K910.out hk11 (fun h => by have h1 := h.2.2.1; omega)); have P511 := Aside0.mk hs11; clear hs11 hb11 hk11; have ht90 : (w11).cell? ⟨w5.heap.size, 0, none⟩ = some (.int .i64 r1) := (blk_cell K911.out 0).trans rfl; have ht91 : (w11).cell? ⟨w5.heap.size, 1, none⟩ = some (.slice A5 r2.length c5) := (blk_cell K911.out 1).trans rfl)
  | (go_at_call 23; have _g := ht90; clear _g; rw [(Kd.S_reads' P511.out).1]; refine (laws_heldPost.calls k r1 A5 c5 r2' 1 q w11 (Kd.S_reads' P511.out).2.2 (by have := (Kd.S_reads' P511.out).2.1; rw [(Kd.S_reads' P511.out).1] at this; exact this) HE.out).mono ?_; clear ht90 ht91; rintro e w12 ⟨rfl, hb12⟩; have D12 := Aside0.mk (D11.out.trans (hb12.mono D11.out.size)); have K912 := Aside0.mk (blk_bel K911.out hb12); have P512 := Aside0.mk (Kd.S_below P511.out hb12); clear hb12; have b212 := Aside0.mk (blk_bel b2m3.out D12.out); have ha20 : (w12).cell? ⟨w.heap.size, 0, none⟩ = some (.int .i64 a0_0) := (blk_cell b212.out 0).trans rfl; have ha21 : (w12).cell? ⟨w.heap.size, 1, none⟩ = some (.slice A0_1 l0_1.length c0_1) := (blk_cell b212.out 1).trans rfl)
  | (go_at_call 17; have _g := ha20; clear _g; refine (laws_toPost.calls k a0_0 A0_1 c0_1 l0_1 lim bs w12 (Kd.C_below (Kd.C_below HR0.out HM3.out) D12.out) HC0.out TP.out).mono ?_; clear ha20 ha21; rintro e w13 ⟨v13, rfl, hs13, hb13⟩; obtain ⟨A13, c13, e13⟩ := Kd.S_slice hs13; subst e13; have S13 := Aside0.mk hs13; have HB13 := Aside0.mk hb13; clear hs13 hb13)
  | (go_at_call 43; refine (impl_WithoutRoom.calls k lim A13 c13 bs a1 r1 r2 r3 w13 (Kd.S_reads' S13.out).2.2 (Kd.S_reads' S13.out).2.1 IM.out).mono ?_; rintro e w14 ⟨v14, rfl, hs14, hb14⟩; obtain ⟨A14, c14, e14⟩ := Kd.S_slice hs14; subst e14; have M14 := Aside0.mk (mk29_below w14 r1 (.slice A14 r2.length c14)); have HB14 := Aside0.mk ((HB13.out.trans (hb14.mono HB13.out.size)).trans (M14.out.mono (HB13.out.trans (hb14.mono HB13.out.size)).size)); have S14 := Aside0.mk (Kd.S_below hs14 M14.out); have D14 := Aside0.mk (D12.out.trans (HB14.out.mono D12.out.size)); have K614 := Aside0.mk (blk_bel K63.out D14.out); clear hs14 hb14; have hd60 : (mk29 w14 r1 (.slice A14 r2.length c14)).cell? ⟨w3.heap.size, 0, none⟩ = some (.int .i64 r1) := (blk_cell K614.out 0).trans rfl; have hd61 : (mk29 w14 r1 (.slice A14 r2.length c14)).cell? ⟨w3.heap.size, 1, none⟩ = some (.slice A3 r2.length c3) := (blk_cell K614.out 1).trans rfl; unfold mk29 at hd60 hd61)
  | (go_at_call 19; have _g := hd60; clear _g; refine (laws_eqPost.calls k r1 A14 c14 r2 r1 A3 c3 r2 true (mk29 w14 r1 (.slice A14 r2.length c14)) (Kd.S_reads' S14.out).2.2 (Kd.S_reads' S14.out).2.1 (Kd.C_below (Kd.S_reads' S3.out).2.2 D14.out) (Kd.S_reads' S3.out).2.1 EQ1.out).mono ?_; clear hd60 hd61; rintro e w15 ⟨rfl, hb15⟩; have HB15 := Aside0.mk (HB14.out.trans (hb15.mono HB14.out.size)); have D15 := Aside0.mk (D14.out.trans (hb15.mono D14.out.size)); clear hb15; have K915 := Aside0.mk (blk_bel K912.out HB15.out); have P515 := Aside0.mk (Kd.S_below P512.out HB15.out); have he90 : (w15).cell? ⟨w5.heap.size, 0, none⟩ = some (.int .i64 r1) := (blk_cell K915.out 0).trans rfl; have he91 : (w15).cell? ⟨w5.heap.size, 1, none⟩ = some (.slice A5 r2.length c5) := (blk_cell K915.out 1).trans rfl)
  | (go_at_call 23; have _g := he90; clear _g; rw [(Kd.S_reads' P515.out).1]; refine (laws_heldPost.calls k r1 A5 c5 r2' 1 q w15 (Kd.S_reads' P515.out).2.2 (by have := (Kd.S_reads' P515.out).2.1; rw [(Kd.S_reads' P515.out).1] at this; exact this) HE.out).mono ?_; clear he90 he91; rintro e w16 ⟨rfl, hb16⟩; have D16 := Aside0.mk (D15.out.trans (hb16.mono D15.out.size)); clear hb16))
 go_ret
 exact ⟨rfl, HM3.out.trans (D16.out.mono HM3.out.size)⟩

instance : Inhabited S70 := ⟨z70⟩
def Q70 (x : S70) : Prop := (Lit.int .i64 x.f0).wf = true ∧ (Lit.int .i64 x.f1).wf = true
theorem opens70 : Opens Try.prog 70 k70 Q70 := opens_struct Try.underlying70 (by kernel_rfl) (opensF_cons rfl (by kernel_rfl) (opens_int Try.underlying2) (opensF_one rfl (by kernel_rfl) (opens_int Try.underlying2))) (fun x : S70 => (x.f0, x.f1)) (fun y => ⟨y.1, y.2⟩) (fun _ => rfl)
instance : Inhabited S115 := ⟨z115⟩
def Q115 (x : S115) : Prop := x.f0.size ≤ 9223372036854775807 ∧ (Lit.int .i64 x.f1).wf = true ∧ (Lit.int .i64 x.f2).wf = true ∧ (x.f3.length ≤ 9223372036854775807 ∧ ∀ y ∈ x.f3, Q70 y)
theorem opens115 : Opens Try.prog 115 k115 Q115 := opens_struct Try.underlying115 (by kernel_rfl) (opensF_cons rfl (by kernel_rfl) (opens_string Try.underlying9) (opensF_cons rfl (by kernel_rfl) (opens_int Try.underlying2) (opensF_cons rfl (by kernel_rfl) (opens_int Try.underlying2) (opensF_one rfl (by kernel_rfl) (opens_slice Try.underlying63 (by kernel_rfl) opens70))))) (fun x : S115 => (x.f0, x.f1, x.f2, x.f3)) (fun y => ⟨y.1, y.2.1, y.2.2.1, y.2.2.2⟩) (fun _ => rfl)
/-- THE ONE PURE STATEMENT of laws_FnExactWithoutRoom. -/
def laws_FnExactWithoutRoom.Pure : Prop := ∀ (a0_0 : Int) (l0_1 : List (S115)) (a1 : Int), (Lit.int .i64 a0_0).wf = true → (l0_1.length ≤ 9223372036854775807 ∧ ∀ y ∈ l0_1, Q115 y) → (Lit.int .i64 a1).wf = true → ∃ k, laws_FnExactWithoutRoom.f k a0_0 l0_1 a1 = some true
theorem laws_FnExactWithoutRoom.walk (P : laws_FnExactWithoutRoom.Pure) (a0_0 : Int) (A0_1 : Option Addr) (c0_1 : Nat) (l0_1 : List (S115)) (a1 : Int) (w : World) (hr0_1 : Kd.C k115 w A0_1 l0_1.length l0_1) (hc0_1 : l0_1.length ≤ c0_1) (hq0_0 : (Lit.int .i64 a0_0).wf = true) (hq0_1 : (l0_1.length ≤ 9223372036854775807 ∧ ∀ y ∈ l0_1, Q115 y)) (hq1 : (Lit.int .i64 a1).wf = true) :
  Calls Try.prog 9 #[.agg #[.int .i64 a0_0, .slice A0_1 l0_1.length c0_1], .int .i64 a1] w fun e w' => e = .returned (.bool true) ∧ Below w.heap.size w w' := by
 obtain ⟨k, h⟩ := P a0_0 l0_1 a1 hq0_0 hq0_1 hq1
 refine (laws_FnExactWithoutRoom.calls k a0_0 _ _ l0_1 a1 true w hr0_1 hc0_1 h).mono ?_
 rintro e w' ⟨rfl, hd⟩
 exact ⟨rfl, hd⟩

end Go.Proofs.Ytgpiaeklhhacjaa.XFnExactWithoutRoom
