-- Written by a program of this session (wip/xprint: over the kit's print). Not trusted: Lean checks it.
import Derived.Test.YtgpiaeklhhacjaaXFnExactSendTox0
import Derived.Test.YtgpiaeklhhacjaaXFnExactSendTox7
import Derived.Test.YtgpiaeklhhacjaaXFnExactSendTox8
import Derived.Test.YtgpiaeklhhacjaaXFnExactSendTox9
import Derived.Test.YtgpiaeklhhacjaaXFnExactSendTox10
namespace Go.Proofs.Ytgpiaeklhhacjaa.XFnExactSendTo
open Go.RowKit Go.Proofs.YtgpiaeklhhacjaaW.PrintWords Go.Proofs.YtgpiaeklhhacjaaW.PrintLast Go.Proofs.YtgpiaeklhhacjaaW.PrintMore
open Go.Proofs.Ytgpiaeklhhacjaa.XW
attribute [local go_sem] max2_int min2_int max_two min_two max_three min_three max_four min_four   -- for this text's walks alone
set_option linter.unusedVariables false
set_option linter.unusedSimpArgs false

/-! ### spec_l04Copy: function 85 -/
def spec_l04Copy.l0 : Nat → Int → Int → List (S58) → Int → List (S58) → Option (Int × (List (S58)))
 | 0, _, _, _, _, _ => none
 | k + 1, x4, x1000, x1001, x256000, x256001 => if x4 < (x1001.length : Int) then (if 0 ≤ x4 then ((some (([] : List (S60)) : List (S60))).bind fun y258 => (if y258.length + ((rd_T58 x1001 x4).f3).length < 8796093022208 then (if x256001.length < 2513169434916 then (spec_l04Copy.l0 k (wrap64 (x4 + 1)) x1000 x1001 x256000 (x256001 ++ [(⟨(rd_T58 x1001 x4).f0, (rd_T58 x1001 x4).f1, (rd_T58 x1001 x4).f2, (y258 ++ ((rd_T58 x1001 x4).f3))⟩ : S58)])) else (none)) else (none))) else (none)) else (some (x256000, x256001))
def spec_l04Copy.f (k : Nat) (a0_0 : Int) (l0_1 : List (S58)) : Option (Int × (List (S58))) := spec_l04Copy.l0 k 0 a0_0 l0_1 a0_0 (([] : List (S58)))
theorem spec_l04Copy.mono_l : ∀ k, (∀ y0 y1 y2 y3 y4, LeO (spec_l04Copy.l0 k y0 y1 y2 y3 y4) (spec_l04Copy.l0 (k + 1) y0 y1 y2 y3 y4))
 | 0 => fun _ _ _ _ _ r h => by simp [spec_l04Copy.l0] at h
 | k + 1 => by
  have ih0 := spec_l04Copy.mono_l k
  ·intro y0 y1 y2 y3 y4
   unfold spec_l04Copy.l0
   repeat' first
   | (with_reducible exact ih0 _ _ _ _ _)
   | (with_reducible exact LeO.refl _)
   | (with_reducible exact LeO.none _)
   | (with_reducible refine LeO.ite ?_ ?_)
   | (with_reducible refine LeO.bind ?_ (fun _ => ?_))
   | exact ih0 _ _ _ _ _
   | exact LeO.none _
   | refine LeO.ite ?_ ?_
   | refine LeO.bind ?_ (fun _ => ?_)
theorem spec_l04Copy.mono : ∀ a0 a1 k, LeO (spec_l04Copy.f k a0 a1) (spec_l04Copy.f (k + 1) a0 a1) := by
 intro a0 a1 k
 have ih0 := spec_l04Copy.mono_l k
 unfold spec_l04Copy.f
 repeat' first
   | (with_reducible exact ih0 _ _ _ _ _)
   | (with_reducible exact LeO.refl _)
   | (with_reducible exact LeO.none _)
   | (with_reducible refine LeO.ite ?_ ?_)
   | (with_reducible refine LeO.bind ?_ (fun _ => ?_))
   | exact ih0 _ _ _ _ _
   | exact LeO.none _
   | refine LeO.ite ?_ ?_
   | refine LeO.bind ?_ (fun _ => ?_)
set_option maxHeartbeats 8000000 in
set_option maxRecDepth 100000 in
theorem spec_l04Copy.calls (k : Nat) (pa0_ : Addr) (a0_0 : Int) (A0_1 : Option Addr) (c0_1 : Nat) (l0_1 : List (S58)) (r1 : Int) (r2 : List (S58)) (w : World) (hq0 : RP w pa0_ [.int .i64 a0_0, .slice A0_1 l0_1.length c0_1]) (hr0_1 : Kd.C k58 w A0_1 l0_1.length l0_1) (hc0_1 : l0_1.length ≤ c0_1) (h : spec_l04Copy.f k a0_0 l0_1 = some (r1, r2)) :
  Calls Try.prog 85 #[.pointer (some pa0_)] w fun e w' => ∃ v1_ : Value, e = .returned (.agg #[.int .i64 r1, v1_]) ∧ Kd.S k58 58 w' w.heap.size (fun _ => True) v1_ r2 ∧ Below w.heap.size w w' := by
 have hu29 := Try.underlying29
 have hu58 := Try.underlying58
 have HQ0 := Aside0.mk hq0
 clear hq0
 have HR0_1 := Aside0.mk hr0_1
 have HC0_1 := Aside0.mk hc0_1
 clear hr0_1 hc0_1
 have HB := Aside0.mk (Below.refl w.heap.size w)
 have H : (spec_l04Copy.l0 k 0 a0_0 l0_1 a0_0 (([] : List (S58)))) = some (r1, r2) := h
 clear h
 obtain ⟨y252, hy252⟩ : ∃ y_ : List (S58), y_ = (([] : List (S58))) := ⟨_, rfl⟩
 replace H : (spec_l04Copy.l0 k 0 a0_0 l0_1 a0_0 y252) = some (r1, r2) := by first | (rw [hy252]; with_reducible exact H) | (have H2_ := (Option.bind_some _ _).symm.trans H; rw [hy252]; with_reducible exact H2_) | (have H2_ := (Option.bind_some _ _).symm.trans H; with_reducible exact H2_) | with_reducible exact H | (rw [hy252]; exact H) | exact H
 have Ny252 := Aside0.mk hy252
 clear hy252
 have H' := Aside0.mk H
 clear H
 go_enter Try.func85, Try.ntmps85
 go_wp2_with (first | ((with_reducible refine gate_dst (N := 2) rfl ?_); refine box_event ?hg (N := 2) ?hd (cs := #[.int .i64 0, .slice none 0 0]) (t := 29) ?hr ?_; (case hd => rfl); (case hg => rfl); (case hr => first | (go_simp; done) | (go_simp; rfl)); intro gb251 hg w2 hbox hb; have n0_ := Aside0.mk (below_step (by repeat (first | (with_reducible first | exact HB.out | apply below_alloc | apply pw_below_drewN | apply below_drew1) | exact HB.out)) hb); have n1_ := Aside0.mk (hbox); have n2_ := Aside0.mk ((by rw [hg]; exact (below_size (by repeat (first | (with_reducible first | exact HB.out | apply below_alloc | apply pw_below_drewN | apply below_drew1) | exact HB.out))) : w.heap.size ≤ gb251)); have n3_ := Aside0.mk ((by rw [hg]; exact (below_size (by repeat (first | (with_reducible first | exact HB.out | apply below_alloc | apply pw_below_drewN | apply below_drew1) | exact HB.out))) : w.heap.size ≤ gb251)); clear HB; have HB := n0_; have BK251 := n1_; have GW251 := n2_; have GE251 := n3_; clear n0_ n1_ n2_ n3_; clear hb hbox hg; have hcz3_0 : w2.cell? pa0_ = some (.int .i64 a0_0) := (HB.out.cell (World.block_lt_of_cell? w _ (RP.get HQ0.out 0 rfl))).trans (RP.get HQ0.out 0 rfl); have hcz3_1 : w2.cell? ⟨pa0_.block, pa0_.off + 1, none⟩ = some (.slice A0_1 l0_1.length c0_1) := (HB.out.cell (World.block_lt_of_cell? w _ (RP.get HQ0.out 1 rfl))).trans (RP.get HQ0.out 1 rfl)) | ((with_reducible refine gate_dst (N := 10) rfl ?_); refine Kd.S_lit k58 _ 58 ?hg (N := 10) ?hd (xs := ([] : List (S58))) (inner := []) (ok := fun _ => True) (okp := fun _ => True) ?hr ?hp (fun _ hk => hk) trivial (Below.refl _ _) (Nat.le_refl _) (by simp) ?_; (case hd => rfl); (case hg => rfl); (case hr => first | (go_simp; done) | (go_simp; rfl)); (case hp => exact (Reps.none _ _)); intro v253 w4 ho5 hb hg_ hnew_; clear hg_ hnew_; (first | rw [← Ny252.out] at ho5 | (simp only [Int.reduceToNat] at ho5; rw [← Ny252.out] at ho5)); have n0_ := Aside0.mk (Kd.S_lower ho5 (below_size (by repeat (first | (with_reducible first | exact HB.out | apply below_alloc | apply pw_below_drewN | apply below_drew1 | refine below_set ?_ GE251.out) | exact HB.out)))); have n1_ := Aside0.mk (blk_below (g := gb251) (o := .cells #[.int .i64 0, .slice none 0 0] 29 (0, 0)) (by (with_reducible repeat (first | refine blk_drewN ?_ _ | refine blk_drew ?_ | refine blk_alloc ?_ _)); exact BK251.out) hb); have n2_ := Aside0.mk (below_step (by repeat (first | (with_reducible first | exact HB.out | apply below_alloc | apply pw_below_drewN | apply below_drew1 | refine below_set ?_ GE251.out) | exact HB.out)) hb); clear BK251; clear HB; have HO254 := n0_; have BK251 := n1_; have HB := n2_; clear n0_ n1_ n2_; clear hb ho5; obtain ⟨Ao6, co6, eo6⟩ := Kd.S_slice HO254.out; subst eo6) | ((with_reducible refine gate_dst (N := 3) rfl ?_); refine box_event ?hg (N := 3) ?hd (cs := #[.int .i64 0, .slice none 0 0]) (t := 29) ?hr ?_; (case hd => rfl); (case hg => rfl); (case hr => first | (go_simp; done) | (go_simp; rfl)); intro gb255 hg w7 hbox hb; have n0_ := Aside0.mk (Kd.S_below (by (with_reducible repeat (first | apply Kd.S_alloc | apply Kd.S_drewN | apply Kd.S_drew)); exact HO254.out) hb); have n1_ := Aside0.mk (blk_below (g := gb251) (o := .cells #[.int .i64 0, .slice none 0 0] 29 (0, 0)) (by (with_reducible repeat (first | refine blk_drewN ?_ _ | refine blk_drew ?_ | refine blk_alloc ?_ _)); exact BK251.out) hb); have n2_ := Aside0.mk (below_step (by repeat (first | (with_reducible first | exact HB.out | apply below_alloc | apply pw_below_drewN | apply below_drew1 | refine below_set ?_ GE251.out) | exact HB.out)) hb); have n3_ := Aside0.mk (hbox); have n4_ := Aside0.mk ((by rw [hg]; exact (below_size (by repeat (first | (with_reducible first | exact HB.out | apply below_alloc | apply pw_below_drewN | apply below_drew1 | refine below_set ?_ GE251.out) | exact HB.out))) : w.heap.size ≤ gb255)); have n5_ := Aside0.mk ((by rw [hg]; exact (below_size (by repeat (first | (with_reducible first | exact HB.out | apply below_alloc | apply pw_below_drewN | apply below_drew1 | refine below_set ?_ GE251.out) | exact HB.out))) : w.heap.size ≤ gb255)); have n6_ := Aside0.mk ((by rw [hg]; exact Nat.ne_of_lt (blk_lt (g := gb251) (o := .cells #[.int .i64 0, .slice none 0 0] 29 (0, 0)) (by (with_reducible repeat (first | refine blk_drewN ?_ _ | refine blk_drew ?_ | refine blk_alloc ?_ _)); exact BK251.out)) : gb251 ≠ gb255)); have n7_ := Aside0.mk ((by rw [hg]; exact Nat.ne_of_gt (blk_lt (g := gb251) (o := .cells #[.int .i64 0, .slice none 0 0] 29 (0, 0)) (by (with_reducible repeat (first | refine blk_drewN ?_ _ | refine blk_drew ?_ | refine blk_alloc ?_ _)); exact BK251.out)) : gb255 ≠ gb251)); clear HO254; clear BK251; clear HB; have HO254 := n0_; have BK251 := n1_; have HB := n2_; have BK255 := n3_; have GW255 := n4_; have GE255 := n5_; have NB251_255 := n6_; have NB255_251 := n7_; clear n0_ n1_ n2_ n3_ n4_ n5_ n6_ n7_; clear hb hbox hg; have hnb8 := NB255_251.out; have hnc8 := NB251_255.out; have hcz9_0 : w7.cell? ⟨gb255, 0, none⟩ = some (.int .i64 0) := (blk_cell BK255.out 0).trans rfl; have hcz9_1 : w7.cell? ⟨gb255, 1, none⟩ = some (.slice none 0 0) := (blk_cell BK255.out 1).trans rfl; have hfz9_0 := blk_frozen BK255.out 0; have hfz9_1 := blk_frozen BK255.out 1))
 go_loopg [4] k (fun kq v4 w' => ∃ (x4_1 : Int) (x256001_1 : List (S58)) (u256001 : Value), v4 = .int .i64 x4_1 ∧ Aside0 (spec_l04Copy.l0 kq x4_1 a0_0 l0_1 a0_0 x256001_1 = some (r1, r2)) ∧ Aside0 (kq ≤ k) ∧ Aside0 (Kd.S k58 58 w' w.heap.size (fun _ => True) u256001 x256001_1) ∧ Aside0 (w'.heap[gb251]? = some (.cells #[.int .i64 0, (.slice none 0 0)] 29 (0, 0))) ∧ Aside0 (w'.heap[gb255]? = some (.cells #[.int .i64 a0_0, u256001] 29 (0, 0))) ∧ Aside0 (Below w.heap.size w w'))
 case atStart => exact ⟨(0), (y252), (.slice Ao6 y252.length co6), (by first | rfl | (simp; done) | (simp [*]; done)), H', ⟨Nat.le_refl _⟩, ⟨by (with_reducible repeat (first | apply Kd.S_alloc | apply Kd.S_drewN | apply Kd.S_drew)); exact Kd.S_mono (Kd.S_far (p := ⟨gb255, 1, none⟩) (Kd.S_far (p := ⟨gb255, 0, none⟩) (Kd.S_types HO254.out BK255.out (by decide)) (fun _ hk => hk.2) (.int .i64 a0_0)) (fun _ hk => hk.2) (.slice Ao6 y252.length co6)) (fun _ hk => trivial)⟩, ⟨by (with_reducible repeat (first | refine blk_drewN ?_ _ | refine blk_drew ?_ | refine blk_alloc ?_ _)); refine blk_far ?_ NB251_255.out _; (with_reducible repeat (first | refine blk_drewN ?_ _ | refine blk_drew ?_ | refine blk_alloc ?_ _)); refine blk_far ?_ NB251_255.out _; (with_reducible repeat (first | refine blk_drewN ?_ _ | refine blk_drew ?_ | refine blk_alloc ?_ _)); exact BK251.out⟩, ⟨by (with_reducible repeat (first | refine blk_drewN ?_ _ | refine blk_drew ?_ | refine blk_alloc ?_ _)); refine blk_put (cs := #[.int .i64 a0_0, .slice none 0 0]) ?_ 1 _ rfl; (with_reducible repeat (first | refine blk_drewN ?_ _ | refine blk_drew ?_ | refine blk_alloc ?_ _)); refine blk_put (cs := #[.int .i64 0, .slice none 0 0]) ?_ 0 _ rfl; (with_reducible repeat (first | refine blk_drewN ?_ _ | refine blk_drew ?_ | refine blk_alloc ?_ _)); exact BK255.out⟩, ⟨by repeat (first | (with_reducible first | exact HB.out | apply below_alloc | apply pw_below_drewN | apply below_drew1 | refine below_set ?_ GE251.out | refine below_set ?_ GE255.out) | exact HB.out)⟩⟩
 case round =>
  clear H'
  try clear p2
  try clear c8
  try clear hcz3_0
  try clear hcz3_1
  try clear hcz9_0
  try clear hcz9_1
  try clear hfz9_0
  try clear hfz9_1
  obtain ⟨x4_1, x256001_1, u256001, rfl, HA, HK1, HO_256001, BK251, BK255, HB⟩ := hrel
  cases gk with
  | zero => exact absurd HA.out (by simp [spec_l04Copy.l0])
  | succ k1 =>
   have H := HA.out
   clear HA
   simp only [spec_l04Copy.l0] at H
   by_cases c10 : x4_1 < (l0_1.length : Int)
   ·rw [if_pos c10] at H
    have c10b0 : decide (x4_1 < (l0_1.length : Int)) = true := decide_eq_true c10
    clear c10
    by_cases c11 : 0 ≤ x4_1
    ·rw [if_pos c11] at H
     have c11b0 : decide (0 ≤ x4_1) = true := decide_eq_true c11
     clear c11
     obtain ⟨y258, hy258⟩ : ∃ y_ : List (S60), y_ = (([] : List (S60))) := ⟨_, rfl⟩
     replace H : (if y258.length + ((rd_T58 l0_1 x4_1).f3).length < 8796093022208 then (if x256001_1.length < 2513169434916 then (spec_l04Copy.l0 k1 (wrap64 (x4_1 + 1)) a0_0 l0_1 a0_0 (x256001_1 ++ [(⟨(rd_T58 l0_1 x4_1).f0, (rd_T58 l0_1 x4_1).f1, (rd_T58 l0_1 x4_1).f2, (y258 ++ ((rd_T58 l0_1 x4_1).f3))⟩ : S58)])) else (none)) else (none)) = some (r1, r2) := by first | (rw [hy258]; with_reducible exact H) | (have H2_ := (Option.bind_some _ _).symm.trans H; rw [hy258]; with_reducible exact H2_) | (have H2_ := (Option.bind_some _ _).symm.trans H; with_reducible exact H2_) | with_reducible exact H | (rw [hy258]; exact H) | exact H
     have Ny258 := Aside0.mk hy258
     clear hy258
     by_cases c12 : y258.length + ((rd_T58 l0_1 x4_1).f3).length < 8796093022208
     ·rw [if_pos c12] at H
      have LMc12 := Aside0.mk c12
      clear c12
      obtain ⟨y261, hy261⟩ : ∃ y_ : List (S60), y_ = (y258 ++ ((rd_T58 l0_1 x4_1).f3)) := ⟨_, rfl⟩
      replace H : (if x256001_1.length < 2513169434916 then (spec_l04Copy.l0 k1 (wrap64 (x4_1 + 1)) a0_0 l0_1 a0_0 (x256001_1 ++ [(⟨(rd_T58 l0_1 x4_1).f0, (rd_T58 l0_1 x4_1).f1, (rd_T58 l0_1 x4_1).f2, y261⟩ : S58)])) else (none)) = some (r1, r2) := by first | (rw [hy261]; with_reducible exact H) | (have H2_ := (Option.bind_some _ _).symm.trans H; rw [hy261]; with_reducible exact H2_) | (have H2_ := (Option.bind_some _ _).symm.trans H; with_reducible exact H2_) | with_reducible exact H | (rw [hy261]; exact H) | exact H
      have Ny261 := Aside0.mk hy261
      clear hy261
      by_cases c13 : x256001_1.length < 2513169434916
      ·rw [if_pos c13] at H
       have LMc13 := Aside0.mk c13
       clear c13
       obtain ⟨y264, hy264⟩ : ∃ y_ : List (S58), y_ = (x256001_1 ++ [(⟨(rd_T58 l0_1 x4_1).f0, (rd_T58 l0_1 x4_1).f1, (rd_T58 l0_1 x4_1).f2, y261⟩ : S58)]) := ⟨_, rfl⟩
       replace H : (spec_l04Copy.l0 k1 (wrap64 (x4_1 + 1)) a0_0 l0_1 a0_0 y264) = some (r1, r2) := by first | (rw [hy264]; with_reducible exact H) | (have H2_ := (Option.bind_some _ _).symm.trans H; rw [hy264]; with_reducible exact H2_) | (have H2_ := (Option.bind_some _ _).symm.trans H; with_reducible exact H2_) | with_reducible exact H | (rw [hy264]; exact H) | exact H
       have Ny264 := Aside0.mk hy264
       clear hy264
       have H' := Aside0.mk H
       clear H
       have hcz14_0 : wr.cell? pa0_ = some (.int .i64 a0_0) := (HB.out.cell (World.block_lt_of_cell? w _ (RP.get HQ0.out 0 rfl))).trans (RP.get HQ0.out 0 rfl)
       have hcz14_1 : wr.cell? ⟨pa0_.block, pa0_.off + 1, none⟩ = some (.slice A0_1 l0_1.length c0_1) := (HB.out.cell (World.block_lt_of_cell? w _ (RP.get HQ0.out 1 rfl))).trans (RP.get HQ0.out 1 rfl)
       have p256 : 0 ≤ (x4_1 : Int) := of_decide_eq_true (by first | (with_reducible assumption) | assumption)
       have q256 : x4_1 < (l0_1.length : Int) := of_decide_eq_true (by first | (with_reducible assumption) | assumption)
       obtain ⟨ad256, A256_3, c256_3, e256, hx256_0, hx256_1, hx256_2, hx256_3, hl256_3, hi256_3⟩ := at_T58 HR0_1.out x4_1 p256 q256
       cases e256
       replace hx256_0 := (HB.out.cell (World.block_lt_of_cell? w _ hx256_0)).trans hx256_0
       replace hx256_1 := (HB.out.cell (World.block_lt_of_cell? w _ hx256_1)).trans hx256_1
       replace hx256_2 := (HB.out.cell (World.block_lt_of_cell? w _ hx256_2)).trans hx256_2
       replace hx256_3 := (HB.out.cell (World.block_lt_of_cell? w _ hx256_3)).trans hx256_3
       have HR256_3 := Aside0.mk hi256_3
       have HC256_3 := Aside0.mk hl256_3
       clear hi256_3 hl256_3
       replace p256 := eq_true p256
       replace q256 := eq_true q256
       go_wp2_with (first | ((with_reducible refine gate_dst (N := 5) rfl ?_); refine box_event ?hg (N := 5) ?hd (cs := #[.string (⟨#[]⟩ : ByteArray), .int .i64 0, .int .i64 0, .slice none 0 0]) (t := 58) ?hr ?_; (case hd => rfl); (case hg => rfl); (case hr => first | (go_simp; done) | (go_simp; rfl)); intro gb257 hg w15 hbox hb; have n0_ := Aside0.mk (Kd.S_below (Kd.S_elderB (by (with_reducible repeat (first | apply Kd.S_alloc | apply Kd.S_drewN | apply Kd.S_drew)); exact HO_256001.out) gb257 (Nat.le_of_eq hg.symm)) hb); have n1_ := Aside0.mk (blk_below (g := gb251) (o := .cells #[.int .i64 0, .slice none 0 0] 29 (0, 0)) (by (with_reducible repeat (first | refine blk_drewN ?_ _ | refine blk_drew ?_ | refine blk_alloc ?_ _)); exact BK251.out) hb); have n2_ := Aside0.mk (blk_below (g := gb255) (o := .cells #[.int .i64 a0_0, u256001] 29 (0, 0)) (by (with_reducible repeat (first | refine blk_drewN ?_ _ | refine blk_drew ?_ | refine blk_alloc ?_ _)); exact BK255.out) hb); have n3_ := Aside0.mk (below_step (by repeat (first | (with_reducible first | exact HB.out | apply below_alloc | apply pw_below_drewN | apply below_drew1 | refine below_set ?_ GE251.out | refine below_set ?_ GE255.out) | exact HB.out)) hb); have n4_ := Aside0.mk (hbox); have n5_ := Aside0.mk ((by rw [hg]; exact (below_size (by repeat (first | (with_reducible first | exact HB.out | apply below_alloc | apply pw_below_drewN | apply below_drew1 | refine below_set ?_ GE251.out | refine below_set ?_ GE255.out) | exact HB.out))) : w.heap.size ≤ gb257)); have n6_ := Aside0.mk ((by rw [hg]; exact (below_size (by repeat (first | (with_reducible first | exact HB.out | apply below_alloc | apply pw_below_drewN | apply below_drew1 | refine below_set ?_ GE251.out | refine below_set ?_ GE255.out) | exact HB.out))) : w.heap.size ≤ gb257)); have n7_ := Aside0.mk ((by rw [hg]; exact Nat.ne_of_lt (blk_lt (g := gb251) (o := .cells #[.int .i64 0, .slice none 0 0] 29 (0, 0)) (by (with_reducible repeat (first | refine blk_drewN ?_ _ | refine blk_drew ?_ | refine blk_alloc ?_ _)); exact BK251.out)) : gb251 ≠ gb257)); have n8_ := Aside0.mk ((by rw [hg]; exact Nat.ne_of_gt (blk_lt (g := gb251) (o := .cells #[.int .i64 0, .slice none 0 0] 29 (0, 0)) (by (with_reducible repeat (first | refine blk_drewN ?_ _ | refine blk_drew ?_ | refine blk_alloc ?_ _)); exact BK251.out)) : gb257 ≠ gb251)); have n9_ := Aside0.mk ((by rw [hg]; exact Nat.ne_of_lt (blk_lt (g := gb255) (o := .cells #[.int .i64 a0_0, u256001] 29 (0, 0)) (by (with_reducible repeat (first | refine blk_drewN ?_ _ | refine blk_drew ?_ | refine blk_alloc ?_ _)); exact BK255.out)) : gb255 ≠ gb257)); have n10_ := Aside0.mk ((by rw [hg]; exact Nat.ne_of_gt (blk_lt (g := gb255) (o := .cells #[.int .i64 a0_0, u256001] 29 (0, 0)) (by (with_reducible repeat (first | refine blk_drewN ?_ _ | refine blk_drew ?_ | refine blk_alloc ?_ _)); exact BK255.out)) : gb257 ≠ gb255)); clear HO_256001; clear BK251; clear BK255; clear HB; have HO_256001 := n0_; have BK251 := n1_; have BK255 := n2_; have HB := n3_; have BK257 := n4_; have GW257 := n5_; have GE257 := n6_; have NB251_257 := n7_; have NB257_251 := n8_; have NB255_257 := n9_; have NB257_255 := n10_; clear n0_ n1_ n2_ n3_ n4_ n5_ n6_ n7_ n8_ n9_ n10_; clear hb hbox hg; have hnb16 := NB257_251.out; have hnc16 := NB251_257.out; have hnb17 := NB257_255.out; have hnc17 := NB255_257.out; have hcz18_0 : w15.cell? ⟨gb257, 0, none⟩ = some (.string (⟨#[]⟩ : ByteArray)) := (blk_cell BK257.out 0).trans rfl; have hcz18_1 : w15.cell? ⟨gb257, 1, none⟩ = some (.int .i64 0) := (blk_cell BK257.out 1).trans rfl; have hcz18_2 : w15.cell? ⟨gb257, 2, none⟩ = some (.int .i64 0) := (blk_cell BK257.out 2).trans rfl; have hcz18_3 : w15.cell? ⟨gb257, 3, none⟩ = some (.slice none 0 0) := (blk_cell BK257.out 3).trans rfl; have hfz18_0 := blk_frozen BK257.out 0; have hfz18_1 := blk_frozen BK257.out 1; have hfz18_2 := blk_frozen BK257.out 2; have hfz18_3 := blk_frozen BK257.out 3) | ((with_reducible refine gate_dst (N := 28) rfl ?_); refine Kd.R_lit k60 _ 60 ?hg (N := 28) ?hd (xs := ([] : List (S60))) (inner := []) (ok := fun _ => True) (okp := fun _ => True) ?hr ?hp (fun _ hk => hk) trivial (Below.refl _ _) (Nat.le_refl _) (by simp) ?_; (case hd => rfl); (case hg => rfl); (case hr => first | (go_simp; done) | (go_simp; rfl)); (case hp => exact (Reps.none _ _)); intro v259 w19 ho20 hb hg_ hnew_; clear hg_ hnew_; (first | rw [← Ny258.out] at ho20 | (simp only [Int.reduceToNat] at ho20; rw [← Ny258.out] at ho20)); have n0_ := Aside0.mk (Kd.S_elder' (by (with_reducible repeat (first | apply Kd.S_alloc | apply Kd.S_drewN | apply Kd.S_drew)); exact (Kd.S_mono (Kd.S_far (p := ⟨gb257, 3, none⟩) (Kd.S_far (p := ⟨gb257, 2, none⟩) (Kd.S_far (p := ⟨gb257, 1, none⟩) (Kd.S_far (p := ⟨gb257, 0, none⟩) (Kd.S_mono HO_256001.out (fun k_ hk => (⟨hk, hk.2⟩ : _ ∧ k_ ≠ gb257))) (fun _ hk => hk.2) (.string ((rd_T58 l0_1 x4_1).f0))) (fun _ hk => hk.2) (.int .i64 ((rd_T58 l0_1 x4_1).f1))) (fun _ hk => hk.2) (.int .i64 ((rd_T58 l0_1 x4_1).f2))) (fun _ hk => hk.2) (.slice A256_3 ((rd_T58 l0_1 x4_1).f3).length c256_3)) (fun _ h_ => h_.1))) (Kd.R_base ho20) hb); have n1_ := Aside0.mk (Kd.R_lower ho20 (below_size (by repeat (first | (with_reducible first | exact HB.out | apply below_alloc | apply pw_below_drewN | apply below_drew1 | refine below_set ?_ GE251.out | refine below_set ?_ GE255.out | refine below_set ?_ GE257.out) | exact HB.out)))); have n2_ := Aside0.mk (blk_below (g := gb251) (o := .cells #[.int .i64 0, .slice none 0 0] 29 (0, 0)) (by (with_reducible repeat (first | refine blk_drewN ?_ _ | refine blk_drew ?_ | refine blk_alloc ?_ _)); refine blk_far ?_ NB251_257.out _; (with_reducible repeat (first | refine blk_drewN ?_ _ | refine blk_drew ?_ | refine blk_alloc ?_ _)); refine blk_far ?_ NB251_257.out _; (with_reducible repeat (first | refine blk_drewN ?_ _ | refine blk_drew ?_ | refine blk_alloc ?_ _)); refine blk_far ?_ NB251_257.out _; (with_reducible repeat (first | refine blk_drewN ?_ _ | refine blk_drew ?_ | refine blk_alloc ?_ _)); refine blk_far ?_ NB251_257.out _; (with_reducible repeat (first | refine blk_drewN ?_ _ | refine blk_drew ?_ | refine blk_alloc ?_ _)); exact BK251.out) hb); have n3_ := Aside0.mk (blk_below (g := gb255) (o := .cells #[.int .i64 a0_0, u256001] 29 (0, 0)) (by (with_reducible repeat (first | refine blk_drewN ?_ _ | refine blk_drew ?_ | refine blk_alloc ?_ _)); refine blk_far ?_ NB255_257.out _; (with_reducible repeat (first | refine blk_drewN ?_ _ | refine blk_drew ?_ | refine blk_alloc ?_ _)); refine blk_far ?_ NB255_257.out _; (with_reducible repeat (first | refine blk_drewN ?_ _ | refine blk_drew ?_ | refine blk_alloc ?_ _)); refine blk_far ?_ NB255_257.out _; (with_reducible repeat (first | refine blk_drewN ?_ _ | refine blk_drew ?_ | refine blk_alloc ?_ _)); refine blk_far ?_ NB255_257.out _; (with_reducible repeat (first | refine blk_drewN ?_ _ | refine blk_drew ?_ | refine blk_alloc ?_ _)); exact BK255.out) hb); have n4_ := Aside0.mk (blk_below (g := gb257) (o := .cells #[.string ((rd_T58 l0_1 x4_1).f0), .int .i64 ((rd_T58 l0_1 x4_1).f1), .int .i64 ((rd_T58 l0_1 x4_1).f2), .slice A256_3 ((rd_T58 l0_1 x4_1).f3).length c256_3] 58 (0, 0)) (by (with_reducible repeat (first | refine blk_drewN ?_ _ | refine blk_drew ?_ | refine blk_alloc ?_ _)); refine blk_put (cs := #[.string ((rd_T58 l0_1 x4_1).f0), .int .i64 ((rd_T58 l0_1 x4_1).f1), .int .i64 ((rd_T58 l0_1 x4_1).f2), .slice none 0 0]) ?_ 3 _ rfl; (with_reducible repeat (first | refine blk_drewN ?_ _ | refine blk_drew ?_ | refine blk_alloc ?_ _)); refine blk_put (cs := #[.string ((rd_T58 l0_1 x4_1).f0), .int .i64 ((rd_T58 l0_1 x4_1).f1), .int .i64 0, .slice none 0 0]) ?_ 2 _ rfl; (with_reducible repeat (first | refine blk_drewN ?_ _ | refine blk_drew ?_ | refine blk_alloc ?_ _)); refine blk_put (cs := #[.string ((rd_T58 l0_1 x4_1).f0), .int .i64 0, .int .i64 0, .slice none 0 0]) ?_ 1 _ rfl; (with_reducible repeat (first | refine blk_drewN ?_ _ | refine blk_drew ?_ | refine blk_alloc ?_ _)); refine blk_put (cs := #[.string (⟨#[]⟩ : ByteArray), .int .i64 0, .int .i64 0, .slice none 0 0]) ?_ 0 _ rfl; (with_reducible repeat (first | refine blk_drewN ?_ _ | refine blk_drew ?_ | refine blk_alloc ?_ _)); exact BK257.out) hb); have n5_ := Aside0.mk (below_step (by repeat (first | (with_reducible first | exact HB.out | apply below_alloc | apply pw_below_drewN | apply below_drew1 | refine below_set ?_ GE251.out | refine below_set ?_ GE255.out | refine below_set ?_ GE257.out) | exact HB.out)) hb); clear HO_256001; clear BK251; clear BK255; clear BK257; clear HB; have HO_256001 := n0_; have HO260 := n1_; have BK251 := n2_; have BK255 := n3_; have BK257 := n4_; have HB := n5_; clear n0_ n1_ n2_ n3_ n4_ n5_; clear hb ho20; have hcz21_0 : w19.cell? ⟨gb257, 0, none⟩ = some (.string ((rd_T58 l0_1 x4_1).f0)) := (blk_cell BK257.out 0).trans rfl; have hcz21_1 : w19.cell? ⟨gb257, 1, none⟩ = some (.int .i64 ((rd_T58 l0_1 x4_1).f1)) := (blk_cell BK257.out 1).trans rfl; have hcz21_2 : w19.cell? ⟨gb257, 2, none⟩ = some (.int .i64 ((rd_T58 l0_1 x4_1).f2)) := (blk_cell BK257.out 2).trans rfl; have hcz21_3 : w19.cell? ⟨gb257, 3, none⟩ = some (.slice A256_3 ((rd_T58 l0_1 x4_1).f3).length c256_3) := (blk_cell BK257.out 3).trans rfl; have hfz21_0 := blk_frozen BK257.out 0; have hfz21_1 := blk_frozen BK257.out 1; have hfz21_2 := blk_frozen BK257.out 2; have hfz21_3 := blk_frozen BK257.out 3) | ((with_reducible refine gate_builtin (b := .append) (xs := #[.tmp 28, .tmp 30]) rfl ?_); at_builtin; refine Kd.R_append_rows k60 (w0 := w) w.heap.size rfl (.tmp 28) (.tmp 30) 52 60 (.agg #[(.int .i64 0), (.int .i64 0)]) 16 rfl Try.underlying52 info60 rfl (by decide) (by omega) v259 y258 ((rd_T58 l0_1 x4_1).f3) _ _ _ (fun _ => True) (fun _ => False) rfl rfl ?aO ?aR (fun _ _ h => h) (fun _ h => h.elim) ?aF ?aB ?aS ?aL ?_; (case aR => repeat (first | exact (Kd.C_below HR256_3.out HB.out) | (with_reducible refine Kd.C_alloc ?_ _) | (with_reducible refine Kd.C_drewN ?_ _) | (with_reducible refine Kd.C_drew ?_))); (case aB => exact (by repeat (first | (with_reducible first | exact HB.out | apply below_alloc | apply pw_below_drewN | apply below_drew1 | refine below_set ?_ GE251.out | refine below_set ?_ GE255.out | refine below_set ?_ GE257.out) | exact HB.out))); (case aF => exact (fun _ _ => trivial)); (case aO => exact (by (with_reducible repeat (first | apply Kd.R_alloc | apply Kd.R_drewN | apply Kd.R_drew)); exact HO260.out)); (case aS => exact (below_size (by repeat (first | (with_reducible first | exact HB.out | apply below_alloc | apply pw_below_drewN | apply below_drew1 | refine below_set ?_ GE251.out | refine below_set ?_ GE255.out | refine below_set ?_ GE257.out) | exact HB.out)))); (case aL => have := LMc12.out; omega); intro v262 w22 ho hb hg hat; rw [← Ny261.out] at ho; have n0_ := Aside0.mk (Kd.S_after (ok := (fun k_ => k_ ≠ gb257)) (by (with_reducible repeat (first | apply Kd.S_alloc | apply Kd.S_drewN | apply Kd.S_drew)); exact Kd.S_mono HO_256001.out (fun _ hk => ⟨hk.1.2, hk.2⟩)) hg hat); have n1_ := Aside0.mk (blk_grown (g := gb251) (o := .cells #[.int .i64 0, .slice none 0 0] 29 (0, 0)) (by (with_reducible repeat (first | refine blk_drewN ?_ _ | refine blk_drew ?_ | refine blk_alloc ?_ _)); exact BK251.out) hg (Kd.R_ne HO260.out BK251.out (by decide))); have n2_ := Aside0.mk (blk_grown (g := gb255) (o := .cells #[.int .i64 a0_0, u256001] 29 (0, 0)) (by (with_reducible repeat (first | refine blk_drewN ?_ _ | refine blk_drew ?_ | refine blk_alloc ?_ _)); exact BK255.out) hg (Kd.R_ne HO260.out BK255.out (by decide))); have n3_ := Aside0.mk (blk_grown (g := gb257) (o := .cells #[.string ((rd_T58 l0_1 x4_1).f0), .int .i64 ((rd_T58 l0_1 x4_1).f1), .int .i64 ((rd_T58 l0_1 x4_1).f2), .slice A256_3 ((rd_T58 l0_1 x4_1).f3).length c256_3] 58 (0, 0)) (by (with_reducible repeat (first | refine blk_drewN ?_ _ | refine blk_drew ?_ | refine blk_alloc ?_ _)); exact BK257.out) hg (Kd.R_ne HO260.out BK257.out (by decide))); have n4_ := Aside0.mk (hb); have n5_ := Aside0.mk (ho); clear HO_256001; clear BK251; clear BK255; clear BK257; clear HB; clear HO260; have HO_256001 := n0_; have BK251 := n1_; have BK255 := n2_; have BK257 := n3_; have HB := n4_; have HO263 := n5_; clear n0_ n1_ n2_ n3_ n4_ n5_; clear ho hb hg hat; obtain ⟨Ao23, co23, eo23⟩ := Kd.R_slice HO263.out; subst eo23; have hcz24_0 : w22.cell? ⟨gb257, 0, none⟩ = some (.string ((rd_T58 l0_1 x4_1).f0)) := (blk_cell BK257.out 0).trans rfl; have hcz24_1 : w22.cell? ⟨gb257, 1, none⟩ = some (.int .i64 ((rd_T58 l0_1 x4_1).f1)) := (blk_cell BK257.out 1).trans rfl; have hcz24_2 : w22.cell? ⟨gb257, 2, none⟩ = some (.int .i64 ((rd_T58 l0_1 x4_1).f2)) := (blk_cell BK257.out 2).trans rfl; have hcz24_3 : w22.cell? ⟨gb257, 3, none⟩ = some (.slice A256_3 ((rd_T58 l0_1 x4_1).f3).length c256_3) := (blk_cell BK257.out 3).trans rfl; have hfz24_0 := blk_frozen BK257.out 0; have hfz24_1 := blk_frozen BK257.out 1; have hfz24_2 := blk_frozen BK257.out 2; have hfz24_3 := blk_frozen BK257.out 3) | ((with_reducible refine gate_store (t := 52) (p := 32) rfl ?_); refine store_event (t := 52) (p := 32) (v := ?vo_w25) (w1 := (w22.setCell ⟨gb257, 3, none⟩ (.slice Ao23 y261.length co23))) ?hg ?ho ?hn ?hr ?_; (case ho => rfl); (case hg => rfl); (case hn => rfl); (case hr => first | (go_simp; done) | (go_simp; rfl)); intro w25 hw; have n0_ : Aside0 (Kd.S k58 58 w25 w.heap.size (fun k_ => some k_ ≠ (.slice Ao23 y261.length co23 : Value).ownBlock ∧ k_ ≠ gb257) u256001 x256001_1) := ⟨(by rw [hw]; exact (by (with_reducible repeat (first | apply Kd.S_alloc | apply Kd.S_drewN | apply Kd.S_drew)); exact Kd.S_mono (Kd.S_far (p := ⟨gb257, 3, none⟩) (Kd.S_mono HO_256001.out (fun k_ hk => (⟨hk, hk.1⟩ : _ ∧ k_ ≠ gb257))) (fun _ hk => hk.2) (.slice Ao23 y261.length co23)) (fun _ hk => ⟨hk.1.2, hk.1.1⟩)))⟩; have n1_ : Aside0 (Kd.R k60 60 w25 w.heap.size (fun _ => True) (.slice Ao23 y261.length co23) y261) := ⟨(by rw [hw]; exact (by (with_reducible repeat (first | apply Kd.R_alloc | apply Kd.R_drewN | apply Kd.R_drew)); exact Kd.R_mono (Kd.R_far (p := ⟨gb257, 3, none⟩) (Kd.R_types HO263.out BK257.out (by decide)) (fun _ hk => hk.2) (.slice Ao23 y261.length co23)) (fun _ hk => trivial)))⟩; have n2_ : Aside0 (w25.heap[gb251]? = some (.cells #[.int .i64 0, .slice none 0 0] 29 (0, 0))) := ⟨(by rw [hw]; exact (by (with_reducible repeat (first | refine blk_drewN ?_ _ | refine blk_drew ?_ | refine blk_alloc ?_ _)); refine blk_far ?_ NB251_257.out _; (with_reducible repeat (first | refine blk_drewN ?_ _ | refine blk_drew ?_ | refine blk_alloc ?_ _)); exact BK251.out))⟩; have n3_ : Aside0 (w25.heap[gb255]? = some (.cells #[.int .i64 a0_0, u256001] 29 (0, 0))) := ⟨(by rw [hw]; exact (by (with_reducible repeat (first | refine blk_drewN ?_ _ | refine blk_drew ?_ | refine blk_alloc ?_ _)); refine blk_far ?_ NB255_257.out _; (with_reducible repeat (first | refine blk_drewN ?_ _ | refine blk_drew ?_ | refine blk_alloc ?_ _)); exact BK255.out))⟩; have n4_ : Aside0 (w25.heap[gb257]? = some (.cells #[.string ((rd_T58 l0_1 x4_1).f0), .int .i64 ((rd_T58 l0_1 x4_1).f1), .int .i64 ((rd_T58 l0_1 x4_1).f2), .slice Ao23 y261.length co23] 58 (0, 0))) := ⟨(by rw [hw]; exact (by (with_reducible repeat (first | refine blk_drewN ?_ _ | refine blk_drew ?_ | refine blk_alloc ?_ _)); refine blk_put (cs := #[.string ((rd_T58 l0_1 x4_1).f0), .int .i64 ((rd_T58 l0_1 x4_1).f1), .int .i64 ((rd_T58 l0_1 x4_1).f2), .slice A256_3 ((rd_T58 l0_1 x4_1).f3).length c256_3]) ?_ 3 _ rfl; (with_reducible repeat (first | refine blk_drewN ?_ _ | refine blk_drew ?_ | refine blk_alloc ?_ _)); exact BK257.out))⟩; have n5_ : Aside0 (Below w.heap.size w w25) := ⟨(by rw [hw]; exact (by repeat (first | (with_reducible first | exact HB.out | apply below_alloc | apply pw_below_drewN | apply below_drew1 | refine below_set ?_ GE251.out | refine below_set ?_ GE255.out | refine below_set ?_ GE257.out) | exact HB.out)))⟩; clear hw; clear HO_256001; clear HO263; clear BK251; clear BK255; clear BK257; clear HB; have HO_256001 := n0_; have HO263 := n1_; have BK251 := n2_; have BK255 := n3_; have BK257 := n4_; have HB := n5_; clear n0_ n1_ n2_ n3_ n4_ n5_; have hnb26 := NB255_251.out; have hnc26 := NB251_255.out; have hcz27_0 : w25.cell? ⟨gb255, 0, none⟩ = some (.int .i64 a0_0) := (blk_cell BK255.out 0).trans rfl; have hcz27_1 : w25.cell? ⟨gb255, 1, none⟩ = some (u256001) := (blk_cell BK255.out 1).trans rfl; have hfz27_0 := blk_frozen BK255.out 0; have hfz27_1 := blk_frozen BK255.out 1; have hcz28_0 : w25.cell? ⟨gb257, 0, none⟩ = some (.string ((rd_T58 l0_1 x4_1).f0)) := (blk_cell BK257.out 0).trans rfl; have hcz28_1 : w25.cell? ⟨gb257, 1, none⟩ = some (.int .i64 ((rd_T58 l0_1 x4_1).f1)) := (blk_cell BK257.out 1).trans rfl; have hcz28_2 : w25.cell? ⟨gb257, 2, none⟩ = some (.int .i64 ((rd_T58 l0_1 x4_1).f2)) := (blk_cell BK257.out 2).trans rfl; have hcz28_3 : w25.cell? ⟨gb257, 3, none⟩ = some (.slice Ao23 y261.length co23) := (blk_cell BK257.out 3).trans rfl; have hfz28_0 := blk_frozen BK257.out 0; have hfz28_1 := blk_frozen BK257.out 1; have hfz28_2 := blk_frozen BK257.out 2; have hfz28_3 := blk_frozen BK257.out 3) | ((with_reducible refine gate_builtin (b := .append) (xs := #[.tmp 34, .tmp 36]) rfl ?_); at_builtin; refine Kd.S_append k58 (w0 := w) w.heap.size rfl (.tmp 34) (.tmp 36) 27 58 (.agg #[(.string ⟨#[]⟩), (.int .i64 0), (.int .i64 0), (.slice none 0 0)]) 56 rfl Try.underlying27 info58 rfl (by decide) (by omega) u256001 x256001_1 (⟨(rd_T58 l0_1 x4_1).f0, (rd_T58 l0_1 x4_1).f1, (rd_T58 l0_1 x4_1).f2, y261⟩ : S58) [.string ((rd_T58 l0_1 x4_1).f0), .int .i64 ((rd_T58 l0_1 x4_1).f1), .int .i64 ((rd_T58 l0_1 x4_1).f2), .slice Ao23 y261.length co23] (fun k_ => k_ ≠ gb257) (fun k_ => some k_ = (.slice Ao23 y261.length co23 : Value).ownBlock) rfl rfl ?aP (fun k_ hk_ => ((Kd.R_mono (ok' := fun k_ => ((fun k_ => k_ ≠ gb257)) k_ ∧ some k_ ≠ (u256001 : Value).ownBlock) (Kd.R_types (Kd.R_apart' (HO263.out) (Kd.S_typed HO_256001.out) (by decide)) BK257.out (by decide)) (fun k_ hk => ⟨hk.2, hk.1.2⟩))).1 k_ hk_.symm) ?aF ?aO ?aB ?aS ?aL ?_; (case aP => exact k58_mkM _ _ _ (⟨(rd_T58 l0_1 x4_1).f0, (rd_T58 l0_1 x4_1).f1, (rd_T58 l0_1 x4_1).f2, y261⟩ : S58) (Kd.R_mono (Kd.R_tight rfl (Kd.R_mono (ok' := fun k_ => ((fun k_ => k_ ≠ gb257)) k_ ∧ some k_ ≠ (u256001 : Value).ownBlock) (Kd.R_types (Kd.R_apart' (HO263.out) (Kd.S_typed HO_256001.out) (by decide)) BK257.out (by decide)) (fun k_ hk => ⟨hk.2, hk.1.2⟩))) (fun _ h_ => h_))); (case aB => exact (by repeat (first | (with_reducible first | exact HB.out | apply below_alloc | apply pw_below_drewN | apply below_drew1 | refine below_set ?_ GE251.out | refine below_set ?_ GE255.out | refine below_set ?_ GE257.out) | exact HB.out))); (case aF => exact (fun k_ hk => Kd.freshB (g := gb257) (o := .cells #[.string ((rd_T58 l0_1 x4_1).f0), .int .i64 ((rd_T58 l0_1 x4_1).f1), .int .i64 ((rd_T58 l0_1 x4_1).f2), .slice Ao23 y261.length co23] 58 (0, 0)) (by (with_reducible repeat (first | refine blk_drewN ?_ _ | refine blk_drew ?_ | refine blk_alloc ?_ _)); exact BK257.out) k_ hk)); (case aO => exact (by (with_reducible repeat (first | apply Kd.S_alloc | apply Kd.S_drewN | apply Kd.S_drew)); exact Kd.S_mono HO_256001.out (fun k_ hk => ⟨hk.2, fun e_ => hk.1 e_⟩))); (case aS => exact (below_size (by repeat (first | (with_reducible first | exact HB.out | apply below_alloc | apply pw_below_drewN | apply below_drew1 | refine below_set ?_ GE251.out | refine below_set ?_ GE255.out | refine below_set ?_ GE257.out) | exact HB.out)))); (case aL => have := LMc13.out; omega); intro v265 w29 ho hb hg hat; rw [← Ny264.out] at ho; have n0_ := Aside0.mk (blk_grown (g := gb251) (o := .cells #[.int .i64 0, .slice none 0 0] 29 (0, 0)) (by (with_reducible repeat (first | refine blk_drewN ?_ _ | refine blk_drew ?_ | refine blk_alloc ?_ _)); exact BK251.out) hg (Kd.S_ne HO_256001.out BK251.out (by decide))); have n1_ := Aside0.mk (blk_grown (g := gb255) (o := .cells #[.int .i64 a0_0, u256001] 29 (0, 0)) (by (with_reducible repeat (first | refine blk_drewN ?_ _ | refine blk_drew ?_ | refine blk_alloc ?_ _)); exact BK255.out) hg (Kd.S_ne HO_256001.out BK255.out (by decide))); have n2_ := Aside0.mk (blk_grown (g := gb257) (o := .cells #[.string ((rd_T58 l0_1 x4_1).f0), .int .i64 ((rd_T58 l0_1 x4_1).f1), .int .i64 ((rd_T58 l0_1 x4_1).f2), .slice Ao23 y261.length co23] 58 (0, 0)) (by (with_reducible repeat (first | refine blk_drewN ?_ _ | refine blk_drew ?_ | refine blk_alloc ?_ _)); exact BK257.out) hg (Kd.S_away HO_256001.out (fun _ hk => hk.2))); have n3_ := Aside0.mk (hb); have n4_ := Aside0.mk (ho); clear BK251; clear BK255; clear BK257; clear HB; clear HO_256001; clear HO263; have BK251 := n0_; have BK255 := n1_; have BK257 := n2_; have HB := n3_; have HO266 := n4_; clear n0_ n1_ n2_ n3_ n4_; clear ho hb hg hat; obtain ⟨Ao30, co30, eo30⟩ := Kd.S_slice HO266.out; subst eo30; have hcz31_0 : w29.cell? ⟨gb255, 0, none⟩ = some (.int .i64 a0_0) := (blk_cell BK255.out 0).trans rfl; have hcz31_1 : w29.cell? ⟨gb255, 1, none⟩ = some (u256001) := (blk_cell BK255.out 1).trans rfl; have hfz31_0 := blk_frozen BK255.out 0; have hfz31_1 := blk_frozen BK255.out 1))
       go_roundg k1
       case measure => have := HK1.out; omega
       case rel => exact ⟨(wrap64 (x4_1 + 1)), (y264), (.slice Ao30 y264.length co30), (by first | rfl | (simp; done) | (simp [*]; done)), H', ⟨by have := HK1.out; omega⟩, ⟨by (with_reducible repeat (first | apply Kd.S_alloc | apply Kd.S_drewN | apply Kd.S_drew)); exact Kd.S_mono (Kd.S_far (p := ⟨gb255, 1, none⟩) (Kd.S_types HO266.out BK255.out (by decide)) (fun _ hk => hk.2) (.slice Ao30 y264.length co30)) (fun _ hk => trivial)⟩, ⟨by (with_reducible repeat (first | refine blk_drewN ?_ _ | refine blk_drew ?_ | refine blk_alloc ?_ _)); refine blk_far ?_ NB251_255.out _; (with_reducible repeat (first | refine blk_drewN ?_ _ | refine blk_drew ?_ | refine blk_alloc ?_ _)); exact BK251.out⟩, ⟨by (with_reducible repeat (first | refine blk_drewN ?_ _ | refine blk_drew ?_ | refine blk_alloc ?_ _)); refine blk_put (cs := #[.int .i64 a0_0, u256001]) ?_ 1 _ rfl; (with_reducible repeat (first | refine blk_drewN ?_ _ | refine blk_drew ?_ | refine blk_alloc ?_ _)); exact BK255.out⟩, ⟨by repeat (first | (with_reducible first | exact HB.out | apply below_alloc | apply pw_below_drewN | apply below_drew1 | refine below_set ?_ GE251.out | refine below_set ?_ GE255.out | refine below_set ?_ GE257.out) | exact HB.out)⟩⟩
      ·rw [if_neg c13] at H
       exact absurd H (by simp)
     ·rw [if_neg c12] at H
      exact absurd H (by simp)
    ·rw [if_neg c11] at H
     exact absurd H (by simp)
   ·rw [if_neg c10] at H
    have c10b0 : decide (x4_1 < (l0_1.length : Int)) = false := decide_eq_false c10
    clear c10
    simp only [Option.some.injEq, Prod.mk.injEq] at H
    obtain ⟨rfl, rfl⟩ := H
    have hcz32_0 : wr.cell? pa0_ = some (.int .i64 a0_0) := (HB.out.cell (World.block_lt_of_cell? w _ (RP.get HQ0.out 0 rfl))).trans (RP.get HQ0.out 0 rfl)
    have hcz32_1 : wr.cell? ⟨pa0_.block, pa0_.off + 1, none⟩ = some (.slice A0_1 l0_1.length c0_1) := (HB.out.cell (World.block_lt_of_cell? w _ (RP.get HQ0.out 1 rfl))).trans (RP.get HQ0.out 1 rfl)
    have hnb33 := NB255_251.out
    have hnc33 := NB251_255.out
    have hcz34_0 : wr.cell? ⟨gb255, 0, none⟩ = some (.int .i64 a0_0) := (blk_cell BK255.out 0).trans rfl
    have hcz34_1 : wr.cell? ⟨gb255, 1, none⟩ = some (u256001) := (blk_cell BK255.out 1).trans rfl
    have hfz34_0 := blk_frozen BK255.out 0
    have hfz34_1 := blk_frozen BK255.out 1
    have hcz35_0 : wr.cell? ⟨gb251, 0, none⟩ = some (.int .i64 0) := (blk_cell BK251.out 0).trans rfl
    have hcz35_1 : wr.cell? ⟨gb251, 1, none⟩ = some (.slice none 0 0) := (blk_cell BK251.out 1).trans rfl
    have hfz35_0 := blk_frozen BK251.out 0
    have hfz35_1 := blk_frozen BK251.out 1
    obtain ⟨Ao36, co36, eo36⟩ := Kd.S_slice HO_256001.out
    subst eo36
    go_wp2
    refine bodyPost_ret (results_cell_row rfl _ _ gb251 29 #[.int .i64 a0_0, .slice Ao36 x256001_1.length co36] (0, 0) _ rfl (by (with_reducible repeat (first | refine blk_drewN ?_ _ | refine blk_drew ?_ | refine blk_alloc ?_ _)); refine blk_put (cs := #[.int .i64 a0_0, .slice none 0 0]) ?_ 1 _ rfl; (with_reducible repeat (first | refine blk_drewN ?_ _ | refine blk_drew ?_ | refine blk_alloc ?_ _)); refine blk_put (cs := #[.int .i64 0, .slice none 0 0]) ?_ 0 _ rfl; (with_reducible repeat (first | refine blk_drewN ?_ _ | refine blk_drew ?_ | refine blk_alloc ?_ _)); exact BK251.out) Try.underlying29 rfl (by kernel_rfl)) rfl ?_
    exact ⟨_, by first | rfl | (simp [errW_none, errW_some] <;> rfl) | (simp [*, errW_none, errW_some] <;> rfl), by (with_reducible repeat (first | apply Kd.S_alloc | apply Kd.S_drewN | apply Kd.S_drew)); exact Kd.S_mono (Kd.S_far (p := ⟨gb251, 1, none⟩) (Kd.S_far (p := ⟨gb251, 0, none⟩) (Kd.S_types HO_256001.out BK251.out (by decide)) (fun _ hk => hk.2) (.int .i64 a0_0)) (fun _ hk => hk.2) (.slice Ao36 x256001_1.length co36)) (fun _ hk => trivial), by repeat (first | (with_reducible first | exact HB.out | apply below_alloc | apply pw_below_drewN | apply below_drew1 | refine below_set ?_ GE251.out | refine below_set ?_ GE255.out) | exact HB.out)⟩

/-! ### spec_l00Rises: function 117 -/
def spec_l00Rises.l0 : Nat → List Int → Int → Int → Int → Option (Bool)
 | 0, _, _, _, _ => none
 | k + 1, x0, x1, x2, x7 => if x7 < (x0.length : Int) then (if 0 ≤ x7 then ((spec_l00In.f (rd x0 x7) x1 x2).bind fun t268 => (if t268 = true then (if x7 > 0 then (if 0 ≤ (wrap64 (x7 - 1)) then (if (wrap64 (x7 - 1)) < (x0.length : Int) then (if (rd x0 (wrap64 (x7 - 1))) ≥ (rd x0 x7) then (some false) else (spec_l00Rises.l0 k x0 x1 x2 (wrap64 (x7 + 1)))) else (none)) else (none)) else (spec_l00Rises.l0 k x0 x1 x2 (wrap64 (x7 + 1)))) else (some false))) else (none)) else (some true)
def spec_l00Rises.f (k : Nat) (l0 : List Int) (a1 : Int) (a2 : Int) : Option (Bool) := spec_l00Rises.l0 k l0 a1 a2 0
theorem spec_l00Rises.mono_l : ∀ k, (∀ y0 y1 y2 y3, LeO (spec_l00Rises.l0 k y0 y1 y2 y3) (spec_l00Rises.l0 (k + 1) y0 y1 y2 y3))
 | 0 => fun _ _ _ _ r h => by simp [spec_l00Rises.l0] at h
 | k + 1 => by
  have ih0 := spec_l00Rises.mono_l k
  ·intro y0 y1 y2 y3
   unfold spec_l00Rises.l0
   repeat' first
   | (with_reducible exact ih0 _ _ _ _)
   | (with_reducible exact LeO.refl _)
   | (with_reducible exact LeO.none _)
   | (with_reducible refine LeO.ite ?_ ?_)
   | (with_reducible refine LeO.bind ?_ (fun _ => ?_))
   | exact ih0 _ _ _ _
   | exact LeO.none _
   | refine LeO.ite ?_ ?_
   | refine LeO.bind ?_ (fun _ => ?_)
theorem spec_l00Rises.mono : ∀ a0 a1 a2 k, LeO (spec_l00Rises.f k a0 a1 a2) (spec_l00Rises.f (k + 1) a0 a1 a2) := by
 intro a0 a1 a2 k
 have ih0 := spec_l00Rises.mono_l k
 unfold spec_l00Rises.f
 repeat' first
   | (with_reducible exact ih0 _ _ _ _)
   | (with_reducible exact LeO.refl _)
   | (with_reducible exact LeO.none _)
   | (with_reducible refine LeO.ite ?_ ?_)
   | (with_reducible refine LeO.bind ?_ (fun _ => ?_))
   | exact ih0 _ _ _ _
   | exact LeO.none _
   | refine LeO.ite ?_ ?_
   | refine LeO.bind ?_ (fun _ => ?_)
set_option maxHeartbeats 8000000 in
set_option maxRecDepth 100000 in
theorem spec_l00Rises.calls (k : Nat) (A0 : Option Addr) (c0 : Nat) (l0 : List Int) (a1 : Int) (a2 : Int) (r : Bool) (w : World) (hr0 : Kd.C (Kd.int .i64) w A0 l0.length l0) (hc0 : l0.length ≤ c0) (h : spec_l00Rises.f k l0 a1 a2 = some r) :
  Calls Try.prog 117 #[.slice A0 l0.length c0, .int .i64 a1, .int .i64 a2] w fun e w' => e = .returned (.bool r) ∧ Drawn0 w w' := by
 have HR0 := Aside0.mk hr0
 have HC0 := Aside0.mk hc0
 clear hr0 hc0
 have H : (spec_l00Rises.l0 k l0 a1 a2 0) = some r := h
 clear h
 have H' := Aside0.mk H
 clear H
 go_enter Try.func117, Try.ntmps117
 go_wp2
 repeat (go_quiet (fail); try go_wp2)
 go_loopg [7] k (fun kq v7 w' => ∃ (x7_1 : Int), v7 = .int .i64 x7_1 ∧ Aside0 (spec_l00Rises.l0 kq l0 a1 a2 x7_1 = some r) ∧ Aside0 (kq ≤ k) ∧ Drawn0 w w')
 case atStart => exact ⟨(0), (by first | rfl | (simp; done) | (simp [*]; done)), H', ⟨Nat.le_refl _⟩, by repeat (first | exact Drawn0.refl _ | apply Drawn0.step)⟩
 case round =>
  clear H'
  try clear c1
  try clear p2
  obtain ⟨x7_1, rfl, HA, HK1, ⟨m1, rfl⟩⟩ := hrel
  cases gk with
  | zero => exact absurd HA.out (by simp [spec_l00Rises.l0])
  | succ k1 =>
   have H := HA.out
   clear HA
   simp only [spec_l00Rises.l0] at H
   by_cases c4 : x7_1 < (l0.length : Int)
   ·rw [if_pos c4] at H
    have c4b0 : decide (x7_1 < (l0.length : Int)) = true := decide_eq_true c4
    clear c4
    by_cases c5 : 0 ≤ x7_1
    ·rw [if_pos c5] at H
     have c5b0 : decide (0 ≤ x7_1) = true := decide_eq_true c5
     clear c5
     replace H := Option.bind_eq_some_iff.mp H
     obtain ⟨t268, A60, H⟩ := H
     replace H : (if t268 = true then (if x7_1 > 0 then (if 0 ≤ (wrap64 (x7_1 - 1)) then (if (wrap64 (x7_1 - 1)) < (l0.length : Int) then (if (rd l0 (wrap64 (x7_1 - 1))) ≥ (rd l0 x7_1) then (some false) else (spec_l00Rises.l0 k1 l0 a1 a2 (wrap64 (x7_1 + 1)))) else (none)) else (none)) else (spec_l00Rises.l0 k1 l0 a1 a2 (wrap64 (x7_1 + 1)))) else (some false)) = some r := H
     have A6 := Aside0.mk A60
     clear A60
     by_cases c7 : t268 = true
     ·subst c7
      have H1 : (if x7_1 > 0 then (if 0 ≤ (wrap64 (x7_1 - 1)) then (if (wrap64 (x7_1 - 1)) < (l0.length : Int) then (if (rd l0 (wrap64 (x7_1 - 1))) ≥ (rd l0 x7_1) then (some false) else (spec_l00Rises.l0 k1 l0 a1 a2 (wrap64 (x7_1 + 1)))) else (none)) else (none)) else (spec_l00Rises.l0 k1 l0 a1 a2 (wrap64 (x7_1 + 1)))) = some r := by rw [if_pos rfl] at H; exact H
      clear H
      have H := H1
      clear H1
      by_cases c8 : x7_1 > 0
      ·rw [if_pos c8] at H
       have c8b0 : decide (0 < x7_1) = true := decide_eq_true c8
       clear c8
       obtain ⟨ji9, hji9⟩ : ∃ j_ : Int, (wrap64 (x7_1 - 1)) = j_ := ⟨_, rfl⟩
       replace H : (if 0 ≤ (ji9) then (if (ji9) < (l0.length : Int) then (if (rd l0 (ji9)) ≥ (rd l0 x7_1) then (some false) else (spec_l00Rises.l0 k1 l0 a1 a2 (wrap64 (x7_1 + 1)))) else (none)) else (none)) = some r := by first | (rw [hji9] at H; exact H) | (simp only [hji9] at H ⊢; exact H)
       (try rw [hji9] at A6)
       have hji9w : (IntKind.i64.wrap (x7_1 - 1)) = ji9 := (i64_w _).trans hji9
       by_cases c10 : 0 ≤ (ji9)
       ·rw [if_pos c10] at H
        have c10b0 : decide (0 ≤ (ji9)) = true := decide_eq_true c10
        clear c10
        by_cases c11 : (ji9) < (l0.length : Int)
        ·rw [if_pos c11] at H
         have c11b0 : decide ((ji9) < (l0.length : Int)) = true := decide_eq_true c11
         clear c11
         by_cases c12 : (rd l0 (ji9)) ≥ (rd l0 x7_1)
         ·rw [if_pos c12] at H
          have c12b0 : decide ((rd l0 x7_1) ≤ (rd l0 (ji9))) = true := decide_eq_true c12
          clear c12
          obtain rfl := Option.some.inj H
          have p267 : 0 ≤ (x7_1 : Int) := of_decide_eq_true (by first | (with_reducible assumption) | assumption)
          have q267 : x7_1 < (l0.length : Int) := of_decide_eq_true (by first | (with_reducible assumption) | assumption)
          obtain ⟨ad267, e267, hx267_0⟩ := Kd.at_int HR0.out x7_1 p267 q267
          cases e267
          replace p267 := eq_true p267
          replace q267 := eq_true q267
          go_wp2_with (first | (go_at_call 66; (with_reducible refine (spec_l00In.calls (rd l0 x7_1) a1 a2 true _ A6.out).mono ?_); rintro e w' ⟨rfl, ⟨nd, rfl⟩⟩; (try first | exact ⟨rfl, _, World.drewN_drewN _ _ _⟩ | exact ⟨rfl, _, Eq.trans (World.drewN_drewN _ _ _) (congrArg (World.drewN _) (Nat.add_assoc _ _ _))⟩); have p269 : 0 ≤ ((ji9) : Int) := of_decide_eq_true (by first | (with_reducible assumption) | assumption); have q269 : (ji9) < (l0.length : Int) := of_decide_eq_true (by first | (with_reducible assumption) | assumption); obtain ⟨ad269, e269, hx269_0⟩ := Kd.at_int HR0.out (ji9) p269 q269; obtain rfl : ad267 = ad269 := (by injection e269); replace p269 := eq_true p269; replace q269 := eq_true q269; have p270 : 0 ≤ (x7_1 : Int) := of_decide_eq_true (by first | (with_reducible assumption) | assumption); have q270 : x7_1 < (l0.length : Int) := of_decide_eq_true (by first | (with_reducible assumption) | assumption); obtain ⟨ad270, e270, hx270_0⟩ := Kd.at_int HR0.out x7_1 p270 q270; obtain rfl : ad267 = ad270 := (by injection e270); replace p270 := eq_true p270; replace q270 := eq_true q270))
          repeat (go_quiet (first | (go_at_call 66; (with_reducible refine (spec_l00In.calls (rd l0 x7_1) a1 a2 true _ A6.out).mono ?_); rintro e w' ⟨rfl, ⟨nd, rfl⟩⟩; (try first | exact ⟨rfl, _, World.drewN_drewN _ _ _⟩ | exact ⟨rfl, _, Eq.trans (World.drewN_drewN _ _ _) (congrArg (World.drewN _) (Nat.add_assoc _ _ _))⟩); have p269 : 0 ≤ ((ji9) : Int) := of_decide_eq_true (by first | (with_reducible assumption) | assumption); have q269 : (ji9) < (l0.length : Int) := of_decide_eq_true (by first | (with_reducible assumption) | assumption); obtain ⟨ad269, e269, hx269_0⟩ := Kd.at_int HR0.out (ji9) p269 q269; obtain rfl : ad267 = ad269 := (by injection e269); replace p269 := eq_true p269; replace q269 := eq_true q269; have p270 : 0 ≤ (x7_1 : Int) := of_decide_eq_true (by first | (with_reducible assumption) | assumption); have q270 : x7_1 < (l0.length : Int) := of_decide_eq_true (by first | (with_reducible assumption) | assumption); obtain ⟨ad270, e270, hx270_0⟩ := Kd.at_int HR0.out x7_1 p270 q270; obtain rfl : ad267 = ad270 := (by injection e270); replace p270 := eq_true p270; replace q270 := eq_true q270)); try go_wp2_with (first | (go_at_call 66; (with_reducible refine (spec_l00In.calls (rd l0 x7_1) a1 a2 true _ A6.out).mono ?_); rintro e w' ⟨rfl, ⟨nd, rfl⟩⟩; (try first | exact ⟨rfl, _, World.drewN_drewN _ _ _⟩ | exact ⟨rfl, _, Eq.trans (World.drewN_drewN _ _ _) (congrArg (World.drewN _) (Nat.add_assoc _ _ _))⟩); have p269 : 0 ≤ ((ji9) : Int) := of_decide_eq_true (by first | (with_reducible assumption) | assumption); have q269 : (ji9) < (l0.length : Int) := of_decide_eq_true (by first | (with_reducible assumption) | assumption); obtain ⟨ad269, e269, hx269_0⟩ := Kd.at_int HR0.out (ji9) p269 q269; obtain rfl : ad267 = ad269 := (by injection e269); replace p269 := eq_true p269; replace q269 := eq_true q269; have p270 : 0 ≤ (x7_1 : Int) := of_decide_eq_true (by first | (with_reducible assumption) | assumption); have q270 : x7_1 < (l0.length : Int) := of_decide_eq_true (by first | (with_reducible assumption) | assumption); obtain ⟨ad270, e270, hx270_0⟩ := Kd.at_int HR0.out x7_1 p270 q270; obtain rfl : ad267 = ad270 := (by injection e270); replace p270 := eq_true p270; replace q270 := eq_true q270)))
          go_ret
          exact ⟨by first | rfl | (simp; done) | (simp only [← hji9] <;> (first | rfl | simp)) | (simp [*]; done), by repeat (first | exact Drawn0.refl _ | apply Drawn0.step)⟩
         ·rw [if_neg c12] at H
          have c12b0 : decide ((rd l0 x7_1) ≤ (rd l0 (ji9))) = false := decide_eq_false c12
          clear c12
          have H' := Aside0.mk H
          clear H
          have p267 : 0 ≤ (x7_1 : Int) := of_decide_eq_true (by first | (with_reducible assumption) | assumption)
          have q267 : x7_1 < (l0.length : Int) := of_decide_eq_true (by first | (with_reducible assumption) | assumption)
          obtain ⟨ad267, e267, hx267_0⟩ := Kd.at_int HR0.out x7_1 p267 q267
          cases e267
          replace p267 := eq_true p267
          replace q267 := eq_true q267
          go_wp2_with (first | (go_at_call 66; (with_reducible refine (spec_l00In.calls (rd l0 x7_1) a1 a2 true _ A6.out).mono ?_); rintro e w' ⟨rfl, ⟨nd, rfl⟩⟩; (try first | exact ⟨rfl, _, World.drewN_drewN _ _ _⟩ | exact ⟨rfl, _, Eq.trans (World.drewN_drewN _ _ _) (congrArg (World.drewN _) (Nat.add_assoc _ _ _))⟩); have p269 : 0 ≤ ((ji9) : Int) := of_decide_eq_true (by first | (with_reducible assumption) | assumption); have q269 : (ji9) < (l0.length : Int) := of_decide_eq_true (by first | (with_reducible assumption) | assumption); obtain ⟨ad269, e269, hx269_0⟩ := Kd.at_int HR0.out (ji9) p269 q269; obtain rfl : ad267 = ad269 := (by injection e269); replace p269 := eq_true p269; replace q269 := eq_true q269; have p270 : 0 ≤ (x7_1 : Int) := of_decide_eq_true (by first | (with_reducible assumption) | assumption); have q270 : x7_1 < (l0.length : Int) := of_decide_eq_true (by first | (with_reducible assumption) | assumption); obtain ⟨ad270, e270, hx270_0⟩ := Kd.at_int HR0.out x7_1 p270 q270; obtain rfl : ad267 = ad270 := (by injection e270); replace p270 := eq_true p270; replace q270 := eq_true q270))
          repeat (go_quiet (first | (go_at_call 66; (with_reducible refine (spec_l00In.calls (rd l0 x7_1) a1 a2 true _ A6.out).mono ?_); rintro e w' ⟨rfl, ⟨nd, rfl⟩⟩; (try first | exact ⟨rfl, _, World.drewN_drewN _ _ _⟩ | exact ⟨rfl, _, Eq.trans (World.drewN_drewN _ _ _) (congrArg (World.drewN _) (Nat.add_assoc _ _ _))⟩); have p269 : 0 ≤ ((ji9) : Int) := of_decide_eq_true (by first | (with_reducible assumption) | assumption); have q269 : (ji9) < (l0.length : Int) := of_decide_eq_true (by first | (with_reducible assumption) | assumption); obtain ⟨ad269, e269, hx269_0⟩ := Kd.at_int HR0.out (ji9) p269 q269; obtain rfl : ad267 = ad269 := (by injection e269); replace p269 := eq_true p269; replace q269 := eq_true q269; have p270 : 0 ≤ (x7_1 : Int) := of_decide_eq_true (by first | (with_reducible assumption) | assumption); have q270 : x7_1 < (l0.length : Int) := of_decide_eq_true (by first | (with_reducible assumption) | assumption); obtain ⟨ad270, e270, hx270_0⟩ := Kd.at_int HR0.out x7_1 p270 q270; obtain rfl : ad267 = ad270 := (by injection e270); replace p270 := eq_true p270; replace q270 := eq_true q270)); try go_wp2_with (first | (go_at_call 66; (with_reducible refine (spec_l00In.calls (rd l0 x7_1) a1 a2 true _ A6.out).mono ?_); rintro e w' ⟨rfl, ⟨nd, rfl⟩⟩; (try first | exact ⟨rfl, _, World.drewN_drewN _ _ _⟩ | exact ⟨rfl, _, Eq.trans (World.drewN_drewN _ _ _) (congrArg (World.drewN _) (Nat.add_assoc _ _ _))⟩); have p269 : 0 ≤ ((ji9) : Int) := of_decide_eq_true (by first | (with_reducible assumption) | assumption); have q269 : (ji9) < (l0.length : Int) := of_decide_eq_true (by first | (with_reducible assumption) | assumption); obtain ⟨ad269, e269, hx269_0⟩ := Kd.at_int HR0.out (ji9) p269 q269; obtain rfl : ad267 = ad269 := (by injection e269); replace p269 := eq_true p269; replace q269 := eq_true q269; have p270 : 0 ≤ (x7_1 : Int) := of_decide_eq_true (by first | (with_reducible assumption) | assumption); have q270 : x7_1 < (l0.length : Int) := of_decide_eq_true (by first | (with_reducible assumption) | assumption); obtain ⟨ad270, e270, hx270_0⟩ := Kd.at_int HR0.out x7_1 p270 q270; obtain rfl : ad267 = ad270 := (by injection e270); replace p270 := eq_true p270; replace q270 := eq_true q270)))
          go_roundg k1
          case measure => have := HK1.out; omega
          case rel => exact ⟨(wrap64 (x7_1 + 1)), (by first | rfl | (simp; done) | (simp [*]; done)), H', ⟨by have := HK1.out; omega⟩, by repeat (first | exact Drawn0.refl _ | apply Drawn0.step)⟩
        ·rw [if_neg c11] at H
         exact absurd H (by simp)
       ·rw [if_neg c10] at H
        exact absurd H (by simp)
      ·rw [if_neg c8] at H
       have c8b0 : decide (0 < x7_1) = false := decide_eq_false c8
       clear c8
       have H' := Aside0.mk H
       clear H
       have p267 : 0 ≤ (x7_1 : Int) := of_decide_eq_true (by first | (with_reducible assumption) | assumption)
       have q267 : x7_1 < (l0.length : Int) := of_decide_eq_true (by first | (with_reducible assumption) | assumption)
       obtain ⟨ad267, e267, hx267_0⟩ := Kd.at_int HR0.out x7_1 p267 q267
       cases e267
       replace p267 := eq_true p267
       replace q267 := eq_true q267
       go_wp2_with (first | (go_at_call 66; (with_reducible refine (spec_l00In.calls (rd l0 x7_1) a1 a2 true _ A6.out).mono ?_); rintro e w' ⟨rfl, ⟨nd, rfl⟩⟩; (try first | exact ⟨rfl, _, World.drewN_drewN _ _ _⟩ | exact ⟨rfl, _, Eq.trans (World.drewN_drewN _ _ _) (congrArg (World.drewN _) (Nat.add_assoc _ _ _))⟩)))
       repeat (go_quiet (first | (go_at_call 66; (with_reducible refine (spec_l00In.calls (rd l0 x7_1) a1 a2 true _ A6.out).mono ?_); rintro e w' ⟨rfl, ⟨nd, rfl⟩⟩; (try first | exact ⟨rfl, _, World.drewN_drewN _ _ _⟩ | exact ⟨rfl, _, Eq.trans (World.drewN_drewN _ _ _) (congrArg (World.drewN _) (Nat.add_assoc _ _ _))⟩))); try go_wp2_with (first | (go_at_call 66; (with_reducible refine (spec_l00In.calls (rd l0 x7_1) a1 a2 true _ A6.out).mono ?_); rintro e w' ⟨rfl, ⟨nd, rfl⟩⟩; (try first | exact ⟨rfl, _, World.drewN_drewN _ _ _⟩ | exact ⟨rfl, _, Eq.trans (World.drewN_drewN _ _ _) (congrArg (World.drewN _) (Nat.add_assoc _ _ _))⟩))))
       go_roundg k1
       case measure => have := HK1.out; omega
       case rel => exact ⟨(wrap64 (x7_1 + 1)), (by first | rfl | (simp; done) | (simp [*]; done)), H', ⟨by have := HK1.out; omega⟩, by repeat (first | exact Drawn0.refl _ | apply Drawn0.step)⟩
     ·replace c7 := Bool.eq_false_iff.mpr c7
      subst c7
      have H1 : (some false) = some r := by rw [if_neg (show ¬ (false = true) by decide)] at H; exact H
      clear H
      have H := H1
      clear H1
      obtain rfl := Option.some.inj H
      have p267 : 0 ≤ (x7_1 : Int) := of_decide_eq_true (by first | (with_reducible assumption) | assumption)
      have q267 : x7_1 < (l0.length : Int) := of_decide_eq_true (by first | (with_reducible assumption) | assumption)
      obtain ⟨ad267, e267, hx267_0⟩ := Kd.at_int HR0.out x7_1 p267 q267
      cases e267
      replace p267 := eq_true p267
      replace q267 := eq_true q267
      go_wp2_with (first | (go_at_call 66; (with_reducible refine (spec_l00In.calls (rd l0 x7_1) a1 a2 false _ A6.out).mono ?_); rintro e w' ⟨rfl, ⟨nd, rfl⟩⟩; (try first | exact ⟨rfl, _, World.drewN_drewN _ _ _⟩ | exact ⟨rfl, _, Eq.trans (World.drewN_drewN _ _ _) (congrArg (World.drewN _) (Nat.add_assoc _ _ _))⟩)))
      repeat (go_quiet (first | (go_at_call 66; (with_reducible refine (spec_l00In.calls (rd l0 x7_1) a1 a2 false _ A6.out).mono ?_); rintro e w' ⟨rfl, ⟨nd, rfl⟩⟩; (try first | exact ⟨rfl, _, World.drewN_drewN _ _ _⟩ | exact ⟨rfl, _, Eq.trans (World.drewN_drewN _ _ _) (congrArg (World.drewN _) (Nat.add_assoc _ _ _))⟩))); try go_wp2_with (first | (go_at_call 66; (with_reducible refine (spec_l00In.calls (rd l0 x7_1) a1 a2 false _ A6.out).mono ?_); rintro e w' ⟨rfl, ⟨nd, rfl⟩⟩; (try first | exact ⟨rfl, _, World.drewN_drewN _ _ _⟩ | exact ⟨rfl, _, Eq.trans (World.drewN_drewN _ _ _) (congrArg (World.drewN _) (Nat.add_assoc _ _ _))⟩))))
      go_ret
      exact ⟨by first | rfl | (simp; done) | (simp [*]; done), by repeat (first | exact Drawn0.refl _ | apply Drawn0.step)⟩
    ·rw [if_neg c5] at H
     exact absurd H (by simp)
   ·rw [if_neg c4] at H
    have c4b0 : decide (x7_1 < (l0.length : Int)) = false := decide_eq_false c4
    clear c4
    obtain rfl := Option.some.inj H
    go_wp2
    repeat (go_quiet (fail); try go_wp2)
    go_ret
    exact ⟨by first | rfl | (simp; done) | (simp [*]; done), by repeat (first | exact Drawn0.refl _ | apply Drawn0.step)⟩

/-! ### spec_l04Members: function 93 -/
def spec_l04Members.f (k : Nat) (l0 : List Int) : Option (Bool) := (spec_l00Rises.f k l0 1 1000).bind fun t271 => (some t271)
theorem spec_l04Members.mono : ∀ a0 k, LeO (spec_l04Members.f k a0) (spec_l04Members.f (k + 1) a0) := by
 intro a0 k
 unfold spec_l04Members.f
 repeat' first
   | (with_reducible exact spec_l00Rises.mono _ _ _ _)
   | (with_reducible exact LeO.refl _)
   | (with_reducible exact LeO.none _)
   | (with_reducible refine LeO.ite ?_ ?_)
   | (with_reducible refine LeO.bind ?_ (fun _ => ?_))
   | exact spec_l00Rises.mono _ _ _ _
   | exact LeO.none _
   | refine LeO.ite ?_ ?_
   | refine LeO.bind ?_ (fun _ => ?_)
set_option maxHeartbeats 8000000 in
set_option maxRecDepth 100000 in
theorem spec_l04Members.calls (k : Nat) (A0 : Option Addr) (c0 : Nat) (l0 : List Int) (r : Bool) (w : World) (hr0 : Kd.C (Kd.int .i64) w A0 l0.length l0) (hc0 : l0.length ≤ c0) (h : spec_l04Members.f k l0 = some r) :
  Calls Try.prog 93 #[.slice A0 l0.length c0] w fun e w' => e = .returned (.bool r) ∧ Drawn0 w w' := by
 have HR0 := Aside0.mk hr0
 have HC0 := Aside0.mk hc0
 clear hr0 hc0
 have H : ((spec_l00Rises.f k l0 1 1000).bind fun t271 => (some t271)) = some r := h
 clear h
 replace H := Option.bind_eq_some_iff.mp H
 obtain ⟨t271, A20, H⟩ := H
 replace H : (some t271) = some r := H
 have A2 := Aside0.mk A20
 clear A20
 obtain rfl := Option.some.inj H
 go_enter Try.func93, Try.ntmps93
 go_wp2_with (first | ((with_reducible refine gate_callee (f := 117) rfl ?_); refine goesL_ (some 4) rfl rfl Try.func117 (by kernel_rfl) rfl #[.slice A0 l0.length c0, .int .i64 1, .int .i64 1000] rfl (by (try simp only [List.map_toArray, List.map_cons, List.map_nil]); first | done | rfl | (simp only [List.length_drop, List.length_take]; rfl)) ?_; (with_reducible refine (spec_l00Rises.calls k _ _ l0 1 1000 t271 _ ?side1 ?side2 A2.out).mono ?_); (case side1 => repeat (first | exact HR0.out | (with_reducible refine Kd.C_alloc ?_ _) | (with_reducible refine Kd.C_drewN ?_ _) | (with_reducible refine Kd.C_drew ?_))); (case side2 => exact HC0.out); rintro e w' ⟨rfl, ⟨nd, rfl⟩⟩; refine ⟨_, rfl, ?_⟩))
 go_ret
 exact ⟨by first | rfl | (simp; done) | (simp [*]; done), by repeat (first | exact Drawn0.refl _ | apply Drawn0.step)⟩

/-! ### spec_l00Has: function 118 -/
def spec_l00Has.l0 : Nat → List Int → Int → Int → Option (Bool)
 | 0, _, _, _ => none
 | k + 1, x0, x1, x5 => if x5 < (x0.length : Int) then (if 0 ≤ x5 then (if (rd x0 x5) = x1 then (some true) else (spec_l00Has.l0 k x0 x1 (wrap64 (x5 + 1)))) else (none)) else (some false)
def spec_l00Has.f (k : Nat) (l0 : List Int) (a1 : Int) : Option (Bool) := spec_l00Has.l0 k l0 a1 0
theorem spec_l00Has.mono_l : ∀ k, (∀ y0 y1 y2, LeO (spec_l00Has.l0 k y0 y1 y2) (spec_l00Has.l0 (k + 1) y0 y1 y2))
 | 0 => fun _ _ _ r h => by simp [spec_l00Has.l0] at h
 | k + 1 => by
  have ih0 := spec_l00Has.mono_l k
  ·intro y0 y1 y2
   unfold spec_l00Has.l0
   repeat' first
   | (with_reducible exact ih0 _ _ _)
   | (with_reducible exact LeO.refl _)
   | (with_reducible exact LeO.none _)
   | (with_reducible refine LeO.ite ?_ ?_)
   | (with_reducible refine LeO.bind ?_ (fun _ => ?_))
   | exact ih0 _ _ _
   | exact LeO.none _
   | refine LeO.ite ?_ ?_
   | refine LeO.bind ?_ (fun _ => ?_)
theorem spec_l00Has.mono : ∀ a0 a1 k, LeO (spec_l00Has.f k a0 a1) (spec_l00Has.f (k + 1) a0 a1) := by
 intro a0 a1 k
 have ih0 := spec_l00Has.mono_l k
 unfold spec_l00Has.f
 repeat' first
   | (with_reducible exact ih0 _ _ _)
   | (with_reducible exact LeO.refl _)
   | (with_reducible exact LeO.none _)
   | (with_reducible refine LeO.ite ?_ ?_)
   | (with_reducible refine LeO.bind ?_ (fun _ => ?_))
   | exact ih0 _ _ _
   | exact LeO.none _
   | refine LeO.ite ?_ ?_
   | refine LeO.bind ?_ (fun _ => ?_)
set_option maxHeartbeats 8000000 in
set_option maxRecDepth 100000 in
theorem spec_l00Has.calls (k : Nat) (A0 : Option Addr) (c0 : Nat) (l0 : List Int) (a1 : Int) (r : Bool) (w : World) (hr0 : Kd.C (Kd.int .i64) w A0 l0.length l0) (hc0 : l0.length ≤ c0) (h : spec_l00Has.f k l0 a1 = some r) :
  Calls Try.prog 118 #[.slice A0 l0.length c0, .int .i64 a1] w fun e w' => e = .returned (.bool r) ∧ Drawn0 w w' := by
 have HR0 := Aside0.mk hr0
 have HC0 := Aside0.mk hc0
 clear hr0 hc0
 have H : (spec_l00Has.l0 k l0 a1 0) = some r := h
 clear h
 have H' := Aside0.mk H
 clear H
 go_enter Try.func118, Try.ntmps118
 go_wp2
 go_loopg [5] k (fun kq v5 w' => ∃ (x5_1 : Int), v5 = .int .i64 x5_1 ∧ Aside0 (spec_l00Has.l0 kq l0 a1 x5_1 = some r) ∧ Aside0 (kq ≤ k) ∧ Drawn0 w w')
 case atStart => exact ⟨(0), (by first | rfl | (simp; done) | (simp [*]; done)), H', ⟨Nat.le_refl _⟩, by repeat (first | exact Drawn0.refl _ | apply Drawn0.step)⟩
 case round =>
  clear H'
  try clear c1
  try clear p2
  obtain ⟨x5_1, rfl, HA, HK1, ⟨m1, rfl⟩⟩ := hrel
  cases gk with
  | zero => exact absurd HA.out (by simp [spec_l00Has.l0])
  | succ k1 =>
   have H := HA.out
   clear HA
   simp only [spec_l00Has.l0] at H
   by_cases c3 : x5_1 < (l0.length : Int)
   ·rw [if_pos c3] at H
    have c3b0 : decide (x5_1 < (l0.length : Int)) = true := decide_eq_true c3
    clear c3
    by_cases c4 : 0 ≤ x5_1
    ·rw [if_pos c4] at H
     have c4b0 : decide (0 ≤ x5_1) = true := decide_eq_true c4
     clear c4
     by_cases c5 : (rd l0 x5_1) = a1
     ·rw [if_pos c5] at H
      have c5b0 : ((rd l0 x5_1) == a1) = true := beq_iff_eq.mpr c5
      have c5b1 : ((rd l0 x5_1) != a1) = false := bne_eq_false_iff_eq.mpr c5
      clear c5
      obtain rfl := Option.some.inj H
      have p272 : 0 ≤ (x5_1 : Int) := of_decide_eq_true (by first | (with_reducible assumption) | assumption)
      have q272 : x5_1 < (l0.length : Int) := of_decide_eq_true (by first | (with_reducible assumption) | assumption)
      obtain ⟨ad272, e272, hx272_0⟩ := Kd.at_int HR0.out x5_1 p272 q272
      cases e272
      replace p272 := eq_true p272
      replace q272 := eq_true q272
      go_wp2
      go_ret
      exact ⟨by first | rfl | (simp; done) | (simp [*]; done), by repeat (first | exact Drawn0.refl _ | apply Drawn0.step)⟩
     ·rw [if_neg c5] at H
      have c5b0 : ((rd l0 x5_1) == a1) = false := beq_eq_false_iff_ne.mpr c5
      have c5b1 : ((rd l0 x5_1) != a1) = true := bne_iff_ne.mpr c5
      have H' := Aside0.mk H
      clear H
      have p272 : 0 ≤ (x5_1 : Int) := of_decide_eq_true (by first | (with_reducible assumption) | assumption)
      have q272 : x5_1 < (l0.length : Int) := of_decide_eq_true (by first | (with_reducible assumption) | assumption)
      obtain ⟨ad272, e272, hx272_0⟩ := Kd.at_int HR0.out x5_1 p272 q272
      cases e272
      replace p272 := eq_true p272
      replace q272 := eq_true q272
      go_wp2
      go_roundg k1
      case measure => have := HK1.out; omega
      case rel => exact ⟨(wrap64 (x5_1 + 1)), (by first | rfl | (simp; done) | (simp [*]; done)), H', ⟨by have := HK1.out; omega⟩, by repeat (first | exact Drawn0.refl _ | apply Drawn0.step)⟩
    ·rw [if_neg c4] at H
     exact absurd H (by simp)
   ·rw [if_neg c3] at H
    have c3b0 : decide (x5_1 < (l0.length : Int)) = false := decide_eq_false c3
    clear c3
    obtain rfl := Option.some.inj H
    go_wp2
    go_ret
    exact ⟨by first | rfl | (simp; done) | (simp [*]; done), by repeat (first | exact Drawn0.refl _ | apply Drawn0.step)⟩

/-! ### spec_SendTo: function 52 (by hand; numbers of the seat jaa) -/
set_option maxHeartbeats 16000000 in
set_option maxRecDepth 100000 in
theorem l04send_calls (k n : Nat) (hn : n ≤ 1000) (hn1 : 1 ≤ n) (has : Int → Bool) (ms : List Int) (A1 : Option Addr) (c1 : Nat) (hmc : ms.length ≤ c1) (p : S60) (bs : List S58) (hbl : ∀ b ∈ bs, b.f3.length ≤ 900) (hbn : bs.length ≤ 1000)
  (hhas : ∀ b ∈ bs, spec_l00Has.f k ms b.f1 = some (has b.f1)) {W : World} {base gO : Nat} {v : Value} {ok : Nat → Prop} (hbase : base ≤ W.heap.size)
  (hC : ∀ W', Below base W W' → Kd.C (Kd.int .i64) W' A1 ms.length ms) (hK : W.heap[gO]? = some (.cells #[.int .i64 n, v] 29 (0, 0))) (hS : Kd.S k58 58 W base ok v bs) (hfresh : ∀ k, W.heap.size ≤ k → ok k) (hokO : ¬ ok gO) :
  Calls Try.prog 95 #[.pointer (some ⟨gO, 0, none⟩), .slice A1 ms.length c1, .agg #[.int .i64 p.f0, .int .i64 p.f1]] W fun e w' => e = .returned (.int .i64 (cntB has bs bs.length)) ∧ Kd.S k58 58 w' base ok v (bs.map (sendB n has p)) ∧ Below base W w' ∧ Kept W w' ok := by
 obtain ⟨Av, cv, ev⟩ := Kd.S_slice hS
 subst ev
 have hgO := blk_lt hK
 have HC := Aside0.mk hC
 have HBL := Aside0.mk hbl
 have HH := Aside0.mk hhas
 have OKO := Aside0.mk hokO
 have FR := Aside0.mk hfresh
 have K0 := Aside0.mk hK
 obtain ⟨ok', hok'⟩ : ∃ ok' : Nat → Prop, ok' = fun k => ok k ∧ k ≠ W.heap.size := ⟨_, rfl⟩
 have EOK := Aside0.mk hok'
 have P1 := Aside0.mk (heap_alloc_new W (.cells #[.int .i64 p.f0, .int .i64 p.f1] 60))
 have K1 := Aside0.mk (blk_alloc hK (.cells #[.int .i64 p.f0, .int .i64 p.f1] 60))
 have S1 := Aside0.mk (Kd.S_alloc (Kd.S_mono (Kd.S_bound hS) (ok' := ok') (fun k h => by rw [hok']; exact ⟨h.1, by have := h.2.2.1; omega⟩)) (.cells #[.int .i64 p.f0, .int .i64 p.f1] 60))
 have B1 := Aside0.mk ((below_alloc (Below.refl W.heap.size W) (.cells #[.int .i64 p.f0, .int .i64 p.f1] 60)).mono hbase)
 have z1 : (W.alloc (.cells #[.int .i64 p.f0, .int .i64 p.f1] 60)).heap.size = W.heap.size + 1 := by simp
 have hc1 : (W.alloc (.cells #[.int .i64 p.f0, .int .i64 p.f1] 60)).cell? ⟨gO, 1, none⟩ = some (.slice Av bs.length cv) := (blk_cell K1.out 1).trans rfl
 obtain ⟨W1, hW1⟩ : ∃ W1, W1 = W.alloc (.cells #[.int .i64 p.f0, .int .i64 p.f1] 60) := ⟨_, rfl⟩
 have hNO : ¬ ok' gO := by rw [hok']; exact fun h => hokO h.1
 have hNP : ¬ ok' W.heap.size := by rw [hok']; exact fun h => h.2 rfl
 have hF' : ∀ k, W1.heap.size ≤ k → ok' k := by rw [hok', hW1, z1]; exact fun k h => ⟨hfresh k (by omega), by omega⟩
 have NO := Aside0.mk hNO
 have NP := Aside0.mk hNP
 have F1 := Aside0.mk hF'
 have E1 := Aside0.mk hW1
 clear hK hS hC hbl hhas hokO hfresh hok' hNO hNP hF' hW1
 go_enter Try.func95, Try.ntmps95
 go_wp2
 have P1' : Aside0 (W1.heap[W.heap.size]? = some (.cells #[.int .i64 p.f0, .int .i64 p.f1] 60 (0, 0))) := ⟨by rw [E1.out]; exact P1.out⟩
 have K1' : Aside0 (W1.heap[gO]? = some (.cells #[.int .i64 n, .slice Av bs.length cv] 29 (0, 0))) := ⟨by rw [E1.out]; exact K1.out⟩
 have S1' : Aside0 (Kd.S k58 58 W1 base ok' (.slice Av bs.length cv) (part (sendB n has p) bs 0)) := ⟨by rw [E1.out, show part (sendB n has p) bs 0 = bs by simp [part]]; exact S1.out⟩
 have B1' : Aside0 (Below base W W1) := ⟨by rw [E1.out]; exact B1.out⟩
 rw [← E1.out]
 clear P1 K1 S1 B1 hc1
 go_loopg [7, 8, 9] bs.length (fun gg s7 s8 _ wr => ∃ i : Nat, i ≤ bs.length ∧ bs.length - i ≤ gg ∧ s7 = .int .i64 (cntB has bs i) ∧ s8 = .int .i64 i ∧ Aside0 (Kd.S k58 58 wr base ok' (.slice Av bs.length cv) (part (sendB n has p) bs i)) ∧ Aside0 (Below base W wr) ∧ Aside0 (Kept W1 wr ok'))
 case atStart => exact ⟨0, Nat.zero_le _, by omega, by rw [cntB_zero]; rfl, rfl, S1', B1', ⟨Kept.refl _ _⟩⟩
 case round =>
  clear S1' B1' K1' P1'
  obtain ⟨i, hi, hgg, rfl, rfl, HS, HB, KP⟩ := hrel
  have hcn := cntB_le has bs i
  have hwc : wrap64 ((cntB has bs i : Int) + 1) = (cntB has bs i : Int) + 1 := by unfold wrap64; omega
  by_cases hlt : i < bs.length
  ·have hltz : (i : Int) < (bs.length : Int) := by omega
   have HKr : Aside0 (wr.heap[gO]? = some (.cells #[.int .i64 n, .slice Av bs.length cv] 29 (0, 0))) := ⟨blk_kept (by rw [E1.out]; exact blk_alloc K0.out _) KP.out NO.out⟩
   have HPr : Aside0 (wr.heap[W.heap.size]? = some (.cells #[.int .i64 p.f0, .int .i64 p.f1] 60 (0, 0))) := ⟨blk_kept (by rw [E1.out]; exact heap_alloc_new W _) KP.out NP.out⟩
   obtain ⟨gb, cap, eb, hgb, hgb2, cellsb, hcb⟩ := Kd.S_form HS.out (by rw [part_len]; omega)
   rw [part_len] at eb
   injection eb with eA _ eC
   subst eA
   subst eC
   have hxi := part_at (sendB n has p) bs i hlt
   have hbk : bs[i].f3.length ≤ 900 := HBL.out _ (List.getElem_mem hlt)
   have hhk := HH.out _ (List.getElem_mem hlt)
   obtain ⟨oki, c, hcl, hM, hcc, hfr, hoki, hH⟩ := Kd.S_elem HS.out z58 (i : Int) (by omega) (by omega)
   rw [Int.toNat_natCast, hxi] at hM
   rw [Int.toNat_natCast] at hcc hfr
   obtain ⟨v3, rfl, hR⟩ := k58_openM hM
   obtain ⟨A3, c3, e3⟩ := Kd.R_slice hR
   subst e3
   have hx0 : wr.cell? ⟨gO, 1, none⟩ = some (.slice (some ⟨gb, 0, none⟩) bs.length cv) := (blk_cell HKr.out 1).trans rfl
   have hx1 : wr.cell? ⟨gb, i * 4 + 1, none⟩ = some (.int .i64 bs[i].f1) := hcc 1 _ rfl
   have CB := Aside0.mk hcb
   have RR := Aside0.mk hR
   have HHo := Aside0.mk hH
   have OKI := Aside0.mk hoki
   have hx3 := hcc 3 _ rfl
   have X3 := Aside0.mk hx3
   clear hR hM hcc hfr hcl hH hoki hcb hx3
   have CC := Aside0.mk (HC.out wr HB.out)
   cases hhb : has bs[i].f1 with
   | false =>
    rw [hhb] at hhk
    have HK2 := Aside0.mk hhk
    clear hhk
    go_wp2_with (go_at_call 118; refine (spec_l00Has.calls k A1 c1 ms bs[i].f1 false wr CC.out hmc HK2.out).mono ?_; clear hx0 hx1; rintro e w5 ⟨rfl, hb5⟩; have HB5 := Aside0.mk (show Below wr.heap.size wr w5 from hb5.below); clear hb5)
    have hst : part (sendB n has p) bs (i + 1) = part (sendB n has p) bs i := by
     have h1 := part_set (sendB n has p) bs i hlt
     have h2 : sendB n has p bs[i] = bs[i] := by unfold sendB; rw [if_neg (by rw [hhb]; decide)]
     rw [← h1, h2, ← hxi]
     exact set_getD_self _ _ (by rw [part_len]; exact hlt)
    have hcnt : cntB has bs (i + 1) = cntB has bs i := by rw [cntB_succ _ _ _ hlt, hhb]; rfl
    have HS6 := Aside0.mk (Kd.S_below HS.out HB5.out)
    rw [← hst] at HS6
    have HB6 := Aside0.mk (HB.out.trans (HB5.out.mono (Nat.le_trans hbase HB.out.size)))
    have KP6 := Aside0.mk (KP.out.below HB5.out)
    clear hst
    go_wp2
    go_roundg (bs.length - (i + 1))
    all_goals (first | omega | exact ⟨i + 1, by omega, by omega, by rw [hcnt], by simp, HS6, HB6, KP6⟩)
   | true =>
    rw [hhb] at hhk
    have HK2 := Aside0.mk hhk
    clear hhk
    go_wp2_with (go_at_call 118; refine (spec_l00Has.calls k A1 c1 ms bs[i].f1 true wr CC.out hmc HK2.out).mono ?_; clear hx0 hx1; rintro e w5 ⟨rfl, hb5⟩; have HB5 := Aside0.mk (show Below wr.heap.size wr w5 from hb5.below); clear hb5)
    have hb5s : base ≤ wr.heap.size := Nat.le_trans hbase HB.out.size
    have CB5 := Aside0.mk (blk_bel CB.out HB5.out)
    have HP5 := Aside0.mk (blk_bel HPr.out HB5.out)
    have R5 := Aside0.mk (Kd.R_below RR.out HB5.out)
    have BW5 := Aside0.mk (HB.out.trans (HB5.out.mono hb5s))
    have KP5 := Aside0.mk (KP.out.below HB5.out)
    have hokg : ok' gb := HS.out.choose_spec.1 gb (by simp [Value.ownBlock])
    obtain ⟨ok7, hok7⟩ : ∃ ok7 : Nat → Prop, ok7 = fun k => oki k ∨ ok' k ∧ w5.heap.size ≤ k := ⟨_, rfl⟩
    have E7 := Aside0.mk hok7
    have hz5 : (w5.alloc (.cells #[.int .i64 p.f0, .int .i64 p.f1] 60)).drew.heap.size = w5.heap.size + 1 := by simp
    have hW15 : W1.heap.size ≤ w5.heap.size := KP5.out.1
    have H7 : Aside0 (Kd.H k58 58 (w5.alloc (.cells #[.int .i64 p.f0, .int .i64 p.f1] 60)).drew base ok' (.slice (some ⟨gb, 0, none⟩) bs.length cv) (part (sendB n has p) bs i) i ok7 [.string bs[i].f0, .int .i64 bs[i].f1, .int .i64 bs[i].f2, .slice A3 bs[i].f3.length c3]) := ⟨by rw [hok7]; exact Kd.H_drew (Kd.H_alloc (Kd.H_widen (Kd.H_below HHo.out HB5.out)) _)⟩
    have R7 : Aside0 (Kd.R k60 60 (w5.alloc (.cells #[.int .i64 p.f0, .int .i64 p.f1] 60)).drew base ok7 (.slice A3 bs[i].f3.length c3) bs[i].f3) := ⟨by rw [hok7]; exact Kd.R_mono (Kd.R_drew (Kd.R_alloc R5.out _)) (fun k h => .inl h)⟩
    have CB7 : Aside0 ((w5.alloc (.cells #[.int .i64 p.f0, .int .i64 p.f1] 60)).drew.heap[gb]? = some (.cells cellsb 58 (0, 0))) := ⟨blk_alloc CB5.out (.cells #[.int .i64 p.f0, .int .i64 p.f1] 60)⟩
    have LIT : Aside0 (Kd.R k60 60 (w5.alloc (.cells #[.int .i64 p.f0, .int .i64 p.f1] 60)).drew base (fun _ => True) (.slice (some ⟨w5.heap.size, 0, none⟩) 1 1) [p]) := ⟨mkP (l := [p]) (cap := 1) (cur := #[.int .i64 p.f0, .int .i64 p.f1]) trivial (Nat.le_trans hb5s HB5.out.size) (heap_alloc_new w5 _) (Nat.le_refl _) (by decide) rfl rfl⟩
    have BA := Aside0.mk (BW5.out.alloc (Nat.le_trans hb5s HB5.out.size) (.cells #[.int .i64 p.f0, .int .i64 p.f1] 60)).drew
    have hF7 : ∀ k, (w5.alloc (.cells #[.int .i64 p.f0, .int .i64 p.f1] 60)).drew.heap.size ≤ k → ok7 k := by rw [hok7, hz5]; exact fun k h => .inr ⟨F1.out k (by omega), by omega⟩
    have F7 := Aside0.mk hF7
    have SZA : base ≤ (w5.alloc (.cells #[.int .i64 p.f0, .int .i64 p.f1] 60)).drew.heap.size := by rw [hz5]; have := HB5.out.size; omega
    have hl3 : w5.cell? ⟨gb, i * 4 + 3, none⟩ = some (.slice A3 bs[i].f3.length c3) := (blk_cell CB5.out _).trans ((blk_cell CB.out _).symm.trans X3.out)
    have hlp0 : w5.cell? ⟨W.heap.size, 0, none⟩ = some (.int .i64 p.f0) := (blk_cell HP5.out 0).trans rfl
    have hlp1 : w5.cell? ⟨W.heap.size, 1, none⟩ = some (.int .i64 p.f1) := (blk_cell HP5.out 1).trans rfl
    have hla : (w5.alloc (.cells #[.int .i64 p.f0, .int .i64 p.f1] 60)).cell? ⟨gb, i * 4 + 3, none⟩ = some (.slice A3 bs[i].f3.length c3) := (blk_cell (show (w5.alloc (.cells #[.int .i64 p.f0, .int .i64 p.f1] 60)).heap[gb]? = _ from CB7.out) _).trans ((blk_cell CB.out _).symm.trans X3.out)
    clear hok7 hF7
    go_wp2_with fail
    go_region_law (refine Kd.R_append_rows_step k60 (w0 := W) base (by simp [Region.wanted]) (.tmp 35) (.tmp 37) 52 60 (.agg #[(.int .i64 0), (.int .i64 0)]) 16 rfl Try.underlying52 info60 rfl (by decide) (by omega) (.slice A3 bs[i].f3.length c3) bs[i].f3 [p] _ _ _ ok7 (fun _ => False) (by simp [Act.eval, Act.put]) (by simp [Act.eval, Act.put]; first | done | rfl) R7.out (Kd.R_reads' LIT.out).2.2 (fun _ _ h => h) (fun _ h => h.elim) F7.out BA.out SZA (by simp only [List.length_cons, List.length_nil]; omega) ?_; intro v6 w6 ho hb hg _; obtain ⟨A6, c6, e6⟩ := Kd.R_slice ho; subst e6; have R6 := Aside0.mk ho; have B6 := Aside0.mk hb; have G6 := Aside0.mk hg; have CB6 := Aside0.mk (blk_grown CB7.out hg (Kd.R_ne R7.out CB7.out (by decide))); have hy3 : w6.cell? ⟨gb, i * 4 + 3, none⟩ = some (.slice A3 bs[i].f3.length c3) := (blk_cell CB6.out _).trans ((blk_cell CB.out _).symm.trans X3.out); have hyf3 := blk_frozen CB6.out (i * 4 + 3); clear ho hb hg)
    all_goals
     have HM := k58_mkM w6 base ok7 (⟨bs[i].f0, bs[i].f1, bs[i].f2, bs[i].f3 ++ [p]⟩ : S58) R6.out
     have HS6 := (Kd.S_seg0 (Kd.H_grown H7.out G6.out (fun k hk => R7.out.1 k hk)) (by omega) (by omega) (seg := [.slice A6 (bs[i].f3 ++ [p]).length c6]) (j := 3) (Nat.le_refl 4) (x' := (⟨bs[i].f0, bs[i].f1, bs[i].f2, bs[i].f3 ++ [p]⟩ : S58)) HM (fun _ hk => hk)).1
     rw [Int.toNat_natCast] at HS6
     have BW6 := Aside0.mk (B6.out.setCell (p := ⟨gb, i * 4 + 3, none⟩) (Nat.le_trans (Nat.le_refl _) hgb) (.slice A6 (bs[i].f3 ++ [p]).length c6))
     have KP6 := Aside0.mk ((Kept.of_grown G6.out ((KP5.out.alloc (.cells #[.int .i64 p.f0, .int .i64 p.f1] 60)).drew) (fun k hk => .inl (by have h7 := R7.out.1 k hk; rw [E7.out] at h7; exact h7.elim (fun h => (OKI.out k h).1) (fun h => h.1)))).setCell (p := ⟨gb, i * 4 + 3, none⟩) (.inl hokg) (.slice A6 (bs[i].f3 ++ [p]).length c6))
     have HS6' := Aside0.mk HS6
     clear HM HS6 H7 R7 LIT R6 B6 G6 hl3 hla hlp0 hlp1 hy3 hyf3 HS HB KP KP5 BW5 BA R5 HB5 CC HHo RR CB HPr HKr HP5 CB5 CB7 CB6
     obtain ⟨wq, hwq⟩ : ∃ wq, wq = w6.setCell ⟨gb, i * 4 + 3, none⟩ (.slice A6 (bs[i].f3 ++ [p]).length c6) := ⟨_, rfl⟩
     have S7 : Aside0 (Kd.S k58 58 wq base ok' (.slice (some ⟨gb, 0, none⟩) bs.length cv) ((part (sendB n has p) bs i).set i (⟨bs[i].f0, bs[i].f1, bs[i].f2, bs[i].f3 ++ [p]⟩ : S58))) := ⟨by rw [hwq]; exact HS6'.out⟩
     rw [← hwq] at BW6 KP6
     first | rw [← hwq] | (simp only [List.length_append, List.length_cons, List.length_nil] at hwq ⊢; rw [← hwq])
     have HKq : Aside0 (wq.heap[gO]? = some (.cells #[.int .i64 n, .slice (some ⟨gb, 0, none⟩) bs.length cv] 29 (0, 0))) := ⟨blk_kept (by rw [E1.out]; exact blk_alloc K0.out _) KP6.out NO.out⟩
     have hxq : wq.cell? ⟨gO, 0, none⟩ = some (.int .i64 n) := (blk_cell HKq.out 0).trans rfl
     have TE := Aside0.mk (fit_elem (b := (⟨bs[i].f0, bs[i].f1, bs[i].f2, bs[i].f3 ++ [p]⟩ : S58)) (n := n) S7.out hlt (by rw [List.getD_eq_getElem?_getD, List.getElem?_set_self (by rw [part_len]; exact hlt)]; rfl) (by show (bs[i].f3 ++ [p]).length ≤ 1000; rw [List.length_append, List.length_cons, List.length_nil]; omega) hn (Nat.le_trans hbase BW6.out.size) (fun k h => F1.out k (Nat.le_trans KP6.out.1 h)) hn1)
     clear HS6' hwq S7 HKq
     go_wp2_with (go_at_call 89; refine TE.out.mono ?_; clear hxq; rintro e w8 ⟨rfl, hs8, hb8, hk8⟩; have WC := Aside0.mk hwc; clear hz5 SZA hW15 hwc hltz; have S8 := Aside0.mk hs8; have B8 := Aside0.mk (BW6.out.trans hb8); have K8 := Aside0.mk (KP6.out.then_ hk8 (fun k h => .inl h)); clear hs8 hb8 hk8)
     have hsb : fitB n (⟨bs[i].f0, bs[i].f1, bs[i].f2, bs[i].f3 ++ [p]⟩ : S58) = sendB n has p bs[i] := by unfold sendB; rw [if_pos hhb]
     have hcnt : cntB has bs (i + 1) = cntB has bs i + 1 := by rw [cntB_succ _ _ _ hlt, hhb]; rfl
     have S9 := S8.out
     rw [List.set_set, hsb, part_set _ _ _ hlt] at S9
     have S10 := Aside0.mk S9
     clear S9 S8 hsb TE BW6 KP6
     go_roundg (bs.length - (i + 1))
     all_goals (first | omega | exact ⟨i + 1, by omega, by omega, by rw [hcnt]; first | rfl | simp | (rw [WC.out]; first | rfl | simp), by simp, S10, B8, K8⟩)
  ·have hieq : i = bs.length := by omega
   subst hieq
   rw [part_end] at HS
   have HKr : Aside0 (wr.heap[gO]? = some (.cells #[.int .i64 n, .slice Av bs.length cv] 29 (0, 0))) := ⟨blk_kept (by rw [E1.out]; exact blk_alloc K0.out _) KP.out NO.out⟩
   have hx0 : wr.cell? ⟨gO, 1, none⟩ = some (.slice Av bs.length cv) := (blk_cell HKr.out 1).trans rfl
   go_wp2
   go_ret
   refine ⟨rfl, Kd.S_mono HS.out (fun k h => by rw [EOK.out] at h; exact h.1), HB.out, ?_⟩
   refine ⟨Nat.le_trans (by rw [E1.out, z1]; omega) KP.out.1, fun g hg hng => (KP.out.2 g (by rw [E1.out, z1]; omega) (fun h => by rw [EOK.out] at h; exact hng h.1)).trans (by rw [E1.out]; exact Below.heap_alloc W _ g hg)⟩
def guardU (k : Nat) (ms : List Int) (lim : Int) (bs : List S58) : Prop := (1 ≤ lim ∧ lim ≤ 64) ∧ bs.length ≤ 32 ∧ (∀ b ∈ bs, b.f3.length ≤ 64) ∧ ∀ b ∈ bs, spec_l00Has.f k ms b.f1 = some (hasI ms b.f1)
instance (k : Nat) (ms : List Int) (lim : Int) (bs : List S58) : Decidable (guardU k ms lim bs) := by unfold guardU; infer_instance
def spec_SendTo.f (k : Nat) (a0 : Int) (l0 : List S58) (ms : List Int) (p0 p1 : Int) : Option (Int × List S58 × Int × Bool) :=
 (spec_l04Is.f k a0 l0).bind fun t1 => if t1 = true then ((spec_l04Members.f k ms).bind fun t2 => if t2 = true then ((spec_l04Parcel.f p0 p1).bind fun t3 => if t3 = true then ((spec_l04Copy.f k a0 l0).bind fun t4 => if guardU k ms t4.1 t4.2 then ((spec_l04Is.f k t4.1 (t4.2.map (sendB t4.1.toNat (hasI ms) ⟨p0, p1⟩))).bind fun t5 => if t5 = true then some (t4.1, t4.2.map (sendB t4.1.toNat (hasI ms) ⟨p0, p1⟩), ((cntA (hasI ms) t4.2 : Nat) : Int), true) else some (0, [], 0, false)) else none) else some (0, [], 0, false)) else some (0, [], 0, false)) else some (0, [], 0, false)
theorem guardU_mono {k : Nat} {ms : List Int} {lim : Int} {bs : List S58} (h : guardU k ms lim bs) : guardU (k + 1) ms lim bs :=
 ⟨h.1, h.2.1, h.2.2.1, fun b hb => spec_l00Has.mono _ _ _ _ (h.2.2.2 b hb)⟩
theorem spec_SendTo.mono : ∀ a0 a1 a2 a3 a4 k, LeO (spec_SendTo.f k a0 a1 a2 a3 a4) (spec_SendTo.f (k + 1) a0 a1 a2 a3 a4) := by
 intro a0 a1 ms p0 p1 k
 unfold spec_SendTo.f
 refine LeO.bind (spec_l04Is.mono _ _ _) fun t1 => LeO.ite (LeO.bind (spec_l04Members.mono _ _) fun t2 => LeO.ite (LeO.bind (LeO.refl _) fun t3 => LeO.ite (LeO.bind (spec_l04Copy.mono _ _ _) fun t4 => ?_) (LeO.refl _)) (LeO.refl _)) (LeO.refl _)
 intro r hr
 by_cases h : guardU k ms t4.1 t4.2
 ·rw [if_pos h] at hr; rw [if_pos (guardU_mono h)]; exact LeO.bind (spec_l04Is.mono _ _ _) (fun _ => LeO.refl _) r hr
 ·rw [if_neg h] at hr; cases hr
set_option maxHeartbeats 8000000 in
set_option maxRecDepth 100000 in
theorem spec_SendTo.calls (k : Nat) (a0 : Int) (A0 : Option Addr) (c0 : Nat) (l0 : List S58) (A1 : Option Addr) (c1 : Nat) (l1 : List Int) (p0 p1 : Int) (r1 : Int) (r2 : List S58) (r3 : Int) (r4 : Bool) (w : World) (hr0 : Kd.C k58 w A0 l0.length l0) (hc0 : l0.length ≤ c0) (hr1 : Kd.C (Kd.int .i64) w A1 l1.length l1) (hc1 : l1.length ≤ c1) (h : spec_SendTo.f k a0 l0 l1 p0 p1 = some (r1, r2, r3, r4)) :
  Calls Try.prog 52 #[.agg #[.int .i64 a0, .slice A0 l0.length c0], .slice A1 l1.length c1, .agg #[.int .i64 p0, .int .i64 p1]] w fun e w' => ∃ v1_ : Value, e = .returned (.tuple #[.agg #[.int .i64 r1, v1_], .int .i64 r3, .bool r4]) ∧ Kd.S k58 58 w' w.heap.size (fun _ => True) v1_ r2 ∧ Below w.heap.size w w' := by
 unfold spec_SendTo.f at h
 obtain ⟨t1, h1, h⟩ := Option.bind_eq_some_iff.mp h
 have HR0 := Aside0.mk hr0
 have HC0 := Aside0.mk hc0
 have HR1 := Aside0.mk hr1
 have HC1 := Aside0.mk hc1
 have IS := Aside0.mk h1
 have z1 : (w.alloc (.cells #[.int .i64 a0, .slice A0 l0.length c0] 29)).heap.size = w.heap.size + 1 := by simp
 have z2 : ((w.alloc (.cells #[.int .i64 a0, .slice A0 l0.length c0] 29)).alloc (.cells #[.int .i64 p0, .int .i64 p1] 60)).heap.size = w.heap.size + 2 := by simp
 have b2 := Aside0.mk (blk_alloc (blk_alloc (heap_alloc_new w (.cells #[.int .i64 a0, .slice A0 l0.length c0] 29)) (.cells #[.int .i64 p0, .int .i64 p1] 60)) (.cells #[.int .i64 0, .slice none 0 0] 29))
 have b30 := heap_alloc_new (w.alloc (.cells #[.int .i64 a0, .slice A0 l0.length c0] 29)) (.cells #[.int .i64 p0, .int .i64 p1] 60)
 rw [z1] at b30
 have b3 := Aside0.mk (blk_alloc b30 (.cells #[.int .i64 0, .slice none 0 0] 29))
 have b40 := heap_alloc_new ((w.alloc (.cells #[.int .i64 a0, .slice A0 l0.length c0] 29)).alloc (.cells #[.int .i64 p0, .int .i64 p1] 60)) (.cells #[.int .i64 0, .slice none 0 0] 29)
 rw [z2] at b40
 have b4 := Aside0.mk b40
 have HB := Aside0.mk (below_alloc (below_alloc (below_alloc (Below.refl w.heap.size w) (.cells #[.int .i64 a0, .slice A0 l0.length c0] 29)) (.cells #[.int .i64 p0, .int .i64 p1] 60)) (.cells #[.int .i64 0, .slice none 0 0] 29))
 have RPa := Aside0.mk (show RP (((w.alloc (.cells #[.int .i64 a0, .slice A0 l0.length c0] 29)).alloc (.cells #[.int .i64 p0, .int .i64 p1] 60)).alloc (.cells #[.int .i64 0, .slice none 0 0] 29)) ⟨w.heap.size, 0, none⟩ [.int .i64 a0, .slice A0 l0.length c0] from RP.of_block b2.out)
 clear hr0 hc0 hr1 hc1 h1 z1 z2 b30 b40
 cases t1 with
 | false =>
  rw [if_neg (by simp)] at h
  injection h with h
  simp only [Prod.mk.injEq] at h
  obtain ⟨rfl, rfl, rfl, rfl⟩ := h
  have st0 : True := trivial
  go_enter Try.func52, Try.ntmps52
  go_wp2_with (go_at_call 69; have _g := st0; clear _g st0; refine (spec_l04Is.calls k ⟨w.heap.size, 0, none⟩ a0 A0 c0 l0 false _ RPa.out ?s69 HC0.out IS.out).mono ?_; (case s69 => repeat (first | exact HR0.out | (with_reducible refine Kd.C_alloc ?_ _))); rintro e w1 ⟨rfl, hb1⟩; have HB1 := Aside0.mk hb1; have b41 := Aside0.mk (blk_bel b4.out hb1); have b21 := Aside0.mk (blk_bel b2.out hb1); have b31 := Aside0.mk (blk_bel b3.out hb1); clear hb1; have hz0 : w1.cell? ⟨w.heap.size + 2, 0, none⟩ = some (.int .i64 0) := (blk_cell b41.out 0).trans rfl; have hz1 : w1.cell? ⟨w.heap.size + 2, 1, none⟩ = some (.slice none 0 0) := (blk_cell b41.out 1).trans rfl; have hf0 := blk_frozen b41.out 0; have hf1 := blk_frozen b41.out 1)
  refine bodyPost_ret (results_ctt rfl _ _ (w.heap.size + 2) 29 #[.int .i64 0, .slice none 0 0] (0, 0) _ rfl (by refine blk_put (cs := #[.int .i64 0, .slice none 0 0]) ?_ 1 _ rfl; refine blk_put (cs := #[.int .i64 0, .slice none 0 0]) ?_ 0 _ rfl; exact b41.out) Try.underlying29 rfl (by kernel_rfl)) rfl ?_
  exact ⟨_, rfl, Kd.S_nil _ _ _ _ _, below_set (below_set (HB.out.trans (HB1.out.mono HB.out.size)) (by omega)) (by omega)⟩
 | true =>
  rw [if_pos rfl] at h
  obtain ⟨t2, h2, h⟩ := Option.bind_eq_some_iff.mp h
  have MB := Aside0.mk h2
  clear h2
  cases t2 with
  | false =>
   rw [if_neg (by simp)] at h
   injection h with h
   simp only [Prod.mk.injEq] at h
   obtain ⟨rfl, rfl, rfl, rfl⟩ := h
   have st0 : True := trivial
   go_enter Try.func52, Try.ntmps52
   go_wp2_with (first | (go_at_call 69; have _g := st0; clear _g st0; refine (spec_l04Is.calls k ⟨w.heap.size, 0, none⟩ a0 A0 c0 l0 true _ RPa.out ?s69 HC0.out IS.out).mono ?_; (case s69 => repeat (first | exact HR0.out | (with_reducible refine Kd.C_alloc ?_ _))); rintro e w1 ⟨rfl, hb1⟩; have HB1 := Aside0.mk hb1; have b41 := Aside0.mk (blk_bel b4.out hb1); have b21 := Aside0.mk (blk_bel b2.out hb1); have b31 := Aside0.mk (blk_bel b3.out hb1); clear hb1) | (go_at_call 93; refine (spec_l04Members.calls k A1 c1 l1 false w1 (Kd.C_below ?s93 HB1.out) HC1.out MB.out).mono ?_; (case s93 => repeat (first | exact HR1.out | (with_reducible refine Kd.C_alloc ?_ _))); rintro e w2 ⟨rfl, hb2⟩; have HB2 := Aside0.mk (HB1.out.trans (hb2.below.mono HB1.out.size)); have b42 := Aside0.mk (blk_bel b41.out hb2.below); have b22 := Aside0.mk (blk_bel b21.out hb2.below); have b32 := Aside0.mk (blk_bel b31.out hb2.below); clear hb2; have hz0 : w2.cell? ⟨w.heap.size + 2, 0, none⟩ = some (.int .i64 0) := (blk_cell b42.out 0).trans rfl; have hz1 : w2.cell? ⟨w.heap.size + 2, 1, none⟩ = some (.slice none 0 0) := (blk_cell b42.out 1).trans rfl; have hf0 := blk_frozen b42.out 0; have hf1 := blk_frozen b42.out 1))
   refine bodyPost_ret (results_ctt rfl _ _ (w.heap.size + 2) 29 #[.int .i64 0, .slice none 0 0] (0, 0) _ rfl (by refine blk_put (cs := #[.int .i64 0, .slice none 0 0]) ?_ 1 _ rfl; refine blk_put (cs := #[.int .i64 0, .slice none 0 0]) ?_ 0 _ rfl; exact b42.out) Try.underlying29 rfl (by kernel_rfl)) rfl ?_
   exact ⟨_, rfl, Kd.S_nil _ _ _ _ _, below_set (below_set (HB.out.trans (HB2.out.mono HB.out.size)) (by omega)) (by omega)⟩
  | true =>
   rw [if_pos rfl] at h
   obtain ⟨t3, h3, h⟩ := Option.bind_eq_some_iff.mp h
   have PK := Aside0.mk h3
   clear h3
   cases t3 with
   | false =>
    rw [if_neg (by simp)] at h
    injection h with h
    simp only [Prod.mk.injEq] at h
    obtain ⟨rfl, rfl, rfl, rfl⟩ := h
    have st0 : True := trivial
    go_enter Try.func52, Try.ntmps52
    go_wp2_with (first | (go_at_call 69; have _g := st0; clear _g st0; refine (spec_l04Is.calls k ⟨w.heap.size, 0, none⟩ a0 A0 c0 l0 true _ RPa.out ?s69 HC0.out IS.out).mono ?_; (case s69 => repeat (first | exact HR0.out | (with_reducible refine Kd.C_alloc ?_ _))); rintro e w1 ⟨rfl, hb1⟩; have HB1 := Aside0.mk hb1; have b41 := Aside0.mk (blk_bel b4.out hb1); have b21 := Aside0.mk (blk_bel b2.out hb1); have b31 := Aside0.mk (blk_bel b3.out hb1); clear hb1) | (go_at_call 93; refine (spec_l04Members.calls k A1 c1 l1 true w1 (Kd.C_below ?s93 HB1.out) HC1.out MB.out).mono ?_; (case s93 => repeat (first | exact HR1.out | (with_reducible refine Kd.C_alloc ?_ _))); rintro e w2 ⟨rfl, hb2⟩; have HB2 := Aside0.mk (HB1.out.trans (hb2.below.mono HB1.out.size)); have b42 := Aside0.mk (blk_bel b41.out hb2.below); have b22 := Aside0.mk (blk_bel b21.out hb2.below); have b32 := Aside0.mk (blk_bel b31.out hb2.below); clear hb2; have hq0 : w2.cell? ⟨w.heap.size + 1, 0, none⟩ = some (.int .i64 p0) := (blk_cell b32.out 0).trans rfl; have hq1 : w2.cell? ⟨w.heap.size + 1, 1, none⟩ = some (.int .i64 p1) := (blk_cell b32.out 1).trans rfl) | (go_at_call 97; refine (spec_l04Parcel.calls p0 p1 false w2 PK.out).mono ?_; clear hq0 hq1; rintro e w3 ⟨rfl, hb3⟩; have HB3 := Aside0.mk (HB2.out.trans (hb3.mono HB2.out.size)); have b43 := Aside0.mk (blk_bel b42.out hb3); have b23 := Aside0.mk (blk_bel b22.out hb3); have b33 := Aside0.mk (blk_bel b32.out hb3); clear hb3; have hz0 : w3.cell? ⟨w.heap.size + 2, 0, none⟩ = some (.int .i64 0) := (blk_cell b43.out 0).trans rfl; have hz1 : w3.cell? ⟨w.heap.size + 2, 1, none⟩ = some (.slice none 0 0) := (blk_cell b43.out 1).trans rfl; have hf0 := blk_frozen b43.out 0; have hf1 := blk_frozen b43.out 1))
    refine bodyPost_ret (results_ctt rfl _ _ (w.heap.size + 2) 29 #[.int .i64 0, .slice none 0 0] (0, 0) _ rfl (by refine blk_put (cs := #[.int .i64 0, .slice none 0 0]) ?_ 1 _ rfl; refine blk_put (cs := #[.int .i64 0, .slice none 0 0]) ?_ 0 _ rfl; exact b43.out) Try.underlying29 rfl (by kernel_rfl)) rfl ?_
    exact ⟨_, rfl, Kd.S_nil _ _ _ _ _, below_set (below_set (HB.out.trans (HB3.out.mono HB.out.size)) (by omega)) (by omega)⟩
   | true =>
    rw [if_pos rfl] at h
    obtain ⟨⟨lim, bs⟩, h4, h⟩ := Option.bind_eq_some_iff.mp h
    by_cases hg : guardU k l1 lim bs
    case neg => rw [if_neg hg] at h; cases h
    rw [if_pos hg] at h
    unfold guardU at hg
    obtain ⟨hl, hbl, hf3, hhas⟩ := hg
    obtain ⟨n, rfl⟩ : ∃ n : Nat, lim = (n : Int) := ⟨lim.toNat, by omega⟩
    simp only [Int.toNat_natCast] at h
    have hn64 : n ≤ 64 := by omega
    have hn1 : 1 ≤ n := by omega
    obtain ⟨t5, h5, h⟩ := Option.bind_eq_some_iff.mp h
    have F3 := Aside0.mk hf3
    have HAS := Aside0.mk hhas
    have IS2 := Aside0.mk h5
    have CP := Aside0.mk h4
    have HH := Aside0.mk h
    clear hf3 hhas hl h4 h5 h
    obtain ⟨c, hc⟩ : ∃ c, c = cntA (hasI l1) bs := ⟨_, rfl⟩
    have HCN := Aside0.mk hc
    obtain ⟨bs', hbs'⟩ : ∃ bs', bs' = bs.map (sendB n (hasI l1) (⟨p0, p1⟩ : S60)) := ⟨_, rfl⟩
    have LEN : Aside0 (bs'.length = bs.length) := ⟨by rw [hbs', List.length_map]⟩
    rw [← hbs'] at IS2 HH
    have HBS := Aside0.mk hbs'
    clear hc hbs'
    have h := HH.out
    clear HH
    cases t5 with
    | false =>
     rw [if_neg (by simp)] at h
     injection h with h
     simp only [Prod.mk.injEq] at h
     obtain ⟨rfl, rfl, rfl, rfl⟩ := h
     have st0 : True := trivial
     go_enter Try.func52, Try.ntmps52
     go_wp2_with (first | (go_at_call 69; have _g := st1; clear _g st1; refine (spec_l04Is.calls k ⟨w4.heap.size, 0, none⟩ n Av cv bs' false w5 RPo.out SR.out.2.2 SR.out.2.1 IS2.out).mono ?_; rintro e w6 ⟨rfl, hb6⟩; have HB7 := Aside0.mk (HB6.out.trans (hb6.mono HB6.out.size)); have b46 := Aside0.mk (blk_bel b4r.out hb6); clear hb6; have hz0 : w6.cell? ⟨w.heap.size + 2, 0, none⟩ = some (.int .i64 0) := (blk_cell b46.out 0).trans rfl; have hz1 : w6.cell? ⟨w.heap.size + 2, 1, none⟩ = some (.slice none 0 0) := (blk_cell b46.out 1).trans rfl; have hf0 := blk_frozen b46.out 0; have hf1 := blk_frozen b46.out 1) | (go_at_call 69; have _g := st0; clear _g st0; refine (spec_l04Is.calls k ⟨w.heap.size, 0, none⟩ a0 A0 c0 l0 true _ RPa.out ?s69 HC0.out IS.out).mono ?_; (case s69 => repeat (first | exact HR0.out | (with_reducible refine Kd.C_alloc ?_ _))); rintro e w1 ⟨rfl, hb1⟩; have HB1 := Aside0.mk hb1; have b41 := Aside0.mk (blk_bel b4.out hb1); have b21 := Aside0.mk (blk_bel b2.out hb1); have b31 := Aside0.mk (blk_bel b3.out hb1); clear hb1) | (go_at_call 93; refine (spec_l04Members.calls k A1 c1 l1 true w1 (Kd.C_below ?s93 HB1.out) HC1.out MB.out).mono ?_; (case s93 => repeat (first | exact HR1.out | (with_reducible refine Kd.C_alloc ?_ _))); rintro e w2 ⟨rfl, hb2⟩; have HB2 := Aside0.mk (HB1.out.trans (hb2.below.mono HB1.out.size)); have b42 := Aside0.mk (blk_bel b41.out hb2.below); have b22 := Aside0.mk (blk_bel b21.out hb2.below); have b32 := Aside0.mk (blk_bel b31.out hb2.below); clear hb2; have hq0 : w2.cell? ⟨w.heap.size + 1, 0, none⟩ = some (.int .i64 p0) := (blk_cell b32.out 0).trans rfl; have hq1 : w2.cell? ⟨w.heap.size + 1, 1, none⟩ = some (.int .i64 p1) := (blk_cell b32.out 1).trans rfl) | (go_at_call 97; refine (spec_l04Parcel.calls p0 p1 true w2 PK.out).mono ?_; clear hq0 hq1; rintro e w3 ⟨rfl, hb3⟩; have HB3 := Aside0.mk (HB2.out.trans (hb3.mono HB2.out.size)); have b43 := Aside0.mk (blk_bel b42.out hb3); have b23 := Aside0.mk (blk_bel b22.out hb3); have b33 := Aside0.mk (blk_bel b32.out hb3); clear hb3) | (go_at_call 85; refine (spec_l04Copy.calls k ⟨w.heap.size, 0, none⟩ a0 A0 c0 l0 n bs w3 (RP.of_block b23.out) ?s85 HC0.out CP.out).mono ?_; (case s85 => exact Kd.C_below (by repeat (first | exact HR0.out | (with_reducible refine Kd.C_alloc ?_ _))) HB3.out); rintro e w4 ⟨v4, rfl, hs4, hb4⟩; obtain ⟨Av, cv, ev⟩ := Kd.S_slice hs4; subst ev; have HB4 := Aside0.mk (HB3.out.trans (hb4.mono HB3.out.size)); have S4 := Aside0.mk (Kd.S_lower hs4 HB3.out.size); have b34 := Aside0.mk (blk_alloc (blk_bel b33.out hb4) (.cells #[.int .i64 n, .slice Av bs.length cv] 29)); clear hs4 hb4; have hq0 : (w4.alloc (.cells #[.int .i64 n, .slice Av bs.length cv] 29)).cell? ⟨w.heap.size + 1, 0, none⟩ = some (.int .i64 p0) := (blk_cell b34.out 0).trans rfl; have hq1 : (w4.alloc (.cells #[.int .i64 n, .slice Av bs.length cv] 29)).cell? ⟨w.heap.size + 1, 1, none⟩ = some (.int .i64 p1) := (blk_cell b34.out 1).trans rfl) | (go_at_call 95; have K6 := Aside0.mk (heap_alloc_new w4 (.cells #[.int .i64 n, .slice Av bs.length cv] 29)); have HB5 := Aside0.mk (HB4.out.alloc HB4.out.size (.cells #[.int .i64 n, .slice Av bs.length cv] 29)); have S5 := Aside0.mk (S_no29 (Kd.S_alloc S4.out (.cells #[.int .i64 n, .slice Av bs.length cv] 29))); have SC := l04send_calls k n (by omega) hn1 (hasI l1) l1 A1 c1 HC1.out (⟨p0, p1⟩ : S60) bs (fun b hb => Nat.le_trans (F3.out b hb) (by decide)) (by omega) (fun b hb => HAS.out b hb) (W := w4.alloc (.cells #[.int .i64 n, .slice Av bs.length cv] 29)) (gO := w4.heap.size) HB5.out.size (fun W' hb => Kd.C_below HR1.out (HB.out.trans ((HB5.out.trans hb).mono HB.out.size))) K6.out S5.out (fun k h => ⟨Nat.le_trans HB5.out.size h, fun cs e => by rw [Array.getElem?_eq_none h] at e; cases e⟩) (fun h => h.2 _ K6.out); rw [cntB_all, ← HCN.out, ← HBS.out] at SC; refine SC.mono ?_; clear hq0 hq1; rintro e w5 ⟨rfl, hs5, hb5, hk5⟩; rw [← LEN.out] at hs5; have S6 := Aside0.mk (Kd.S_mono hs5 (ok' := fun _ => True) (fun _ _ => trivial)); have HB6 := Aside0.mk (HB5.out.trans hb5); have K560 := blk_kept K6.out hk5 (fun h => h.2 _ K6.out); rw [← LEN.out] at K560; have K56 := Aside0.mk K560; clear hs5 hb5 hk5 K560 SC; have SR := Aside0.mk (Kd.S_reads' S6.out); have b4r := Aside0.mk (blk_bel b4.out HB6.out); have RPo := Aside0.mk (show RP w5 ⟨w4.heap.size, 0, none⟩ [.int .i64 n, .slice Av bs'.length cv] from RP.of_block K56.out); have st1 : True := trivial))
     refine bodyPost_ret (results_ctt rfl _ _ (w.heap.size + 2) 29 #[.int .i64 0, .slice none 0 0] (0, 0) _ rfl (by refine blk_put (cs := #[.int .i64 0, .slice none 0 0]) ?_ 1 _ rfl; refine blk_put (cs := #[.int .i64 0, .slice none 0 0]) ?_ 0 _ rfl; exact b46.out) Try.underlying29 rfl (by kernel_rfl)) rfl ?_
     exact ⟨_, rfl, Kd.S_nil _ _ _ _ _, below_set (below_set (HB.out.trans (HB7.out.mono HB.out.size)) (by omega)) (by omega)⟩
    | true =>
     rw [if_pos rfl] at h
     injection h with h
     simp only [Prod.mk.injEq] at h
     obtain ⟨rfl, rfl, rfl, rfl⟩ := h
     have st0 : True := trivial
     go_enter Try.func52, Try.ntmps52
     go_wp2_with (first | (go_at_call 69; have _g := st1; clear _g st1; refine (spec_l04Is.calls k ⟨w4.heap.size, 0, none⟩ n Av cv bs' true w5 RPo.out SR.out.2.2 SR.out.2.1 IS2.out).mono ?_; rintro e w6 ⟨rfl, hb6⟩; have HB7 := Aside0.mk (HB6.out.trans (hb6.mono HB6.out.size)); have b46 := Aside0.mk (blk_bel b4r.out hb6); have K66 := Aside0.mk (blk_bel K56.out hb6); have S66 := Aside0.mk (Kd.S_below S6.out hb6); clear hb6; have hz0 : w6.cell? ⟨w.heap.size + 2, 0, none⟩ = some (.int .i64 0) := (blk_cell b46.out 0).trans rfl; have hz1 : w6.cell? ⟨w.heap.size + 2, 1, none⟩ = some (.slice none 0 0) := (blk_cell b46.out 1).trans rfl; have hf0 := blk_frozen b46.out 0; have hf1 := blk_frozen b46.out 1; have hk0 : w6.cell? ⟨w4.heap.size, 0, none⟩ = some (.int .i64 n) := (blk_cell K66.out 0).trans rfl; have hk1 : w6.cell? ⟨w4.heap.size, 1, none⟩ = some (.slice Av bs'.length cv) := (blk_cell K66.out 1).trans rfl) | (go_at_call 69; have _g := st0; clear _g st0; refine (spec_l04Is.calls k ⟨w.heap.size, 0, none⟩ a0 A0 c0 l0 true _ RPa.out ?s69 HC0.out IS.out).mono ?_; (case s69 => repeat (first | exact HR0.out | (with_reducible refine Kd.C_alloc ?_ _))); rintro e w1 ⟨rfl, hb1⟩; have HB1 := Aside0.mk hb1; have b41 := Aside0.mk (blk_bel b4.out hb1); have b21 := Aside0.mk (blk_bel b2.out hb1); have b31 := Aside0.mk (blk_bel b3.out hb1); clear hb1) | (go_at_call 93; refine (spec_l04Members.calls k A1 c1 l1 true w1 (Kd.C_below ?s93 HB1.out) HC1.out MB.out).mono ?_; (case s93 => repeat (first | exact HR1.out | (with_reducible refine Kd.C_alloc ?_ _))); rintro e w2 ⟨rfl, hb2⟩; have HB2 := Aside0.mk (HB1.out.trans (hb2.below.mono HB1.out.size)); have b42 := Aside0.mk (blk_bel b41.out hb2.below); have b22 := Aside0.mk (blk_bel b21.out hb2.below); have b32 := Aside0.mk (blk_bel b31.out hb2.below); clear hb2; have hq0 : w2.cell? ⟨w.heap.size + 1, 0, none⟩ = some (.int .i64 p0) := (blk_cell b32.out 0).trans rfl; have hq1 : w2.cell? ⟨w.heap.size + 1, 1, none⟩ = some (.int .i64 p1) := (blk_cell b32.out 1).trans rfl) | (go_at_call 97; refine (spec_l04Parcel.calls p0 p1 true w2 PK.out).mono ?_; clear hq0 hq1; rintro e w3 ⟨rfl, hb3⟩; have HB3 := Aside0.mk (HB2.out.trans (hb3.mono HB2.out.size)); have b43 := Aside0.mk (blk_bel b42.out hb3); have b23 := Aside0.mk (blk_bel b22.out hb3); have b33 := Aside0.mk (blk_bel b32.out hb3); clear hb3) | (go_at_call 85; refine (spec_l04Copy.calls k ⟨w.heap.size, 0, none⟩ a0 A0 c0 l0 n bs w3 (RP.of_block b23.out) ?s85 HC0.out CP.out).mono ?_; (case s85 => exact Kd.C_below (by repeat (first | exact HR0.out | (with_reducible refine Kd.C_alloc ?_ _))) HB3.out); rintro e w4 ⟨v4, rfl, hs4, hb4⟩; obtain ⟨Av, cv, ev⟩ := Kd.S_slice hs4; subst ev; have HB4 := Aside0.mk (HB3.out.trans (hb4.mono HB3.out.size)); have S4 := Aside0.mk (Kd.S_lower hs4 HB3.out.size); have b34 := Aside0.mk (blk_alloc (blk_bel b33.out hb4) (.cells #[.int .i64 n, .slice Av bs.length cv] 29)); clear hs4 hb4; have hq0 : (w4.alloc (.cells #[.int .i64 n, .slice Av bs.length cv] 29)).cell? ⟨w.heap.size + 1, 0, none⟩ = some (.int .i64 p0) := (blk_cell b34.out 0).trans rfl; have hq1 : (w4.alloc (.cells #[.int .i64 n, .slice Av bs.length cv] 29)).cell? ⟨w.heap.size + 1, 1, none⟩ = some (.int .i64 p1) := (blk_cell b34.out 1).trans rfl) | (go_at_call 95; have K6 := Aside0.mk (heap_alloc_new w4 (.cells #[.int .i64 n, .slice Av bs.length cv] 29)); have HB5 := Aside0.mk (HB4.out.alloc HB4.out.size (.cells #[.int .i64 n, .slice Av bs.length cv] 29)); have S5 := Aside0.mk (S_no29 (Kd.S_alloc S4.out (.cells #[.int .i64 n, .slice Av bs.length cv] 29))); have SC := l04send_calls k n (by omega) hn1 (hasI l1) l1 A1 c1 HC1.out (⟨p0, p1⟩ : S60) bs (fun b hb => Nat.le_trans (F3.out b hb) (by decide)) (by omega) (fun b hb => HAS.out b hb) (W := w4.alloc (.cells #[.int .i64 n, .slice Av bs.length cv] 29)) (gO := w4.heap.size) HB5.out.size (fun W' hb => Kd.C_below HR1.out (HB.out.trans ((HB5.out.trans hb).mono HB.out.size))) K6.out S5.out (fun k h => ⟨Nat.le_trans HB5.out.size h, fun cs e => by rw [Array.getElem?_eq_none h] at e; cases e⟩) (fun h => h.2 _ K6.out); rw [cntB_all, ← HCN.out, ← HBS.out] at SC; refine SC.mono ?_; clear hq0 hq1; rintro e w5 ⟨rfl, hs5, hb5, hk5⟩; rw [← LEN.out] at hs5; have S6 := Aside0.mk (Kd.S_mono hs5 (ok' := fun _ => True) (fun _ _ => trivial)); have HB6 := Aside0.mk (HB5.out.trans hb5); have K560 := blk_kept K6.out hk5 (fun h => h.2 _ K6.out); rw [← LEN.out] at K560; have K56 := Aside0.mk K560; clear hs5 hb5 hk5 K560 SC; have SR := Aside0.mk (Kd.S_reads' S6.out); have b4r := Aside0.mk (blk_bel b4.out HB6.out); have RPo := Aside0.mk (show RP w5 ⟨w4.heap.size, 0, none⟩ [.int .i64 n, .slice Av bs'.length cv] from RP.of_block K56.out); have st1 : True := trivial))
     refine bodyPost_ret (results_ctt rfl _ _ (w.heap.size + 2) 29 #[.int .i64 n, .slice Av bs'.length cv] (0, 0) _ rfl (by refine blk_put (cs := #[.int .i64 n, .slice none 0 0]) ?_ 1 _ rfl; refine blk_put (cs := #[.int .i64 0, .slice none 0 0]) ?_ 0 _ rfl; exact b46.out) Try.underlying29 rfl (by kernel_rfl)) rfl ?_
     have S10 := Kd.S_mono (Kd.S_lower (Kd.S_far (p := ⟨w.heap.size + 2, 1, none⟩) (Kd.S_far (p := ⟨w.heap.size + 2, 0, none⟩) (Kd.S_types S66.out b46.out (by decide)) (fun _ hk => hk.2) (.int .i64 n)) (fun _ hk => hk.2) (.slice Av bs'.length cv)) HB.out.size) (ok' := fun _ => True) (fun _ _ => trivial)
     rw [← HCN.out]
     exact ⟨_, rfl, S10, below_set (below_set (HB.out.trans (HB7.out.mono HB.out.size)) (by omega)) (by omega)⟩


end Go.Proofs.Ytgpiaeklhhacjaa.XFnExactSendTo
