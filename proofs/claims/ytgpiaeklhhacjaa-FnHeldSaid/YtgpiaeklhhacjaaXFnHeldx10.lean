-- Written by a program of this session (wip/xprint: over the kit's print). Not trusted: Lean checks it.
import Derived.Test.YtgpiaeklhhacjaaXFnHeldx0
import Derived.Test.YtgpiaeklhhacjaaXFnHeldx2
import Derived.Test.YtgpiaeklhhacjaaXFnHeldx3
import Derived.Test.YtgpiaeklhhacjaaXFnHeldx4
import Derived.Test.YtgpiaeklhhacjaaXFnHeldx5
import Derived.Test.YtgpiaeklhhacjaaXFnHeldx9
namespace Go.Proofs.Ytgpiaeklhhacjaa.XFnHeld
open Go.RowKit Go.Proofs.YtgpiaeklhhacjaaW.PrintWords Go.Proofs.YtgpiaeklhhacjaaW.PrintLast Go.Proofs.YtgpiaeklhhacjaaW.PrintMore
open Go.Proofs.Ytgpiaeklhhacjaa.XW
attribute [local go_sem] max2_int min2_int max_two min_two max_three min_three max_four min_four   -- for this text's walks alone
set_option linter.unusedVariables false
set_option linter.unusedSimpArgs false

/-! ### laws_r8At: function 39 -/
def laws_r8At.f (l0 : List Int) (a1 : Int) (a2 : Int) : Option (Int) := if a2 ≤ 1 then (some 0) else (if a1 ≥ (l0.length : Int) then (some 0) else (if 0 ≤ a1 then (if a1 < (l0.length : Int) then (if a2 = 0 then (none) else (some (Int.tmod (wrap64 (rd l0 a1)) a2))) else (none)) else (none)))
set_option maxHeartbeats 8000000 in
set_option maxRecDepth 100000 in
theorem laws_r8At.calls (A0 : Option Addr) (c0 : Nat) (l0 : List Int) (a1 : Int) (a2 : Int) (r : Int) (w : World) (hr0 : Kd.C (Kd.int .u8) w A0 l0.length l0) (hc0 : l0.length ≤ c0) (h : laws_r8At.f l0 a1 a2 = some r) :
  Calls Try.prog 39 #[.slice A0 l0.length c0, .int .i64 a1, .int .i64 a2] w fun e w' => e = .returned (.int .i64 r) ∧ Drawn0 w w' := by
 have HR0 := Aside0.mk hr0
 have HC0 := Aside0.mk hc0
 clear hr0 hc0
 have H : (if a2 ≤ 1 then (some 0) else (if a1 ≥ (l0.length : Int) then (some 0) else (if 0 ≤ a1 then (if a1 < (l0.length : Int) then (if a2 = 0 then (none) else (some (Int.tmod (wrap64 (rd l0 a1)) a2))) else (none)) else (none)))) = some r := h
 clear h
 by_cases c4 : a2 ≤ 1
 ·rw [if_pos c4] at H
  have c4b0 : decide (a2 ≤ 1) = true := decide_eq_true c4
  clear c4
  obtain rfl := Option.some.inj H
  go_enter Try.func39, Try.ntmps39
  go_wp2
  go_ret
  exact ⟨by first | rfl | (simp; done) | (simp [*]; done), by repeat (first | exact Drawn0.refl _ | apply Drawn0.step)⟩
 ·rw [if_neg c4] at H
  have c4b0 : decide (a2 ≤ 1) = false := decide_eq_false c4
  clear c4
  by_cases c5 : a1 ≥ (l0.length : Int)
  ·rw [if_pos c5] at H
   have c5b0 : decide ((l0.length : Int) ≤ a1) = true := decide_eq_true c5
   clear c5
   obtain rfl := Option.some.inj H
   go_enter Try.func39, Try.ntmps39
   go_wp2
   go_ret
   exact ⟨by first | rfl | (simp; done) | (simp [*]; done), by repeat (first | exact Drawn0.refl _ | apply Drawn0.step)⟩
  ·rw [if_neg c5] at H
   have c5b0 : decide ((l0.length : Int) ≤ a1) = false := decide_eq_false c5
   clear c5
   by_cases c6 : 0 ≤ a1
   ·rw [if_pos c6] at H
    have c6b0 : decide (0 ≤ a1) = true := decide_eq_true c6
    clear c6
    by_cases c7 : a1 < (l0.length : Int)
    ·rw [if_pos c7] at H
     have c7b0 : decide (a1 < (l0.length : Int)) = true := decide_eq_true c7
     clear c7
     by_cases c8 : a2 = 0
     ·rw [if_pos c8] at H
      exact absurd H (by simp)
     ·rw [if_neg c8] at H
      have c8b0 : (a2 == 0) = false := beq_eq_false_iff_ne.mpr c8
      have c8b1 : (a2 != 0) = true := bne_iff_ne.mpr c8
      obtain rfl := Option.some.inj H
      have p227 : 0 ≤ (a1 : Int) := of_decide_eq_true (by first | (with_reducible assumption) | assumption)
      have q227 : a1 < (l0.length : Int) := of_decide_eq_true (by first | (with_reducible assumption) | assumption)
      obtain ⟨ad227, e227, hx227_0⟩ := Kd.at_int HR0.out a1 p227 q227
      cases e227
      replace p227 := eq_true p227
      replace q227 := eq_true q227
      go_enter Try.func39, Try.ntmps39
      go_wp2
      go_ret
      exact ⟨by first | rfl | (simp; done) | (simp [*]; done), by repeat (first | exact Drawn0.refl _ | apply Drawn0.step)⟩
    ·rw [if_neg c7] at H
     exact absurd H (by simp)
   ·rw [if_neg c6] at H
    exact absurd H (by simp)

/-! ### impl_SendTo: function 41 -/
def impl_SendTo.f (k : Nat) (a0_0 : Int) (l0_1 : List (S58)) (l1 : List Int) (a2_0 : Int) (a2_1 : Int) : Option (Int × (List (S58)) × Int × Bool) := (impl_SendAll.f k a0_0 l0_1 l1 (([(⟨a2_0, a2_1⟩ : S60)] : List (S60)))).bind fun bt234 => (some (bt234.1, bt234.2.1, bt234.2.2.1, bt234.2.2.2))
theorem impl_SendTo.mono : ∀ a0 a1 a2 a3 a4 k, LeO (impl_SendTo.f k a0 a1 a2 a3 a4) (impl_SendTo.f (k + 1) a0 a1 a2 a3 a4) := by
 intro a0 a1 a2 a3 a4 k
 unfold impl_SendTo.f
 repeat' first
   | (with_reducible exact impl_SendAll.mono _ _ _ _ _)
   | (with_reducible exact LeO.refl _)
   | (with_reducible exact LeO.none _)
   | (with_reducible refine LeO.ite ?_ ?_)
   | (with_reducible refine LeO.bind ?_ (fun _ => ?_))
   | exact impl_SendAll.mono _ _ _ _ _
   | exact LeO.none _
   | refine LeO.ite ?_ ?_
   | refine LeO.bind ?_ (fun _ => ?_)
set_option maxHeartbeats 8000000 in
set_option maxRecDepth 100000 in
theorem impl_SendTo.calls (k : Nat) (a0_0 : Int) (A0_1 : Option Addr) (c0_1 : Nat) (l0_1 : List (S58)) (A1 : Option Addr) (c1 : Nat) (l1 : List Int) (a2_0 : Int) (a2_1 : Int) (r1 : Int) (r2 : List (S58)) (r3 : Int) (r4 : Bool) (w : World) (hr0_1 : Kd.C k58 w A0_1 l0_1.length l0_1) (hc0_1 : l0_1.length ≤ c0_1) (hr1 : Kd.C (Kd.int .i64) w A1 l1.length l1) (hc1 : l1.length ≤ c1) (h : impl_SendTo.f k a0_0 l0_1 l1 a2_0 a2_1 = some (r1, r2, r3, r4)) :
  Calls Try.prog 41 #[.agg #[.int .i64 a0_0, .slice A0_1 l0_1.length c0_1], .slice A1 l1.length c1, .agg #[.int .i64 a2_0, .int .i64 a2_1]] w fun e w' => ∃ v1_ : Value, e = .returned (.tuple #[.agg #[.int .i64 r1, v1_], .int .i64 r3, .bool r4]) ∧ Kd.S k58 58 w' w.heap.size (fun _ => True) v1_ r2 ∧ Below w.heap.size w w' := by
 have hu29 := Try.underlying29
 have hu60 := Try.underlying60
 have HR0_1 := Aside0.mk hr0_1
 have HC0_1 := Aside0.mk hc0_1
 clear hr0_1 hc0_1
 have HR1 := Aside0.mk hr1
 have HC1 := Aside0.mk hc1
 clear hr1 hc1
 have HB := Aside0.mk (Below.refl w.heap.size w)
 have H : ((impl_SendAll.f k a0_0 l0_1 l1 (([(⟨a2_0, a2_1⟩ : S60)] : List (S60)))).bind fun bt234 => (some (bt234.1, bt234.2.1, bt234.2.2.1, bt234.2.2.2))) = some (r1, r2, r3, r4) := h
 clear h
 obtain ⟨y231, hy231⟩ : ∃ y_ : List (S60), y_ = (([(⟨a2_0, a2_1⟩ : S60)] : List (S60))) := ⟨_, rfl⟩
 replace H : ((impl_SendAll.f k a0_0 l0_1 l1 y231).bind fun bt234 => (some (bt234.1, bt234.2.1, bt234.2.2.1, bt234.2.2.2))) = some (r1, r2, r3, r4) := by first | (rw [hy231]; with_reducible exact H) | (have H2_ := (Option.bind_some _ _).symm.trans H; rw [hy231]; with_reducible exact H2_) | (have H2_ := (Option.bind_some _ _).symm.trans H; with_reducible exact H2_) | with_reducible exact H | (rw [hy231]; exact H) | exact H
 have Ny231 := Aside0.mk hy231
 clear hy231
 replace H := Option.bind_eq_some_iff.mp H
 obtain ⟨⟨t234, t235, t238, t239⟩, A40, H⟩ := H
 replace H : (some (t234, t235, t238, t239)) = some (r1, r2, r3, r4) := H
 have A4 := Aside0.mk A40
 clear A40
 simp only [Option.some.injEq, Prod.mk.injEq] at H
 obtain ⟨rfl, rfl, rfl, rfl⟩ := H
 go_enter Try.func41, Try.ntmps41
 go_wp2_with (first | ((with_reducible refine gate_dst (N := 3) rfl ?_); refine box_event ?hg (N := 3) ?hd (cs := #[.int .i64 a0_0, .slice A0_1 l0_1.length c0_1]) (t := 29) ?hr ?_; (case hd => rfl); (case hg => rfl); (case hr => first | (go_simp; done) | (go_simp; rfl)); intro gb228 hg w5 hbox hb; have n0_ := Aside0.mk (below_step (by repeat (first | (with_reducible first | exact HB.out | apply below_alloc | apply pw_below_drewN | apply below_drew1) | exact HB.out)) hb); have n1_ := Aside0.mk (hbox); have n2_ := Aside0.mk ((by rw [hg]; exact (below_size (by repeat (first | (with_reducible first | exact HB.out | apply below_alloc | apply pw_below_drewN | apply below_drew1) | exact HB.out))) : w.heap.size ≤ gb228)); have n3_ := Aside0.mk ((by rw [hg]; exact (below_size (by repeat (first | (with_reducible first | exact HB.out | apply below_alloc | apply pw_below_drewN | apply below_drew1) | exact HB.out))) : w.heap.size ≤ gb228)); clear HB; have HB := n0_; have BK228 := n1_; have GW228 := n2_; have GE228 := n3_; clear n0_ n1_ n2_ n3_; clear hb hbox hg) | ((with_reducible refine gate_dst (N := 5) rfl ?_); refine box_event ?hg (N := 5) ?hd (cs := #[.int .i64 a2_0, .int .i64 a2_1]) (t := 60) ?hr ?_; (case hd => rfl); (case hg => rfl); (case hr => first | (go_simp; done) | (go_simp; rfl)); intro gb229 hg w6 hbox hb; have n0_ := Aside0.mk (blk_below (g := gb228) (o := .cells #[.int .i64 a0_0, .slice A0_1 l0_1.length c0_1] 29 (0, 0)) (by (with_reducible repeat (first | refine blk_drewN ?_ _ | refine blk_drew ?_ | refine blk_alloc ?_ _)); exact BK228.out) hb); have n1_ := Aside0.mk (below_step (by repeat (first | (with_reducible first | exact HB.out | apply below_alloc | apply pw_below_drewN | apply below_drew1 | refine below_set ?_ GE228.out) | exact HB.out)) hb); have n2_ := Aside0.mk (hbox); have n3_ := Aside0.mk ((by rw [hg]; exact (below_size (by repeat (first | (with_reducible first | exact HB.out | apply below_alloc | apply pw_below_drewN | apply below_drew1 | refine below_set ?_ GE228.out) | exact HB.out))) : w.heap.size ≤ gb229)); have n4_ := Aside0.mk ((by rw [hg]; exact (below_size (by repeat (first | (with_reducible first | exact HB.out | apply below_alloc | apply pw_below_drewN | apply below_drew1 | refine below_set ?_ GE228.out) | exact HB.out))) : w.heap.size ≤ gb229)); have n5_ := Aside0.mk ((by rw [hg]; exact Nat.ne_of_lt (blk_lt (g := gb228) (o := .cells #[.int .i64 a0_0, .slice A0_1 l0_1.length c0_1] 29 (0, 0)) (by (with_reducible repeat (first | refine blk_drewN ?_ _ | refine blk_drew ?_ | refine blk_alloc ?_ _)); exact BK228.out)) : gb228 ≠ gb229)); have n6_ := Aside0.mk ((by rw [hg]; exact Nat.ne_of_gt (blk_lt (g := gb228) (o := .cells #[.int .i64 a0_0, .slice A0_1 l0_1.length c0_1] 29 (0, 0)) (by (with_reducible repeat (first | refine blk_drewN ?_ _ | refine blk_drew ?_ | refine blk_alloc ?_ _)); exact BK228.out)) : gb229 ≠ gb228)); clear BK228; clear HB; have BK228 := n0_; have HB := n1_; have BK229 := n2_; have GW229 := n3_; have GE229 := n4_; have NB228_229 := n5_; have NB229_228 := n6_; clear n0_ n1_ n2_ n3_ n4_ n5_ n6_; clear hb hbox hg) | ((with_reducible refine gate_dst (N := 6) rfl ?_); refine box_event ?hg (N := 6) ?hd (cs := #[.int .i64 0, .slice none 0 0]) (t := 29) ?hr ?_; (case hd => rfl); (case hg => rfl); (case hr => first | (go_simp; done) | (go_simp; rfl)); intro gb230 hg w7 hbox hb; have n0_ := Aside0.mk (blk_below (g := gb228) (o := .cells #[.int .i64 a0_0, .slice A0_1 l0_1.length c0_1] 29 (0, 0)) (by (with_reducible repeat (first | refine blk_drewN ?_ _ | refine blk_drew ?_ | refine blk_alloc ?_ _)); exact BK228.out) hb); have n1_ := Aside0.mk (blk_below (g := gb229) (o := .cells #[.int .i64 a2_0, .int .i64 a2_1] 60 (0, 0)) (by (with_reducible repeat (first | refine blk_drewN ?_ _ | refine blk_drew ?_ | refine blk_alloc ?_ _)); exact BK229.out) hb); have n2_ := Aside0.mk (below_step (by repeat (first | (with_reducible first | exact HB.out | apply below_alloc | apply pw_below_drewN | apply below_drew1 | refine below_set ?_ GE228.out | refine below_set ?_ GE229.out) | exact HB.out)) hb); have n3_ := Aside0.mk (hbox); have n4_ := Aside0.mk ((by rw [hg]; exact (below_size (by repeat (first | (with_reducible first | exact HB.out | apply below_alloc | apply pw_below_drewN | apply below_drew1 | refine below_set ?_ GE228.out | refine below_set ?_ GE229.out) | exact HB.out))) : w.heap.size ≤ gb230)); have n5_ := Aside0.mk ((by rw [hg]; exact (below_size (by repeat (first | (with_reducible first | exact HB.out | apply below_alloc | apply pw_below_drewN | apply below_drew1 | refine below_set ?_ GE228.out | refine below_set ?_ GE229.out) | exact HB.out))) : w.heap.size ≤ gb230)); have n6_ := Aside0.mk ((by rw [hg]; exact Nat.ne_of_lt (blk_lt (g := gb228) (o := .cells #[.int .i64 a0_0, .slice A0_1 l0_1.length c0_1] 29 (0, 0)) (by (with_reducible repeat (first | refine blk_drewN ?_ _ | refine blk_drew ?_ | refine blk_alloc ?_ _)); exact BK228.out)) : gb228 ≠ gb230)); have n7_ := Aside0.mk ((by rw [hg]; exact Nat.ne_of_gt (blk_lt (g := gb228) (o := .cells #[.int .i64 a0_0, .slice A0_1 l0_1.length c0_1] 29 (0, 0)) (by (with_reducible repeat (first | refine blk_drewN ?_ _ | refine blk_drew ?_ | refine blk_alloc ?_ _)); exact BK228.out)) : gb230 ≠ gb228)); have n8_ := Aside0.mk ((by rw [hg]; exact Nat.ne_of_lt (blk_lt (g := gb229) (o := .cells #[.int .i64 a2_0, .int .i64 a2_1] 60 (0, 0)) (by (with_reducible repeat (first | refine blk_drewN ?_ _ | refine blk_drew ?_ | refine blk_alloc ?_ _)); exact BK229.out)) : gb229 ≠ gb230)); have n9_ := Aside0.mk ((by rw [hg]; exact Nat.ne_of_gt (blk_lt (g := gb229) (o := .cells #[.int .i64 a2_0, .int .i64 a2_1] 60 (0, 0)) (by (with_reducible repeat (first | refine blk_drewN ?_ _ | refine blk_drew ?_ | refine blk_alloc ?_ _)); exact BK229.out)) : gb230 ≠ gb229)); clear BK228; clear BK229; clear HB; have BK228 := n0_; have BK229 := n1_; have HB := n2_; have BK230 := n3_; have GW230 := n4_; have GE230 := n5_; have NB228_230 := n6_; have NB230_228 := n7_; have NB229_230 := n8_; have NB230_229 := n9_; clear n0_ n1_ n2_ n3_ n4_ n5_ n6_ n7_ n8_ n9_; clear hb hbox hg; have hnb8 := NB228_229.out; have hnc8 := NB229_228.out; have hnb9 := NB228_230.out; have hnc9 := NB230_228.out; have hcz10_0 : w7.cell? ⟨gb228, 0, none⟩ = some (.int .i64 a0_0) := (blk_cell BK228.out 0).trans rfl; have hcz10_1 : w7.cell? ⟨gb228, 1, none⟩ = some (.slice A0_1 l0_1.length c0_1) := (blk_cell BK228.out 1).trans rfl; have hfz10_0 := blk_frozen BK228.out 0; have hfz10_1 := blk_frozen BK228.out 1; have hnb11 := NB229_230.out; have hnc11 := NB230_229.out; have hcz12_0 : w7.cell? ⟨gb229, 0, none⟩ = some (.int .i64 a2_0) := (blk_cell BK229.out 0).trans rfl; have hcz12_1 : w7.cell? ⟨gb229, 1, none⟩ = some (.int .i64 a2_1) := (blk_cell BK229.out 1).trans rfl; have hfz12_0 := blk_frozen BK229.out 0; have hfz12_1 := blk_frozen BK229.out 1) | ((with_reducible refine gate_dst (N := 12) rfl ?_); refine Kd.R_lit k60 _ 60 ?hg (N := 12) ?hd (xs := ([(⟨a2_0, a2_1⟩ : S60)] : List (S60))) (inner := [.int .i64 a2_0, .int .i64 a2_1]) (ok := fun _ => True) (okp := fun _ => True) ?hr ?hp (fun _ hk => hk) trivial (Below.refl _ _) (Nat.le_refl _) (by simp) ?_; (case hd => rfl); (case hg => rfl); (case hr => first | (go_simp; done) | (go_simp; rfl)); (case hp => exact (Reps.c2 (show Kd.M k60 _ _ _ (⟨a2_0, a2_1⟩ : S60) [.int .i64 a2_0, .int .i64 a2_1] from (k60_mkM _ _ _ (⟨a2_0, a2_1⟩ : S60) )) (Reps.none _ _))); intro v232 w13 ho14 hb hg_ hnew_; clear hg_ hnew_; (first | rw [← Ny231.out] at ho14 | (simp only [Int.reduceToNat] at ho14; rw [← Ny231.out] at ho14)); have n0_ := Aside0.mk (Kd.R_lower (Kd.R_newB ho14 (g := gb229) (o := .cells #[.int .i64 a2_0, .int .i64 a2_1] 60 (0, 0)) (by (with_reducible repeat (first | refine blk_drewN ?_ _ | refine blk_drew ?_ | refine blk_alloc ?_ _)); exact BK229.out)) (below_size (by repeat (first | (with_reducible first | exact HB.out | apply below_alloc | apply pw_below_drewN | apply below_drew1 | refine below_set ?_ GE228.out | refine below_set ?_ GE229.out | refine below_set ?_ GE230.out) | exact HB.out)))); have n1_ := Aside0.mk (blk_below (g := gb228) (o := .cells #[.int .i64 a0_0, .slice A0_1 l0_1.length c0_1] 29 (0, 0)) (by (with_reducible repeat (first | refine blk_drewN ?_ _ | refine blk_drew ?_ | refine blk_alloc ?_ _)); exact BK228.out) hb); have n2_ := Aside0.mk (blk_below (g := gb229) (o := .cells #[.int .i64 a2_0, .int .i64 a2_1] 60 (0, 0)) (by (with_reducible repeat (first | refine blk_drewN ?_ _ | refine blk_drew ?_ | refine blk_alloc ?_ _)); exact BK229.out) hb); have n3_ := Aside0.mk (blk_below (g := gb230) (o := .cells #[.int .i64 0, .slice none 0 0] 29 (0, 0)) (by (with_reducible repeat (first | refine blk_drewN ?_ _ | refine blk_drew ?_ | refine blk_alloc ?_ _)); exact BK230.out) hb); have n4_ := Aside0.mk (below_step (by repeat (first | (with_reducible first | exact HB.out | apply below_alloc | apply pw_below_drewN | apply below_drew1 | refine below_set ?_ GE228.out | refine below_set ?_ GE229.out | refine below_set ?_ GE230.out) | exact HB.out)) hb); clear BK228; clear BK229; clear BK230; clear HB; have HO233 := n0_; have BK228 := n1_; have BK229 := n2_; have BK230 := n3_; have HB := n4_; clear n0_ n1_ n2_ n3_ n4_; clear hb ho14; obtain ⟨Ao15, co15, eo15⟩ := Kd.R_slice HO233.out; subst eo15) | ((with_reducible refine gate_callee (f := 40) rfl ?_); refine goesL_ (some 13) rfl rfl Try.func40 (by kernel_rfl) rfl #[.agg #[.int .i64 a0_0, .slice A0_1 l0_1.length c0_1], .slice A1 l1.length c1, .slice Ao15 y231.length co15] rfl (by (try simp only [List.map_toArray, List.map_cons, List.map_nil]); first | done | rfl | (simp only [List.length_drop, List.length_take]; rfl)) ?_; (with_reducible refine (impl_SendAll.calls k a0_0 _ _ l0_1 _ _ l1 _ _ y231 t234 t235 t238 t239 _ ?side1 ?side2 ?side3 ?side4 ?side5 ?side6 A4.out).mono ?_); (case side1 => repeat (first | exact (Kd.C_below HR0_1.out HB.out) | (with_reducible refine Kd.C_alloc ?_ _) | (with_reducible refine Kd.C_drewN ?_ _) | (with_reducible refine Kd.C_drew ?_))); (case side2 => exact HC0_1.out); (case side3 => repeat (first | exact (Kd.C_below HR1.out HB.out) | (with_reducible refine Kd.C_alloc ?_ _) | (with_reducible refine Kd.C_drewN ?_ _) | (with_reducible refine Kd.C_drew ?_))); (case side4 => exact HC1.out); (case side5 => repeat (first | exact (Kd.R_reads' HO233.out).2.2 | (with_reducible refine Kd.C_alloc ?_ _) | (with_reducible refine Kd.C_drewN ?_ _) | (with_reducible refine Kd.C_drew ?_))); (case side6 => exact (Kd.R_reads' HO233.out).2.1); rintro e w16 ⟨v236, rfl, ho0, hb⟩; refine ⟨_, rfl, ?_⟩; have n0_ := Aside0.mk (Kd.R_below (by (with_reducible repeat (first | apply Kd.R_alloc | apply Kd.R_drewN | apply Kd.R_drew)); exact HO233.out) hb); have n1_ := Aside0.mk (Kd.S_lower (Kd.S_newB (Kd.S_new' ho0 (Kd.R_lt (by (with_reducible repeat (first | apply Kd.R_alloc | apply Kd.R_drewN | apply Kd.R_drew)); exact HO233.out))) (g := gb229) (o := .cells #[.int .i64 a2_0, .int .i64 a2_1] 60 (0, 0)) (by (with_reducible repeat (first | refine blk_drewN ?_ _ | refine blk_drew ?_ | refine blk_alloc ?_ _)); exact BK229.out)) (below_size (by repeat (first | (with_reducible first | exact HB.out | apply below_alloc | apply pw_below_drewN | apply below_drew1 | refine below_set ?_ GE228.out | refine below_set ?_ GE229.out | refine below_set ?_ GE230.out) | exact HB.out)))); have n2_ := Aside0.mk (blk_below (g := gb228) (o := .cells #[.int .i64 a0_0, .slice A0_1 l0_1.length c0_1] 29 (0, 0)) (by (with_reducible repeat (first | refine blk_drewN ?_ _ | refine blk_drew ?_ | refine blk_alloc ?_ _)); exact BK228.out) hb); have n3_ := Aside0.mk (blk_below (g := gb229) (o := .cells #[.int .i64 a2_0, .int .i64 a2_1] 60 (0, 0)) (by (with_reducible repeat (first | refine blk_drewN ?_ _ | refine blk_drew ?_ | refine blk_alloc ?_ _)); exact BK229.out) hb); have n4_ := Aside0.mk (blk_below (g := gb230) (o := .cells #[.int .i64 0, .slice none 0 0] 29 (0, 0)) (by (with_reducible repeat (first | refine blk_drewN ?_ _ | refine blk_drew ?_ | refine blk_alloc ?_ _)); exact BK230.out) hb); have n5_ := Aside0.mk (below_step (by repeat (first | (with_reducible first | exact HB.out | apply below_alloc | apply pw_below_drewN | apply below_drew1 | refine below_set ?_ GE228.out | refine below_set ?_ GE229.out | refine below_set ?_ GE230.out) | exact HB.out)) hb); clear HO233; clear BK228; clear BK229; clear BK230; clear HB; have HO233 := n0_; have HO237 := n1_; have BK228 := n2_; have BK229 := n3_; have BK230 := n4_; have HB := n5_; clear n0_ n1_ n2_ n3_ n4_ n5_; (try clear hb); (try clear hb2); (try clear hk); (try clear hi); (try clear ho0); have hcz17_0 : w16.cell? ⟨gb230, 0, none⟩ = some (.int .i64 0) := (blk_cell BK230.out 0).trans rfl; have hcz17_1 : w16.cell? ⟨gb230, 1, none⟩ = some (.slice none 0 0) := (blk_cell BK230.out 1).trans rfl; have hfz17_0 := blk_frozen BK230.out 0; have hfz17_1 := blk_frozen BK230.out 1; obtain ⟨Ao18, co18, eo18⟩ := Kd.S_slice HO237.out; subst eo18))
 refine bodyPost_ret (results_ctt rfl _ _ gb230 29 #[.int .i64 t234, .slice Ao18 t235.length co18] (0, 0) _ rfl (by (with_reducible repeat (first | refine blk_drewN ?_ _ | refine blk_drew ?_ | refine blk_alloc ?_ _)); refine blk_put (cs := #[.int .i64 t234, .slice none 0 0]) ?_ 1 _ rfl; (with_reducible repeat (first | refine blk_drewN ?_ _ | refine blk_drew ?_ | refine blk_alloc ?_ _)); refine blk_put (cs := #[.int .i64 0, .slice none 0 0]) ?_ 0 _ rfl; (with_reducible repeat (first | refine blk_drewN ?_ _ | refine blk_drew ?_ | refine blk_alloc ?_ _)); exact BK230.out) Try.underlying29 rfl (by kernel_rfl)) rfl ?_
 exact ⟨_, by first | rfl | (simp [errW_none, errW_some] <;> rfl) | (simp [*, errW_none, errW_some] <;> rfl), by (with_reducible repeat (first | apply Kd.S_alloc | apply Kd.S_drewN | apply Kd.S_drew)); exact Kd.S_mono (Kd.S_far (p := ⟨gb230, 1, none⟩) (Kd.S_far (p := ⟨gb230, 0, none⟩) (Kd.S_types HO237.out BK230.out (by decide)) (fun _ hk => hk.2) (.int .i64 t234)) (fun _ hk => hk.2) (.slice Ao18 t235.length co18)) (fun _ hk => trivial), by repeat (first | (with_reducible first | exact HB.out | apply below_alloc | apply pw_below_drewN | apply below_drew1 | refine below_set ?_ GE228.out | refine below_set ?_ GE229.out | refine below_set ?_ GE230.out) | exact HB.out)⟩

/-! ### laws_FnHeld: function 8 (by hand; numbers of the seat jaa) -/
/-- The members that an input chooses. -/
def memF (more : List Int) : Nat → Int → List Int → Option (List Int)
 | 0, _, _ => none
 | g + 1, id, ms => if id ≤ 4 then ((laws_r8At.f more (wrap64 (40 + id)) 2).bind fun t => memF more g (wrap64 (id + 1)) (if t = 0 then ms ++ [id] else ms)) else some ms
theorem emptyI {W : World} {base g : Nat} (ok : Nat → Prop) (hok : ok g) (hb : base ≤ g) (hblk : W.heap[g]? = some (.cells #[] 2 (0, 0))) : Kd.R (Kd.int .i64) 2 W base ok (.slice (some ⟨g, 0, none⟩) 0 0) [] :=
 ⟨fun k hk => (show g = k from by simpa [Value.ownBlock] using hk) ▸ hok, [], ⟨rfl, .inr ⟨g, 0, #[], rfl, hb, hblk, Nat.le_refl _, by decide, rfl, rfl⟩⟩, ⟨rfl, fun j p hj => by cases hj⟩⟩
theorem at_I {w : World} {A : Option Addr} {n : Nat} {xs : List Int} (h : Kd.C (Kd.int .i64) w A n xs) (i : Nat) (hi : i < n) : ∃ ad, A = some ad ∧ w.cell? (ad.add i) = some (.int .i64 (xs.getD i 0)) := by
 obtain ⟨ad, c, e, _, hK, hc0⟩ := Kd.C_get h (0 : Int) (i : Int) (by omega) (by omega)
 obtain rfl := hK
 have hq := hc0 0 _ rfl
 refine ⟨ad, e, ?_⟩
 rw [Int.toNat_natCast] at hq
 have hq2 : w.cell? (ad.add (i * 1 + 0)) = some (.int .i64 (xs.getD i 0)) := hq
 rwa [Nat.mul_one, Nat.add_zero] at hq2
theorem hasI_take (ms : List Int) (kk : Nat) (h : kk < ms.length) (x : Int) : hasI (ms.take (kk + 1)) x = (hasI (ms.take kk) x || decide (ms.getD kk 0 = x)) := by
 unfold hasI
 rw [List.take_succ_eq_append_getElem h, List.any_append, List.getD_eq_getElem?_getD, List.getElem?_eq_getElem h]
 simp [eq_comm]
theorem lowS {W0 b u : World} {ok : Nat → Prop} {v : Value} {xs : List S58} (h : Kd.S k58 58 u b.heap.size ok v xs) (hb : Below W0.heap.size W0 b) : Kd.S k58 58 u W0.heap.size ok v xs := Kd.S_lower h hb.size
/-- A new block that a call has left as it was. -/
theorem made1 {W0 c u : World} {arr : Array Value} {t : Nat} (h : Below W0.heap.size W0 c) (hb : Below (c.alloc (.cells arr t)).heap.size (c.alloc (.cells arr t)) u) : u.heap[c.heap.size]? = some (.cells arr t (0, 0)) ∧ W0.heap.size ≤ c.heap.size := ⟨blk_bel (heap_alloc_new c _) hb, h.size⟩
theorem made2 {W0 c u : World} {arr : Array Value} {t : Nat} (h : Below W0.heap.size W0 c) (hb : Below (c.alloc (.cells arr t)).drew.heap.size (c.alloc (.cells arr t)).drew u) : u.heap[c.heap.size]? = some (.cells arr t (0, 0)) ∧ W0.heap.size ≤ c.heap.size := ⟨blk_bel (blk_drew (heap_alloc_new c _)) hb, h.size⟩
noncomputable def sureO (p : Prop) : Option Bool := @ite _ p (Classical.propDecidable p) (some true) none
theorem sureO_some {p : Prop} {r : Bool} (h : sureO p = some r) : p ∧ r = true := by
 unfold sureO at h
 split at h
 ·next hp => injection h with h; exact ⟨hp, h.symm⟩
 ·cases h
theorem sureO_mk {p : Prop} (h : p) : sureO p = some true := by unfold sureO; exact if_pos h
/-- What a box gets. -/
def gotH (ms : List Int) (ps : List S60) (a : S58) : Int := if hasI ms a.f1 = true then (ps.length : Int) else 0
/-- What all boxes get. -/
def sumH (ms : List Int) (ps : List S60) : List S58 → Int → Int
 | [], s => s
 | a :: t, s => sumH ms ps t (wrap64 (s + gotH ms ps a))
/-- What a box holds after a sending. -/
def boxH (lim : Int) (ms : List Int) (ps : List S60) (a b : S58) (l : Int) : Prop :=
 l = (b.f3.length : Int) ∧ (b.f3.length : Int) + b.f2 = (a.f3.length : Int) + a.f2 + gotH ms ps a ∧ (b.f3.length : Int) ≤ lim ∧ a.f2 ≤ b.f2 ∧ 0 ≤ a.f2 ∧ a.f2 ≤ 1000000 ∧ a.f3.length ≤ 64 ∧ (hasI ms a.f1 = true → 0 < ps.length → 0 < b.f3.length ∧ rd_T60 b.f3 ((b.f3.length : Int) - 1) = rd_T60 ps ((ps.length : Int) - 1))
/-- A sending, parcel by parcel. -/
def nowH (k : Nat) (ms : List Int) : List S60 → Int → List S58 → Option (Int × List S58)
 | [], x, y => some (x, y)
 | p :: t, x, y => (impl_SendTo.f k x y ms p.f0 p.f1).bind fun r => if r.2.2.2 = true then nowH k ms t r.1 r.2.1 else none
/-- All that the law finds. -/
structure HeldOK (k : Nat) (code more : List Int) (lim : Int) (bs : List S58) (n0 : Int) (ps : List S60) (ms : List Int) (r1 : Int) (rs : List S58) (n : Int) (ld : List Int) (x : Int) (ys : List S58) : Prop where
 h0 : laws_r8Long.f code more = some false
 h1 : spec_R8Post.f k code = some (lim, bs)
 h2 : laws_r8At.f more 40 8 = some n0
 h3 : spec_R8Parcels.f k more n0 = some ps
 h4 : memF more k 1 [] = some ms
 h5 : impl_SendAll.f k lim bs ms ps = some (r1, rs, n, true)
 h6 : impl_LoadsOf.f k r1 rs = some (ld, true)
 h7 : impl_ValidPost.f k lim bs = some true
 h8 : impl_ValidPost.f k r1 rs = some true
 h9 : rs.length = bs.length
 h10 : ld.length = bs.length
 h11 : ∀ i, i < bs.length → boxH lim ms ps (rd_T58 bs i) (rd_T58 rs i) (ld.getD i 0)
 h12 : sumH ms ps bs 0 = n
 h13 : nowH k ms ps lim bs = some (x, ys)
 h14 : impl_SamePost.f k x ys r1 rs = some true
 h15 : ps.length ≤ 64
 h16 : ms.length ≤ 64
 h17 : bs.length ≤ 64
noncomputable def laws_FnHeld.f (k : Nat) (l0 : List Int) (l1 : List Int) : Option Bool :=
 (laws_r8Long.f l0 l1).bind fun t => if t = true then some true else sureO (∃ lim bs n0 ps ms r1 rs n ld x ys, HeldOK k l0 l1 lim bs n0 ps ms r1 rs n ld x ys)
set_option maxHeartbeats 16000000 in
set_option maxRecDepth 100000 in
theorem laws_FnHeld.calls0 (k : Nat) (A0 : Option Addr) (c0 : Nat) (code : List Int) (A1 : Option Addr) (c1 : Nat) (more : List Int) (r : Bool) (w : World) (hr0 : Kd.C (Kd.int .u8) w A0 code.length code) (hc0 : code.length ≤ c0) (hr1 : Kd.C (Kd.int .u8) w A1 more.length more) (hc1 : more.length ≤ c1) (h : laws_FnHeld.f k code more = some r) :
  Calls Try.prog 8 #[.slice A0 code.length c0, .slice A1 more.length c1] w fun e w' => e = .returned (.bool r) ∧ Below w.heap.size w w' := by
 have HR0 := Aside0.mk hr0
 have HC0 := Aside0.mk hc0
 have HR1 := Aside0.mk hr1
 have HC1 := Aside0.mk hc1
 clear hr0 hc0 hr1 hc1
 unfold laws_FnHeld.f at h
 obtain ⟨t0, ht0, h⟩ := Option.bind_eq_some_iff.mp h
 cases t0 with
 | true =>
  rw [if_pos rfl] at h
  injection h with h
  subst h
  have H0 := Aside0.mk ht0
  clear ht0
  go_enter Try.func8, Try.ntmps8
  go_wp2_with (go_at_call 36; refine (laws_r8Long.calls A0 c0 code A1 c1 more true w HR0.out HC0.out HR1.out HC1.out H0.out).mono ?_; rintro e w1 ⟨rfl, hb⟩; have B1 := Aside0.mk (show Below w.heap.size w w1 from hb.below); clear hb)
  go_ret
  exact ⟨rfl, B1.out⟩
 | false =>
 rw [if_neg (by decide)] at h
 clear ht0
 obtain ⟨⟨lim, bs, n0, ps, ms, r1, rs, n, ld, xx, ys, hh⟩, rfl⟩ := sureO_some h
 have H0 := Aside0.mk hh.h0
 have H1 := Aside0.mk hh.h1
 have H2 := Aside0.mk hh.h2
 have H3 := Aside0.mk hh.h3
 have H4 := Aside0.mk hh.h4
 have H5 := Aside0.mk hh.h5
 have H6 := Aside0.mk hh.h6
 have H7 := Aside0.mk hh.h7
 have H8 := Aside0.mk hh.h8
 have H9 := Aside0.mk hh.h9
 have H10 := Aside0.mk hh.h10
 have H11 := Aside0.mk hh.h11
 have H12 := Aside0.mk hh.h12
 have H13 := Aside0.mk hh.h13
 have H14 := Aside0.mk hh.h14
 have H15 := Aside0.mk hh.h15
 have H16 := Aside0.mk hh.h16
 have H17 := Aside0.mk hh.h17
 clear hh
 clear h
 go_enter Try.func8, Try.ntmps8
 go_upto_region 4 with (first | (go_at_call 36; refine (laws_r8Long.calls A0 c0 code A1 c1 more false w HR0.out HC0.out HR1.out HC1.out H0.out).mono ?_; rintro e w1 ⟨rfl, hb⟩; have B1 := Aside0.mk (show Below w.heap.size w w1 from hb.below); clear hb) | (go_at_call 37; refine (spec_R8Post.calls k A0 c0 code lim bs w1 (Kd.C_below HR0.out B1.out) HC0.out H1.out).mono ?_; rintro e w2 ⟨v, rfl, hs, hb⟩; obtain ⟨Ap, cp, ev⟩ := Kd.S_slice hs; subst ev; have Sp0 := Aside0.mk (Kd.S_lower hs B1.out.size); have Cp0 := Aside0.mk (Kd.S_reads' hs).2.2; have Lp := Aside0.mk (Kd.S_reads' hs).2.1; have B2 := Aside0.mk (B1.out.trans (hb.mono B1.out.size)); clear hs hb))
 obtain ⟨W2, hW2⟩ : ∃ W2, W2 = w2.alloc (.cells #[.int .i64 lim, .slice Ap bs.length cp] 29) := ⟨_, rfl⟩
 have KP2 : Aside0 (W2.heap[w2.heap.size]? = some (.cells #[.int .i64 lim, .slice Ap bs.length cp] 29 (0, 0))) := ⟨by rw [hW2]; exact heap_alloc_new w2 _⟩
 have CP2 : Aside0 (Kd.C k58 W2 Ap bs.length bs) := ⟨by rw [hW2]; exact Kd.C_alloc Cp0.out _⟩
 have SP2 : Aside0 (Kd.S k58 58 W2 w.heap.size (fun _ => True) (.slice Ap bs.length cp) bs) := ⟨by rw [hW2]; exact Kd.S_mono (Kd.S_alloc Sp0.out _) (fun _ _ => trivial)⟩
 have BW2 : Aside0 (Below w.heap.size w W2) := ⟨by rw [hW2]; exact B2.out.alloc B2.out.size _⟩
 obtain ⟨gP, hgP⟩ : ∃ gP, gP = w2.heap.size := ⟨_, rfl⟩
 rw [← hgP] at KP2
 rw [← hW2]
 try rw [← hgP]
 clear hW2 hgP B1 B2 Cp0 Sp0
 go_upto_region 5 with (first | (go_at_call 39; refine (laws_r8At.calls A1 c1 more 40 8 n0 W2 (Kd.C_below HR1.out BW2.out) HC1.out H2.out).mono ?_; rintro e w3 ⟨rfl, hb⟩; have b3 : Below W2.heap.size W2 w3 := hb.below; have KP3 := Aside0.mk (blk_bel KP2.out b3); have CP3 := Aside0.mk (Kd.C_below CP2.out b3); have SP3 := Aside0.mk (Kd.S_below SP2.out b3); have B3 := Aside0.mk (BW2.out.trans (b3.mono BW2.out.size)); clear hb b3) | (go_at_call 38; refine (spec_R8Parcels.calls k A1 c1 more n0 ps w3 (Kd.C_below HR1.out B3.out) HC1.out H3.out).mono ?_; rintro e w4 ⟨v, rfl, hr, hb⟩; obtain ⟨Al, cl, ev⟩ := Kd.R_slice hr; subst ev; have Cl4 := Aside0.mk (Kd.R_reads' hr).2.2; have Ll := Aside0.mk (Kd.R_reads' hr).2.1; have KP4 := Aside0.mk (blk_bel KP3.out hb); have CP4 := Aside0.mk (Kd.C_below CP3.out hb); have SP4 := Aside0.mk (Kd.S_below SP3.out hb); have B4 := Aside0.mk (B3.out.trans (hb.mono B3.out.size)); clear hr hb))
 clear KP2 CP2 BW2 KP3 CP3 B3 SP2 SP3
 go_wp2_with fail
 have BM0 := Aside0.mk (below_alloc (Below.refl w4.heap.size w4) (.cells #[] 2))
 have RM0 : Aside0 (Kd.R (Kd.int .i64) 2 (w4.alloc (.cells #[] 2)) w4.heap.size (fun _ => True) (.slice (some ⟨w4.heap.size, 0, none⟩) 0 0) []) := ⟨emptyI _ trivial (Nat.le_refl _) (heap_alloc_new w4 _)⟩
 go_loopg [7, 8] k (fun kq v7 v8 wr => ∃ (id : Int) (ms1 : List Int), v8 = .int .i64 id ∧ (ms1.length : Int) + 1 ≤ id ∧ Aside0 (memF more kq id ms1 = some ms) ∧ Aside0 (Kd.R (Kd.int .i64) 2 wr w4.heap.size (fun _ => True) v7 ms1) ∧ Aside0 (Below w4.heap.size w4 wr))
 case atStart => exact ⟨1, [], rfl, by simp, H4, RM0, BM0⟩
 case round =>
  clear H4 RM0 BM0
  obtain ⟨id, ms1, rfl, hln, HA, RM, BM⟩ := hrel
  obtain ⟨Am, cm, em⟩ := Kd.R_slice RM.out
  subst em
  cases gk with
  | zero => exact absurd HA.out (by simp [memF])
  | succ k1 =>
   have H := HA.out
   clear HA
   simp only [memF] at H
   by_cases c0 : id ≤ 4
   ·rw [if_pos c0] at H
    have hw : wrap64 (id + 1) = id + 1 := by unfold wrap64; omega
    have hw2 : wrap64 (40 + id) = 40 + id := by unfold wrap64; omega
    rw [hw, hw2] at H
    obtain ⟨t, hT, H⟩ := Option.bind_eq_some_iff.mp H
    have HT := Aside0.mk hT
    clear hT
    by_cases ht : t = 0
    ·subst ht
     rw [if_pos rfl] at H
     have HN := Aside0.mk H
     clear H
     go_wp2_with (first | (go_at_call 39; refine (laws_r8At.calls A1 c1 more (40 + id) 2 0 wr (Kd.C_below (Kd.C_below HR1.out B4.out) BM.out) HC1.out HT.out).mono ?_; rintro e w5 ⟨rfl, hb⟩; have b5 : Below wr.heap.size wr w5 := hb.below; have RM5 := Aside0.mk (Kd.R_below RM.out b5); have BM5 := Aside0.mk (BM.out.trans (b5.mono BM.out.size)); clear hb b5 RM BM) | ((with_reducible refine gate_builtin (b := .append) (xs := #[.tmp 45, .tmp 47]) rfl ?_); at_builtin; refine Kd.R_append (Kd.int .i64) (w0 := w4) w4.heap.size rfl (.tmp 45) (.tmp 47) 38 2 (.int .i64 0) 8 rfl Try.underlying38 info2 rfl (by decide) (by omega) (.slice Am ms1.length cm) ms1 id [.int .i64 id] (fun _ => True) (fun _ => False) rfl (by first | (go_simp; done) | (go_simp; rfl)) rfl (fun _ hk => hk.elim) (fun _ _ => trivial) RM5.out BM5.out BM5.out.size (by omega) ?_; intro v1 w6 hr hb hg hat; have RM6 := Aside0.mk hr; have BM6 := Aside0.mk hb; clear hr hb hg hat))
     go_roundg k1
     all_goals (first | omega | exact ⟨id + 1, ms1 ++ [id], by first | rfl | (rw [hw]), by rw [List.length_append, List.length_singleton]; omega, HN, RM6, BM6⟩)
    ·rw [if_neg ht] at H
     have HN := Aside0.mk H
     clear H
     have hte : (t = 0) = False := eq_false ht
     go_wp2_with (go_at_call 39; refine (laws_r8At.calls A1 c1 more (40 + id) 2 t wr (Kd.C_below (Kd.C_below HR1.out B4.out) BM.out) HC1.out HT.out).mono ?_; rintro e w5 ⟨rfl, hb⟩; have b5 : Below wr.heap.size wr w5 := hb.below; have RM5 := Aside0.mk (Kd.R_below RM.out b5); have BM5 := Aside0.mk (BM.out.trans (b5.mono BM.out.size)); clear hb b5 RM BM)
     go_roundg k1
     all_goals (first | omega | exact ⟨id + 1, ms1, by first | rfl | (rw [hw]), by omega, HN, RM5, BM5⟩)
   ·rw [if_neg c0] at H
    obtain rfl : ms = ms1 := by simpa using H.symm
    clear H
    have KP5 := Aside0.mk (blk_bel KP4.out BM.out)
    have CP5 := Aside0.mk (Kd.C_below CP4.out BM.out)
    have SP5 := Aside0.mk (Kd.S_below SP4.out BM.out)
    have Cl5 := Aside0.mk (Kd.C_below Cl4.out BM.out)
    have B5 := Aside0.mk (B4.out.trans (BM.out.mono B4.out.size))
    have Cm5 := Aside0.mk (Kd.R_reads' RM.out).2.2
    have Lm := Aside0.mk (Kd.R_reads' RM.out).2.1
    have hp0 : wr.cell? ⟨gP, 0, none⟩ = some (.int .i64 lim) := (blk_cell KP5.out 0).trans rfl
    have hp1 : wr.cell? ⟨gP, 1, none⟩ = some (.slice Ap bs.length cp) := (blk_cell KP5.out 1).trans rfl
    clear KP4 CP4 Cl4 B4 BM RM SP4 hln HR0 HR1 H0 H1 H2 H3
    go_upto_region 12 with (go_at_call 40; refine (impl_SendAll.calls k lim Ap cp bs Am cm ms Al cl ps r1 rs n true wr CP5.out Lp.out Cm5.out Lm.out Cl5.out Ll.out H5.out).mono ?_; rintro e w6 ⟨v, rfl, hs, hb⟩; obtain ⟨Ao, co, ev⟩ := Kd.S_slice hs; subst ev; have Co6 := Aside0.mk (Kd.S_reads' hs).2.2; have Lo := Aside0.mk (Kd.S_reads' hs).2.1; have B6 := Aside0.mk hb; clear hp0 hp1 hs hb)
    obtain ⟨W7, hW7⟩ : ∃ W7, W7 = w6.alloc (.cells #[.int .i64 r1, .slice Ao rs.length co] 29) := ⟨_, rfl⟩
    have KO7 : Aside0 (W7.heap[w6.heap.size]? = some (.cells #[.int .i64 r1, .slice Ao rs.length co] 29 (0, 0))) := ⟨by rw [hW7]; exact heap_alloc_new w6 _⟩
    have CO7 : Aside0 (Kd.C k58 W7 Ao rs.length rs) := ⟨by rw [hW7]; exact Kd.C_alloc Co6.out _⟩
    have b57 : Aside0 (Below wr.heap.size wr W7) := ⟨by rw [hW7]; exact B6.out.alloc B6.out.size _⟩
    have KP7 := Aside0.mk (blk_bel KP5.out b57.out)
    have CP7 := Aside0.mk (Kd.C_below CP5.out b57.out)
    have SP7 := Aside0.mk (Kd.S_below SP5.out b57.out)
    have Cl7 := Aside0.mk (Kd.C_below Cl5.out b57.out)
    have Cm7 := Aside0.mk (Kd.C_below Cm5.out b57.out)
    have B7 := Aside0.mk (B5.out.trans (b57.out.mono B5.out.size))
    obtain ⟨gO, hgO⟩ : ∃ gO, gO = w6.heap.size := ⟨_, rfl⟩
    rw [← hgO] at KO7
    rw [← hW7]
    try rw [← hgO]
    clear hW7 hgO b57 KP5 CP5 SP5 Cl5 Cm5 B5 Co6 B6 H5
    have ho0 : W7.cell? ⟨gO, 0, none⟩ = some (.int .i64 r1) := (blk_cell KO7.out 0).trans rfl
    have ho1 : W7.cell? ⟨gO, 1, none⟩ = some (.slice Ao rs.length co) := (blk_cell KO7.out 1).trans rfl
    go_upto_region 13 with (go_at_call 27; refine (impl_LoadsOf.calls k r1 Ao co rs ld true W7 CO7.out Lo.out H6.out).mono ?_; rintro e w8 ⟨v, rfl, hr, hb⟩; obtain ⟨Ad, cd, ev⟩ := Kd.R_slice hr; subst ev; have CD8 := Aside0.mk (Kd.R_reads' hr).2.2; have Ld := Aside0.mk (Kd.R_reads' hr).2.1; have b8 := Aside0.mk hb; clear ho0 ho1 hr hb)
    have KP8 := Aside0.mk (blk_bel KP7.out b8.out)
    have KO8 := Aside0.mk (blk_bel KO7.out b8.out)
    have CP8 := Aside0.mk (Kd.C_below CP7.out b8.out)
    have CO8 := Aside0.mk (Kd.C_below CO7.out b8.out)
    have SP8 := Aside0.mk (Kd.S_below SP7.out b8.out)
    have Cl8 := Aside0.mk (Kd.C_below Cl7.out b8.out)
    have Cm8 := Aside0.mk (Kd.C_below Cm7.out b8.out)
    have B8 := Aside0.mk (B7.out.trans (b8.out.mono B7.out.size))
    clear b8 KP7 KO7 CP7 CO7 SP7 Cl7 Cm7 B7 H6
    have hp0 : w8.cell? ⟨gP, 0, none⟩ = some (.int .i64 lim) := (blk_cell KP8.out 0).trans rfl
    have hp1 : w8.cell? ⟨gP, 1, none⟩ = some (.slice Ap bs.length cp) := (blk_cell KP8.out 1).trans rfl
    have ho0 : w8.cell? ⟨gO, 0, none⟩ = some (.int .i64 r1) := (blk_cell KO8.out 0).trans rfl
    have ho1 : w8.cell? ⟨gO, 1, none⟩ = some (.slice Ao rs.length co) := (blk_cell KO8.out 1).trans rfl
    have l1 : ((rs.length : Int) != (bs.length : Int)) = false := bne_eq_false_iff_eq.mpr (by have := H9.out; omega)
    have l2 : ((ld.length : Int) != (bs.length : Int)) = false := bne_eq_false_iff_eq.mpr (by have := H10.out; omega)
    have l3 : (rs.length != bs.length) = false := bne_eq_false_iff_eq.mpr H9.out
    have l4 : (ld.length != bs.length) = false := bne_eq_false_iff_eq.mpr H10.out
    have l5 : (rs.length == bs.length) = true := beq_iff_eq.mpr H9.out
    have l6 : (ld.length == bs.length) = true := beq_iff_eq.mpr H10.out
    have st1 : True := trivial
    go_upto_region 15 with (first | (go_at_call 25; have _g := st1; clear _g st1; refine (impl_ValidPost.calls k lim Ap cp bs true w8 CP8.out Lp.out H7.out).mono ?_; rintro e w9 ⟨rfl, hb⟩; have b9 := Aside0.mk hb; clear hp0 hp1 ho0 ho1 hb; have hp1 : w9.cell? ⟨gP, 1, none⟩ = some (.slice Ap bs.length cp) := (blk_cell (blk_bel KP8.out b9.out) 1).trans rfl; have ho0 : w9.cell? ⟨gO, 0, none⟩ = some (.int .i64 r1) := (blk_cell (blk_bel KO8.out b9.out) 0).trans rfl; have ho1 : w9.cell? ⟨gO, 1, none⟩ = some (.slice Ao rs.length co) := (blk_cell (blk_bel KO8.out b9.out) 1).trans rfl; have st2 : True := trivial) | (go_at_call 25; have _g := st2; clear _g st2; refine (impl_ValidPost.calls k r1 Ao co rs true w9 (Kd.C_below CO8.out b9.out) Lo.out H8.out).mono ?_; rintro e w10 ⟨rfl, hb⟩; have b10 := Aside0.mk (b9.out.trans (hb.mono b9.out.size)); clear hp1 ho0 ho1 hb; have hp1 : w10.cell? ⟨gP, 1, none⟩ = some (.slice Ap bs.length cp) := (blk_cell (blk_bel KP8.out b10.out) 1).trans rfl; have ho1 : w10.cell? ⟨gO, 1, none⟩ = some (.slice Ao rs.length co) := (blk_cell (blk_bel KO8.out b10.out) 1).trans rfl))
    go_wp2_with fail
    go_loopg [14, 15] bs.length (fun gg v14 v15 wq => ∃ (i : Nat) (s : Int), i ≤ bs.length ∧ bs.length - i ≤ gg ∧ v14 = .int .i64 s ∧ v15 = .int .i64 i ∧ Aside0 (sumH ms ps (bs.drop i) s = n) ∧ Aside0 (Below w8.heap.size w8 wq))
    case atStart => exact ⟨0, 0, Nat.zero_le _, by omega, rfl, rfl, H12, b10⟩
    case round =>
     clear hp1 ho1 l1 l2 l3 l4 l5 l6 b9 b10 H7 H8 H12
     rename World => wq
     obtain ⟨i, s, hi, hgg, rfl, rfl, HS, HL⟩ := hrel
     obtain ⟨gko, hgko⟩ : ∃ g, g = gk := ⟨_, rfl⟩
     have hp0 : wq.cell? ⟨gP, 0, none⟩ = some (.int .i64 lim) := (blk_cell (blk_bel KP8.out HL.out) 0).trans rfl
     have hp1 : wq.cell? ⟨gP, 1, none⟩ = some (.slice Ap bs.length cp) := (blk_cell (blk_bel KP8.out HL.out) 1).trans rfl
     by_cases hlt : i < bs.length
     ·have hltz : (i : Int) < (bs.length : Int) := by omega
      have hltr : (i : Int) < (rs.length : Int) := by have := H9.out; omega
      have hltd : i < ld.length := by have := H10.out; omega
      obtain ⟨ada, A3, c3, ea, ha0, ha1, ha2, ha3, la3, Ca3⟩ := at_T58 CP8.out (i : Int) (by omega) hltz
      obtain ⟨adb, B3, d3, eb, hb0, hb1, hb2, hb3, lb3, Cb3⟩ := at_T58 CO8.out (i : Int) (by omega) hltr
      obtain ⟨add, ed, hd⟩ := at_I CD8.out i hltd
      have BX := H11.out i hlt
      have hdrop : bs.drop i = rd_T58 bs (i : Int) :: bs.drop (i + 1) := by
       rw [List.drop_eq_getElem_cons hlt]
       congr 1
       unfold rd_T58
       rw [Int.toNat_natCast, List.getD_eq_getElem?_getD, List.getElem?_eq_getElem hlt]; rfl
      have HS1 := HS.out
      rw [hdrop] at HS1
      subst ea eb ed
      rw [Int.toNat_natCast] at ha0 ha1 ha2 ha3 hb0 hb1 hb2 hb3
      obtain ⟨a, hea⟩ : ∃ a, a = rd_T58 bs (i : Int) := ⟨_, rfl⟩
      obtain ⟨b, heb⟩ : ∃ b, b = rd_T58 rs (i : Int) := ⟨_, rfl⟩
      rw [← hea] at ha0 ha1 ha2 ha3 la3 Ca3 BX HS1
      rw [← heb] at hb0 hb1 hb2 hb3 lb3 Cb3 BX
      obtain ⟨b1, b2, b3, b4, b5, b6, b7, b8⟩ := BX
      rw [b1] at hd
      have HB8 := Aside0.mk b8
      have HSN := Aside0.mk (show sumH ms ps (bs.drop (i + 1)) (wrap64 (s + gotH ms ps a)) = n from HS1)
      have KA3 := Aside0.mk Ca3
      have KB3 := Aside0.mk Cb3
      have LA3 := Aside0.mk la3
      have LB3 := Aside0.mk lb3
      replace ha0 := (HL.out.cell (World.block_lt_of_cell? w8 _ ha0)).trans ha0
      replace ha1 := (HL.out.cell (World.block_lt_of_cell? w8 _ ha1)).trans ha1
      replace ha2 := (HL.out.cell (World.block_lt_of_cell? w8 _ ha2)).trans ha2
      replace ha3 := (HL.out.cell (World.block_lt_of_cell? w8 _ ha3)).trans ha3
      clear hdrop HS HS1 hea heb Ca3 Cb3 la3 lb3 b1 b8
      replace hd := (HL.out.cell (World.block_lt_of_cell? w8 _ hd)).trans hd
      go_upto_region 20 with fail
      obtain ⟨WA, hWA⟩ : ∃ WA, WA = wq.alloc (.cells #[.string a.f0, .int .i64 a.f1, .int .i64 a.f2, .slice A3 a.f3.length c3] 58) := ⟨_, rfl⟩
      have KA : Aside0 (WA.heap[wq.heap.size]? = some (.cells #[.string a.f0, .int .i64 a.f1, .int .i64 a.f2, .slice A3 a.f3.length c3] 58 (0, 0))) := ⟨by rw [hWA]; exact heap_alloc_new wq _⟩
      have HA : Aside0 (Below w8.heap.size w8 WA) := ⟨by rw [hWA]; exact HL.out.alloc HL.out.size _⟩
      have LA : Below wq.heap.size wq WA := by rw [hWA]; exact below_alloc (Below.refl _ _) _
      replace hb0 := (HA.out.cell (World.block_lt_of_cell? w8 _ hb0)).trans hb0
      replace hb1 := (HA.out.cell (World.block_lt_of_cell? w8 _ hb1)).trans hb1
      replace hb2 := (HA.out.cell (World.block_lt_of_cell? w8 _ hb2)).trans hb2
      replace hb3 := (HA.out.cell (World.block_lt_of_cell? w8 _ hb3)).trans hb3
      replace hd := (LA.cell (World.block_lt_of_cell? wq _ hd)).trans hd
      obtain ⟨gA, hgA⟩ : ∃ gA, gA = wq.heap.size := ⟨_, rfl⟩
      rw [← hgA] at KA
      rw [← hWA]
      try rw [← hgA]
      clear hWA hgA LA ha0 ha1 ha2 ha3 hp0 hp1
      have ho1 : WA.cell? ⟨gO, 1, none⟩ = some (.slice (some adb) rs.length co) := (blk_cell (blk_bel KO8.out HA.out) 1).trans rfl
      go_upto_region 21 with fail
      obtain ⟨WB, hWB⟩ : ∃ WB, WB = WA.alloc (.cells #[.string b.f0, .int .i64 b.f1, .int .i64 b.f2, .slice B3 b.f3.length d3] 58) := ⟨_, rfl⟩
      have KB : Aside0 (WB.heap[WA.heap.size]? = some (.cells #[.string b.f0, .int .i64 b.f1, .int .i64 b.f2, .slice B3 b.f3.length d3] 58 (0, 0))) := ⟨by rw [hWB]; exact heap_alloc_new WA _⟩
      have LB : Below WA.heap.size WA WB := by rw [hWB]; exact below_alloc (Below.refl _ _) _
      have HB : Aside0 (Below w8.heap.size w8 WB) := ⟨HA.out.trans (LB.mono HA.out.size)⟩
      have KA2 := Aside0.mk (blk_bel KA.out LB)
      replace hd := (LB.cell (World.block_lt_of_cell? WA _ hd)).trans hd
      have HD := Aside0.mk hd
      obtain ⟨gB, hgB⟩ : ∃ gB, gB = WA.heap.size := ⟨_, rfl⟩
      rw [← hgB] at KB
      rw [← hWB]
      try rw [← hgB]
      clear hWB hgB LB hb0 hb1 hb2 hb3 ho1 KA HA HL hd
      go_wp2_with fail
      go_loopg [18, 19] ms.length (fun gg v18 v19 wr2 => ∃ kk : Nat, kk ≤ ms.length ∧ ms.length - kk ≤ gg ∧ v18 = .bool (hasI (ms.take kk) a.f1) ∧ v19 = .int .i64 kk ∧ Aside0 (Below WB.heap.size WB wr2))
      case atStart => exact ⟨0, Nat.zero_le _, by omega, rfl, rfl, ⟨Below.refl _ _⟩⟩
      case round =>
       rename World => wi
       obtain ⟨kk, hkk, hgg2, rfl, rfl, HI⟩ := hrel
       by_cases hkl : kk < ms.length
       ·have hklz : (kk : Int) < (ms.length : Int) := by omega
        obtain ⟨adm, em, hm⟩ := at_I Cm8.out kk hkl
        subst em
        replace hm := (HB.out.cell (World.block_lt_of_cell? w8 _ hm)).trans hm
        replace hm := (HI.out.cell (World.block_lt_of_cell? WB _ hm)).trans hm
        have ha1 : wi.cell? ⟨gA, 1, none⟩ = some (.int .i64 a.f1) := (blk_cell (blk_bel KA2.out HI.out) 1).trans rfl
        have hst := hasI_take ms kk hkl a.f1
        obtain ⟨hv, ehv⟩ : ∃ hv, hv = hasI (ms.take kk) a.f1 := ⟨_, rfl⟩
        rw [← ehv] at hst ⊢
        obtain ⟨mk, emk⟩ : ∃ mk, mk = ms.getD kk 0 := ⟨_, rfl⟩
        rw [← emk] at hst hm
        clear ehv emk
        have HST := Aside0.mk hst
        clear hst
        have HWK : Aside0 (wrap64 ((kk : Int) + 1) = ((kk + 1 : Nat) : Int)) := ⟨by have := H16.out; unfold wrap64; omega⟩
        cases hv with
        | true =>
         go_wp2_with fail
         repeat (go_quiet (fail); try go_wp2)
         go_roundg (gk - 1)
         case measure => omega
         case rel => exact ⟨kk + 1, by omega, by omega, by rw [HST.out]; rfl, by rw [HWK.out], ⟨by repeat (first | (with_reducible first | exact HI.out | apply below_alloc | apply pw_below_drewN | apply below_drew1) | exact HI.out)⟩⟩
        | false =>
         by_cases hmk : mk = a.f1
         ·have q1 : (mk == a.f1) = true := beq_iff_eq.mpr hmk
          have q2 : decide (mk = a.f1) = true := decide_eq_true hmk
          go_wp2_with fail
          repeat (go_quiet (fail); try go_wp2)
          go_roundg (gk - 1)
          case measure => omega
          case rel => exact ⟨kk + 1, by omega, by omega, by rw [HST.out, q2]; rfl, by rw [HWK.out], ⟨by repeat (first | (with_reducible first | exact HI.out | apply below_alloc | apply pw_below_drewN | apply below_drew1) | exact HI.out)⟩⟩
         ·have q1 : (mk == a.f1) = false := beq_eq_false_iff_ne.mpr hmk
          have q2 : decide (mk = a.f1) = false := decide_eq_false hmk
          go_wp2_with fail
          repeat (go_quiet (fail); try go_wp2)
          go_roundg (gk - 1)
          case measure => omega
          case rel => exact ⟨kk + 1, by omega, by omega, by rw [HST.out, q2]; rfl, by rw [HWK.out], ⟨by repeat (first | (with_reducible first | exact HI.out | apply below_alloc | apply pw_below_drewN | apply below_drew1) | exact HI.out)⟩⟩
       ·obtain rfl : kk = ms.length := by omega
        rw [List.take_length]
        have ha0 : wi.cell? ⟨gA, 2, none⟩ = some (.int .i64 a.f2) := (blk_cell (blk_bel KA2.out HI.out) 2).trans rfl
        have ha3 : wi.cell? ⟨gA, 3, none⟩ = some (.slice A3 a.f3.length c3) := (blk_cell (blk_bel KA2.out HI.out) 3).trans rfl
        have hb2 : wi.cell? ⟨gB, 2, none⟩ = some (.int .i64 b.f2) := (blk_cell (blk_bel KB.out HI.out) 2).trans rfl
        have hb3 : wi.cell? ⟨gB, 3, none⟩ = some (.slice B3 b.f3.length d3) := (blk_cell (blk_bel KB.out HI.out) 3).trans rfl
        have hd := (HI.out.cell (World.block_lt_of_cell? WB _ HD.out)).trans HD.out
        have hp0 : wi.cell? ⟨gP, 0, none⟩ = some (.int .i64 lim) := (blk_cell (blk_bel KP8.out (HB.out.trans (HI.out.mono HB.out.size))) 0).trans rfl
        have HI8 := Aside0.mk (HB.out.trans (HI.out.mono HB.out.size))
        have h64 := H15.out
        have HWI : Aside0 (wrap64 ((i : Int) + 1) = ((i + 1 : Nat) : Int)) := ⟨by have := H17.out; unfold wrap64; omega⟩
        cases hin : hasI ms a.f1 with
        | true =>
         have hgot : gotH ms ps a = (ps.length : Int) := by unfold gotH; rw [if_pos hin]
         rw [hgot] at b2
         have r3 : ((b.f3.length : Int) + b.f2 != (a.f3.length : Int) + a.f2 + (ps.length : Int)) = false := bne_eq_false_iff_eq.mpr b2
         have r4 : decide (lim < (b.f3.length : Int)) = false := decide_eq_false (by omega)
         have r5 : decide (b.f2 < a.f2) = false := decide_eq_false (by omega)
         go_upto_region 30 with fail
         go_quiet (fail)
         go_upto_region 32 with fail
         have HSN2 := Aside0.mk (show sumH ms ps (bs.drop (i + 1)) (wrap64 (s + (ps.length : Int))) = n by have := HSN.out; rw [hgot] at this; exact this)
         by_cases hz : 0 < ps.length
         ·obtain ⟨hbl, hlast⟩ := HB8.out hin hz
          obtain ⟨adx, ex, hx0, hx1⟩ := at_T60 KB3.out ((b.f3.length : Int) - 1) (by omega) (by omega)
          obtain ⟨ady, ey, hy0, hy1⟩ := at_T60 Cl8.out ((ps.length : Int) - 1) (by omega) (by omega)
          rw [hlast] at hx0 hx1
          subst ex ey
          replace hx0 := (HI8.out.cell (World.block_lt_of_cell? w8 _ hx0)).trans hx0
          replace hx1 := (HI8.out.cell (World.block_lt_of_cell? w8 _ hx1)).trans hx1
          replace hy0 := (HI8.out.cell (World.block_lt_of_cell? w8 _ hy0)).trans hy0
          replace hy1 := (HI8.out.cell (World.block_lt_of_cell? w8 _ hy1)).trans hy1
          have n1 : ((b.f3.length : Int) - 1).toNat = b.f3.length - 1 := by omega
          have n2 : ((ps.length : Int) - 1).toNat = ps.length - 1 := by omega
          obtain ⟨z, hz_⟩ : ∃ z, z = rd_T60 ps ((ps.length : Int) - 1) := ⟨_, rfl⟩
          rw [← hz_] at hx0 hx1 hy0 hy1
          clear hlast hz_
          rw [n1] at hx0 hx1; rw [n2] at hy0 hy1
          go_quiet (fail)
          go_wp2_with fail
          go_roundg (gko - 1)
          case measure => omega
          case rel => exact ⟨i + 1, wrap64 (s + (ps.length : Int)), by omega, by omega, rfl, by rw [HWI.out], HSN2, ⟨by repeat (first | (with_reducible first | exact HI8.out | apply below_alloc | apply pw_below_drewN | apply below_drew1) | exact HI8.out)⟩⟩
         ·have hz0 : ps.length = 0 := by omega
          have hz1 : ((ps.length : Int) > 0) = False := eq_false (by omega)
          have hz2 : decide ((0 : Int) < (ps.length : Int)) = false := decide_eq_false (by omega)
          go_quiet (fail)
          go_wp2_with fail
          go_roundg (gko - 1)
          case measure => omega
          case rel => exact ⟨i + 1, wrap64 (s + (ps.length : Int)), by omega, by omega, rfl, by rw [HWI.out], HSN2, ⟨by repeat (first | (with_reducible first | exact HI8.out | apply below_alloc | apply pw_below_drewN | apply below_drew1) | exact HI8.out)⟩⟩
        | false =>
         have hgot : gotH ms ps a = 0 := by unfold gotH; rw [hin]; rfl
         rw [hgot] at b2
         have b2 : (b.f3.length : Int) + b.f2 = (a.f3.length : Int) + a.f2 := by omega
         have r3 : ((b.f3.length : Int) + b.f2 != (a.f3.length : Int) + a.f2) = false := bne_eq_false_iff_eq.mpr b2
         have r4 : decide (lim < (b.f3.length : Int)) = false := decide_eq_false (by omega)
         have r5 : decide (b.f2 < a.f2) = false := decide_eq_false (by omega)
         go_upto_region 30 with fail
         go_quiet (fail)
         go_upto_region 32 with fail
         have HSN2 := Aside0.mk (show sumH ms ps (bs.drop (i + 1)) (wrap64 s) = n by have := HSN.out; rw [hgot, Int.add_zero] at this; exact this)
         go_quiet (fail)
         go_wp2_with fail
         go_roundg (gko - 1)
         case measure => omega
         case rel => exact ⟨i + 1, wrap64 s, by omega, by omega, rfl, by rw [HWI.out], HSN2, ⟨by repeat (first | (with_reducible first | exact HI8.out | apply below_alloc | apply pw_below_drewN | apply below_drew1) | exact HI8.out)⟩⟩
     ·obtain rfl : i = bs.length := by omega
      have hsn : n = s := by have := HS.out; rw [List.drop_length] at this; exact this.symm
      subst hsn
      clear HS
      go_upto_region 35 with fail
      obtain ⟨WN, hWN⟩ : ∃ WN, WN = wq.alloc (.cells #[.int .i64 lim, .slice Ap bs.length cp] 29) := ⟨_, rfl⟩
      have KN : Aside0 (WN.heap[wq.heap.size]? = some (.cells #[.int .i64 lim, .slice Ap bs.length cp] 29 (0, 0))) := ⟨by rw [hWN]; exact heap_alloc_new wq _⟩
      have SN : Aside0 (Kd.S k58 58 WN w.heap.size (fun _ => True) (.slice Ap bs.length cp) bs) := ⟨by rw [hWN]; exact Kd.S_mono (Kd.S_alloc (Kd.S_below SP8.out HL.out) _) (fun _ _ => trivial)⟩
      have HN : Aside0 (Below w8.heap.size w8 WN) := ⟨by rw [hWN]; exact HL.out.alloc HL.out.size _⟩
      obtain ⟨gN, hgN⟩ : ∃ gN, gN = wq.heap.size := ⟨_, rfl⟩
      rw [← hgN] at KN
      rw [← hWN]
      try rw [← hgN]
      have GN : Aside0 (w8.heap.size ≤ gN) := ⟨by rw [hgN]; exact HL.out.size⟩
      clear hWN hgN HL hp0 hp1
      go_wp2_with fail
      go_loopg [22] ps.length (fun gg v22 wr => ∃ (j : Nat) (x : Int) (zs : List S58) (An : Option Addr) (cn : Nat), j ≤ ps.length ∧ ps.length - j ≤ gg ∧ v22 = .int .i64 j ∧ Aside0 (nowH k ms (ps.drop j) x zs = some (xx, ys)) ∧ Aside0 (wr.heap[gN]? = some (.cells #[.int .i64 x, .slice An zs.length cn] 29 (0, 0))) ∧ Aside0 (Kd.S k58 58 wr w.heap.size (fun _ => True) (.slice An zs.length cn) zs) ∧ Aside0 (Below w8.heap.size w8 wr))
      case atStart => exact ⟨0, lim, bs, Ap, cp, Nat.zero_le _, by omega, rfl, H13, KN, SN, HN⟩
      case round =>
       rename World => wt
       clear KN SN HN
       obtain ⟨j, x, zs, An, cn, hj, hgg3, rfl, HNW, KN, SN, HT⟩ := hrel
       have hn0 : wt.cell? ⟨gN, 0, none⟩ = some (.int .i64 x) := (blk_cell KN.out 0).trans rfl
       have hn1 : wt.cell? ⟨gN, 1, none⟩ = some (.slice An zs.length cn) := (blk_cell KN.out 1).trans rfl
       by_cases hjl : j < ps.length
       ·have hjlz : (j : Int) < (ps.length : Int) := by omega
        have HWJ : Aside0 (wrap64 ((j : Int) + 1) = ((j + 1 : Nat) : Int)) := ⟨by have := H15.out; unfold wrap64; omega⟩
        obtain ⟨adp, ep, hx0, hx1⟩ := at_T60 Cl8.out (j : Int) (by omega) hjlz
        subst ep
        rw [Int.toNat_natCast] at hx0 hx1
        have hdrop : ps.drop j = rd_T60 ps (j : Int) :: ps.drop (j + 1) := by
         rw [List.drop_eq_getElem_cons hjl]
         congr 1
         unfold rd_T60
         rw [Int.toNat_natCast, List.getD_eq_getElem?_getD, List.getElem?_eq_getElem hjl]; rfl
        have HN1 := HNW.out
        rw [hdrop] at HN1
        obtain ⟨pz, hpz⟩ : ∃ pz, pz = rd_T60 ps (j : Int) := ⟨_, rfl⟩
        rw [← hpz] at hx0 hx1 HN1
        obtain ⟨⟨y1, us, y3, y4⟩, hU, HN2⟩ := Option.bind_eq_some_iff.mp (show (impl_SendTo.f k x zs ms pz.f0 pz.f1).bind (fun r => if r.2.2.2 = true then nowH k ms (ps.drop (j + 1)) r.1 r.2.1 else none) = some (xx, ys) from HN1)
        cases y4 with
        | false => exact absurd HN2 (by simp)
        | true =>
        rw [if_pos rfl] at HN2
        have HU := Aside0.mk hU
        have HNX := Aside0.mk HN2
        replace hx0 := (HT.out.cell (World.block_lt_of_cell? w8 _ hx0)).trans hx0
        replace hx1 := (HT.out.cell (World.block_lt_of_cell? w8 _ hx1)).trans hx1
        have HX0 := Aside0.mk hx0
        have HX1 := Aside0.mk hx1
        have CM := Aside0.mk (Kd.C_below Cm8.out HT.out)
        have HB := Aside0.mk (Below.refl wt.heap.size wt)
        clear hdrop hpz HN1 HN2 hU HNW
        go_upto_region 38 with fail
        go_cut [23, 25] (fun v23 v25 wc => ∃ (gX : Nat) (Ax : Option Addr) (cx : Nat), v23 = .pointer (some ⟨gX, 0, none⟩) ∧ v25 = .bool true ∧ Aside0 (wc.heap[gX]? = some (.cells #[.int .i64 y1, .slice Ax us.length cx] 29 (0, 0))) ∧ Aside0 (Kd.S k58 58 wc wt.heap.size (fun _ => True) (.slice Ax us.length cx) us) ∧ Aside0 (Below wt.heap.size wt wc))
        case first =>
         go_region_held3 (fun w' => w'.cell? ⟨gN, 0, none⟩ = some (.int .i64 x) ∧ w'.cell? ⟨gN, 1, none⟩ = some (.slice An zs.length cn) ∧ w'.cell? (adp.add (j * 2)) = some (.int .i64 pz.f0) ∧ w'.cell? ⟨(adp.add (j * 2)).block, (adp.add (j * 2)).off + 1, none⟩ = some (.int .i64 pz.f1))
          (first | (go_keep; done) | exact ⟨hn0, hn1, hx0, hx1⟩)
          (first | (go_at_call 41; refine (impl_SendTo.calls k x An cn zs Am cm ms pz.f0 pz.f1 y1 us y3 true _ ?sA (Kd.S_reads' SN.out).2.1 ?sB Lm.out HU.out).mono ?_; (case sA => exact Kd.C_below (Kd.S_reads' SN.out).2.2 (by repeat (first | (with_reducible first | exact HB.out | apply below_alloc | apply pw_below_drewN | apply below_drew1) | exact HB.out))); (case sB => exact Kd.C_below CM.out (by repeat (first | (with_reducible first | exact HB.out | apply below_alloc | apply pw_below_drewN | apply below_drew1) | exact HB.out))); (try clear hn0 hn1 hx0 hx1); (try clear hz0 hz1 hf0 hf1); rintro e u4 ⟨v7, rfl, hs7, hb⟩; obtain ⟨A7, c7, e7⟩ := Kd.S_slice hs7; subst e7; have S7 := Aside0.mk (lowS hs7 (by repeat (first | (with_reducible first | exact HB.out | apply below_alloc | apply pw_below_drewN | apply below_drew1) | exact HB.out))); clear hs7; (first | (have ZB_ := Aside0.mk (made1 (by repeat (first | (with_reducible first | exact HB.out | apply below_alloc | apply pw_below_drewN | apply below_drew1) | exact HB.out)) hb); have ZB := ZB_; clear ZB_) | (have ZB_ := Aside0.mk (made2 (by repeat (first | (with_reducible first | exact HB.out | apply below_alloc | apply pw_below_drewN | apply below_drew1) | exact HB.out)) hb); have ZB := ZB_; clear ZB_) | skip); have n_HB := Aside0.mk (below_step (by repeat (first | (with_reducible first | exact HB.out | apply below_alloc | apply pw_below_drewN | apply below_drew1) | exact HB.out)) hb); clear HB; have HB := n_HB; clear n_HB; clear hb; have hn0 : u4.cell? ⟨gN, 0, none⟩ = some (.int .i64 x) := (blk_cell (blk_bel KN.out HB.out) 0).trans rfl; have hn1 : u4.cell? ⟨gN, 1, none⟩ = some (.slice An zs.length cn) := (blk_cell (blk_bel KN.out HB.out) 1).trans rfl; have hx0 := (HB.out.cell (World.block_lt_of_cell? wt _ HX0.out)).trans HX0.out; have hx1 := (HB.out.cell (World.block_lt_of_cell? wt _ HX1.out)).trans HX1.out; (first | (have hz0 : u4.cell? _ = some (.int .i64 0) := (blk_cell ZB.out.1 0).trans rfl; have hz1 : u4.cell? _ = some (.slice none 0 0) := (blk_cell ZB.out.1 1).trans rfl; have hf0 := blk_frozen ZB.out.1 0; have hf1 := blk_frozen ZB.out.1 1) | skip); (first | (have ne0 : gN ≠ _ := Nat.ne_of_lt (Nat.lt_of_lt_of_le (blk_lt KN.out) ZB.out.2); have ne1 : (adp.add (j * 2)).block ≠ _ := Nat.ne_of_lt (Nat.lt_of_lt_of_le (World.block_lt_of_cell? wt _ HX0.out) ZB.out.2); have ne2 := ne0.symm; have ne3 := ne1.symm) | skip)))
         all_goals
          (go_wp2; go_meet)
         all_goals first
          | exact ⟨u4.heap.size, A7, c7, rfl, rfl, ⟨heap_alloc_new _ _⟩, ⟨Kd.S_alloc S7.out _⟩, ⟨HB.out.alloc HB.out.size _⟩⟩
          | exact ⟨_, A7, c7, rfl, rfl, ⟨by refine blk_put (cs := #[.int .i64 y1, .slice none 0 0]) ?_ 1 _ rfl; refine blk_put (cs := #[.int .i64 0, .slice none 0 0]) ?_ 0 _ rfl; exact ZB.out.1⟩, ⟨Kd.S_mono (Kd.S_far (p := ⟨_, 1, none⟩) (Kd.S_far (p := ⟨_, 0, none⟩) (Kd.S_types S7.out ZB.out.1 (by decide)) (fun _ hk => hk.2) (.int .i64 y1)) (fun _ hk => hk.2) (.slice A7 us.length c7)) (fun _ _ => trivial)⟩, ⟨below_set (below_set HB.out ZB.out.2) ZB.out.2⟩⟩
        case rest =>
         rename World => wc
         clear HB hn0 hn1 hx0 hx1
         obtain ⟨gX, Ax, cx, rfl, rfl, KX, SX, HX⟩ := hcut
         have KN2 := Aside0.mk (blk_bel KN.out HX.out)
         have HT2 := Aside0.mk (HT.out.trans (HX.out.mono HT.out.size))
         have SX2 := Aside0.mk (Kd.S_lower SX.out (Nat.le_trans B8.out.size HT.out.size))
         have hg0 : wc.cell? ⟨gX, 0, none⟩ = some (.int .i64 y1) := (blk_cell KX.out 0).trans rfl
         have hg1 : wc.cell? ⟨gX, 1, none⟩ = some (.slice Ax us.length cx) := (blk_cell KX.out 1).trans rfl
         have hn0 : wc.cell? ⟨gN, 0, none⟩ = some (.int .i64 x) := (blk_cell KN2.out 0).trans rfl
         have hn1 : wc.cell? ⟨gN, 1, none⟩ = some (.slice An zs.length cn) := (blk_cell KN2.out 1).trans rfl
         have hf0 := blk_frozen KN2.out 0
         have hf1 := blk_frozen KN2.out 1
         go_wp2_with fail
         go_roundg (gk - 1)
         case measure => omega
         case rel => exact ⟨j + 1, y1, us, Ax, cx, by omega, by omega, by rw [HWJ.out], HNX, ⟨by refine blk_put (cs := #[.int .i64 y1, .slice An zs.length cn]) ?_ 1 _ rfl; refine blk_put (cs := #[.int .i64 x, .slice An zs.length cn]) ?_ 0 _ rfl; exact KN2.out⟩, ⟨Kd.S_mono (Kd.S_far (p := ⟨gN, 1, none⟩) (Kd.S_far (p := ⟨gN, 0, none⟩) (Kd.S_types SX2.out KN2.out (by decide)) (fun _ hk => hk.2) _) (fun _ hk => hk.2) _) (fun _ _ => trivial)⟩, ⟨below_set (below_set HT2.out GN.out) GN.out⟩⟩
       ·obtain rfl : j = ps.length := by omega
        have hnw := HNW.out
        rw [List.drop_length] at hnw
        have he : (x, zs) = (xx, ys) := Option.some.inj hnw
        injection he with he1 he2
        subst he1 he2
        have ho0 : wt.cell? ⟨gO, 0, none⟩ = some (.int .i64 r1) := (blk_cell (blk_bel KO8.out HT.out) 0).trans rfl
        have ho1 : wt.cell? ⟨gO, 1, none⟩ = some (.slice Ao rs.length co) := (blk_cell (blk_bel KO8.out HT.out) 1).trans rfl
        clear hnw HNW
        go_wp2_with (go_at_call 18; refine (impl_SamePost.calls k x An cn zs r1 Ao co rs true wt (Kd.S_reads' SN.out).2.2 (Kd.S_reads' SN.out).2.1 (Kd.C_below CO8.out HT.out) Lo.out H14.out).mono ?_; rintro e we ⟨rfl, hb⟩; have BE := Aside0.mk hb; clear hb hn0 hn1 ho0 ho1)
        go_ret
        exact ⟨rfl, B8.out.trans ((HT.out.trans (BE.out.mono HT.out.size)).mono B8.out.size)⟩
theorem laws_FnHeld.calls (k : Nat) (A0 : Option Addr) (c0 : Nat) (l0 : List Int) (A1 : Option Addr) (c1 : Nat) (l1 : List Int) (r : Bool) (w : World) (hr0 : Kd.C (Kd.int .u8) w A0 l0.length l0) (hc0 : l0.length ≤ c0) (hr1 : Kd.C (Kd.int .u8) w A1 l1.length l1) (hc1 : l1.length ≤ c1) (h : laws_FnHeld.f k l0 l1 = some r) :
  Calls Try.prog 8 #[.slice A0 l0.length c0, .slice A1 l1.length c1] w fun e w' => e = .returned (.bool r) ∧ Below w.heap.size w w' := laws_FnHeld.calls0 k A0 c0 l0 A1 c1 l1 r w hr0 hc0 hr1 hc1 h

/-- THE ONE PURE STATEMENT of laws_FnHeld. -/
def laws_FnHeld.Pure : Prop := ∀ (l0 : List Int) (l1 : List Int), (l0.length ≤ 9223372036854775807 ∧ ∀ y ∈ l0, (Lit.int .u8 y).wf = true) → (l1.length ≤ 9223372036854775807 ∧ ∀ y ∈ l1, (Lit.int .u8 y).wf = true) → ∃ k, laws_FnHeld.f k l0 l1 = some true
theorem laws_FnHeld.walk (P : laws_FnHeld.Pure) (a0 : Option Addr) (len0 cap0 : Nat) (z0 : List Int) (a1 : Option Addr) (len1 cap1 : Nat) (z1 : List Int) (w : World) (w0 : (a0 = none ∧ len0 = 0 ∧ cap0 = 0 ∧ z0 = []) ∨ ∃ x, a0 = some x ∧ len0 ≤ cap0 ∧ cap0 ≤ maxLen ∧ z0.length = cap0 ∧ (∀ i, i < z0.length → w.cell? (x.add i) = some (.int .u8 (z0.getD i 0))) ∧ ∀ n ∈ z0, (Lit.int .u8 n).wf = true) (y0 : len0 * 1 ≤ 140737488351232) (w1 : (a1 = none ∧ len1 = 0 ∧ cap1 = 0 ∧ z1 = []) ∨ ∃ x, a1 = some x ∧ len1 ≤ cap1 ∧ cap1 ≤ maxLen ∧ z1.length = cap1 ∧ (∀ i, i < z1.length → w.cell? (x.add i) = some (.int .u8 (z1.getD i 0))) ∧ ∀ n ∈ z1, (Lit.int .u8 n).wf = true) (y1 : len1 * 1 ≤ 140737488351232) :
 Calls Try.prog 8 #[.slice a0 len0 cap0, .slice a1 len1 cap1] w fun e w' => e = .returned (.bool true) ∧ Below w.heap.size w w' := by
 obtain ⟨l0, rfl, hr0, hm0, hw0, hc0⟩ := ReadsInt.ofRowC w0
 obtain ⟨l1, rfl, hr1, hm1, hw1, hc1⟩ := ReadsInt.ofRowC w1
 obtain ⟨k, h⟩ := P l0 l1 ⟨by omega, hw0⟩ ⟨by omega, hw1⟩
 refine (laws_FnHeld.calls k _ _ l0 _ _ l1 true w (Kd.C_of_reads (d := (0 : Int)) (h1 := fun _ => rfl) hr0) hc0 (Kd.C_of_reads (d := (0 : Int)) (h1 := fun _ => rfl) hr1) hc1 h).mono ?_
 rintro e w' ⟨rfl, hd⟩
 exact ⟨rfl, hd⟩

end Go.Proofs.Ytgpiaeklhhacjaa.XFnHeld
