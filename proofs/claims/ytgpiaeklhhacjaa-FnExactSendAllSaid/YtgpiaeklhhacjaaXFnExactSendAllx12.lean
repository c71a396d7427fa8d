-- Written by a program of this session (wip/xprint: over the kit's print). Not trusted: Lean checks it.
import Derived.Test.YtgpiaeklhhacjaaXFnExactSendAllx0
import Derived.Test.YtgpiaeklhhacjaaXFnExactSendAllx1
import Derived.Test.YtgpiaeklhhacjaaXFnExactSendAllx2
import Derived.Test.YtgpiaeklhhacjaaXFnExactSendAllx3
import Derived.Test.YtgpiaeklhhacjaaXFnExactSendAllx4
import Derived.Test.YtgpiaeklhhacjaaXFnExactSendAllx5
import Derived.Test.YtgpiaeklhhacjaaXFnExactSendAllx7
import Derived.Test.YtgpiaeklhhacjaaXFnExactSendAllx8
import Derived.Test.YtgpiaeklhhacjaaXFnExactSendAllx11
namespace Go.Proofs.Ytgpiaeklhhacjaa.XFnExactSendAll
open Go.RowKit Go.Proofs.YtgpiaeklhhacjaaW.PrintWords Go.Proofs.YtgpiaeklhhacjaaW.PrintLast Go.Proofs.YtgpiaeklhhacjaaW.PrintMore
open Go.Proofs.Ytgpiaeklhhacjaa.XW
attribute [local go_sem] max2_int min2_int max_two min_two max_three min_three max_four min_four   -- for this text's walks alone
set_option linter.unusedVariables false
set_option linter.unusedSimpArgs false

/-! ### laws_toInt64S: function 48 -/
def laws_toInt64S.l0 : Nat → List Int → List Int → Int → Option (List Int)
 | 0, _, _, _ => none
 | k + 1, x0, x3, x4 => if x4 < (x0.length : Int) then (if 0 ≤ x4 then (if x4 < (x3.length : Int) then (laws_toInt64S.l0 k x0 (x3.set (x4 : Int).toNat (rd x0 x4)) (wrap64 (x4 + 1))) else (none)) else (none)) else (some x3)
def laws_toInt64S.f (k : Nat) (l0 : List Int) : Option (List Int) := if 0 ≤ (l0.length : Int) then (if ((l0.length : Int) : Int).toNat ≤ 35184372088832 then (laws_toInt64S.l0 k l0 (List.replicate ((l0.length : Int) : Int).toNat 0) 0) else (none)) else (none)
theorem laws_toInt64S.mono_l : ∀ k, (∀ y0 y1 y2, LeO (laws_toInt64S.l0 k y0 y1 y2) (laws_toInt64S.l0 (k + 1) y0 y1 y2))
 | 0 => fun _ _ _ r h => by simp [laws_toInt64S.l0] at h
 | k + 1 => by
  have ih0 := laws_toInt64S.mono_l k
  ·intro y0 y1 y2
   unfold laws_toInt64S.l0
   repeat' first
   | (with_reducible exact ih0 _ _ _)
   | (with_reducible exact LeO.refl _)
   | (with_reducible exact LeO.none _)
   | (with_reducible refine LeO.ite ?_ ?_)
   | (with_reducible refine LeO.bind ?_ (fun _ => ?_))
   | exact ih0 _ _ _
   | exact LeO.none _
   | refine LeO.ite ?_ ?_
   | refine LeO.bind ?_ (fun _ => ?_)
theorem laws_toInt64S.mono : ∀ a0 k, LeO (laws_toInt64S.f k a0) (laws_toInt64S.f (k + 1) a0) := by
 intro a0 k
 have ih0 := laws_toInt64S.mono_l k
 unfold laws_toInt64S.f
 repeat' first
   | (with_reducible exact ih0 _ _ _)
   | (with_reducible exact LeO.refl _)
   | (with_reducible exact LeO.none _)
   | (with_reducible refine LeO.ite ?_ ?_)
   | (with_reducible refine LeO.bind ?_ (fun _ => ?_))
   | exact ih0 _ _ _
   | exact LeO.none _
   | refine LeO.ite ?_ ?_
   | refine LeO.bind ?_ (fun _ => ?_)
set_option maxHeartbeats 8000000 in
set_option maxRecDepth 100000 in
theorem laws_toInt64S.calls (k : Nat) (A0 : Option Addr) (c0 : Nat) (l0 : List Int) (r : List Int) (w : World) (hr0 : Kd.C (Kd.int .i64) w A0 l0.length l0) (hc0 : l0.length ≤ c0) (h : laws_toInt64S.f k l0 = some r) :
  Calls Try.prog 48 #[.slice A0 l0.length c0] w fun e w' => ∃ v0_ : Value, e = .returned (v0_) ∧ Kd.R (Kd.int .i64) 2 w' w.heap.size (fun _ => True) v0_ r ∧ Below w.heap.size w w' := by
 have HR0 := Aside0.mk hr0
 have HC0 := Aside0.mk hc0
 clear hr0 hc0
 have HB := Aside0.mk (Below.refl w.heap.size w)
 have H : (if 0 ≤ (l0.length : Int) then (if ((l0.length : Int) : Int).toNat ≤ 35184372088832 then (laws_toInt64S.l0 k l0 (List.replicate ((l0.length : Int) : Int).toNat 0) 0) else (none)) else (none)) = some r := h
 clear h
 by_cases c2 : 0 ≤ (l0.length : Int)
 ·rw [if_pos c2] at H
  have c2b0 := eq_true c2
  have c2b1 : decide (0 ≤ (l0.length : Int)) = true := decide_eq_true c2
  clear c2
  by_cases c3 : ((l0.length : Int) : Int).toNat ≤ 35184372088832
  ·rw [if_pos c3] at H
   have c3b0 := eq_true c3
   have c3b1 : decide (((l0.length : Int) : Int).toNat ≤ 35184372088832) = true := decide_eq_true c3
   clear c3
   obtain ⟨y256, hy256⟩ : ∃ y_ : List Int, y_ = (List.replicate ((l0.length : Int) : Int).toNat 0) := ⟨_, rfl⟩
   replace H : (laws_toInt64S.l0 k l0 y256 0) = some r := by first | (rw [hy256]; with_reducible exact H) | (have H2_ := (Option.bind_some _ _).symm.trans H; rw [hy256]; with_reducible exact H2_) | (have H2_ := (Option.bind_some _ _).symm.trans H; with_reducible exact H2_) | with_reducible exact H | (rw [hy256]; exact H) | exact H
   have Ny256 := Aside0.mk hy256
   clear hy256
   have H' := Aside0.mk H
   clear H
   go_enter Try.func48, Try.ntmps48
   go_wp2_with (first | ((with_reducible refine gate_dst (N := 7) rfl ?_); refine Kd.R_make (Kd.int .i64) _ 2 rfl (N := 7) rfl 38 _ _ rfl (l0.length : Int) rfl rfl Try.underlying38 (.int .i64 0) 8 info2 rfl (by decide) (by omega) 0 (ok := fun _ => True) (okp := fun _ => True) rfl (fun _ hk => hk) trivial (of_decide_eq_true (by first | (with_reducible assumption) | assumption)) (Nat.le_trans (Nat.mul_le_mul_right _ (of_decide_eq_true (by first | (with_reducible assumption) | assumption) : (l0.length : Int).toNat ≤ 35184372088832)) (by omega)) (Below.refl _ _) (Nat.le_refl _) ?_; intro v257 w4 ho5 hb hg_ hnew_; clear hg_ hnew_; (first | rw [← Ny256.out] at ho5 | (simp only [Int.reduceToNat] at ho5; rw [← Ny256.out] at ho5)); have n0_ := Aside0.mk (Kd.R_lower ho5 (below_size (by repeat (first | (with_reducible first | exact HB.out | apply below_alloc | apply pw_below_drewN | apply below_drew1) | exact HB.out)))); have n1_ := Aside0.mk (below_step (by repeat (first | (with_reducible first | exact HB.out | apply below_alloc | apply pw_below_drewN | apply below_drew1) | exact HB.out)) hb); clear HB; have HO258 := n0_; have HB := n1_; clear n0_ n1_; clear hb ho5))
   go_loopg [4] k (fun kq v4 w' => ∃ (x3_1 : List Int) (x4_1 : Int), v4 = .int .i64 x4_1 ∧ Aside0 (laws_toInt64S.l0 kq l0 x3_1 x4_1 = some r) ∧ Aside0 (kq ≤ k) ∧ Aside0 (Kd.R (Kd.int .i64) 2 w' w.heap.size (fun _ => True) v257 x3_1) ∧ Aside0 (Below w.heap.size w w'))
   case atStart => exact ⟨(y256), (0), (by first | rfl | (simp; done) | (simp [*]; done)), H', ⟨Nat.le_refl _⟩, ⟨by (with_reducible repeat (first | apply Kd.R_alloc | apply Kd.R_drewN | apply Kd.R_drew)); exact HO258.out⟩, ⟨by repeat (first | (with_reducible first | exact HB.out | apply below_alloc | apply pw_below_drewN | apply below_drew1) | exact HB.out)⟩⟩
   case round =>
    clear H'
    try clear c2
    try clear c2b0
    try clear c2b1
    try clear p2
    try clear c3
    try clear c3b0
    try clear c3b1
    try clear c4
    obtain ⟨x3_1, x4_1, rfl, HA, HK1, HO_3, HB⟩ := hrel
    cases gk with
    | zero => exact absurd HA.out (by simp [laws_toInt64S.l0])
    | succ k1 =>
     have H := HA.out
     clear HA
     simp only [laws_toInt64S.l0] at H
     by_cases c6 : x4_1 < (l0.length : Int)
     ·rw [if_pos c6] at H
      have c6b0 : decide (x4_1 < (l0.length : Int)) = true := decide_eq_true c6
      clear c6
      by_cases c7 : 0 ≤ x4_1
      ·rw [if_pos c7] at H
       have c7b0 : decide (0 ≤ x4_1) = true := decide_eq_true c7
       clear c7
       by_cases c8 : x4_1 < (x3_1.length : Int)
       ·rw [if_pos c8] at H
        have c8b0 : decide (x4_1 < (x3_1.length : Int)) = true := decide_eq_true c8
        clear c8
        obtain ⟨y260, hy260⟩ : ∃ y_ : List Int, y_ = (x3_1.set (x4_1 : Int).toNat (rd l0 x4_1)) := ⟨_, rfl⟩
        replace H : (laws_toInt64S.l0 k1 l0 y260 (wrap64 (x4_1 + 1))) = some r := by first | (rw [hy260]; with_reducible exact H) | (have H2_ := (Option.bind_some _ _).symm.trans H; rw [hy260]; with_reducible exact H2_) | (have H2_ := (Option.bind_some _ _).symm.trans H; with_reducible exact H2_) | with_reducible exact H | (rw [hy260]; exact H) | exact H
        have Ny260 := Aside0.mk hy260
        clear hy260
        have H' := Aside0.mk H
        clear H
        have p259 : 0 ≤ (x4_1 : Int) := of_decide_eq_true (by first | (with_reducible assumption) | assumption)
        have q259 : x4_1 < (l0.length : Int) := of_decide_eq_true (by first | (with_reducible assumption) | assumption)
        obtain ⟨ad259, e259, hx259_0⟩ := Kd.at_int HR0.out x4_1 p259 q259
        cases e259
        replace hx259_0 := (HB.out.cell (World.block_lt_of_cell? w _ hx259_0)).trans hx259_0
        replace p259 := eq_true p259
        replace q259 := eq_true q259
        have p9 : 0 ≤ (x4_1 : Int) := of_decide_eq_true (by first | (with_reducible assumption) | assumption)
        have q9 : (x4_1 : Int) < ((x3_1.length : Int) : Int) := of_decide_eq_true (by first | (with_reducible assumption) | assumption)
        obtain ⟨go9, co9, eo9, gb9, gl9, cl9, HG9⟩ := Kd.R_form HO_3.out (by omega)
        (first | cases eo9 | (injection eo9 with ea_ en_ ec_; (first | subst ea_ | (injection ea_ with ea_; subst ea_)); subst ec_; clear en_))
        have GB9 := Aside0.mk gb9
        have GG9 := Aside0.mk HG9
        clear gb9 gl9 HG9
        obtain ⟨hx9_0, hf9_0⟩ := Kd.R_celln 0 HO_3.out (x4_1 : Int) p9 q9
        replace p9 := eq_true p9
        replace q9 := eq_true q9
        have HP10 := Kd.R_putg HO_3.out (x4_1 : Int) (rd l0 x4_1)
        go_wp2_with (first | ((with_reducible refine gate_store (t := 2) (p := 20) rfl ?_); refine store_event (t := 2) (p := 20) (v := ?vo_w11) (w1 := (wr.setCell ⟨go9, (x4_1 : Int).toNat, none⟩ (.int .i64 (rd l0 x4_1)))) ?hg ?ho ?hn ?hr ?_; (case ho => rfl); (case hg => rfl); (case hn => rfl); (case hr => first | (go_simp; done) | (go_simp; rfl)); intro w11 hw; have hg : wr.grownBy w11 (some go9) := (by rw [hw]; exact HP10.2); have hp_ : Kd.R (Kd.int .i64) 2 w11 w.heap.size (fun _ => True) (.slice (some ⟨go9, 0, none⟩) x3_1.length co9) y260 := (by rw [hw, Ny260.out]; exact HP10.1); clear HP10; have n0_ := Aside0.mk (hp_); have n1_ := Aside0.mk ((by rw [hw]; exact below_set (HB.out) GB9.out : Below w.heap.size w w11)); clear HO_3; clear HB; have HO_3 := n0_; have HB := n1_; clear n0_ n1_; clear hg hw hp_))
        go_roundg k1
        case measure => have := HK1.out; omega
        case rel => exact ⟨(y260), (wrap64 (x4_1 + 1)), (by first | rfl | (simp; done) | (simp [*]; done)), H', ⟨by have := HK1.out; omega⟩, ⟨by (with_reducible repeat (first | apply Kd.R_alloc | apply Kd.R_drewN | apply Kd.R_drew)); exact HO_3.out⟩, ⟨by repeat (first | (with_reducible first | exact HB.out | apply below_alloc | apply pw_below_drewN | apply below_drew1) | exact HB.out)⟩⟩
       ·rw [if_neg c8] at H
        exact absurd H (by simp)
      ·rw [if_neg c7] at H
       exact absurd H (by simp)
     ·rw [if_neg c6] at H
      have c6b0 : decide (x4_1 < (l0.length : Int)) = false := decide_eq_false c6
      clear c6
      obtain rfl := Option.some.inj H
      go_wp2
      go_ret
      exact ⟨_, by first | rfl | (simp [errW_none, errW_some] <;> rfl) | (simp [*, errW_none, errW_some] <;> rfl), by (with_reducible repeat (first | apply Kd.R_alloc | apply Kd.R_drewN | apply Kd.R_drew)); exact HO_3.out, by repeat (first | (with_reducible first | exact HB.out | apply below_alloc | apply pw_below_drewN | apply below_drew1) | exact HB.out)⟩
  ·rw [if_neg c3] at H
   exact absurd H (by simp)
 ·rw [if_neg c2] at H
  exact absurd H (by simp)

/-! ### laws_FnExactSendAll: function 11 (by hand; numbers of the seat jaa) -/
noncomputable def sureO (p : Prop) : Option Bool := @ite _ p (Classical.propDecidable p) (some true) none
theorem sureO_some {p : Prop} {r : Bool} (h : sureO p = some r) : p ∧ r = true := by
 unfold sureO at h
 split at h
 ·next hp => injection h with h; exact ⟨hp, h.symm⟩
 ·cases h
theorem sureO_mk {p : Prop} (h : p) : sureO p = some true := by unfold sureO; exact if_pos h
/-- A new post's block, filled. -/
def mk29 (W : World) (r : Int) (v : Value) : World := W.alloc (.cells #[.int .i64 r, v] 29)
theorem mk29_blk (W : World) (r : Int) (v : Value) : (mk29 W r v).heap[W.heap.size]? = some (.cells #[.int .i64 r, v] 29 (0, 0)) := heap_alloc_new W _
theorem mk29_below (W : World) (r : Int) (v : Value) : Below W.heap.size W (mk29 W r v) := below_alloc (Below.refl _ _) _
theorem mk29_size (W : World) (r : Int) (v : Value) : (mk29 W r v).heap.size = W.heap.size + 1 := by simp [mk29]
noncomputable def laws_FnExactSendAll.f (k : Nat) (a0_0 : Int) (l0_1 : List (S115)) (l1 : List Int) (l2 : List (S70)) : Option Bool :=
 if 1048576 < l1.length then some true else (laws_szPost.f k a0_0 l0_1 1048576).bind fun left => if left < 0 then some true else (laws_szParcelS.f l2 left).bind fun left2 => if left2 < 0 then some true else (laws_toPost.f k a0_0 l0_1).bind fun x => (laws_toInt64S.f k l1).bind fun y => (laws_toParcelS.f k l2).bind fun z => (spec_SendAll.f k x.1 x.2 y z).bind fun s => (impl_SendAll.f k x.1 x.2 y z).bind fun g => (laws_eqPost.f k s.1 s.2.1 s.1 s.2.1).bind fun e1 => (laws_eqPost.f k x.1 x.2 x.1 x.2).bind fun e2 => (laws_eqInt64S.f k y y).bind fun e3 => (laws_eqParcelS.f k z z).bind fun e4 => (laws_markPost.f k x.1 x.2 1).bind fun m1 => (laws_markInt64S.f k y m1.1).bind fun m2 => (laws_markParcelS.f k z m2.1).bind fun m3 => (laws_markPost.f k s.1 s.2.1 1).bind fun mg => (laws_heldPost.f k s.1 mg.2 1).bind fun q => sureO (s = g ∧ e1 = true ∧ e2 = true ∧ e3 = true ∧ e4 = true ∧ 0 ≤ m3.1 ∧ 0 ≤ q ∧ q = mg.1)
/-- A row of the call's own, told with its blocks' bounds. -/
theorem owned_S {w w1 : World} {base : Nat} {v : Value} {xs : List S58} (h : Kd.S k58 58 w base (fun _ => True) v xs) (hb : Below w.heap.size w w1) : ∃ ok : Nat → Prop, Kd.S k58 58 w1 base ok v xs ∧ (∀ k, ok k → base ≤ k) ∧ ∀ k, ok k → k < w.heap.size :=
 ⟨_, Kd.S_below (Kd.S_bound h) hb, fun k hk => hk.2.1, fun k hk => hk.2.2.1⟩
theorem owned_R {α : Type} {d : Kd α} {e : Nat} {w w1 : World} {base : Nat} {v : Value} {xs : List α} (h : d.R e w base (fun _ => True) v xs) (hb : Below w.heap.size w w1) : ∃ ok : Nat → Prop, d.R e w1 base ok v xs ∧ (∀ k, ok k → base ≤ k) ∧ ∀ k, ok k → k < w.heap.size :=
 ⟨_, Kd.R_below (Kd.R_bound h) hb, fun k hk => hk.2.1, fun k hk => hk.2.2.1⟩
set_option maxHeartbeats 16000000 in
set_option maxRecDepth 100000 in
theorem laws_FnExactSendAll.calls (k : Nat) (a0_0 : Int) (A0_1 : Option Addr) (c0_1 : Nat) (l0_1 : List (S115)) (A1 : Option Addr) (c1 : Nat) (l1 : List Int) (A2 : Option Addr) (c2 : Nat) (l2 : List (S70)) (r : Bool) (w : World) (hr0_1 : Kd.C k115 w A0_1 l0_1.length l0_1) (hc0_1 : l0_1.length ≤ c0_1) (hr1 : Kd.C (Kd.int .i64) w A1 l1.length l1) (hc1 : l1.length ≤ c1) (hr2 : Kd.C k70 w A2 l2.length l2) (hc2 : l2.length ≤ c2) (h : laws_FnExactSendAll.f k a0_0 l0_1 l1 l2 = some r) :
  Calls Try.prog 11 #[.agg #[.int .i64 a0_0, .slice A0_1 l0_1.length c0_1], .slice A1 l1.length c1, .slice A2 l2.length c2] w fun e w' => e = .returned (.bool r) ∧ Below w.heap.size w w' := by
 unfold laws_FnExactSendAll.f at h
 have HR0 := Aside0.mk hr0_1
 have HC0 := Aside0.mk hc0_1
 have HR1 := Aside0.mk hr1
 have HC1 := Aside0.mk hc1
 have HR2 := Aside0.mk hr2
 have HC2 := Aside0.mk hc2
 have b20 := Aside0.mk (heap_alloc_new w (.cells #[.int .i64 a0_0, .slice A0_1 l0_1.length c0_1] 24))
 have HB0 := Aside0.mk (below_alloc (Below.refl w.heap.size w) (.cells #[.int .i64 a0_0, .slice A0_1 l0_1.length c0_1] 24))
 clear hr0_1 hc0_1 hr1 hc1 hr2 hc2
 by_cases hlong : 1048576 < l1.length
 ·rw [if_pos hlong] at h
  injection h with h
  subst h
  have hlz : ((1048576 : Int) < (l1.length : Int)) = True := eq_true (by omega)
  go_enter Try.func11, Try.ntmps11
  go_wp2
  go_ret
  exact ⟨rfl, HB0.out⟩
 rw [if_neg hlong] at h
 have hlz : ((1048576 : Int) < (l1.length : Int)) = False := eq_false (by omega)
 clear hlong
 obtain ⟨left, hleft, h⟩ := Option.bind_eq_some_iff.mp h
 have LE := Aside0.mk hleft
 clear hleft
 by_cases hneg : left < 0
 ·rw [if_pos hneg] at h
  injection h with h
  subst h
  go_enter Try.func11, Try.ntmps11
  go_wp2_with (first
  | (go_at_call 15; refine (laws_szPost.calls k a0_0 A0_1 c0_1 l0_1 1048576 left _ (Kd.C_below HR0.out HB0.out) HC0.out LE.out).mono ?_; rintro e w1 ⟨rfl, hb1⟩; have HB1 := Aside0.mk (HB0.out.trans (hb1.mono HB0.out.size)); have b21 := Aside0.mk (blk_bel b20.out hb1); clear hb1; skip))
  go_ret
  exact ⟨rfl, HB1.out⟩
 rw [if_neg hneg] at h
 obtain ⟨left2, hleft2, h⟩ := Option.bind_eq_some_iff.mp h
 have LE2 := Aside0.mk hleft2
 have hl0 : (left < 0) = False := eq_false hneg
 clear hleft2 hneg
 by_cases hneg : left2 < 0
 ·rw [if_pos hneg] at h
  injection h with h
  subst h
  go_enter Try.func11, Try.ntmps11
  go_wp2_with (first
  | (go_at_call 15; refine (laws_szPost.calls k a0_0 A0_1 c0_1 l0_1 1048576 left _ (Kd.C_below HR0.out HB0.out) HC0.out LE.out).mono ?_; rintro e w1 ⟨rfl, hb1⟩; have HB1 := Aside0.mk (HB0.out.trans (hb1.mono HB0.out.size)); have b21 := Aside0.mk (blk_bel b20.out hb1); clear hb1; have st1 : True := trivial)
  | (go_at_call 46; have _g := st1; clear _g st1; refine (laws_szParcelS.calls A2 c2 l2 left left2 w1 (Kd.C_below HR2.out HB1.out) HC2.out LE2.out).mono ?_; rintro e w1b ⟨rfl, hb1⟩; have HB1b := Aside0.mk (HB1.out.trans (hb1.below.mono HB1.out.size)); have b21b := Aside0.mk (blk_bel b21.out hb1.below); clear hb1; skip))
  go_ret
  exact ⟨rfl, HB1b.out⟩
 rw [if_neg hneg] at h
 have hl1 : (left2 < 0) = False := eq_false hneg
 obtain ⟨⟨lim, bs⟩, h1, h⟩ := Option.bind_eq_some_iff.mp h
 obtain ⟨ys, h2, h⟩ := Option.bind_eq_some_iff.mp h
 obtain ⟨zs, h3, h⟩ := Option.bind_eq_some_iff.mp h
 obtain ⟨⟨r1, r2, r3, r4⟩, h4, h⟩ := Option.bind_eq_some_iff.mp h
 obtain ⟨g, h5, h⟩ := Option.bind_eq_some_iff.mp h
 obtain ⟨e1, h6, h⟩ := Option.bind_eq_some_iff.mp h
 obtain ⟨e2, h7, h⟩ := Option.bind_eq_some_iff.mp h
 obtain ⟨e3, h8, h⟩ := Option.bind_eq_some_iff.mp h
 obtain ⟨e4, h9, h⟩ := Option.bind_eq_some_iff.mp h
 obtain ⟨⟨k1, bs'⟩, h10, h⟩ := Option.bind_eq_some_iff.mp h
 obtain ⟨⟨k2, ys'⟩, h11, h⟩ := Option.bind_eq_some_iff.mp h
 obtain ⟨⟨kk, zs'⟩, h12, h⟩ := Option.bind_eq_some_iff.mp h
 obtain ⟨⟨m, r2'⟩, h13, h⟩ := Option.bind_eq_some_iff.mp h
 obtain ⟨q, h14, h⟩ := Option.bind_eq_some_iff.mp h
 obtain ⟨⟨rfl, rfl, rfl, rfl, rfl, hkk, hq, rfl⟩, rfl⟩ := sureO_some h
 simp only at h4 h5 h6 h7 h8 h9 h10 h11 h12 h13 h14 hkk hq
 have TP := Aside0.mk h1
 have TI := Aside0.mk h2
 have TZ := Aside0.mk h3
 have SP := Aside0.mk h4
 have IM := Aside0.mk h5
 have EQ1 := Aside0.mk h6
 have EQ2 := Aside0.mk h7
 have EQ3 := Aside0.mk h8
 have EQ4 := Aside0.mk h9
 have MK1 := Aside0.mk h10
 have MK2 := Aside0.mk h11
 have MK3 := Aside0.mk h12
 have MKG := Aside0.mk h13
 have HE := Aside0.mk h14
 have hk0 : (kk < 0) = False := eq_false (by omega)
 have hm0 : (q < 0) = False := eq_false (by omega)
 clear h h1 h2 h3 h4 h5 h6 h7 h8 h9 h10 h11 h12 h13 h14 hneg hkk hq
 go_enter Try.func11, Try.ntmps11
 go_wp2_with (first
  | (go_at_call 15; refine (laws_szPost.calls k a0_0 A0_1 c0_1 l0_1 1048576 left _ (Kd.C_below HR0.out HB0.out) HC0.out LE.out).mono ?_; rintro e w1 ⟨rfl, hb1⟩; have HB1 := Aside0.mk (HB0.out.trans (hb1.mono HB0.out.size)); have b21 := Aside0.mk (blk_bel b20.out hb1); clear hb1; have st1 : True := trivial)
  | (go_at_call 46; have _g := st1; clear _g st1; refine (laws_szParcelS.calls A2 c2 l2 left left2 w1 (Kd.C_below HR2.out HB1.out) HC2.out LE2.out).mono ?_; rintro e w1b ⟨rfl, hb1⟩; have HB1b := Aside0.mk (HB1.out.trans (hb1.below.mono HB1.out.size)); have b21b := Aside0.mk (blk_bel b21.out hb1.below); clear hb1; have hc20 : (w1b).cell? ⟨w.heap.size, 0, none⟩ = some (.int .i64 a0_0) := (blk_cell b21b.out 0).trans rfl; have hc21 : (w1b).cell? ⟨w.heap.size, 1, none⟩ = some (.slice A0_1 l0_1.length c0_1) := (blk_cell b21b.out 1).trans rfl; have st2 : True := trivial)
  | (go_at_call 17; have _g := st2; clear _g st2; refine (laws_toPost.calls k a0_0 A0_1 c0_1 l0_1 lim bs w1b (Kd.C_below HR0.out HB1b.out) HC0.out TP.out).mono ?_; clear hc20 hc21; rintro e w2 ⟨v2, rfl, hs2, hb2⟩; obtain ⟨A2_, c2_, e2⟩ := Kd.S_slice hs2; subst e2; have S2 := Aside0.mk hs2; have HB2 := Aside0.mk (HB1b.out.trans (hb2.mono HB1b.out.size)); have b22 := Aside0.mk (blk_bel b21b.out hb2); clear hs2 hb2; have st3 : True := trivial)
  | (go_at_call 48; have _g := st3; clear _g st3; refine (laws_toInt64S.calls k A1 c1 l1 ys w2 (Kd.C_below HR1.out HB2.out) HC1.out TI.out).mono ?_; rintro e w2b ⟨v2b, rfl, hs2, hb2⟩; obtain ⟨A2b, c2b, e2⟩ := Kd.R_slice hs2; subst e2; have R2b := Aside0.mk hs2; have S2b := Aside0.mk (Kd.S_below S2.out hb2); have HB2b := Aside0.mk (HB2.out.trans (hb2.mono HB2.out.size)); have b22b := Aside0.mk (blk_bel b22.out hb2); clear hs2 hb2; have st4 : True := trivial)
  | (go_at_call 49; have _g := st4; clear _g st4; refine (laws_toParcelS.calls k A2 c2 l2 zs w2b (Kd.C_below HR2.out HB2b.out) HC2.out TZ.out).mono ?_; rintro e w2c ⟨v2c, rfl, hs2, hb2⟩; obtain ⟨A2c, c2c, e2⟩ := Kd.R_slice hs2; subst e2; have R2c := Aside0.mk hs2; have S2c := Aside0.mk (Kd.S_below S2b.out hb2); have R2bc := Aside0.mk (Kd.R_below R2b.out hb2); have HB2c := Aside0.mk (HB2b.out.trans (hb2.mono HB2b.out.size)); have b22c := Aside0.mk (blk_bel b22b.out hb2); clear hs2 hb2; have st5 : True := trivial)
  | (go_at_call 47; have _g := st5; clear _g st5; refine (spec_SendAll.calls k lim A2_ c2_ bs A2b c2b ys A2c c2c zs r1 r2 r3 r4 w2c (Kd.S_reads' S2c.out).2.2 (Kd.S_reads' S2c.out).2.1 (Kd.R_reads' R2bc.out).2.2 (Kd.R_reads' R2bc.out).2.1 (Kd.R_reads' R2c.out).2.2 (Kd.R_reads' R2c.out).2.1 SP.out).mono ?_; rintro e w3 ⟨v3, rfl, ⟨A3, c3, rfl, hl3, hs3⟩, hb3⟩; have L3 := Aside0.mk hl3; clear hl3; have HB3 := Aside0.mk (HB2c.out.trans (hb3.mono HB2c.out.size)); have b23 := blk_bel b22c.out hb3; have M3 := Aside0.mk (mk29_below w3 r1 (.slice A3 r2.length c3)); have K63 := Aside0.mk (mk29_blk w3 r1 (.slice A3 r2.length c3)); have b2m3 := Aside0.mk (blk_bel b23 M3.out); have S3 := Aside0.mk (Kd.C_below hs3 M3.out); have HM3 := Aside0.mk (HB3.out.trans (M3.out.mono HB3.out.size)); clear hs3 hb3 b23; have hx20 : (mk29 w3 r1 (.slice A3 r2.length c3)).cell? ⟨w.heap.size, 0, none⟩ = some (.int .i64 a0_0) := (blk_cell b2m3.out 0).trans rfl; have hx21 : (mk29 w3 r1 (.slice A3 r2.length c3)).cell? ⟨w.heap.size, 1, none⟩ = some (.slice A0_1 l0_1.length c0_1) := (blk_cell b2m3.out 1).trans rfl; unfold mk29 at hx20 hx21; have st6 : True := trivial)
  | (go_at_call 17; have _g := st6; clear _g st6; refine (laws_toPost.calls k a0_0 A0_1 c0_1 l0_1 lim bs (mk29 w3 r1 (.slice A3 r2.length c3)) (Kd.C_below HR0.out HM3.out) HC0.out TP.out).mono ?_; clear hx20 hx21; rintro e w4 ⟨v4, rfl, hs4, hb4⟩; obtain ⟨A4, c4, e4⟩ := Kd.S_slice hs4; subst e4; have M4 := Aside0.mk (mk29_below w4 lim (.slice A4 bs.length c4)); have K84 := Aside0.mk (mk29_blk w4 lim (.slice A4 bs.length c4)); have LO4 := Aside0.mk (hb4.trans (M4.out.mono hb4.size)); have HM4 := Aside0.mk (HM3.out.trans (LO4.out.mono HM3.out.size)); have PP4 := Aside0.mk (owned_S hs4 M4.out); clear hs4 hb4; have st7 : True := trivial)
  | (go_at_call 48; have _g := st7; clear _g st7; refine (laws_toInt64S.calls k A1 c1 l1 ys (mk29 w4 lim (.slice A4 bs.length c4)) (Kd.C_below HR1.out HM4.out) HC1.out TI.out).mono ?_; rintro e w5 ⟨v5, rfl, hs5, hb5⟩; obtain ⟨A5, c5, e5⟩ := Kd.R_slice hs5; subst e5; have PP5 := Aside0.mk (owned_R hs5 (Below.refl _ _)); have B45 := Aside0.mk hb5; have LO5 := Aside0.mk (LO4.out.trans (hb5.mono LO4.out.size)); have HM5 := Aside0.mk (HM3.out.trans (LO5.out.mono HM3.out.size)); have K85 := Aside0.mk (blk_bel K84.out hb5); clear hs5 hb5; have st8 : True := trivial)
  | (go_at_call 49; have _g := st8; clear _g st8; refine (laws_toParcelS.calls k A2 c2 l2 zs w5 (Kd.C_below HR2.out HM5.out) HC2.out TZ.out).mono ?_; rintro e w6 ⟨v6, rfl, hs6, hb6⟩; obtain ⟨A6, c6, e6⟩ := Kd.R_slice hs6; subst e6; have PP6 := Aside0.mk (owned_R hs6 (Below.refl _ _)); have B56 := Aside0.mk hb6; have LO6 := Aside0.mk (LO5.out.trans (hb6.mono LO5.out.size)); have HM6 := Aside0.mk (HM3.out.trans (LO6.out.mono HM3.out.size)); have K86 := Aside0.mk (blk_bel K85.out hb6); clear hs6 hb6; have hw80 : (w6).cell? ⟨w4.heap.size, 0, none⟩ = some (.int .i64 lim) := (blk_cell K86.out 0).trans rfl; have hw81 : (w6).cell? ⟨w4.heap.size, 1, none⟩ = some (.slice A4 bs.length c4) := (blk_cell K86.out 1).trans rfl; have st9 : True := trivial)
  | (go_at_call 40; have _g := st9; clear _g st9; obtain ⟨ok4, P4, lo4, hi4⟩ := PP4.out; obtain ⟨ok5, P5, lo5, hi5⟩ := PP5.out; obtain ⟨ok6, P6, lo6, hi6⟩ := PP6.out; have Q4 := Aside0.mk (Kd.S_below (Kd.S_below P4 B45.out) B56.out); have Q5 := Aside0.mk (Kd.R_below P5 B56.out); have Q6 := Aside0.mk P6; have F4 := Aside0.mk (And.intro lo4 hi4); have F5 := Aside0.mk (And.intro lo5 hi5); have F6 := Aside0.mk (And.intro lo6 hi6); clear PP4 PP5 PP6 P4 lo4 hi4 P5 lo5 hi5 P6 lo6 hi6; refine (impl_SendAll.calls k lim A4 c4 bs A5 c5 ys A6 c6 zs r1 r2 r3 r4 w6 (Kd.S_reads' Q4.out).2.2 (Kd.S_reads' Q4.out).2.1 (Kd.R_reads' Q5.out).2.2 (Kd.R_reads' Q5.out).2.1 (Kd.R_reads' Q6.out).2.2 (Kd.R_reads' Q6.out).2.1 IM.out).mono ?_; clear hw80 hw81; rintro e w7 ⟨v7, rfl, hs7, hb7⟩; obtain ⟨A7, c7, e7⟩ := Kd.S_slice hs7; subst e7; have M7 := Aside0.mk (mk29_below w7 r1 (.slice A7 r2.length c7)); have K97 := Aside0.mk (mk29_blk w7 r1 (.slice A7 r2.length c7)); have B67 := Aside0.mk (hb7.trans (M7.out.mono hb7.size)); have S67 := Aside0.mk hb7.size; have PP7 := Aside0.mk (owned_S hs7 M7.out); have LO7 := Aside0.mk (LO6.out.trans (B67.out.mono LO6.out.size)); have K67 := Aside0.mk (blk_bel K63.out LO7.out); clear hs7 hb7; have hy60 : (mk29 w7 r1 (.slice A7 r2.length c7)).cell? ⟨w3.heap.size, 0, none⟩ = some (.int .i64 r1) := (blk_cell K67.out 0).trans rfl; have hy61 : (mk29 w7 r1 (.slice A7 r2.length c7)).cell? ⟨w3.heap.size, 1, none⟩ = some (.slice A3 r2.length c3) := (blk_cell K67.out 1).trans rfl; unfold mk29 at hy60 hy61; have st10 : True := trivial)
  | (go_at_call 19; have _g := st10; clear _g st10; obtain ⟨ok7, P7, lo7, hi7⟩ := PP7.out; have Q7 := Aside0.mk P7; have F7 := Aside0.mk (And.intro lo7 hi7); clear PP7 P7 lo7 hi7; refine (laws_eqPost.calls k r1 A7 c7 r2 r1 A3 c3 r2 true (mk29 w7 r1 (.slice A7 r2.length c7)) (Kd.S_reads' Q7.out).2.2 (Kd.S_reads' Q7.out).2.1 (Kd.C_below S3.out LO7.out) L3.out EQ1.out).mono ?_; clear hy60 hy61; rintro e w8 ⟨rfl, hb8⟩; have HB8 := Aside0.mk hb8; clear hb8))
 have D8 := Aside0.mk (LO7.out.trans (HB8.out.mono LO7.out.size))
 have W8 := Aside0.mk (HM3.out.trans (D8.out.mono HM3.out.size))
 have b28 := Aside0.mk (blk_bel b2m3.out D8.out)
 have K88 := Aside0.mk (blk_bel (blk_bel K86.out B67.out) HB8.out)
 have K98 := Aside0.mk (blk_bel K97.out HB8.out)
 have Q48 := Aside0.mk (Kd.S_below (Kd.S_below Q4.out B67.out) HB8.out)
 have Q58 := Aside0.mk (Kd.R_below (Kd.R_below (Kd.R_below Q5.out (Below.refl _ _)) B67.out) HB8.out)
 have Q68 := Aside0.mk (Kd.R_below (Kd.R_below Q6.out B67.out) HB8.out)
 have Q78 := Aside0.mk (Kd.S_below Q7.out HB8.out)
 clear Q4 Q5 Q6 Q7 K86 K97 K84 K85 K67 S2 S2b S2c R2b R2c R2bc b20 b21 b21b b22 b22b b22c
 have hs80 : (w8).cell? ⟨w4.heap.size, 0, none⟩ = some (.int .i64 lim) := (blk_cell K88.out 0).trans rfl
 have hs81 : (w8).cell? ⟨w4.heap.size, 1, none⟩ = some (.slice A4 bs.length c4) := (blk_cell K88.out 1).trans rfl
 have hs20 : (w8).cell? ⟨w.heap.size, 0, none⟩ = some (.int .i64 a0_0) := (blk_cell b28.out 0).trans rfl
 have hs21 : (w8).cell? ⟨w.heap.size, 1, none⟩ = some (.slice A0_1 l0_1.length c0_1) := (blk_cell b28.out 1).trans rfl
 go_region_held3 (fun w' => w'.cell? ⟨w4.heap.size, 0, none⟩ = some (.int .i64 lim) ∧ w'.cell? ⟨w4.heap.size, 1, none⟩ = some (.slice A4 bs.length c4) ∧ w'.cell? ⟨w.heap.size, 0, none⟩ = some (.int .i64 a0_0) ∧ w'.cell? ⟨w.heap.size, 1, none⟩ = some (.slice A0_1 l0_1.length c0_1))
  (first | (go_keep; done) | exact ⟨hz80, hz81, hz20, hz21⟩ | exact ⟨hv80, hv81, hv20, hv21⟩)
  (first | (go_at_call 17; refine (laws_toPost.calls k a0_0 A0_1 c0_1 l0_1 lim bs w8.drew (Kd.C_drew (Kd.C_below HR0.out W8.out)) HC0.out TP.out).mono ?_; rintro e w9 ⟨v9, rfl, hs9, hb9⟩; obtain ⟨A9, c9, e9⟩ := Kd.S_slice hs9; subst e9; have S9 := Aside0.mk hs9; have HB9 := Aside0.mk (show Below w8.heap.size w8 w9 from (below_drew (Below.refl _ _)).trans hb9); clear hs9 hb9; have b29 := Aside0.mk (blk_bel b28.out HB9.out); have K89 := Aside0.mk (blk_bel K88.out HB9.out); have hz80 : (w9).cell? ⟨w4.heap.size, 0, none⟩ = some (.int .i64 lim) := (blk_cell K89.out 0).trans rfl; have hz81 : (w9).cell? ⟨w4.heap.size, 1, none⟩ = some (.slice A4 bs.length c4) := (blk_cell K89.out 1).trans rfl; have hz20 : (w9).cell? ⟨w.heap.size, 0, none⟩ = some (.int .i64 a0_0) := (blk_cell b29.out 0).trans rfl; have hz21 : (w9).cell? ⟨w.heap.size, 1, none⟩ = some (.slice A0_1 l0_1.length c0_1) := (blk_cell b29.out 1).trans rfl) | (go_at_call 19; refine (laws_eqPost.calls k lim A4 c4 bs lim A9 c9 bs true w9 (Kd.C_below (Kd.S_reads' Q48.out).2.2 HB9.out) (Kd.S_reads' Q48.out).2.1 (Kd.S_reads' S9.out).2.2 (Kd.S_reads' S9.out).2.1 EQ2.out).mono ?_; rintro e w10 ⟨rfl, hb10⟩; have HB10 := Aside0.mk (HB9.out.trans (hb10.mono HB9.out.size)); clear hb10; have b210 := Aside0.mk (blk_bel b28.out HB10.out); have K810 := Aside0.mk (blk_bel K88.out HB10.out); have hv80 : (w10).cell? ⟨w4.heap.size, 0, none⟩ = some (.int .i64 lim) := (blk_cell K810.out 0).trans rfl; have hv81 : (w10).cell? ⟨w4.heap.size, 1, none⟩ = some (.slice A4 bs.length c4) := (blk_cell K810.out 1).trans rfl; have hv20 : (w10).cell? ⟨w.heap.size, 0, none⟩ = some (.int .i64 a0_0) := (blk_cell b210.out 0).trans rfl; have hv21 : (w10).cell? ⟨w.heap.size, 1, none⟩ = some (.slice A0_1 l0_1.length c0_1) := (blk_cell b210.out 1).trans rfl))
 have D10 := Aside0.mk (D8.out.trans (HB10.out.mono D8.out.size))
 have W10 := Aside0.mk (HM3.out.trans (D10.out.mono HM3.out.size))
 have K910 := Aside0.mk (blk_bel K98.out HB10.out)
 have Q410 := Aside0.mk (Kd.S_below Q48.out HB10.out)
 have Q510 := Aside0.mk (Kd.R_below Q58.out HB10.out)
 have Q610 := Aside0.mk (Kd.R_below Q68.out HB10.out)
 have Q710 := Aside0.mk (Kd.S_below Q78.out HB10.out)
 clear Q48 Q58 Q68 Q78 K88 K98 K89 b28 b29 S9 HB8
 clear hs80 hs81 hs20 hs21 hz80 hz81 hz20 hz21
 have Z4 := Aside0.mk (mk29_size w4 lim (.slice A4 bs.length c4))
 have SZ : Aside0 (w4.heap.size < w5.heap.size ∧ w5.heap.size ≤ w6.heap.size ∧ w6.heap.size ≤ w7.heap.size ∧ (mk29 w4 lim (.slice A4 bs.length c4)).heap.size = w4.heap.size + 1) := ⟨by have h1 := B45.out.size; have h2 := Z4.out; omega, B56.out.size, S67.out, Z4.out⟩
 have t1 : True := trivial
 go_wp2_with (first
  | (go_at_call 48; have _g := t1; clear _g t1; refine (laws_toInt64S.calls k A1 c1 l1 ys w10 (Kd.C_below HR1.out W10.out) HC1.out TI.out).mono ?_; clear hv80 hv81 hv20 hv21; rintro e w11 ⟨v11, rfl, hs, hb⟩; obtain ⟨A11, c11, e11⟩ := Kd.R_slice hs; subst e11; have R11 := Aside0.mk hs; have HB11 := Aside0.mk hb; clear hs hb; have t2 : True := trivial)
  | (go_at_call 28; have _g := t2; clear _g t2; refine (laws_eqInt64S.calls k A5 c5 ys A11 c11 ys true w11 (Kd.R_reads' (Kd.R_below Q510.out HB11.out)).2.2 (Kd.R_reads' Q510.out).2.1 (Kd.R_reads' R11.out).2.2 (Kd.R_reads' R11.out).2.1 EQ3.out).mono ?_; rintro e w12 ⟨rfl, hb⟩; have HB12 := Aside0.mk (HB11.out.trans (hb.below.mono HB11.out.size)); clear hb R11 HB11; have t3 : True := trivial)
  | (go_at_call 49; have _g := t3; clear _g t3; refine (laws_toParcelS.calls k A2 c2 l2 zs w12 (Kd.C_below HR2.out (W10.out.trans (HB12.out.mono W10.out.size))) HC2.out TZ.out).mono ?_; rintro e w13 ⟨v13, rfl, hs, hb⟩; obtain ⟨A13, c13, e13⟩ := Kd.R_slice hs; subst e13; have R13 := Aside0.mk hs; have HB13 := Aside0.mk (HB12.out.trans (hb.mono HB12.out.size)); clear hs hb; have t4 : True := trivial)
  | (go_at_call 50; have _g := t4; clear _g t4; refine (laws_eqParcelS.calls k A6 c6 zs A13 c13 zs true w13 (Kd.R_reads' (Kd.R_below Q610.out HB13.out)).2.2 (Kd.R_reads' Q610.out).2.1 (Kd.R_reads' R13.out).2.2 (Kd.R_reads' R13.out).2.1 EQ4.out).mono ?_; rintro e w14 ⟨rfl, hb⟩; have HB14 := Aside0.mk (HB13.out.trans (hb.mono HB13.out.size)); clear hb R13 HB13 HB12; have D14 := Aside0.mk (D10.out.trans (HB14.out.mono D10.out.size)); have K814 := Aside0.mk (blk_bel K810.out HB14.out); have K914 := Aside0.mk (blk_bel K910.out HB14.out); have Q414 := Aside0.mk (Kd.S_below Q410.out HB14.out); have Q514 := Aside0.mk (Kd.R_below Q510.out HB14.out); have Q614 := Aside0.mk (Kd.R_below Q610.out HB14.out); have Q714 := Aside0.mk (Kd.S_below Q710.out HB14.out); clear Q410 Q510 Q610 Q710 K810 K910 b210; have hu80 : (w14).cell? ⟨w4.heap.size, 0, none⟩ = some (.int .i64 lim) := (blk_cell K814.out 0).trans rfl; have hu81 : (w14).cell? ⟨w4.heap.size, 1, none⟩ = some (.slice A4 bs.length c4) := (blk_cell K814.out 1).trans rfl; have t5 : True := trivial)
  | (go_at_call 22; have _g := t5; clear _g t5; refine (laws_markPost.calls k lim ok4 (.slice A4 bs.length c4) bs 1 k1 bs' (mk29 w3 r1 (.slice A3 r2.length c3)) w14 D14.out Q414.out MK1.out).mono ?_; clear hu80 hu81; rintro e w15 ⟨rfl, hs, hb, hk⟩; have D15 := Aside0.mk hb; have K915 := Aside0.mk (blk_kept K914.out hk (fun h => by have h1 := F4.out.2 _ h; have h2 := SZ.out; omega)); have Q515 := Aside0.mk (Kd.R_step Q514.out (fun k_ h h1 => hk.2 k_ h1 (fun h2 => by have h3 := F4.out.2 _ h2; have h4 := F5.out.1 _ h; have h5 := SZ.out; omega))); have Q615 := Aside0.mk (Kd.R_step Q614.out (fun k_ h h1 => hk.2 k_ h1 (fun h2 => by have h3 := F4.out.2 _ h2; have h4 := F6.out.1 _ h; have h5 := SZ.out; omega))); have Q715 := Aside0.mk (Kd.S_step Q714.out (fun k_ h h1 => hk.2 k_ h1 (fun h2 => by have h3 := F4.out.2 _ h2; have h4 := F7.out.1 _ h; have h5 := SZ.out; omega))); clear hs hb hk Q414 Q514 Q614 Q714 K814 K914; have t6 : True := trivial)
  | (go_at_call 29; have _g := t6; clear _g t6; refine (laws_markInt64S.calls k ok5 (.slice A5 ys.length c5) ys k1 k2 ys' (mk29 w3 r1 (.slice A3 r2.length c3)) w15 D15.out (Kd.R_lower Q515.out LO4.out.size) MK2.out).mono ?_; rintro e w16 ⟨rfl, hs, hb, hk⟩; have D16 := Aside0.mk hb; have K916 := Aside0.mk (blk_kept K915.out hk (fun h => by have h1 := F5.out.2 _ h; have h2 := SZ.out; omega)); have Q616 := Aside0.mk (Kd.R_step Q615.out (fun k_ h h1 => hk.2 k_ h1 (fun h2 => by have h3 := F5.out.2 _ h2; have h4 := F6.out.1 _ h; have h5 := SZ.out; omega))); have Q716 := Aside0.mk (Kd.S_step Q715.out (fun k_ h h1 => hk.2 k_ h1 (fun h2 => by have h3 := F5.out.2 _ h2; have h4 := F7.out.1 _ h; have h5 := SZ.out; omega))); clear hs hb hk Q515 Q615 Q715 K915; have t7 : True := trivial)
  | (go_at_call 51; have _g := t7; clear _g t7; refine (laws_markParcelS.calls k ok6 (.slice A6 zs.length c6) zs k2 kk zs' (mk29 w3 r1 (.slice A3 r2.length c3)) w16 D16.out (Kd.R_lower Q616.out LO5.out.size) MK3.out).mono ?_; rintro e w17 ⟨rfl, hs, hb, hk⟩; have D17 := Aside0.mk hb; have K917 := Aside0.mk (blk_kept K916.out hk (fun h => by have h1 := F6.out.2 _ h; have h2 := SZ.out; omega)); have Q717 := Aside0.mk (Kd.S_step Q716.out (fun k_ h h1 => hk.2 k_ h1 (fun h2 => by have h3 := F6.out.2 _ h2; have h4 := F7.out.1 _ h; have h5 := SZ.out; omega))); have K617 := Aside0.mk (blk_bel K63.out hb); clear hs hb hk Q616 Q716 K916; have hq90 : (w17).cell? ⟨w7.heap.size, 0, none⟩ = some (.int .i64 r1) := (blk_cell K917.out 0).trans rfl; have hq91 : (w17).cell? ⟨w7.heap.size, 1, none⟩ = some (.slice A7 r2.length c7) := (blk_cell K917.out 1).trans rfl; have hq60 : (w17).cell? ⟨w3.heap.size, 0, none⟩ = some (.int .i64 r1) := (blk_cell K617.out 0).trans rfl; have hq61 : (w17).cell? ⟨w3.heap.size, 1, none⟩ = some (.slice A3 r2.length c3) := (blk_cell K617.out 1).trans rfl; have t8 : True := trivial)
  | (go_at_call 19; have _g := t8; clear _g t8; refine (laws_eqPost.calls k r1 A7 c7 r2 r1 A3 c3 r2 true w17 (Kd.S_reads' Q717.out).2.2 (Kd.S_reads' Q717.out).2.1 (Kd.C_below S3.out D17.out) L3.out EQ1.out).mono ?_; clear hq90 hq91 hq60 hq61; rintro e w18 ⟨rfl, hb⟩; have D18 := Aside0.mk (D17.out.trans (hb.mono D17.out.size)); have K918 := Aside0.mk (blk_bel K917.out hb); have Q718 := Aside0.mk (Kd.S_lower (Kd.S_below Q717.out hb) LO6.out.size); clear hb Q717 K917; have hr90 : (w18).cell? ⟨w7.heap.size, 0, none⟩ = some (.int .i64 r1) := (blk_cell K918.out 0).trans rfl; have hr91 : (w18).cell? ⟨w7.heap.size, 1, none⟩ = some (.slice A7 r2.length c7) := (blk_cell K918.out 1).trans rfl; have t9 : True := trivial)
  | (go_at_call 22; have _g := t9; clear _g t9; refine (laws_markPost.calls k r1 ok7 (.slice A7 r2.length c7) r2 1 q r2' (mk29 w3 r1 (.slice A3 r2.length c3)) w18 D18.out Q718.out MKG.out).mono ?_; clear hr90 hr91; rintro e w19 ⟨rfl, hs, hb, hk⟩; have D19 := Aside0.mk hb; have K919 := Aside0.mk (blk_kept K918.out hk (fun h => by have h1 := F7.out.2 _ h; omega)); have P719 := Aside0.mk hs; clear hs hb hk Q718 K918; have ht90 : (w19).cell? ⟨w7.heap.size, 0, none⟩ = some (.int .i64 r1) := (blk_cell K919.out 0).trans rfl; have ht91 : (w19).cell? ⟨w7.heap.size, 1, none⟩ = some (.slice A7 r2.length c7) := (blk_cell K919.out 1).trans rfl; have t10 : True := trivial)
  | (go_at_call 23; have _g := t10; clear _g t10; rw [(Kd.S_reads' P719.out).1]; refine (laws_heldPost.calls k r1 A7 c7 r2' 1 q w19 (Kd.S_reads' P719.out).2.2 (by have := (Kd.S_reads' P719.out).2.1; rw [(Kd.S_reads' P719.out).1] at this; exact this) HE.out).mono ?_; clear ht90 ht91; rintro e w20 ⟨rfl, hb⟩; have D20 := Aside0.mk (D19.out.trans (hb.mono D19.out.size)); have K920 := Aside0.mk (blk_bel K919.out hb); have P720 := Aside0.mk (Kd.S_below P719.out hb); clear hb; have b220 := Aside0.mk (blk_bel b2m3.out D20.out); have W20 := Aside0.mk (HM3.out.trans (D20.out.mono HM3.out.size)); have ha20 : (w20).cell? ⟨w.heap.size, 0, none⟩ = some (.int .i64 a0_0) := (blk_cell b220.out 0).trans rfl; have ha21 : (w20).cell? ⟨w.heap.size, 1, none⟩ = some (.slice A0_1 l0_1.length c0_1) := (blk_cell b220.out 1).trans rfl; have t11 : True := trivial)
  | (go_at_call 17; have _g := t11; clear _g t11; refine (laws_toPost.calls k a0_0 A0_1 c0_1 l0_1 lim bs w20 (Kd.C_below HR0.out W20.out) HC0.out TP.out).mono ?_; clear ha20 ha21; rintro e w21 ⟨v21, rfl, hs, hb⟩; obtain ⟨A21, c21, e21⟩ := Kd.S_slice hs; subst e21; have S21 := Aside0.mk hs; have HB21 := Aside0.mk hb; clear hs hb; have t12 : True := trivial)
  | (go_at_call 48; have _g := t12; clear _g t12; refine (laws_toInt64S.calls k A1 c1 l1 ys w21 (Kd.C_below HR1.out (W20.out.trans (HB21.out.mono W20.out.size))) HC1.out TI.out).mono ?_; rintro e w22 ⟨v22, rfl, hs, hb⟩; obtain ⟨A22, c22, e22⟩ := Kd.R_slice hs; subst e22; have R22 := Aside0.mk hs; have S22 := Aside0.mk (Kd.S_below S21.out hb); have HB22 := Aside0.mk (HB21.out.trans (hb.mono HB21.out.size)); clear hs hb; have t13 : True := trivial)
  | (go_at_call 49; have _g := t13; clear _g t13; refine (laws_toParcelS.calls k A2 c2 l2 zs w22 (Kd.C_below HR2.out (W20.out.trans (HB22.out.mono W20.out.size))) HC2.out TZ.out).mono ?_; rintro e w23 ⟨v23, rfl, hs, hb⟩; obtain ⟨A23, c23, e23⟩ := Kd.R_slice hs; subst e23; have R23 := Aside0.mk hs; have S23 := Aside0.mk (Kd.S_below S22.out hb); have R22b := Aside0.mk (Kd.R_below R22.out hb); have HB23 := Aside0.mk (HB22.out.trans (hb.mono HB22.out.size)); clear hs hb; have t14 : True := trivial)
  | (go_at_call 40; have _g := t14; clear _g t14; refine (impl_SendAll.calls k lim A21 c21 bs A22 c22 ys A23 c23 zs r1 r2 r3 r4 w23 (Kd.S_reads' S23.out).2.2 (Kd.S_reads' S23.out).2.1 (Kd.R_reads' R22b.out).2.2 (Kd.R_reads' R22b.out).2.1 (Kd.R_reads' R23.out).2.2 (Kd.R_reads' R23.out).2.1 IM.out).mono ?_; rintro e w24 ⟨v24, rfl, hs, hb⟩; obtain ⟨A24, c24, e24⟩ := Kd.S_slice hs; subst e24; have M24 := Aside0.mk (mk29_below w24 r1 (.slice A24 r2.length c24)); have HB24a := Aside0.mk (HB23.out.trans (hb.mono HB23.out.size)); have HB24 := Aside0.mk (HB24a.out.trans (M24.out.mono HB24a.out.size)); have S24 := Aside0.mk (Kd.S_below hs M24.out); have D24 := Aside0.mk (D20.out.trans (HB24.out.mono D20.out.size)); have K624 := Aside0.mk (blk_bel K63.out D24.out); clear hs hb; have hd60 : (mk29 w24 r1 (.slice A24 r2.length c24)).cell? ⟨w3.heap.size, 0, none⟩ = some (.int .i64 r1) := (blk_cell K624.out 0).trans rfl; have hd61 : (mk29 w24 r1 (.slice A24 r2.length c24)).cell? ⟨w3.heap.size, 1, none⟩ = some (.slice A3 r2.length c3) := (blk_cell K624.out 1).trans rfl; unfold mk29 at hd60 hd61; have t15 : True := trivial)
  | (go_at_call 19; have _g := t15; clear _g t15; refine (laws_eqPost.calls k r1 A24 c24 r2 r1 A3 c3 r2 true (mk29 w24 r1 (.slice A24 r2.length c24)) (Kd.S_reads' S24.out).2.2 (Kd.S_reads' S24.out).2.1 (Kd.C_below S3.out D24.out) L3.out EQ1.out).mono ?_; clear hd60 hd61; rintro e w25 ⟨rfl, hb⟩; have HB25 := Aside0.mk (HB24.out.trans (hb.mono HB24.out.size)); have D25 := Aside0.mk (D24.out.trans (hb.mono D24.out.size)); clear hb; have K925 := Aside0.mk (blk_bel K920.out HB25.out); have P725 := Aside0.mk (Kd.S_below P720.out HB25.out); have he90 : (w25).cell? ⟨w7.heap.size, 0, none⟩ = some (.int .i64 r1) := (blk_cell K925.out 0).trans rfl; have he91 : (w25).cell? ⟨w7.heap.size, 1, none⟩ = some (.slice A7 r2.length c7) := (blk_cell K925.out 1).trans rfl; have t16 : True := trivial)
  | (go_at_call 23; have _g := t16; clear _g t16; rw [(Kd.S_reads' P725.out).1]; refine (laws_heldPost.calls k r1 A7 c7 r2' 1 q w25 (Kd.S_reads' P725.out).2.2 (by have := (Kd.S_reads' P725.out).2.1; rw [(Kd.S_reads' P725.out).1] at this; exact this) HE.out).mono ?_; clear he90 he91; rintro e w26 ⟨rfl, hb⟩; have D26 := Aside0.mk (D25.out.trans (hb.mono D25.out.size)); clear hb))
 go_ret
 exact ⟨rfl, HM3.out.trans (D26.out.mono HM3.out.size)⟩

instance : Inhabited S70 := ⟨z70⟩
def Q70 (x : S70) : Prop := (Lit.int .i64 x.f0).wf = true ∧ (Lit.int .i64 x.f1).wf = true
theorem opens70 : Opens Try.prog 70 k70 Q70 := opens_struct Try.underlying70 (by kernel_rfl) (opensF_cons rfl (by kernel_rfl) (opens_int Try.underlying2) (opensF_one rfl (by kernel_rfl) (opens_int Try.underlying2))) (fun x : S70 => (x.f0, x.f1)) (fun y => ⟨y.1, y.2⟩) (fun _ => rfl)
instance : Inhabited S115 := ⟨z115⟩
def Q115 (x : S115) : Prop := x.f0.size ≤ 9223372036854775807 ∧ (Lit.int .i64 x.f1).wf = true ∧ (Lit.int .i64 x.f2).wf = true ∧ (x.f3.length ≤ 9223372036854775807 ∧ ∀ y ∈ x.f3, Q70 y)
theorem opens115 : Opens Try.prog 115 k115 Q115 := opens_struct Try.underlying115 (by kernel_rfl) (opensF_cons rfl (by kernel_rfl) (opens_string Try.underlying9) (opensF_cons rfl (by kernel_rfl) (opens_int Try.underlying2) (opensF_cons rfl (by kernel_rfl) (opens_int Try.underlying2) (opensF_one rfl (by kernel_rfl) (opens_slice Try.underlying63 (by kernel_rfl) opens70))))) (fun x : S115 => (x.f0, x.f1, x.f2, x.f3)) (fun y => ⟨y.1, y.2.1, y.2.2.1, y.2.2.2⟩) (fun _ => rfl)
/-- THE ONE PURE STATEMENT of laws_FnExactSendAll. -/
def laws_FnExactSendAll.Pure : Prop := ∀ (a0_0 : Int) (l0_1 : List (S115)) (l1 : List Int) (l2 : List (S70)), (Lit.int .i64 a0_0).wf = true → (l0_1.length ≤ 9223372036854775807 ∧ ∀ y ∈ l0_1, Q115 y) → (l1.length ≤ 9223372036854775807 ∧ ∀ y ∈ l1, (Lit.int .i64 y).wf = true) → (l2.length ≤ 9223372036854775807 ∧ ∀ y ∈ l2, Q70 y) → ∃ k, laws_FnExactSendAll.f k a0_0 l0_1 l1 l2 = some true
theorem laws_FnExactSendAll.walk (P : laws_FnExactSendAll.Pure) (a0_0 : Int) (A0_1 : Option Addr) (c0_1 : Nat) (l0_1 : List (S115)) (A1 : Option Addr) (c1 : Nat) (l1 : List Int) (A2 : Option Addr) (c2 : Nat) (l2 : List (S70)) (w : World) (hr0_1 : Kd.C k115 w A0_1 l0_1.length l0_1) (hc0_1 : l0_1.length ≤ c0_1) (hr1 : Kd.C (Kd.int .i64) w A1 l1.length l1) (hc1 : l1.length ≤ c1) (hr2 : Kd.C k70 w A2 l2.length l2) (hc2 : l2.length ≤ c2) (hq0_0 : (Lit.int .i64 a0_0).wf = true) (hq0_1 : (l0_1.length ≤ 9223372036854775807 ∧ ∀ y ∈ l0_1, Q115 y)) (hq1 : (l1.length ≤ 9223372036854775807 ∧ ∀ y ∈ l1, (Lit.int .i64 y).wf = true)) (hq2 : (l2.length ≤ 9223372036854775807 ∧ ∀ y ∈ l2, Q70 y)) :
  Calls Try.prog 11 #[.agg #[.int .i64 a0_0, .slice A0_1 l0_1.length c0_1], .slice A1 l1.length c1, .slice A2 l2.length c2] w fun e w' => e = .returned (.bool true) ∧ Below w.heap.size w w' := by
 obtain ⟨k, h⟩ := P a0_0 l0_1 l1 l2 hq0_0 hq0_1 hq1 hq2
 refine (laws_FnExactSendAll.calls k a0_0 _ _ l0_1 _ _ l1 _ _ l2 true w hr0_1 hc0_1 hr1 hc1 hr2 hc2 h).mono ?_
 rintro e w' ⟨rfl, hd⟩
 exact ⟨rfl, hd⟩

end Go.Proofs.Ytgpiaeklhhacjaa.XFnExactSendAll
