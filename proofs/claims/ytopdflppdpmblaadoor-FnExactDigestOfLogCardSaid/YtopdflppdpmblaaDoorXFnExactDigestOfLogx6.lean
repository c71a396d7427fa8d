-- Written by a program of this session (wip/xprint: over the kit's print). Not trusted: Lean checks it.
import Derived.Test.YtopdflppdpmblaaDoorXFnExactDigestOfLogx0
import Derived.Test.YtopdflppdpmblaaDoorXFnExactDigestOfLogx3
import Derived.Test.YtopdflppdpmblaaDoorXFnExactDigestOfLogx5
namespace Go.Proofs.YtopdflppdpmblaaDoor.XFnExactDigestOfLog
open Go.RowKit Go.Proofs.YtopdflppdpmblaaDoorW.PrintWords Go.Proofs.YtopdflppdpmblaaDoorW.PrintLast Go.Proofs.YtopdflppdpmblaaDoorW.PrintMore
open Go.Proofs.YtopdflppdpmblaaDoor.XW
open Go.Proofs.YtopdflppdpmblaaDoor.XD
attribute [local go_sem] max2_int min2_int max_two min_two max_three min_three max_four min_four   -- for this text's walks alone
set_option linter.unusedVariables false
set_option linter.unusedSimpArgs false

/-! ### spec_l03Text: function 63 -/
def spec_l03Text.l0 : Nat → ByteArray → Int → Int → Int → List (S81) → Option (ByteArray)
 | 0, _, _, _, _, _ => none
 | k + 1, x3, x15, x16, x1000, x1001 => if x16 < x15 then (if 0 ≤ x16 then (if x16 < (x1001.length : Int) then ((spec_l03Line.f k ((rd_T81 x1001 x16).f0) ((rd_T81 x1001 x16).f1) ((rd_T81 x1001 x16).f2) ((rd_T81 x1001 x16).f3) ((rd_T81 x1001 x16).f4) ((rd_T81 x1001 x16).f5) ((rd_T81 x1001 x16).f6) ((rd_T81 x1001 x16).f7)).bind fun t169 => (if x3.size + t169.size ≤ 9223372036854775807 then (spec_l03Text.l0 k (x3 ++ t169) x15 (wrap64 (x16 + 1)) x1000 x1001) else (none))) else (none)) else (none)) else (some x3)
def spec_l03Text.f (k : Nat) (a0_0 : Int) (l0_1 : List (S81)) : Option (ByteArray) := (spec_l01Dec.f k a0_0).bind fun t166 => (if t166.size + 1 ≤ 9223372036854775807 then (spec_l03Text.l0 k (t166 ++ (⟨#[10]⟩ : ByteArray)) (l0_1.length : Int) 0 a0_0 l0_1) else (none))
theorem spec_l03Text.mono_l : ∀ k, (∀ y0 y1 y2 y3 y4, LeO (spec_l03Text.l0 k y0 y1 y2 y3 y4) (spec_l03Text.l0 (k + 1) y0 y1 y2 y3 y4))
 | 0 => fun _ _ _ _ _ r h => by simp [spec_l03Text.l0] at h
 | k + 1 => by
  have ih0 := spec_l03Text.mono_l k
  ·intro y0 y1 y2 y3 y4
   unfold spec_l03Text.l0
   repeat' first
   | (with_reducible exact ih0 _ _ _ _ _)
   | (with_reducible exact spec_l01Dec.mono _ _)
   | (with_reducible exact spec_l03Line.mono _ _ _ _ _ _ _ _ _)
   | (with_reducible exact LeO.refl _)
   | (with_reducible exact LeO.none _)
   | (with_reducible refine LeO.ite ?_ ?_)
   | (with_reducible refine LeO.bind ?_ (fun _ => ?_))
   | exact ih0 _ _ _ _ _
   | exact spec_l01Dec.mono _ _
   | exact spec_l03Line.mono _ _ _ _ _ _ _ _ _
   | exact LeO.none _
   | refine LeO.ite ?_ ?_
   | refine LeO.bind ?_ (fun _ => ?_)
theorem spec_l03Text.mono : ∀ a0 a1 k, LeO (spec_l03Text.f k a0 a1) (spec_l03Text.f (k + 1) a0 a1) := by
 intro a0 a1 k
 have ih0 := spec_l03Text.mono_l k
 unfold spec_l03Text.f
 repeat' first
   | (with_reducible exact ih0 _ _ _ _ _)
   | (with_reducible exact spec_l01Dec.mono _ _)
   | (with_reducible exact spec_l03Line.mono _ _ _ _ _ _ _ _ _)
   | (with_reducible exact LeO.refl _)
   | (with_reducible exact LeO.none _)
   | (with_reducible refine LeO.ite ?_ ?_)
   | (with_reducible refine LeO.bind ?_ (fun _ => ?_))
   | exact ih0 _ _ _ _ _
   | exact spec_l01Dec.mono _ _
   | exact spec_l03Line.mono _ _ _ _ _ _ _ _ _
   | exact LeO.none _
   | refine LeO.ite ?_ ?_
   | refine LeO.bind ?_ (fun _ => ?_)
set_option maxHeartbeats 8000000 in
set_option maxRecDepth 100000 in
theorem spec_l03Text.calls (k : Nat) (pa0_ : Addr) (a0_0 : Int) (A0_1 : Option Addr) (c0_1 : Nat) (l0_1 : List (S81)) (r : ByteArray) (w : World) (hq0 : RP w pa0_ [.int .i64 a0_0, .slice A0_1 l0_1.length c0_1]) (hr0_1 : Kd.C k81 w A0_1 l0_1.length l0_1) (hc0_1 : l0_1.length ≤ c0_1) (h : spec_l03Text.f k a0_0 l0_1 = some r) :
  Calls Tryd.prog 63 #[.pointer (some pa0_)] w fun e w' => e = .returned (.string r) ∧ Below w.heap.size w w' := by
 have HQ0 := Aside0.mk hq0
 clear hq0
 have HR0_1 := Aside0.mk hr0_1
 have HC0_1 := Aside0.mk hc0_1
 clear hr0_1 hc0_1
 have HB := Aside0.mk (Below.refl w.heap.size w)
 have H : ((spec_l01Dec.f k a0_0).bind fun t166 => (if t166.size + 1 ≤ 9223372036854775807 then (spec_l03Text.l0 k (t166 ++ (⟨#[10]⟩ : ByteArray)) (l0_1.length : Int) 0 a0_0 l0_1) else (none))) = some r := h
 clear h
 replace H := Option.bind_eq_some_iff.mp H
 obtain ⟨t166, A20, H⟩ := H
 replace H : (if t166.size + 1 ≤ 9223372036854775807 then (spec_l03Text.l0 k (t166 ++ (⟨#[10]⟩ : ByteArray)) (l0_1.length : Int) 0 a0_0 l0_1) else (none)) = some r := H
 have A2 := Aside0.mk A20
 clear A20
 by_cases c3 : t166.size + 1 ≤ 9223372036854775807
 ·rw [if_pos c3] at H
  have c3b0 := eq_true c3
  have c3b1 : decide (t166.size + 1 ≤ 9223372036854775807) = true := decide_eq_true c3
  try have c3b2 : (9223372036854775807 < t166.size + 1) = False := eq_false (Nat.not_lt.2 c3)
  have H' := Aside0.mk H
  clear H
  have hcz4_0 : w.cell? pa0_ = some (.int .i64 a0_0) := (RP.get HQ0.out 0 rfl)
  have hcz4_1 : w.cell? ⟨pa0_.block, pa0_.off + 1, none⟩ = some (.slice A0_1 l0_1.length c0_1) := (RP.get HQ0.out 1 rfl)
  go_enter Tryd.func63, Tryd.ntmps63
  go_wp2_with (first | ((with_reducible refine gate_callee (f := 52) rfl ?_); refine goesL_ (some 9) rfl rfl Tryd.func52 (by kernel_rfl) rfl #[.int .i64 a0_0] rfl (by (try simp only [List.map_toArray, List.map_cons, List.map_nil]); first | done | rfl | (simp only [List.length_drop, List.length_take]; rfl)) ?_; (with_reducible refine (spec_l01Dec.calls k a0_0 t166 _ A2.out).mono ?_); rintro e w5 ⟨rfl, hb⟩; refine ⟨_, rfl, ?_⟩; have n0_ := Aside0.mk (below_step (by repeat (first | (with_reducible first | exact HB.out | apply below_alloc | apply pw_below_drewN | apply below_drew1) | exact HB.out)) hb); clear HB; have HB := n0_; clear n0_; (try clear hb); (try clear hb2); (try clear hk); (try clear hi); have hcz6_0 : w5.cell? pa0_ = some (.int .i64 a0_0) := (HB.out.cell (World.block_lt_of_cell? w _ (RP.get HQ0.out 0 rfl))).trans (RP.get HQ0.out 0 rfl); have hcz6_1 : w5.cell? ⟨pa0_.block, pa0_.off + 1, none⟩ = some (.slice A0_1 l0_1.length c0_1) := (HB.out.cell (World.block_lt_of_cell? w _ (RP.get HQ0.out 1 rfl))).trans (RP.get HQ0.out 1 rfl)))
  go_loopg [3, 16] k (fun kq v3 v16 w' => ∃ (x3_1 : ByteArray) (x16_1 : Int), v3 = .string x3_1 ∧ v16 = .int .i64 x16_1 ∧ Aside0 (spec_l03Text.l0 kq x3_1 (l0_1.length : Int) x16_1 a0_0 l0_1 = some r) ∧ Aside0 (kq ≤ k) ∧ Aside0 (Below w.heap.size w w'))
  case atStart => exact ⟨(t166 ++ (⟨#[10]⟩ : ByteArray)), (0), (by first | rfl | (simp; done) | (simp [*]; done)), (by first | rfl | (simp; done) | (simp [*]; done)), H', ⟨Nat.le_refl _⟩, ⟨by repeat (first | (with_reducible first | exact HB.out | apply below_alloc | apply pw_below_drewN | apply below_drew1) | exact HB.out)⟩⟩
  case round =>
   clear H'
   try clear p2
   try clear c3
   try clear c3b0
   try clear c3b1
   try clear c3b2
   try clear c5
   try clear c6
   try clear hcz4_0
   try clear hcz4_1
   try clear hcz6_0
   try clear hcz6_1
   obtain ⟨x3_1, x16_1, rfl, rfl, HA, HK1, HB⟩ := hrel
   cases gk with
   | zero => exact absurd HA.out (by simp [spec_l03Text.l0])
   | succ k1 =>
    have H := HA.out
    clear HA
    simp only [spec_l03Text.l0] at H
    by_cases c7 : x16_1 < (l0_1.length : Int)
    ·rw [if_pos c7] at H
     have c7b0 : decide (x16_1 < (l0_1.length : Int)) = true := decide_eq_true c7
     clear c7
     by_cases c8 : 0 ≤ x16_1
     ·rw [if_pos c8] at H
      have c8b0 : decide (0 ≤ x16_1) = true := decide_eq_true c8
      clear c8
      by_cases c9 : x16_1 < (l0_1.length : Int)
      ·rw [if_pos c9] at H
       have c9b0 : decide (x16_1 < (l0_1.length : Int)) = true := decide_eq_true c9
       clear c9
       replace H := Option.bind_eq_some_iff.mp H
       obtain ⟨t169, A100, H⟩ := H
       replace H : (if x3_1.size + t169.size ≤ 9223372036854775807 then (spec_l03Text.l0 k1 (x3_1 ++ t169) (l0_1.length : Int) (wrap64 (x16_1 + 1)) a0_0 l0_1) else (none)) = some r := H
       have A10 := Aside0.mk A100
       clear A100
       by_cases c11 : x3_1.size + t169.size ≤ 9223372036854775807
       ·rw [if_pos c11] at H
        have c11b0 := eq_true c11
        have c11b1 : decide (x3_1.size + t169.size ≤ 9223372036854775807) = true := decide_eq_true c11
        try have c11b2 : (9223372036854775807 < x3_1.size + t169.size) = False := eq_false (Nat.not_lt.2 c11)
        have H' := Aside0.mk H
        clear H
        have hcz12_0 : wr.cell? pa0_ = some (.int .i64 a0_0) := (HB.out.cell (World.block_lt_of_cell? w _ (RP.get HQ0.out 0 rfl))).trans (RP.get HQ0.out 0 rfl)
        have hcz12_1 : wr.cell? ⟨pa0_.block, pa0_.off + 1, none⟩ = some (.slice A0_1 l0_1.length c0_1) := (HB.out.cell (World.block_lt_of_cell? w _ (RP.get HQ0.out 1 rfl))).trans (RP.get HQ0.out 1 rfl)
        have p167 : 0 ≤ (x16_1 : Int) := of_decide_eq_true (by first | (with_reducible assumption) | assumption)
        have q167 : x16_1 < (l0_1.length : Int) := of_decide_eq_true (by first | (with_reducible assumption) | assumption)
        obtain ⟨ad167, A167_7, c167_7, e167, hx167_0, hx167_1, hx167_2, hx167_3, hx167_4, hx167_5, hx167_6, hx167_7, hl167_7, hi167_7⟩ := at_T81 HR0_1.out x16_1 p167 q167
        cases e167
        replace hx167_0 := (HB.out.cell (World.block_lt_of_cell? w _ hx167_0)).trans hx167_0
        replace hx167_1 := (HB.out.cell (World.block_lt_of_cell? w _ hx167_1)).trans hx167_1
        replace hx167_2 := (HB.out.cell (World.block_lt_of_cell? w _ hx167_2)).trans hx167_2
        replace hx167_3 := (HB.out.cell (World.block_lt_of_cell? w _ hx167_3)).trans hx167_3
        replace hx167_4 := (HB.out.cell (World.block_lt_of_cell? w _ hx167_4)).trans hx167_4
        replace hx167_5 := (HB.out.cell (World.block_lt_of_cell? w _ hx167_5)).trans hx167_5
        replace hx167_6 := (HB.out.cell (World.block_lt_of_cell? w _ hx167_6)).trans hx167_6
        replace hx167_7 := (HB.out.cell (World.block_lt_of_cell? w _ hx167_7)).trans hx167_7
        have HR167_7 := Aside0.mk hi167_7
        have HC167_7 := Aside0.mk hl167_7
        clear hi167_7 hl167_7
        replace p167 := eq_true p167
        replace q167 := eq_true q167
        have p168 : 0 ≤ (x16_1 : Int) := of_decide_eq_true (by first | (with_reducible assumption) | assumption)
        have q168 : x16_1 < (l0_1.length : Int) := of_decide_eq_true (by first | (with_reducible assumption) | assumption)
        obtain ⟨ad168, A168_7, c168_7, e168, hx168_0, hx168_1, hx168_2, hx168_3, hx168_4, hx168_5, hx168_6, hx168_7, hl168_7, hi168_7⟩ := at_T81 HR0_1.out x16_1 p168 q168
        obtain rfl : ad167 = ad168 := (by injection e168)
        replace hx168_0 := (HB.out.cell (World.block_lt_of_cell? w _ hx168_0)).trans hx168_0
        replace hx168_1 := (HB.out.cell (World.block_lt_of_cell? w _ hx168_1)).trans hx168_1
        replace hx168_2 := (HB.out.cell (World.block_lt_of_cell? w _ hx168_2)).trans hx168_2
        replace hx168_3 := (HB.out.cell (World.block_lt_of_cell? w _ hx168_3)).trans hx168_3
        replace hx168_4 := (HB.out.cell (World.block_lt_of_cell? w _ hx168_4)).trans hx168_4
        replace hx168_5 := (HB.out.cell (World.block_lt_of_cell? w _ hx168_5)).trans hx168_5
        replace hx168_6 := (HB.out.cell (World.block_lt_of_cell? w _ hx168_6)).trans hx168_6
        replace hx168_7 := (HB.out.cell (World.block_lt_of_cell? w _ hx168_7)).trans hx168_7
        have HR168_7 := Aside0.mk hi168_7
        have HC168_7 := Aside0.mk hl168_7
        clear hi168_7 hl168_7
        replace p168 := eq_true p168
        replace q168 := eq_true q168
        have ea_ := Option.some.inj (hx167_7.symm.trans hx168_7)
        injection ea_ with ea_ en_ ec_
        subst ea_
        subst ec_
        clear en_
        go_wp2_with (first | ((with_reducible refine gate_callee (f := 90) rfl ?_); refine goesL_ (some 26) rfl rfl Tryd.func90 (by kernel_rfl) rfl #[.pointer (some (ad167.add (x16_1.toNat * 8)))] rfl (by (try simp only [List.map_toArray, List.map_cons, List.map_nil]); first | done | rfl | (simp only [List.length_drop, List.length_take]; rfl)) ?_; (with_reducible refine (spec_l03Line.calls k1 _ ((rd_T81 l0_1 x16_1).f0) ((rd_T81 l0_1 x16_1).f1) ((rd_T81 l0_1 x16_1).f2) ((rd_T81 l0_1 x16_1).f3) ((rd_T81 l0_1 x16_1).f4) ((rd_T81 l0_1 x16_1).f5) ((rd_T81 l0_1 x16_1).f6) A167_7 c167_7 ((rd_T81 l0_1 x16_1).f7) t169 _ ?side1 ?side2 ?side3 A10.out).mono ?_); (case side1 => repeat (first | exact ⟨hx168_0, hx168_1, hx168_2, hx168_3, hx168_4, hx168_5, hx168_6, hx168_7, trivial⟩ | (with_reducible refine RP.alloc ?_ _) | (with_reducible refine RP.drewN ?_ _) | (with_reducible refine RP.drew ?_))); (case side2 => repeat (first | exact (Kd.C_below HR168_7.out HB.out) | (with_reducible refine Kd.C_alloc ?_ _) | (with_reducible refine Kd.C_drewN ?_ _) | (with_reducible refine Kd.C_drew ?_))); (case side3 => exact HC168_7.out); rintro e w13 ⟨rfl, hb⟩; refine ⟨_, rfl, ?_⟩; have n0_ := Aside0.mk (below_step (by repeat (first | (with_reducible first | exact HB.out | apply below_alloc | apply pw_below_drewN | apply below_drew1) | exact HB.out)) hb); clear HB; have HB := n0_; clear n0_; (try clear hb); (try clear hb2); (try clear hk); (try clear hi)))
        go_roundg k1
        case measure => have := HK1.out; omega
        case rel => exact ⟨(x3_1 ++ t169), (wrap64 (x16_1 + 1)), (by first | rfl | (simp; done) | (simp [*]; done)), (by first | rfl | (simp; done) | (simp [*]; done)), H', ⟨by have := HK1.out; omega⟩, ⟨by repeat (first | (with_reducible first | exact HB.out | apply below_alloc | apply pw_below_drewN | apply below_drew1) | exact HB.out)⟩⟩
       ·rw [if_neg c11] at H
        exact absurd H (by simp)
      ·rw [if_neg c9] at H
       exact absurd H (by simp)
     ·rw [if_neg c8] at H
      exact absurd H (by simp)
    ·rw [if_neg c7] at H
     have c7b0 : decide (x16_1 < (l0_1.length : Int)) = false := decide_eq_false c7
     clear c7
     obtain rfl := Option.some.inj H
     go_wp2
     go_ret
     exact ⟨by first | rfl | (simp [errW_none, errW_some] <;> rfl) | (simp [*, errW_none, errW_some] <;> rfl), by repeat (first | (with_reducible first | exact HB.out | apply below_alloc | apply pw_below_drewN | apply below_drew1) | exact HB.out)⟩
 ·rw [if_neg c3] at H
  exact absurd H (by simp)

end Go.Proofs.YtopdflppdpmblaaDoor.XFnExactDigestOfLog
