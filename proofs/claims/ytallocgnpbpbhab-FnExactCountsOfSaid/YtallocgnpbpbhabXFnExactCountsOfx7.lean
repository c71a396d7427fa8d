-- Written by a program of this session (wip/xprint: over the kit's print). Not trusted: Lean checks it.
import Derived.Test.YtallocgnpbpbhabXFnExactCountsOfx0
import Derived.Test.YtallocgnpbpbhabXFnExactCountsOfx5
import Derived.Test.YtallocgnpbpbhabXFnExactCountsOfx6
namespace Go.Proofs.Ytallocgnpbpbhab.XFnExactCountsOf
open Go.RowKit Go.Proofs.YtallocgnpbpbhabW.PrintWords Go.Proofs.YtallocgnpbpbhabW.PrintLast Go.Proofs.YtallocgnpbpbhabW.PrintMore
open Go.Proofs.Ytallocgnpbpbhab.XW
attribute [local go_sem] max2_int min2_int max_two min_two max_three min_three max_four min_four   -- for this text's walks alone
set_option linter.unusedVariables false
set_option linter.unusedSimpArgs false

/-! ### impl_ValidMessage: function 32 -/
def impl_ValidMessage.j0 : Nat → Bool → Int → Int → Int → ByteArray → Int → Bool → Int → List Int → Option (Bool)
 | 0, _, _, _, _, _, _, _, _, _ => none
 | k + 1, x39, x222000, x222001, x222002, x222003, x222004, x222005, x222006, x222007 => if x39 = true then (some false) else (if (x222007.length : Int) > 20 then (some false) else ((impl_IsMembers.f k x222007).bind fun t228 => (if t228 = true then ((slices_Contains_int64_int64.f k x222007 x222001).bind fun t229 => (if t229 = true then (some false) else (if x222005 = true then (if x222003.toList = ([] : List UInt8) then (some ((x222007.length : Int) == 0)) else (some false)) else (some true)))) else (some false))))
def impl_ValidMessage.f (k : Nat) (a0_0 : Int) (a0_1 : Int) (a0_2 : Int) (a0_3 : ByteArray) (a0_4 : Int) (a0_5 : Bool) (a0_6 : Int) (l0_7 : List Int) : Option (Bool) := (impl_in.f a0_0 1 1000000000).bind fun t222 => (if t222 = true then ((impl_isMember.f a0_1).bind fun t223 => (if t223 = true then ((impl_isTick.f a0_2).bind fun t224 => (if t224 = true then ((impl_IsText.f k a0_3).bind fun t225 => (if t225 = true then ((impl_in.f a0_4 0 1000000000).bind fun t226 => (if t226 = true then ((impl_in.f a0_6 0 (wrap64 (a0_0 - 1))).bind fun t227 => (impl_ValidMessage.j0 k (!t227) a0_0 a0_1 a0_2 a0_3 a0_4 a0_5 a0_6 l0_7)) else (impl_ValidMessage.j0 k true a0_0 a0_1 a0_2 a0_3 a0_4 a0_5 a0_6 l0_7))) else (impl_ValidMessage.j0 k true a0_0 a0_1 a0_2 a0_3 a0_4 a0_5 a0_6 l0_7))) else (impl_ValidMessage.j0 k true a0_0 a0_1 a0_2 a0_3 a0_4 a0_5 a0_6 l0_7))) else (impl_ValidMessage.j0 k true a0_0 a0_1 a0_2 a0_3 a0_4 a0_5 a0_6 l0_7))) else (impl_ValidMessage.j0 k true a0_0 a0_1 a0_2 a0_3 a0_4 a0_5 a0_6 l0_7))
theorem impl_ValidMessage.mono_l : ∀ k, (∀ y0 y1 y2 y3 y4 y5 y6 y7 y8, LeO (impl_ValidMessage.j0 k y0 y1 y2 y3 y4 y5 y6 y7 y8) (impl_ValidMessage.j0 (k + 1) y0 y1 y2 y3 y4 y5 y6 y7 y8))
 | 0 => fun _ _ _ _ _ _ _ _ _ r h => by simp [impl_ValidMessage.j0] at h
 | k + 1 => by
  have ih0 := impl_ValidMessage.mono_l k
  ·intro y0 y1 y2 y3 y4 y5 y6 y7 y8
   unfold impl_ValidMessage.j0
   repeat' first
   | (with_reducible exact ih0 _ _ _ _ _ _ _ _ _)
   | (with_reducible exact impl_IsMembers.mono _ _)
   | (with_reducible exact impl_IsText.mono _ _)
   | (with_reducible exact slices_Contains_int64_int64.mono _ _ _)
   | (with_reducible exact LeO.refl _)
   | (with_reducible exact LeO.none _)
   | (with_reducible refine LeO.ite ?_ ?_)
   | (with_reducible refine LeO.bind ?_ (fun _ => ?_))
   | exact ih0 _ _ _ _ _ _ _ _ _
   | exact impl_IsMembers.mono _ _
   | exact impl_IsText.mono _ _
   | exact slices_Contains_int64_int64.mono _ _ _
   | exact LeO.none _
   | refine LeO.ite ?_ ?_
   | refine LeO.bind ?_ (fun _ => ?_)
theorem impl_ValidMessage.mono : ∀ a0 a1 a2 a3 a4 a5 a6 a7 k, LeO (impl_ValidMessage.f k a0 a1 a2 a3 a4 a5 a6 a7) (impl_ValidMessage.f (k + 1) a0 a1 a2 a3 a4 a5 a6 a7) := by
 intro a0 a1 a2 a3 a4 a5 a6 a7 k
 have ih0 := impl_ValidMessage.mono_l k
 unfold impl_ValidMessage.f
 repeat' first
   | (with_reducible exact ih0 _ _ _ _ _ _ _ _ _)
   | (with_reducible exact impl_IsMembers.mono _ _)
   | (with_reducible exact impl_IsText.mono _ _)
   | (with_reducible exact slices_Contains_int64_int64.mono _ _ _)
   | (with_reducible exact LeO.refl _)
   | (with_reducible exact LeO.none _)
   | (with_reducible refine LeO.ite ?_ ?_)
   | (with_reducible refine LeO.bind ?_ (fun _ => ?_))
   | exact ih0 _ _ _ _ _ _ _ _ _
   | exact impl_IsMembers.mono _ _
   | exact impl_IsText.mono _ _
   | exact slices_Contains_int64_int64.mono _ _ _
   | exact LeO.none _
   | refine LeO.ite ?_ ?_
   | refine LeO.bind ?_ (fun _ => ?_)
set_option maxHeartbeats 8000000 in
set_option maxRecDepth 100000 in
theorem impl_ValidMessage.calls (k : Nat) (a0_0 : Int) (a0_1 : Int) (a0_2 : Int) (a0_3 : ByteArray) (a0_4 : Int) (a0_5 : Bool) (a0_6 : Int) (A0_7 : Option Addr) (c0_7 : Nat) (l0_7 : List Int) (r : Bool) (w : World) (hr0_7 : Kd.C (Kd.int .i64) w A0_7 l0_7.length l0_7) (hc0_7 : l0_7.length ≤ c0_7) (h : impl_ValidMessage.f k a0_0 a0_1 a0_2 a0_3 a0_4 a0_5 a0_6 l0_7 = some r) :
  Calls Try.prog 32 #[.agg #[.int .i64 a0_0, .int .i64 a0_1, .int .i64 a0_2, .string a0_3, .int .i64 a0_4, .bool a0_5, .int .i64 a0_6, .slice A0_7 l0_7.length c0_7]] w fun e w' => e = .returned (.bool r) ∧ Below w.heap.size w w' := by
 have hu44 := Try.underlying44
 have HR0_7 := Aside0.mk hr0_7
 have HC0_7 := Aside0.mk hc0_7
 clear hr0_7 hc0_7
 have HB := Aside0.mk (Below.refl w.heap.size w)
 have H : ((impl_in.f a0_0 1 1000000000).bind fun t222 => (if t222 = true then ((impl_isMember.f a0_1).bind fun t223 => (if t223 = true then ((impl_isTick.f a0_2).bind fun t224 => (if t224 = true then ((impl_IsText.f k a0_3).bind fun t225 => (if t225 = true then ((impl_in.f a0_4 0 1000000000).bind fun t226 => (if t226 = true then ((impl_in.f a0_6 0 (wrap64 (a0_0 - 1))).bind fun t227 => (impl_ValidMessage.j0 k (!t227) a0_0 a0_1 a0_2 a0_3 a0_4 a0_5 a0_6 l0_7)) else (impl_ValidMessage.j0 k true a0_0 a0_1 a0_2 a0_3 a0_4 a0_5 a0_6 l0_7))) else (impl_ValidMessage.j0 k true a0_0 a0_1 a0_2 a0_3 a0_4 a0_5 a0_6 l0_7))) else (impl_ValidMessage.j0 k true a0_0 a0_1 a0_2 a0_3 a0_4 a0_5 a0_6 l0_7))) else (impl_ValidMessage.j0 k true a0_0 a0_1 a0_2 a0_3 a0_4 a0_5 a0_6 l0_7))) else (impl_ValidMessage.j0 k true a0_0 a0_1 a0_2 a0_3 a0_4 a0_5 a0_6 l0_7))) = some r := h
 clear h
 have HC2 := Aside0.mk H
 clear H
 go_enter Try.func32, Try.ntmps32
 go_upto_region 1 with (first | ((with_reducible refine gate_dst (N := 1) rfl ?_); (try (refine gate_guard (by rfl) ?_; dsimp only)); refine box_event ?hg (N := 1) ?hd (cs := #[.int .i64 a0_0, .int .i64 a0_1, .int .i64 a0_2, .string a0_3, .int .i64 a0_4, .bool a0_5, .int .i64 a0_6, .slice A0_7 l0_7.length c0_7]) (t := 44) ?hr ?_; (case hd => rfl); (case hg => rfl); (case hr => first | (go_simp; done) | (go_simp; rfl)); intro gb221 hg w3 hbox hb; have n0_ := Aside0.mk (below_step (by repeat (first | (with_reducible first | exact HB.out | apply below_alloc | apply pw_below_drewN | apply below_drew1) | exact HB.out)) hb); have n1_ := Aside0.mk (hbox); have n2_ := Aside0.mk ((by rw [hg]; exact (below_size (by repeat (first | (with_reducible first | exact HB.out | apply below_alloc | apply pw_below_drewN | apply below_drew1) | exact HB.out))) : w.heap.size ≤ gb221)); have n3_ := Aside0.mk ((by rw [hg]; exact (below_size (by repeat (first | (with_reducible first | exact HB.out | apply below_alloc | apply pw_below_drewN | apply below_drew1) | exact HB.out))) : w.heap.size ≤ gb221)); clear HB; have HB := n0_; have BK221 := n1_; have GW221 := n2_; have GE221 := n3_; clear n0_ n1_ n2_ n3_; clear hb hbox hg))
 (try simp only [Act.put, List.setIfInBounds_toArray, List.set_cons_zero, List.set_cons_succ])
 go_cut [39] (fun v39 wc => ∃ (kq : Nat) (x39_1 : Bool), v39 = .bool x39_1 ∧ Aside0 (impl_ValidMessage.j0 kq x39_1 a0_0 a0_1 a0_2 a0_3 a0_4 a0_5 a0_6 l0_7 = some r) ∧ Aside0 (kq ≤ k) ∧ Aside0 (wc.heap[gb221]? = some (.cells #[.int .i64 a0_0, .int .i64 a0_1, .int .i64 a0_2, .string a0_3, .int .i64 a0_4, .bool a0_5, .int .i64 a0_6, (.slice A0_7 l0_7.length c0_7)] 44 (0, 0))) ∧ Aside0 (Below w.heap.size w wc))
 case first =>
  have H := HC2.out
  clear HC2
  replace H := Option.bind_eq_some_iff.mp H
  obtain ⟨t222, A40, H⟩ := H
  replace H : (if t222 = true then ((impl_isMember.f a0_1).bind fun t223 => (if t223 = true then ((impl_isTick.f a0_2).bind fun t224 => (if t224 = true then ((impl_IsText.f k a0_3).bind fun t225 => (if t225 = true then ((impl_in.f a0_4 0 1000000000).bind fun t226 => (if t226 = true then ((impl_in.f a0_6 0 (wrap64 (a0_0 - 1))).bind fun t227 => (impl_ValidMessage.j0 k (!t227) a0_0 a0_1 a0_2 a0_3 a0_4 a0_5 a0_6 l0_7)) else (impl_ValidMessage.j0 k true a0_0 a0_1 a0_2 a0_3 a0_4 a0_5 a0_6 l0_7))) else (impl_ValidMessage.j0 k true a0_0 a0_1 a0_2 a0_3 a0_4 a0_5 a0_6 l0_7))) else (impl_ValidMessage.j0 k true a0_0 a0_1 a0_2 a0_3 a0_4 a0_5 a0_6 l0_7))) else (impl_ValidMessage.j0 k true a0_0 a0_1 a0_2 a0_3 a0_4 a0_5 a0_6 l0_7))) else (impl_ValidMessage.j0 k true a0_0 a0_1 a0_2 a0_3 a0_4 a0_5 a0_6 l0_7)) = some r := H
  have A4 := Aside0.mk A40
  clear A40
  by_cases c5 : t222 = true
  ·subst c5
   have H1 : ((impl_isMember.f a0_1).bind fun t223 => (if t223 = true then ((impl_isTick.f a0_2).bind fun t224 => (if t224 = true then ((impl_IsText.f k a0_3).bind fun t225 => (if t225 = true then ((impl_in.f a0_4 0 1000000000).bind fun t226 => (if t226 = true then ((impl_in.f a0_6 0 (wrap64 (a0_0 - 1))).bind fun t227 => (impl_ValidMessage.j0 k (!t227) a0_0 a0_1 a0_2 a0_3 a0_4 a0_5 a0_6 l0_7)) else (impl_ValidMessage.j0 k true a0_0 a0_1 a0_2 a0_3 a0_4 a0_5 a0_6 l0_7))) else (impl_ValidMessage.j0 k true a0_0 a0_1 a0_2 a0_3 a0_4 a0_5 a0_6 l0_7))) else (impl_ValidMessage.j0 k true a0_0 a0_1 a0_2 a0_3 a0_4 a0_5 a0_6 l0_7))) else (impl_ValidMessage.j0 k true a0_0 a0_1 a0_2 a0_3 a0_4 a0_5 a0_6 l0_7))) = some r := by rw [if_pos rfl] at H; exact H
   clear H
   have H := H1
   clear H1
   replace H := Option.bind_eq_some_iff.mp H
   obtain ⟨t223, A60, H⟩ := H
   replace H : (if t223 = true then ((impl_isTick.f a0_2).bind fun t224 => (if t224 = true then ((impl_IsText.f k a0_3).bind fun t225 => (if t225 = true then ((impl_in.f a0_4 0 1000000000).bind fun t226 => (if t226 = true then ((impl_in.f a0_6 0 (wrap64 (a0_0 - 1))).bind fun t227 => (impl_ValidMessage.j0 k (!t227) a0_0 a0_1 a0_2 a0_3 a0_4 a0_5 a0_6 l0_7)) else (impl_ValidMessage.j0 k true a0_0 a0_1 a0_2 a0_3 a0_4 a0_5 a0_6 l0_7))) else (impl_ValidMessage.j0 k true a0_0 a0_1 a0_2 a0_3 a0_4 a0_5 a0_6 l0_7))) else (impl_ValidMessage.j0 k true a0_0 a0_1 a0_2 a0_3 a0_4 a0_5 a0_6 l0_7))) else (impl_ValidMessage.j0 k true a0_0 a0_1 a0_2 a0_3 a0_4 a0_5 a0_6 l0_7)) = some r := H
   have A6 := Aside0.mk A60
   clear A60
   by_cases c7 : t223 = true
   ·subst c7
    have H1 : ((impl_isTick.f a0_2).bind fun t224 => (if t224 = true then ((impl_IsText.f k a0_3).bind fun t225 => (if t225 = true then ((impl_in.f a0_4 0 1000000000).bind fun t226 => (if t226 = true then ((impl_in.f a0_6 0 (wrap64 (a0_0 - 1))).bind fun t227 => (impl_ValidMessage.j0 k (!t227) a0_0 a0_1 a0_2 a0_3 a0_4 a0_5 a0_6 l0_7)) else (impl_ValidMessage.j0 k true a0_0 a0_1 a0_2 a0_3 a0_4 a0_5 a0_6 l0_7))) else (impl_ValidMessage.j0 k true a0_0 a0_1 a0_2 a0_3 a0_4 a0_5 a0_6 l0_7))) else (impl_ValidMessage.j0 k true a0_0 a0_1 a0_2 a0_3 a0_4 a0_5 a0_6 l0_7))) = some r := by rw [if_pos rfl] at H; exact H
    clear H
    have H := H1
    clear H1
    replace H := Option.bind_eq_some_iff.mp H
    obtain ⟨t224, A80, H⟩ := H
    replace H : (if t224 = true then ((impl_IsText.f k a0_3).bind fun t225 => (if t225 = true then ((impl_in.f a0_4 0 1000000000).bind fun t226 => (if t226 = true then ((impl_in.f a0_6 0 (wrap64 (a0_0 - 1))).bind fun t227 => (impl_ValidMessage.j0 k (!t227) a0_0 a0_1 a0_2 a0_3 a0_4 a0_5 a0_6 l0_7)) else (impl_ValidMessage.j0 k true a0_0 a0_1 a0_2 a0_3 a0_4 a0_5 a0_6 l0_7))) else (impl_ValidMessage.j0 k true a0_0 a0_1 a0_2 a0_3 a0_4 a0_5 a0_6 l0_7))) else (impl_ValidMessage.j0 k true a0_0 a0_1 a0_2 a0_3 a0_4 a0_5 a0_6 l0_7)) = some r := H
    have A8 := Aside0.mk A80
    clear A80
    by_cases c9 : t224 = true
    ·subst c9
     have H1 : ((impl_IsText.f k a0_3).bind fun t225 => (if t225 = true then ((impl_in.f a0_4 0 1000000000).bind fun t226 => (if t226 = true then ((impl_in.f a0_6 0 (wrap64 (a0_0 - 1))).bind fun t227 => (impl_ValidMessage.j0 k (!t227) a0_0 a0_1 a0_2 a0_3 a0_4 a0_5 a0_6 l0_7)) else (impl_ValidMessage.j0 k true a0_0 a0_1 a0_2 a0_3 a0_4 a0_5 a0_6 l0_7))) else (impl_ValidMessage.j0 k true a0_0 a0_1 a0_2 a0_3 a0_4 a0_5 a0_6 l0_7))) = some r := by rw [if_pos rfl] at H; exact H
     clear H
     have H := H1
     clear H1
     replace H := Option.bind_eq_some_iff.mp H
     obtain ⟨t225, A100, H⟩ := H
     replace H : (if t225 = true then ((impl_in.f a0_4 0 1000000000).bind fun t226 => (if t226 = true then ((impl_in.f a0_6 0 (wrap64 (a0_0 - 1))).bind fun t227 => (impl_ValidMessage.j0 k (!t227) a0_0 a0_1 a0_2 a0_3 a0_4 a0_5 a0_6 l0_7)) else (impl_ValidMessage.j0 k true a0_0 a0_1 a0_2 a0_3 a0_4 a0_5 a0_6 l0_7))) else (impl_ValidMessage.j0 k true a0_0 a0_1 a0_2 a0_3 a0_4 a0_5 a0_6 l0_7)) = some r := H
     have A10 := Aside0.mk A100
     clear A100
     by_cases c11 : t225 = true
     ·subst c11
      have H1 : ((impl_in.f a0_4 0 1000000000).bind fun t226 => (if t226 = true then ((impl_in.f a0_6 0 (wrap64 (a0_0 - 1))).bind fun t227 => (impl_ValidMessage.j0 k (!t227) a0_0 a0_1 a0_2 a0_3 a0_4 a0_5 a0_6 l0_7)) else (impl_ValidMessage.j0 k true a0_0 a0_1 a0_2 a0_3 a0_4 a0_5 a0_6 l0_7))) = some r := by rw [if_pos rfl] at H; exact H
      clear H
      have H := H1
      clear H1
      replace H := Option.bind_eq_some_iff.mp H
      obtain ⟨t226, A120, H⟩ := H
      replace H : (if t226 = true then ((impl_in.f a0_6 0 (wrap64 (a0_0 - 1))).bind fun t227 => (impl_ValidMessage.j0 k (!t227) a0_0 a0_1 a0_2 a0_3 a0_4 a0_5 a0_6 l0_7)) else (impl_ValidMessage.j0 k true a0_0 a0_1 a0_2 a0_3 a0_4 a0_5 a0_6 l0_7)) = some r := H
      have A12 := Aside0.mk A120
      clear A120
      by_cases c13 : t226 = true
      ·subst c13
       have H1 : ((impl_in.f a0_6 0 (wrap64 (a0_0 - 1))).bind fun t227 => (impl_ValidMessage.j0 k (!t227) a0_0 a0_1 a0_2 a0_3 a0_4 a0_5 a0_6 l0_7)) = some r := by rw [if_pos rfl] at H; exact H
       clear H
       have H := H1
       clear H1
       replace H := Option.bind_eq_some_iff.mp H
       obtain ⟨t227, A140, H⟩ := H
       replace H : (impl_ValidMessage.j0 k (!t227) a0_0 a0_1 a0_2 a0_3 a0_4 a0_5 a0_6 l0_7) = some r := H
       have A14 := Aside0.mk A140
       clear A140
       have H' := Aside0.mk H
       clear H
       have hcz15_0 : w3.cell? ⟨gb221, 0, none⟩ = some (.int .i64 a0_0) := (blk_cell BK221.out 0).trans rfl
       have hcz15_1 : w3.cell? ⟨gb221, 1, none⟩ = some (.int .i64 a0_1) := (blk_cell BK221.out 1).trans rfl
       have hcz15_2 : w3.cell? ⟨gb221, 2, none⟩ = some (.int .i64 a0_2) := (blk_cell BK221.out 2).trans rfl
       have hcz15_3 : w3.cell? ⟨gb221, 3, none⟩ = some (.string a0_3) := (blk_cell BK221.out 3).trans rfl
       have hcz15_4 : w3.cell? ⟨gb221, 4, none⟩ = some (.int .i64 a0_4) := (blk_cell BK221.out 4).trans rfl
       have hcz15_5 : w3.cell? ⟨gb221, 5, none⟩ = some (.bool a0_5) := (blk_cell BK221.out 5).trans rfl
       have hcz15_6 : w3.cell? ⟨gb221, 6, none⟩ = some (.int .i64 a0_6) := (blk_cell BK221.out 6).trans rfl
       have hcz15_7 : w3.cell? ⟨gb221, 7, none⟩ = some (.slice A0_7 l0_7.length c0_7) := (blk_cell BK221.out 7).trans rfl
       have hfz15_0 := blk_frozen BK221.out 0
       have hfz15_1 := blk_frozen BK221.out 1
       have hfz15_2 := blk_frozen BK221.out 2
       have hfz15_3 := blk_frozen BK221.out 3
       have hfz15_4 := blk_frozen BK221.out 4
       have hfz15_5 := blk_frozen BK221.out 5
       have hfz15_6 := blk_frozen BK221.out 6
       have hfz15_7 := blk_frozen BK221.out 7
       go_wp2_with (first | ((with_reducible refine gate_callee (f := 33) rfl ?_); refine goesL_ (some 5) rfl rfl Try.func33 (by kernel_rfl) rfl #[.int .i64 a0_0, .int .i64 1, .int .i64 1000000000] rfl (by (try simp only [List.map_toArray, List.map_cons, List.map_nil]); first | done | rfl | (simp only [List.length_drop, List.length_take]; rfl)) ?_; (with_reducible refine (impl_in.calls a0_0 1 1000000000 true _ A4.out).mono ?_); rintro e w' ⟨rfl, ⟨nd, rfl⟩⟩; refine ⟨_, rfl, ?_⟩) | (go_at_call 46; (with_reducible refine (impl_isMember.calls a0_1 true _ A6.out).mono ?_); rintro e w' ⟨rfl, ⟨nd, rfl⟩⟩) | (go_at_call 47; (with_reducible refine (impl_isTick.calls a0_2 true _ A8.out).mono ?_); rintro e w' ⟨rfl, ⟨nd, rfl⟩⟩) | (go_at_call 48; (with_reducible refine (impl_IsText.calls k a0_3 true _ A10.out).mono ?_); rintro e w' ⟨rfl, ⟨nd, rfl⟩⟩) | (go_at_call 33; (with_reducible refine (impl_in.calls a0_4 0 1000000000 true _ A12.out).mono ?_); rintro e w' ⟨rfl, ⟨nd, rfl⟩⟩) | (go_at_call 33; (with_reducible refine (impl_in.calls a0_6 0 (wrap64 (a0_0 - 1)) t227 _ A14.out).mono ?_); rintro e w' ⟨rfl, ⟨nd, rfl⟩⟩))
       go_meet
       case rel => exact ⟨_, (!t227), (by first | rfl | (simp; done) | (simp [*]; done)), H', ⟨by first | omega | exact Nat.le_refl _⟩, ⟨by (with_reducible repeat (first | refine blk_drewN ?_ _ | refine blk_drew ?_ | refine blk_alloc ?_ _)); exact BK221.out⟩, ⟨by repeat (first | (with_reducible first | exact HB.out | apply below_alloc | apply pw_below_drewN | apply below_drew1 | refine below_set ?_ GE221.out) | exact HB.out)⟩⟩
      ·replace c13 := Bool.eq_false_iff.mpr c13
       subst c13
       have H1 : (impl_ValidMessage.j0 k true a0_0 a0_1 a0_2 a0_3 a0_4 a0_5 a0_6 l0_7) = some r := by rw [if_neg (show ¬ (false = true) by decide)] at H; exact H
       clear H
       have H := H1
       clear H1
       have H' := Aside0.mk H
       clear H
       have hcz16_0 : w3.cell? ⟨gb221, 0, none⟩ = some (.int .i64 a0_0) := (blk_cell BK221.out 0).trans rfl
       have hcz16_1 : w3.cell? ⟨gb221, 1, none⟩ = some (.int .i64 a0_1) := (blk_cell BK221.out 1).trans rfl
       have hcz16_2 : w3.cell? ⟨gb221, 2, none⟩ = some (.int .i64 a0_2) := (blk_cell BK221.out 2).trans rfl
       have hcz16_3 : w3.cell? ⟨gb221, 3, none⟩ = some (.string a0_3) := (blk_cell BK221.out 3).trans rfl
       have hcz16_4 : w3.cell? ⟨gb221, 4, none⟩ = some (.int .i64 a0_4) := (blk_cell BK221.out 4).trans rfl
       have hcz16_5 : w3.cell? ⟨gb221, 5, none⟩ = some (.bool a0_5) := (blk_cell BK221.out 5).trans rfl
       have hcz16_6 : w3.cell? ⟨gb221, 6, none⟩ = some (.int .i64 a0_6) := (blk_cell BK221.out 6).trans rfl
       have hcz16_7 : w3.cell? ⟨gb221, 7, none⟩ = some (.slice A0_7 l0_7.length c0_7) := (blk_cell BK221.out 7).trans rfl
       have hfz16_0 := blk_frozen BK221.out 0
       have hfz16_1 := blk_frozen BK221.out 1
       have hfz16_2 := blk_frozen BK221.out 2
       have hfz16_3 := blk_frozen BK221.out 3
       have hfz16_4 := blk_frozen BK221.out 4
       have hfz16_5 := blk_frozen BK221.out 5
       have hfz16_6 := blk_frozen BK221.out 6
       have hfz16_7 := blk_frozen BK221.out 7
       go_wp2_with (first | ((with_reducible refine gate_callee (f := 33) rfl ?_); refine goesL_ (some 5) rfl rfl Try.func33 (by kernel_rfl) rfl #[.int .i64 a0_0, .int .i64 1, .int .i64 1000000000] rfl (by (try simp only [List.map_toArray, List.map_cons, List.map_nil]); first | done | rfl | (simp only [List.length_drop, List.length_take]; rfl)) ?_; (with_reducible refine (impl_in.calls a0_0 1 1000000000 true _ A4.out).mono ?_); rintro e w' ⟨rfl, ⟨nd, rfl⟩⟩; refine ⟨_, rfl, ?_⟩) | (go_at_call 46; (with_reducible refine (impl_isMember.calls a0_1 true _ A6.out).mono ?_); rintro e w' ⟨rfl, ⟨nd, rfl⟩⟩) | (go_at_call 47; (with_reducible refine (impl_isTick.calls a0_2 true _ A8.out).mono ?_); rintro e w' ⟨rfl, ⟨nd, rfl⟩⟩) | (go_at_call 48; (with_reducible refine (impl_IsText.calls k a0_3 true _ A10.out).mono ?_); rintro e w' ⟨rfl, ⟨nd, rfl⟩⟩) | (go_at_call 33; (with_reducible refine (impl_in.calls a0_4 0 1000000000 false _ A12.out).mono ?_); rintro e w' ⟨rfl, ⟨nd, rfl⟩⟩))
       go_meet
       case rel => exact ⟨_, (true), (by first | rfl | (simp; done) | (simp [*]; done)), H', ⟨by first | omega | exact Nat.le_refl _⟩, ⟨by (with_reducible repeat (first | refine blk_drewN ?_ _ | refine blk_drew ?_ | refine blk_alloc ?_ _)); exact BK221.out⟩, ⟨by repeat (first | (with_reducible first | exact HB.out | apply below_alloc | apply pw_below_drewN | apply below_drew1 | refine below_set ?_ GE221.out) | exact HB.out)⟩⟩
     ·replace c11 := Bool.eq_false_iff.mpr c11
      subst c11
      have H1 : (impl_ValidMessage.j0 k true a0_0 a0_1 a0_2 a0_3 a0_4 a0_5 a0_6 l0_7) = some r := by rw [if_neg (show ¬ (false = true) by decide)] at H; exact H
      clear H
      have H := H1
      clear H1
      have H' := Aside0.mk H
      clear H
      have hcz17_0 : w3.cell? ⟨gb221, 0, none⟩ = some (.int .i64 a0_0) := (blk_cell BK221.out 0).trans rfl
      have hcz17_1 : w3.cell? ⟨gb221, 1, none⟩ = some (.int .i64 a0_1) := (blk_cell BK221.out 1).trans rfl
      have hcz17_2 : w3.cell? ⟨gb221, 2, none⟩ = some (.int .i64 a0_2) := (blk_cell BK221.out 2).trans rfl
      have hcz17_3 : w3.cell? ⟨gb221, 3, none⟩ = some (.string a0_3) := (blk_cell BK221.out 3).trans rfl
      have hcz17_4 : w3.cell? ⟨gb221, 4, none⟩ = some (.int .i64 a0_4) := (blk_cell BK221.out 4).trans rfl
      have hcz17_5 : w3.cell? ⟨gb221, 5, none⟩ = some (.bool a0_5) := (blk_cell BK221.out 5).trans rfl
      have hcz17_6 : w3.cell? ⟨gb221, 6, none⟩ = some (.int .i64 a0_6) := (blk_cell BK221.out 6).trans rfl
      have hcz17_7 : w3.cell? ⟨gb221, 7, none⟩ = some (.slice A0_7 l0_7.length c0_7) := (blk_cell BK221.out 7).trans rfl
      have hfz17_0 := blk_frozen BK221.out 0
      have hfz17_1 := blk_frozen BK221.out 1
      have hfz17_2 := blk_frozen BK221.out 2
      have hfz17_3 := blk_frozen BK221.out 3
      have hfz17_4 := blk_frozen BK221.out 4
      have hfz17_5 := blk_frozen BK221.out 5
      have hfz17_6 := blk_frozen BK221.out 6
      have hfz17_7 := blk_frozen BK221.out 7
      go_wp2_with (first | ((with_reducible refine gate_callee (f := 33) rfl ?_); refine goesL_ (some 5) rfl rfl Try.func33 (by kernel_rfl) rfl #[.int .i64 a0_0, .int .i64 1, .int .i64 1000000000] rfl (by (try simp only [List.map_toArray, List.map_cons, List.map_nil]); first | done | rfl | (simp only [List.length_drop, List.length_take]; rfl)) ?_; (with_reducible refine (impl_in.calls a0_0 1 1000000000 true _ A4.out).mono ?_); rintro e w' ⟨rfl, ⟨nd, rfl⟩⟩; refine ⟨_, rfl, ?_⟩) | (go_at_call 46; (with_reducible refine (impl_isMember.calls a0_1 true _ A6.out).mono ?_); rintro e w' ⟨rfl, ⟨nd, rfl⟩⟩) | (go_at_call 47; (with_reducible refine (impl_isTick.calls a0_2 true _ A8.out).mono ?_); rintro e w' ⟨rfl, ⟨nd, rfl⟩⟩) | (go_at_call 48; (with_reducible refine (impl_IsText.calls k a0_3 false _ A10.out).mono ?_); rintro e w' ⟨rfl, ⟨nd, rfl⟩⟩))
      go_meet
      case rel => exact ⟨_, (true), (by first | rfl | (simp; done) | (simp [*]; done)), H', ⟨by first | omega | exact Nat.le_refl _⟩, ⟨by (with_reducible repeat (first | refine blk_drewN ?_ _ | refine blk_drew ?_ | refine blk_alloc ?_ _)); exact BK221.out⟩, ⟨by repeat (first | (with_reducible first | exact HB.out | apply below_alloc | apply pw_below_drewN | apply below_drew1 | refine below_set ?_ GE221.out) | exact HB.out)⟩⟩
    ·replace c9 := Bool.eq_false_iff.mpr c9
     subst c9
     have H1 : (impl_ValidMessage.j0 k true a0_0 a0_1 a0_2 a0_3 a0_4 a0_5 a0_6 l0_7) = some r := by rw [if_neg (show ¬ (false = true) by decide)] at H; exact H
     clear H
     have H := H1
     clear H1
     have H' := Aside0.mk H
     clear H
     have hcz18_0 : w3.cell? ⟨gb221, 0, none⟩ = some (.int .i64 a0_0) := (blk_cell BK221.out 0).trans rfl
     have hcz18_1 : w3.cell? ⟨gb221, 1, none⟩ = some (.int .i64 a0_1) := (blk_cell BK221.out 1).trans rfl
     have hcz18_2 : w3.cell? ⟨gb221, 2, none⟩ = some (.int .i64 a0_2) := (blk_cell BK221.out 2).trans rfl
     have hcz18_3 : w3.cell? ⟨gb221, 3, none⟩ = some (.string a0_3) := (blk_cell BK221.out 3).trans rfl
     have hcz18_4 : w3.cell? ⟨gb221, 4, none⟩ = some (.int .i64 a0_4) := (blk_cell BK221.out 4).trans rfl
     have hcz18_5 : w3.cell? ⟨gb221, 5, none⟩ = some (.bool a0_5) := (blk_cell BK221.out 5).trans rfl
     have hcz18_6 : w3.cell? ⟨gb221, 6, none⟩ = some (.int .i64 a0_6) := (blk_cell BK221.out 6).trans rfl
     have hcz18_7 : w3.cell? ⟨gb221, 7, none⟩ = some (.slice A0_7 l0_7.length c0_7) := (blk_cell BK221.out 7).trans rfl
     have hfz18_0 := blk_frozen BK221.out 0
     have hfz18_1 := blk_frozen BK221.out 1
     have hfz18_2 := blk_frozen BK221.out 2
     have hfz18_3 := blk_frozen BK221.out 3
     have hfz18_4 := blk_frozen BK221.out 4
     have hfz18_5 := blk_frozen BK221.out 5
     have hfz18_6 := blk_frozen BK221.out 6
     have hfz18_7 := blk_frozen BK221.out 7
     go_wp2_with (first | ((with_reducible refine gate_callee (f := 33) rfl ?_); refine goesL_ (some 5) rfl rfl Try.func33 (by kernel_rfl) rfl #[.int .i64 a0_0, .int .i64 1, .int .i64 1000000000] rfl (by (try simp only [List.map_toArray, List.map_cons, List.map_nil]); first | done | rfl | (simp only [List.length_drop, List.length_take]; rfl)) ?_; (with_reducible refine (impl_in.calls a0_0 1 1000000000 true _ A4.out).mono ?_); rintro e w' ⟨rfl, ⟨nd, rfl⟩⟩; refine ⟨_, rfl, ?_⟩) | (go_at_call 46; (with_reducible refine (impl_isMember.calls a0_1 true _ A6.out).mono ?_); rintro e w' ⟨rfl, ⟨nd, rfl⟩⟩) | (go_at_call 47; (with_reducible refine (impl_isTick.calls a0_2 false _ A8.out).mono ?_); rintro e w' ⟨rfl, ⟨nd, rfl⟩⟩))
     go_meet
     case rel => exact ⟨_, (true), (by first | rfl | (simp; done) | (simp [*]; done)), H', ⟨by first | omega | exact Nat.le_refl _⟩, ⟨by (with_reducible repeat (first | refine blk_drewN ?_ _ | refine blk_drew ?_ | refine blk_alloc ?_ _)); exact BK221.out⟩, ⟨by repeat (first | (with_reducible first | exact HB.out | apply below_alloc | apply pw_below_drewN | apply below_drew1 | refine below_set ?_ GE221.out) | exact HB.out)⟩⟩
   ·replace c7 := Bool.eq_false_iff.mpr c7
    subst c7
    have H1 : (impl_ValidMessage.j0 k true a0_0 a0_1 a0_2 a0_3 a0_4 a0_5 a0_6 l0_7) = some r := by rw [if_neg (show ¬ (false = true) by decide)] at H; exact H
    clear H
    have H := H1
    clear H1
    have H' := Aside0.mk H
    clear H
    have hcz19_0 : w3.cell? ⟨gb221, 0, none⟩ = some (.int .i64 a0_0) := (blk_cell BK221.out 0).trans rfl
    have hcz19_1 : w3.cell? ⟨gb221, 1, none⟩ = some (.int .i64 a0_1) := (blk_cell BK221.out 1).trans rfl
    have hcz19_2 : w3.cell? ⟨gb221, 2, none⟩ = some (.int .i64 a0_2) := (blk_cell BK221.out 2).trans rfl
    have hcz19_3 : w3.cell? ⟨gb221, 3, none⟩ = some (.string a0_3) := (blk_cell BK221.out 3).trans rfl
    have hcz19_4 : w3.cell? ⟨gb221, 4, none⟩ = some (.int .i64 a0_4) := (blk_cell BK221.out 4).trans rfl
    have hcz19_5 : w3.cell? ⟨gb221, 5, none⟩ = some (.bool a0_5) := (blk_cell BK221.out 5).trans rfl
    have hcz19_6 : w3.cell? ⟨gb221, 6, none⟩ = some (.int .i64 a0_6) := (blk_cell BK221.out 6).trans rfl
    have hcz19_7 : w3.cell? ⟨gb221, 7, none⟩ = some (.slice A0_7 l0_7.length c0_7) := (blk_cell BK221.out 7).trans rfl
    have hfz19_0 := blk_frozen BK221.out 0
    have hfz19_1 := blk_frozen BK221.out 1
    have hfz19_2 := blk_frozen BK221.out 2
    have hfz19_3 := blk_frozen BK221.out 3
    have hfz19_4 := blk_frozen BK221.out 4
    have hfz19_5 := blk_frozen BK221.out 5
    have hfz19_6 := blk_frozen BK221.out 6
    have hfz19_7 := blk_frozen BK221.out 7
    go_wp2_with (first | ((with_reducible refine gate_callee (f := 33) rfl ?_); refine goesL_ (some 5) rfl rfl Try.func33 (by kernel_rfl) rfl #[.int .i64 a0_0, .int .i64 1, .int .i64 1000000000] rfl (by (try simp only [List.map_toArray, List.map_cons, List.map_nil]); first | done | rfl | (simp only [List.length_drop, List.length_take]; rfl)) ?_; (with_reducible refine (impl_in.calls a0_0 1 1000000000 true _ A4.out).mono ?_); rintro e w' ⟨rfl, ⟨nd, rfl⟩⟩; refine ⟨_, rfl, ?_⟩) | (go_at_call 46; (with_reducible refine (impl_isMember.calls a0_1 false _ A6.out).mono ?_); rintro e w' ⟨rfl, ⟨nd, rfl⟩⟩))
    go_meet
    case rel => exact ⟨_, (true), (by first | rfl | (simp; done) | (simp [*]; done)), H', ⟨by first | omega | exact Nat.le_refl _⟩, ⟨by (with_reducible repeat (first | refine blk_drewN ?_ _ | refine blk_drew ?_ | refine blk_alloc ?_ _)); exact BK221.out⟩, ⟨by repeat (first | (with_reducible first | exact HB.out | apply below_alloc | apply pw_below_drewN | apply below_drew1 | refine below_set ?_ GE221.out) | exact HB.out)⟩⟩
  ·replace c5 := Bool.eq_false_iff.mpr c5
   subst c5
   have H1 : (impl_ValidMessage.j0 k true a0_0 a0_1 a0_2 a0_3 a0_4 a0_5 a0_6 l0_7) = some r := by rw [if_neg (show ¬ (false = true) by decide)] at H; exact H
   clear H
   have H := H1
   clear H1
   have H' := Aside0.mk H
   clear H
   have hcz20_0 : w3.cell? ⟨gb221, 0, none⟩ = some (.int .i64 a0_0) := (blk_cell BK221.out 0).trans rfl
   have hcz20_1 : w3.cell? ⟨gb221, 1, none⟩ = some (.int .i64 a0_1) := (blk_cell BK221.out 1).trans rfl
   have hcz20_2 : w3.cell? ⟨gb221, 2, none⟩ = some (.int .i64 a0_2) := (blk_cell BK221.out 2).trans rfl
   have hcz20_3 : w3.cell? ⟨gb221, 3, none⟩ = some (.string a0_3) := (blk_cell BK221.out 3).trans rfl
   have hcz20_4 : w3.cell? ⟨gb221, 4, none⟩ = some (.int .i64 a0_4) := (blk_cell BK221.out 4).trans rfl
   have hcz20_5 : w3.cell? ⟨gb221, 5, none⟩ = some (.bool a0_5) := (blk_cell BK221.out 5).trans rfl
   have hcz20_6 : w3.cell? ⟨gb221, 6, none⟩ = some (.int .i64 a0_6) := (blk_cell BK221.out 6).trans rfl
   have hcz20_7 : w3.cell? ⟨gb221, 7, none⟩ = some (.slice A0_7 l0_7.length c0_7) := (blk_cell BK221.out 7).trans rfl
   have hfz20_0 := blk_frozen BK221.out 0
   have hfz20_1 := blk_frozen BK221.out 1
   have hfz20_2 := blk_frozen BK221.out 2
   have hfz20_3 := blk_frozen BK221.out 3
   have hfz20_4 := blk_frozen BK221.out 4
   have hfz20_5 := blk_frozen BK221.out 5
   have hfz20_6 := blk_frozen BK221.out 6
   have hfz20_7 := blk_frozen BK221.out 7
   go_wp2_with (first | ((with_reducible refine gate_callee (f := 33) rfl ?_); refine goesL_ (some 5) rfl rfl Try.func33 (by kernel_rfl) rfl #[.int .i64 a0_0, .int .i64 1, .int .i64 1000000000] rfl (by (try simp only [List.map_toArray, List.map_cons, List.map_nil]); first | done | rfl | (simp only [List.length_drop, List.length_take]; rfl)) ?_; (with_reducible refine (impl_in.calls a0_0 1 1000000000 false _ A4.out).mono ?_); rintro e w' ⟨rfl, ⟨nd, rfl⟩⟩; refine ⟨_, rfl, ?_⟩))
   go_meet
   case rel => exact ⟨_, (true), (by first | rfl | (simp; done) | (simp [*]; done)), H', ⟨by first | omega | exact Nat.le_refl _⟩, ⟨by (with_reducible repeat (first | refine blk_drewN ?_ _ | refine blk_drew ?_ | refine blk_alloc ?_ _)); exact BK221.out⟩, ⟨by repeat (first | (with_reducible first | exact HB.out | apply below_alloc | apply pw_below_drewN | apply below_drew1 | refine below_set ?_ GE221.out) | exact HB.out)⟩⟩
 case rest =>
  clear HC2
  try clear c1
  try clear p2
  try clear c3
  try clear c5
  try clear p6
  try clear c7
  try clear c9
  try clear c11
  try clear c13
  try clear hcz15_0
  try clear hcz15_1
  try clear hcz15_2
  try clear hcz15_3
  try clear hcz15_4
  try clear hcz15_5
  try clear hcz15_6
  try clear hcz15_7
  try clear hcz16_0
  try clear hcz16_1
  try clear hcz16_2
  try clear hcz16_3
  try clear hcz16_4
  try clear hcz16_5
  try clear hcz16_6
  try clear hcz16_7
  try clear hcz17_0
  try clear hcz17_1
  try clear hcz17_2
  try clear hcz17_3
  try clear hcz17_4
  try clear hcz17_5
  try clear hcz17_6
  try clear hcz17_7
  try clear hcz18_0
  try clear hcz18_1
  try clear hcz18_2
  try clear hcz18_3
  try clear hcz18_4
  try clear hcz18_5
  try clear hcz18_6
  try clear hcz18_7
  try clear hcz19_0
  try clear hcz19_1
  try clear hcz19_2
  try clear hcz19_3
  try clear hcz19_4
  try clear hcz19_5
  try clear hcz19_6
  try clear hcz19_7
  try clear hcz20_0
  try clear hcz20_1
  try clear hcz20_2
  try clear hcz20_3
  try clear hcz20_4
  try clear hcz20_5
  try clear hcz20_6
  try clear hcz20_7
  try clear hfz15_0
  try clear hfz15_1
  try clear hfz15_2
  try clear hfz15_3
  try clear hfz15_4
  try clear hfz15_5
  try clear hfz15_6
  try clear hfz15_7
  try clear hfz16_0
  try clear hfz16_1
  try clear hfz16_2
  try clear hfz16_3
  try clear hfz16_4
  try clear hfz16_5
  try clear hfz16_6
  try clear hfz16_7
  try clear hfz17_0
  try clear hfz17_1
  try clear hfz17_2
  try clear hfz17_3
  try clear hfz17_4
  try clear hfz17_5
  try clear hfz17_6
  try clear hfz17_7
  try clear hfz18_0
  try clear hfz18_1
  try clear hfz18_2
  try clear hfz18_3
  try clear hfz18_4
  try clear hfz18_5
  try clear hfz18_6
  try clear hfz18_7
  try clear hfz19_0
  try clear hfz19_1
  try clear hfz19_2
  try clear hfz19_3
  try clear hfz19_4
  try clear hfz19_5
  try clear hfz19_6
  try clear hfz19_7
  try clear hfz20_0
  try clear hfz20_1
  try clear hfz20_2
  try clear hfz20_3
  try clear hfz20_4
  try clear hfz20_5
  try clear hfz20_6
  try clear hfz20_7
  obtain ⟨kq, x39_1, rfl, HA, HJ1, BK221, HB⟩ := hcut
  cases kq with
  | zero => exact absurd HA.out (by simp [impl_ValidMessage.j0])
  | succ kj1 =>
   have H := HA.out
   clear HA
   simp only [impl_ValidMessage.j0] at H
   by_cases c21 : x39_1 = true
   ·subst c21
    have H1 : (some false) = some r := by rw [if_pos rfl] at H; exact H
    clear H
    have H := H1
    clear H1
    obtain rfl := Option.some.inj H
    go_wp2
    go_ret
    exact ⟨by first | rfl | (simp [errW_none, errW_some] <;> rfl) | (simp [*, errW_none, errW_some] <;> rfl), by repeat (first | (with_reducible first | exact HB.out | apply below_alloc | apply pw_below_drewN | apply below_drew1 | refine below_set ?_ GE221.out) | exact HB.out)⟩
   ·replace c21 := Bool.eq_false_iff.mpr c21
    subst c21
    have H1 : (if (l0_7.length : Int) > 20 then (some false) else ((impl_IsMembers.f kj1 l0_7).bind fun t228 => (if t228 = true then ((slices_Contains_int64_int64.f kj1 l0_7 a0_1).bind fun t229 => (if t229 = true then (some false) else (if a0_5 = true then (if a0_3.toList = ([] : List UInt8) then (some ((l0_7.length : Int) == 0)) else (some false)) else (some true)))) else (some false)))) = some r := by rw [if_neg (show ¬ (false = true) by decide)] at H; exact H
    clear H
    have H := H1
    clear H1
    by_cases c22 : (l0_7.length : Int) > 20
    ·rw [if_pos c22] at H
     have c22b0 : decide (20 < (l0_7.length : Int)) = true := decide_eq_true c22
     have c22b1 : decide (20 < l0_7.length) = true := decide_eq_true (by omega)
     clear c22
     obtain rfl := Option.some.inj H
     have hcz23_0 : wc.cell? ⟨gb221, 0, none⟩ = some (.int .i64 a0_0) := (blk_cell BK221.out 0).trans rfl
     have hcz23_1 : wc.cell? ⟨gb221, 1, none⟩ = some (.int .i64 a0_1) := (blk_cell BK221.out 1).trans rfl
     have hcz23_2 : wc.cell? ⟨gb221, 2, none⟩ = some (.int .i64 a0_2) := (blk_cell BK221.out 2).trans rfl
     have hcz23_3 : wc.cell? ⟨gb221, 3, none⟩ = some (.string a0_3) := (blk_cell BK221.out 3).trans rfl
     have hcz23_4 : wc.cell? ⟨gb221, 4, none⟩ = some (.int .i64 a0_4) := (blk_cell BK221.out 4).trans rfl
     have hcz23_5 : wc.cell? ⟨gb221, 5, none⟩ = some (.bool a0_5) := (blk_cell BK221.out 5).trans rfl
     have hcz23_6 : wc.cell? ⟨gb221, 6, none⟩ = some (.int .i64 a0_6) := (blk_cell BK221.out 6).trans rfl
     have hcz23_7 : wc.cell? ⟨gb221, 7, none⟩ = some (.slice A0_7 l0_7.length c0_7) := (blk_cell BK221.out 7).trans rfl
     have hfz23_0 := blk_frozen BK221.out 0
     have hfz23_1 := blk_frozen BK221.out 1
     have hfz23_2 := blk_frozen BK221.out 2
     have hfz23_3 := blk_frozen BK221.out 3
     have hfz23_4 := blk_frozen BK221.out 4
     have hfz23_5 := blk_frozen BK221.out 5
     have hfz23_6 := blk_frozen BK221.out 6
     have hfz23_7 := blk_frozen BK221.out 7
     go_wp2
     go_ret
     exact ⟨by first | rfl | (simp [errW_none, errW_some] <;> rfl) | (simp [*, errW_none, errW_some] <;> rfl), by repeat (first | (with_reducible first | exact HB.out | apply below_alloc | apply pw_below_drewN | apply below_drew1 | refine below_set ?_ GE221.out) | exact HB.out)⟩
    ·rw [if_neg c22] at H
     have c22b0 : decide (20 < (l0_7.length : Int)) = false := decide_eq_false c22
     have c22b1 : decide (20 < l0_7.length) = false := decide_eq_false (by omega)
     clear c22
     replace H := Option.bind_eq_some_iff.mp H
     obtain ⟨t228, A240, H⟩ := H
     replace H : (if t228 = true then ((slices_Contains_int64_int64.f kj1 l0_7 a0_1).bind fun t229 => (if t229 = true then (some false) else (if a0_5 = true then (if a0_3.toList = ([] : List UInt8) then (some ((l0_7.length : Int) == 0)) else (some false)) else (some true)))) else (some false)) = some r := H
     have A24 := Aside0.mk A240
     clear A240
     by_cases c25 : t228 = true
     ·subst c25
      have H1 : ((slices_Contains_int64_int64.f kj1 l0_7 a0_1).bind fun t229 => (if t229 = true then (some false) else (if a0_5 = true then (if a0_3.toList = ([] : List UInt8) then (some ((l0_7.length : Int) == 0)) else (some false)) else (some true)))) = some r := by rw [if_pos rfl] at H; exact H
      clear H
      have H := H1
      clear H1
      replace H := Option.bind_eq_some_iff.mp H
      obtain ⟨t229, A260, H⟩ := H
      replace H : (if t229 = true then (some false) else (if a0_5 = true then (if a0_3.toList = ([] : List UInt8) then (some ((l0_7.length : Int) == 0)) else (some false)) else (some true))) = some r := H
      have A26 := Aside0.mk A260
      clear A260
      by_cases c27 : t229 = true
      ·subst c27
       have H1 : (some false) = some r := by rw [if_pos rfl] at H; exact H
       clear H
       have H := H1
       clear H1
       obtain rfl := Option.some.inj H
       have hcz28_0 : wc.cell? ⟨gb221, 0, none⟩ = some (.int .i64 a0_0) := (blk_cell BK221.out 0).trans rfl
       have hcz28_1 : wc.cell? ⟨gb221, 1, none⟩ = some (.int .i64 a0_1) := (blk_cell BK221.out 1).trans rfl
       have hcz28_2 : wc.cell? ⟨gb221, 2, none⟩ = some (.int .i64 a0_2) := (blk_cell BK221.out 2).trans rfl
       have hcz28_3 : wc.cell? ⟨gb221, 3, none⟩ = some (.string a0_3) := (blk_cell BK221.out 3).trans rfl
       have hcz28_4 : wc.cell? ⟨gb221, 4, none⟩ = some (.int .i64 a0_4) := (blk_cell BK221.out 4).trans rfl
       have hcz28_5 : wc.cell? ⟨gb221, 5, none⟩ = some (.bool a0_5) := (blk_cell BK221.out 5).trans rfl
       have hcz28_6 : wc.cell? ⟨gb221, 6, none⟩ = some (.int .i64 a0_6) := (blk_cell BK221.out 6).trans rfl
       have hcz28_7 : wc.cell? ⟨gb221, 7, none⟩ = some (.slice A0_7 l0_7.length c0_7) := (blk_cell BK221.out 7).trans rfl
       have hfz28_0 := blk_frozen BK221.out 0
       have hfz28_1 := blk_frozen BK221.out 1
       have hfz28_2 := blk_frozen BK221.out 2
       have hfz28_3 := blk_frozen BK221.out 3
       have hfz28_4 := blk_frozen BK221.out 4
       have hfz28_5 := blk_frozen BK221.out 5
       have hfz28_6 := blk_frozen BK221.out 6
       have hfz28_7 := blk_frozen BK221.out 7
       go_wp2_with (first | (go_at_call 49; (with_reducible refine (impl_IsMembers.calls kj1 _ _ l0_7 true _ ?side1 ?side2 A24.out).mono ?_); (case side1 => repeat (first | exact (Kd.C_below HR0_7.out HB.out) | (with_reducible refine Kd.C_alloc ?_ _) | (with_reducible refine Kd.C_drewN ?_ _) | (with_reducible refine Kd.C_drew ?_))); (case side2 => exact HC0_7.out); rintro e w' ⟨rfl, ⟨nd, rfl⟩⟩) | (go_at_call 50; (with_reducible refine (slices_Contains_int64_int64.calls kj1 _ _ l0_7 a0_1 true _ ?side1 ?side2 A26.out).mono ?_); (case side1 => repeat (first | exact (Kd.C_below HR0_7.out (by repeat (first | (with_reducible first | exact HB.out | apply below_alloc | apply pw_below_drewN | apply below_drew1 | refine below_set ?_ GE221.out) | exact HB.out))) | (with_reducible refine Kd.C_alloc ?_ _) | (with_reducible refine Kd.C_drewN ?_ _) | (with_reducible refine Kd.C_drew ?_))); (case side2 => exact HC0_7.out); rintro e w' ⟨rfl, ⟨nd, rfl⟩⟩))
       go_ret
       exact ⟨by first | rfl | (simp [errW_none, errW_some] <;> rfl) | (simp [*, errW_none, errW_some] <;> rfl), by repeat (first | (with_reducible first | exact HB.out | apply below_alloc | apply pw_below_drewN | apply below_drew1 | refine below_set ?_ GE221.out) | exact HB.out)⟩
      ·replace c27 := Bool.eq_false_iff.mpr c27
       subst c27
       have H1 : (if a0_5 = true then (if a0_3.toList = ([] : List UInt8) then (some ((l0_7.length : Int) == 0)) else (some false)) else (some true)) = some r := by rw [if_neg (show ¬ (false = true) by decide)] at H; exact H
       clear H
       have H := H1
       clear H1
       by_cases c29 : a0_5 = true
       ·subst c29
        have H1 : (if a0_3.toList = ([] : List UInt8) then (some ((l0_7.length : Int) == 0)) else (some false)) = some r := by rw [if_pos rfl] at H; exact H
        clear H
        have H := H1
        clear H1
        by_cases c30 : a0_3.toList = ([] : List UInt8)
        ·rw [if_pos c30] at H
         have c30b0 : (a0_3.toList == ([] : List UInt8)) = true := beq_iff_eq.mpr c30
         have c30b1 : (a0_3.toList != ([] : List UInt8)) = false := bne_eq_false_iff_eq.mpr c30
         clear c30
         obtain rfl := Option.some.inj H
         have hcz31_0 : wc.cell? ⟨gb221, 0, none⟩ = some (.int .i64 a0_0) := (blk_cell BK221.out 0).trans rfl
         have hcz31_1 : wc.cell? ⟨gb221, 1, none⟩ = some (.int .i64 a0_1) := (blk_cell BK221.out 1).trans rfl
         have hcz31_2 : wc.cell? ⟨gb221, 2, none⟩ = some (.int .i64 a0_2) := (blk_cell BK221.out 2).trans rfl
         have hcz31_3 : wc.cell? ⟨gb221, 3, none⟩ = some (.string a0_3) := (blk_cell BK221.out 3).trans rfl
         have hcz31_4 : wc.cell? ⟨gb221, 4, none⟩ = some (.int .i64 a0_4) := (blk_cell BK221.out 4).trans rfl
         have hcz31_5 : wc.cell? ⟨gb221, 5, none⟩ = some (.bool true) := (blk_cell BK221.out 5).trans rfl
         have hcz31_6 : wc.cell? ⟨gb221, 6, none⟩ = some (.int .i64 a0_6) := (blk_cell BK221.out 6).trans rfl
         have hcz31_7 : wc.cell? ⟨gb221, 7, none⟩ = some (.slice A0_7 l0_7.length c0_7) := (blk_cell BK221.out 7).trans rfl
         have hfz31_0 := blk_frozen BK221.out 0
         have hfz31_1 := blk_frozen BK221.out 1
         have hfz31_2 := blk_frozen BK221.out 2
         have hfz31_3 := blk_frozen BK221.out 3
         have hfz31_4 := blk_frozen BK221.out 4
         have hfz31_5 := blk_frozen BK221.out 5
         have hfz31_6 := blk_frozen BK221.out 6
         have hfz31_7 := blk_frozen BK221.out 7
         go_wp2_with (first | (go_at_call 49; (with_reducible refine (impl_IsMembers.calls kj1 _ _ l0_7 true _ ?side1 ?side2 A24.out).mono ?_); (case side1 => repeat (first | exact (Kd.C_below HR0_7.out HB.out) | (with_reducible refine Kd.C_alloc ?_ _) | (with_reducible refine Kd.C_drewN ?_ _) | (with_reducible refine Kd.C_drew ?_))); (case side2 => exact HC0_7.out); rintro e w' ⟨rfl, ⟨nd, rfl⟩⟩) | (go_at_call 50; (with_reducible refine (slices_Contains_int64_int64.calls kj1 _ _ l0_7 a0_1 false _ ?side1 ?side2 A26.out).mono ?_); (case side1 => repeat (first | exact (Kd.C_below HR0_7.out (by repeat (first | (with_reducible first | exact HB.out | apply below_alloc | apply pw_below_drewN | apply below_drew1 | refine below_set ?_ GE221.out) | exact HB.out))) | (with_reducible refine Kd.C_alloc ?_ _) | (with_reducible refine Kd.C_drewN ?_ _) | (with_reducible refine Kd.C_drew ?_))); (case side2 => exact HC0_7.out); rintro e w' ⟨rfl, ⟨nd, rfl⟩⟩))
         go_ret
         exact ⟨by first | rfl | (simp [errW_none, errW_some] <;> rfl) | (simp [*, errW_none, errW_some] <;> rfl), by repeat (first | (with_reducible first | exact HB.out | apply below_alloc | apply pw_below_drewN | apply below_drew1 | refine below_set ?_ GE221.out) | exact HB.out)⟩
        ·rw [if_neg c30] at H
         have c30b0 : (a0_3.toList == ([] : List UInt8)) = false := beq_eq_false_iff_ne.mpr c30
         have c30b1 : (a0_3.toList != ([] : List UInt8)) = true := bne_iff_ne.mpr c30
         obtain rfl := Option.some.inj H
         have hcz32_0 : wc.cell? ⟨gb221, 0, none⟩ = some (.int .i64 a0_0) := (blk_cell BK221.out 0).trans rfl
         have hcz32_1 : wc.cell? ⟨gb221, 1, none⟩ = some (.int .i64 a0_1) := (blk_cell BK221.out 1).trans rfl
         have hcz32_2 : wc.cell? ⟨gb221, 2, none⟩ = some (.int .i64 a0_2) := (blk_cell BK221.out 2).trans rfl
         have hcz32_3 : wc.cell? ⟨gb221, 3, none⟩ = some (.string a0_3) := (blk_cell BK221.out 3).trans rfl
         have hcz32_4 : wc.cell? ⟨gb221, 4, none⟩ = some (.int .i64 a0_4) := (blk_cell BK221.out 4).trans rfl
         have hcz32_5 : wc.cell? ⟨gb221, 5, none⟩ = some (.bool true) := (blk_cell BK221.out 5).trans rfl
         have hcz32_6 : wc.cell? ⟨gb221, 6, none⟩ = some (.int .i64 a0_6) := (blk_cell BK221.out 6).trans rfl
         have hcz32_7 : wc.cell? ⟨gb221, 7, none⟩ = some (.slice A0_7 l0_7.length c0_7) := (blk_cell BK221.out 7).trans rfl
         have hfz32_0 := blk_frozen BK221.out 0
         have hfz32_1 := blk_frozen BK221.out 1
         have hfz32_2 := blk_frozen BK221.out 2
         have hfz32_3 := blk_frozen BK221.out 3
         have hfz32_4 := blk_frozen BK221.out 4
         have hfz32_5 := blk_frozen BK221.out 5
         have hfz32_6 := blk_frozen BK221.out 6
         have hfz32_7 := blk_frozen BK221.out 7
         go_wp2_with (first | (go_at_call 49; (with_reducible refine (impl_IsMembers.calls kj1 _ _ l0_7 true _ ?side1 ?side2 A24.out).mono ?_); (case side1 => repeat (first | exact (Kd.C_below HR0_7.out HB.out) | (with_reducible refine Kd.C_alloc ?_ _) | (with_reducible refine Kd.C_drewN ?_ _) | (with_reducible refine Kd.C_drew ?_))); (case side2 => exact HC0_7.out); rintro e w' ⟨rfl, ⟨nd, rfl⟩⟩) | (go_at_call 50; (with_reducible refine (slices_Contains_int64_int64.calls kj1 _ _ l0_7 a0_1 false _ ?side1 ?side2 A26.out).mono ?_); (case side1 => repeat (first | exact (Kd.C_below HR0_7.out (by repeat (first | (with_reducible first | exact HB.out | apply below_alloc | apply pw_below_drewN | apply below_drew1 | refine below_set ?_ GE221.out) | exact HB.out))) | (with_reducible refine Kd.C_alloc ?_ _) | (with_reducible refine Kd.C_drewN ?_ _) | (with_reducible refine Kd.C_drew ?_))); (case side2 => exact HC0_7.out); rintro e w' ⟨rfl, ⟨nd, rfl⟩⟩))
         go_ret
         exact ⟨by first | rfl | (simp [errW_none, errW_some] <;> rfl) | (simp [*, errW_none, errW_some] <;> rfl), by repeat (first | (with_reducible first | exact HB.out | apply below_alloc | apply pw_below_drewN | apply below_drew1 | refine below_set ?_ GE221.out) | exact HB.out)⟩
       ·replace c29 := Bool.eq_false_iff.mpr c29
        subst c29
        have H1 : (some true) = some r := by rw [if_neg (show ¬ (false = true) by decide)] at H; exact H
        clear H
        have H := H1
        clear H1
        obtain rfl := Option.some.inj H
        have hcz33_0 : wc.cell? ⟨gb221, 0, none⟩ = some (.int .i64 a0_0) := (blk_cell BK221.out 0).trans rfl
        have hcz33_1 : wc.cell? ⟨gb221, 1, none⟩ = some (.int .i64 a0_1) := (blk_cell BK221.out 1).trans rfl
        have hcz33_2 : wc.cell? ⟨gb221, 2, none⟩ = some (.int .i64 a0_2) := (blk_cell BK221.out 2).trans rfl
        have hcz33_3 : wc.cell? ⟨gb221, 3, none⟩ = some (.string a0_3) := (blk_cell BK221.out 3).trans rfl
        have hcz33_4 : wc.cell? ⟨gb221, 4, none⟩ = some (.int .i64 a0_4) := (blk_cell BK221.out 4).trans rfl
        have hcz33_5 : wc.cell? ⟨gb221, 5, none⟩ = some (.bool false) := (blk_cell BK221.out 5).trans rfl
        have hcz33_6 : wc.cell? ⟨gb221, 6, none⟩ = some (.int .i64 a0_6) := (blk_cell BK221.out 6).trans rfl
        have hcz33_7 : wc.cell? ⟨gb221, 7, none⟩ = some (.slice A0_7 l0_7.length c0_7) := (blk_cell BK221.out 7).trans rfl
        have hfz33_0 := blk_frozen BK221.out 0
        have hfz33_1 := blk_frozen BK221.out 1
        have hfz33_2 := blk_frozen BK221.out 2
        have hfz33_3 := blk_frozen BK221.out 3
        have hfz33_4 := blk_frozen BK221.out 4
        have hfz33_5 := blk_frozen BK221.out 5
        have hfz33_6 := blk_frozen BK221.out 6
        have hfz33_7 := blk_frozen BK221.out 7
        go_wp2_with (first | (go_at_call 49; (with_reducible refine (impl_IsMembers.calls kj1 _ _ l0_7 true _ ?side1 ?side2 A24.out).mono ?_); (case side1 => repeat (first | exact (Kd.C_below HR0_7.out HB.out) | (with_reducible refine Kd.C_alloc ?_ _) | (with_reducible refine Kd.C_drewN ?_ _) | (with_reducible refine Kd.C_drew ?_))); (case side2 => exact HC0_7.out); rintro e w' ⟨rfl, ⟨nd, rfl⟩⟩) | (go_at_call 50; (with_reducible refine (slices_Contains_int64_int64.calls kj1 _ _ l0_7 a0_1 false _ ?side1 ?side2 A26.out).mono ?_); (case side1 => repeat (first | exact (Kd.C_below HR0_7.out (by repeat (first | (with_reducible first | exact HB.out | apply below_alloc | apply pw_below_drewN | apply below_drew1 | refine below_set ?_ GE221.out) | exact HB.out))) | (with_reducible refine Kd.C_alloc ?_ _) | (with_reducible refine Kd.C_drewN ?_ _) | (with_reducible refine Kd.C_drew ?_))); (case side2 => exact HC0_7.out); rintro e w' ⟨rfl, ⟨nd, rfl⟩⟩))
        go_ret
        exact ⟨by first | rfl | (simp [errW_none, errW_some] <;> rfl) | (simp [*, errW_none, errW_some] <;> rfl), by repeat (first | (with_reducible first | exact HB.out | apply below_alloc | apply pw_below_drewN | apply below_drew1 | refine below_set ?_ GE221.out) | exact HB.out)⟩
     ·replace c25 := Bool.eq_false_iff.mpr c25
      subst c25
      have H1 : (some false) = some r := by rw [if_neg (show ¬ (false = true) by decide)] at H; exact H
      clear H
      have H := H1
      clear H1
      obtain rfl := Option.some.inj H
      have hcz34_0 : wc.cell? ⟨gb221, 0, none⟩ = some (.int .i64 a0_0) := (blk_cell BK221.out 0).trans rfl
      have hcz34_1 : wc.cell? ⟨gb221, 1, none⟩ = some (.int .i64 a0_1) := (blk_cell BK221.out 1).trans rfl
      have hcz34_2 : wc.cell? ⟨gb221, 2, none⟩ = some (.int .i64 a0_2) := (blk_cell BK221.out 2).trans rfl
      have hcz34_3 : wc.cell? ⟨gb221, 3, none⟩ = some (.string a0_3) := (blk_cell BK221.out 3).trans rfl
      have hcz34_4 : wc.cell? ⟨gb221, 4, none⟩ = some (.int .i64 a0_4) := (blk_cell BK221.out 4).trans rfl
      have hcz34_5 : wc.cell? ⟨gb221, 5, none⟩ = some (.bool a0_5) := (blk_cell BK221.out 5).trans rfl
      have hcz34_6 : wc.cell? ⟨gb221, 6, none⟩ = some (.int .i64 a0_6) := (blk_cell BK221.out 6).trans rfl
      have hcz34_7 : wc.cell? ⟨gb221, 7, none⟩ = some (.slice A0_7 l0_7.length c0_7) := (blk_cell BK221.out 7).trans rfl
      have hfz34_0 := blk_frozen BK221.out 0
      have hfz34_1 := blk_frozen BK221.out 1
      have hfz34_2 := blk_frozen BK221.out 2
      have hfz34_3 := blk_frozen BK221.out 3
      have hfz34_4 := blk_frozen BK221.out 4
      have hfz34_5 := blk_frozen BK221.out 5
      have hfz34_6 := blk_frozen BK221.out 6
      have hfz34_7 := blk_frozen BK221.out 7
      go_wp2_with (first | (go_at_call 49; (with_reducible refine (impl_IsMembers.calls kj1 _ _ l0_7 false _ ?side1 ?side2 A24.out).mono ?_); (case side1 => repeat (first | exact (Kd.C_below HR0_7.out HB.out) | (with_reducible refine Kd.C_alloc ?_ _) | (with_reducible refine Kd.C_drewN ?_ _) | (with_reducible refine Kd.C_drew ?_))); (case side2 => exact HC0_7.out); rintro e w' ⟨rfl, ⟨nd, rfl⟩⟩))
      go_ret
      exact ⟨by first | rfl | (simp [errW_none, errW_some] <;> rfl) | (simp [*, errW_none, errW_some] <;> rfl), by repeat (first | (with_reducible first | exact HB.out | apply below_alloc | apply pw_below_drewN | apply below_drew1 | refine below_set ?_ GE221.out) | exact HB.out)⟩

end Go.Proofs.Ytallocgnpbpbhab.XFnExactCountsOf
