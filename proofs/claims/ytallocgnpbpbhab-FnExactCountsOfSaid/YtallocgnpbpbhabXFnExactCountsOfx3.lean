-- Written by a program of this session (wip/xprint: over the kit's print). Not trusted: Lean checks it.
import Derived.Test.YtallocgnpbpbhabXFnExactCountsOfx0
import Derived.Test.YtallocgnpbpbhabXFnExactCountsOfx2
namespace Go.Proofs.Ytallocgnpbpbhab.XFnExactCountsOf
open Go.RowKit Go.Proofs.YtallocgnpbpbhabW.PrintWords Go.Proofs.YtallocgnpbpbhabW.PrintLast Go.Proofs.YtallocgnpbpbhabW.PrintMore
open Go.Proofs.Ytallocgnpbpbhab.XW
attribute [local go_sem] max2_int min2_int max_two min_two max_three min_three max_four min_four   -- for this text's walks alone
set_option linter.unusedVariables false
set_option linter.unusedSimpArgs false

/-! ### laws_markMessageS: function 25 -/
def laws_markMessageS.l0 : Nat → List (S44) → Int → Int → Option (Int × (List (S44)))
 | 0, _, _, _ => none
 | k + 1, x0, x1, x5 => if x5 < (x0.length : Int) then (if 0 ≤ x5 then ((some (x0.set (x5 : Int).toNat (⟨x1, (rd_T44 x0 x5).f1, (rd_T44 x0 x5).f2, (rd_T44 x0 x5).f3, (rd_T44 x0 x5).f4, (rd_T44 x0 x5).f5, (rd_T44 x0 x5).f6, (rd_T44 x0 x5).f7⟩ : S44) : List (S44))).bind fun y154 => ((some (y154.set (x5 : Int).toNat (⟨(rd_T44 y154 x5).f0, wrap64 (x1 + 1), (rd_T44 y154 x5).f2, (rd_T44 y154 x5).f3, (rd_T44 y154 x5).f4, (rd_T44 y154 x5).f5, (rd_T44 y154 x5).f6, (rd_T44 y154 x5).f7⟩ : S44) : List (S44))).bind fun y155 => ((some (y155.set (x5 : Int).toNat (⟨(rd_T44 y155 x5).f0, (rd_T44 y155 x5).f1, wrap64 ((wrap64 (x1 + 1)) + 1), (rd_T44 y155 x5).f3, (rd_T44 y155 x5).f4, (rd_T44 y155 x5).f5, (rd_T44 y155 x5).f6, (rd_T44 y155 x5).f7⟩ : S44) : List (S44))).bind fun y156 => ((laws_markText.f k (wrap64 ((wrap64 ((wrap64 (x1 + 1)) + 1)) + 1))).bind fun t157 => ((some (y156.set (x5 : Int).toNat (⟨(rd_T44 y156 x5).f0, (rd_T44 y156 x5).f1, (rd_T44 y156 x5).f2, t157, (rd_T44 y156 x5).f4, (rd_T44 y156 x5).f5, (rd_T44 y156 x5).f6, (rd_T44 y156 x5).f7⟩ : S44) : List (S44))).bind fun y158 => ((some (y158.set (x5 : Int).toNat (⟨(rd_T44 y158 x5).f0, (rd_T44 y158 x5).f1, (rd_T44 y158 x5).f2, (rd_T44 y158 x5).f3, wrap64 ((wrap64 ((wrap64 ((wrap64 (x1 + 1)) + 1)) + 1)) + 1), (rd_T44 y158 x5).f5, (rd_T44 y158 x5).f6, (rd_T44 y158 x5).f7⟩ : S44) : List (S44))).bind fun y159 => ((some (y159.set (x5 : Int).toNat (⟨(rd_T44 y159 x5).f0, (rd_T44 y159 x5).f1, (rd_T44 y159 x5).f2, (rd_T44 y159 x5).f3, (rd_T44 y159 x5).f4, ((Int.tmod (wrap64 ((wrap64 ((wrap64 ((wrap64 ((wrap64 (x1 + 1)) + 1)) + 1)) + 1)) + 1)) 3) == 0), (rd_T44 y159 x5).f6, (rd_T44 y159 x5).f7⟩ : S44) : List (S44))).bind fun y160 => ((some (y160.set (x5 : Int).toNat (⟨(rd_T44 y160 x5).f0, (rd_T44 y160 x5).f1, (rd_T44 y160 x5).f2, (rd_T44 y160 x5).f3, (rd_T44 y160 x5).f4, (rd_T44 y160 x5).f5, wrap64 ((wrap64 ((wrap64 ((wrap64 ((wrap64 ((wrap64 (x1 + 1)) + 1)) + 1)) + 1)) + 1)) + 1), (rd_T44 y160 x5).f7⟩ : S44) : List (S44))).bind fun yq => ((laws_markInt64S.f k ((rd_T44 yq x5).f7) (wrap64 ((wrap64 ((wrap64 ((wrap64 ((wrap64 ((wrap64 ((wrap64 (x1 + 1)) + 1)) + 1)) + 1)) + 1)) + 1)) + 1))).bind fun bq => (laws_markMessageS.l0 k (yq.set (x5 : Int).toNat (⟨(rd_T44 yq x5).f0, (rd_T44 yq x5).f1, (rd_T44 yq x5).f2, (rd_T44 yq x5).f3, (rd_T44 yq x5).f4, (rd_T44 yq x5).f5, (rd_T44 yq x5).f6, bq.2⟩ : S44)) bq.1 (wrap64 (x5 + 1)))))))))))) else (none)) else (some (x1, x0))
def laws_markMessageS.f (k : Nat) (l0 : List (S44)) (a1 : Int) : Option (Int × (List (S44))) := laws_markMessageS.l0 k l0 a1 0
theorem laws_markMessageS.mono_l : ∀ k, (∀ y0 y1 y2, LeO (laws_markMessageS.l0 k y0 y1 y2) (laws_markMessageS.l0 (k + 1) y0 y1 y2))
 | 0 => fun _ _ _ r h => by simp [laws_markMessageS.l0] at h
 | k + 1 => by
  have ih0 := laws_markMessageS.mono_l k
  ·intro y0 y1 y2
   unfold laws_markMessageS.l0
   repeat' first
   | (with_reducible exact ih0 _ _ _)
   | (with_reducible exact laws_markText.mono _ _)
   | (with_reducible exact laws_markInt64S.mono _ _ _)
   | (with_reducible exact LeO.refl _)
   | (with_reducible exact LeO.none _)
   | (with_reducible refine LeO.ite ?_ ?_)
   | (with_reducible refine LeO.bind ?_ (fun _ => ?_))
   | exact ih0 _ _ _
   | exact laws_markText.mono _ _
   | exact LeO.none _
   | refine LeO.ite ?_ ?_
   | refine LeO.bind ?_ (fun _ => ?_)
theorem laws_markMessageS.mono : ∀ a0 a1 k, LeO (laws_markMessageS.f k a0 a1) (laws_markMessageS.f (k + 1) a0 a1) := by
 intro a0 a1 k
 have ih0 := laws_markMessageS.mono_l k
 unfold laws_markMessageS.f
 repeat' first
   | (with_reducible exact ih0 _ _ _)
   | (with_reducible exact laws_markText.mono _ _)
   | (with_reducible exact laws_markInt64S.mono _ _ _)
   | (with_reducible exact LeO.refl _)
   | (with_reducible exact LeO.none _)
   | (with_reducible refine LeO.ite ?_ ?_)
   | (with_reducible refine LeO.bind ?_ (fun _ => ?_))
   | exact ih0 _ _ _
   | exact laws_markText.mono _ _
   | exact LeO.none _
   | refine LeO.ite ?_ ?_
   | refine LeO.bind ?_ (fun _ => ?_)
set_option maxHeartbeats 8000000 in
set_option maxRecDepth 100000 in
theorem laws_markMessageS.calls (k : Nat) (P0_ : Nat → Prop) (u9000_ : Value) (l0 : List (S44)) (a1 : Int) (r1 : Int) (r2 : List (S44)) (w0 w : World) (hB : Below w0.heap.size w0 w) (ho0 : Kd.S k44 44 w w0.heap.size P0_ u9000_ l0) (h : laws_markMessageS.f k l0 a1 = some (r1, r2)) :
  Calls Try.prog 25 #[u9000_, .int .i64 a1] w fun e w' => e = .returned (.int .i64 r1) ∧ Kd.S k44 44 w' w0.heap.size (fun k_ => (P0_ k_ ∨ w.heap.size ≤ k_)) u9000_ r2 ∧ Below w0.heap.size w0 w' ∧ Kept w w' (fun k_ => P0_ k_) := by
 have HO0 := Aside0.mk (show Kd.S k44 44 w w0.heap.size (fun k_ => (P0_ k_ ∨ w.heap.size ≤ k_)) u9000_ l0 from Kd.S_mono ho0 (fun k_ hk => (.inl hk)))
 have HK := Aside0.mk (Kept.refl w (fun k_ => P0_ k_))
 have HW0 := Aside0.mk hB.size
 have HB := Aside0.mk hB
 clear hB
 have H : (laws_markMessageS.l0 k l0 a1 0) = some (r1, r2) := h
 clear h
 have H' := Aside0.mk H
 clear H
 go_enter Try.func25, Try.ntmps25
 go_wp2
 go_loopg [1, 5] k (fun kq v1 v5 w' => ∃ (x0_1 : List (S44)) (x1_1 : Int) (x5_1 : Int), v1 = .int .i64 x1_1 ∧ v5 = .int .i64 x5_1 ∧ Aside0 (laws_markMessageS.l0 kq x0_1 x1_1 x5_1 = some (r1, r2)) ∧ Aside0 (kq ≤ k) ∧ Aside0 (Kd.S k44 44 w' w0.heap.size (fun k_ => (P0_ k_ ∨ w.heap.size ≤ k_)) u9000_ x0_1) ∧ Aside0 (Kept w w' (fun k_ => P0_ k_)) ∧ Aside0 (Below w0.heap.size w0 w'))
 case atStart => exact ⟨(l0), (a1), (0), (by first | rfl | (simp; done) | (simp [*]; done)), (by first | rfl | (simp; done) | (simp [*]; done)), H', ⟨Nat.le_refl _⟩, ⟨by (with_reducible repeat (first | apply Kd.S_alloc | apply Kd.S_drewN | apply Kd.S_drew)); exact HO0.out⟩, ⟨by repeat (first | (with_reducible first | exact HK.out | apply Kept.alloc | apply Kept.drewN | apply Kept.drew) | exact HK.out)⟩, ⟨by repeat (first | (with_reducible first | exact HB.out | apply below_alloc | apply pw_below_drewN | apply below_drew1) | exact HB.out)⟩⟩
 case round =>
  clear H'
  try clear c2
  try clear p2
  obtain ⟨x0_1, x1_1, x5_1, rfl, rfl, HA, HK1, HO_0, HK, HB⟩ := hrel
  cases gk with
  | zero => exact absurd HA.out (by simp [laws_markMessageS.l0])
  | succ k1 =>
   have H := HA.out
   clear HA
   simp only [laws_markMessageS.l0] at H
   by_cases c3 : x5_1 < (x0_1.length : Int)
   ·rw [if_pos c3] at H
    have c3b0 : decide (x5_1 < (x0_1.length : Int)) = true := decide_eq_true c3
    clear c3
    by_cases c4 : 0 ≤ x5_1
    ·rw [if_pos c4] at H
     have c4b0 : decide (0 ≤ x5_1) = true := decide_eq_true c4
     clear c4
     obtain ⟨y154, hy154⟩ : ∃ y_ : List (S44), y_ = (x0_1.set (x5_1 : Int).toNat (⟨x1_1, (rd_T44 x0_1 x5_1).f1, (rd_T44 x0_1 x5_1).f2, (rd_T44 x0_1 x5_1).f3, (rd_T44 x0_1 x5_1).f4, (rd_T44 x0_1 x5_1).f5, (rd_T44 x0_1 x5_1).f6, (rd_T44 x0_1 x5_1).f7⟩ : S44)) := ⟨_, rfl⟩
     replace H : ((some (y154.set (x5_1 : Int).toNat (⟨(rd_T44 y154 x5_1).f0, wrap64 (x1_1 + 1), (rd_T44 y154 x5_1).f2, (rd_T44 y154 x5_1).f3, (rd_T44 y154 x5_1).f4, (rd_T44 y154 x5_1).f5, (rd_T44 y154 x5_1).f6, (rd_T44 y154 x5_1).f7⟩ : S44) : List (S44))).bind fun y155 => ((some (y155.set (x5_1 : Int).toNat (⟨(rd_T44 y155 x5_1).f0, (rd_T44 y155 x5_1).f1, wrap64 ((wrap64 (x1_1 + 1)) + 1), (rd_T44 y155 x5_1).f3, (rd_T44 y155 x5_1).f4, (rd_T44 y155 x5_1).f5, (rd_T44 y155 x5_1).f6, (rd_T44 y155 x5_1).f7⟩ : S44) : List (S44))).bind fun y156 => ((laws_markText.f k1 (wrap64 ((wrap64 ((wrap64 (x1_1 + 1)) + 1)) + 1))).bind fun t157 => ((some (y156.set (x5_1 : Int).toNat (⟨(rd_T44 y156 x5_1).f0, (rd_T44 y156 x5_1).f1, (rd_T44 y156 x5_1).f2, t157, (rd_T44 y156 x5_1).f4, (rd_T44 y156 x5_1).f5, (rd_T44 y156 x5_1).f6, (rd_T44 y156 x5_1).f7⟩ : S44) : List (S44))).bind fun y158 => ((some (y158.set (x5_1 : Int).toNat (⟨(rd_T44 y158 x5_1).f0, (rd_T44 y158 x5_1).f1, (rd_T44 y158 x5_1).f2, (rd_T44 y158 x5_1).f3, wrap64 ((wrap64 ((wrap64 ((wrap64 (x1_1 + 1)) + 1)) + 1)) + 1), (rd_T44 y158 x5_1).f5, (rd_T44 y158 x5_1).f6, (rd_T44 y158 x5_1).f7⟩ : S44) : List (S44))).bind fun y159 => ((some (y159.set (x5_1 : Int).toNat (⟨(rd_T44 y159 x5_1).f0, (rd_T44 y159 x5_1).f1, (rd_T44 y159 x5_1).f2, (rd_T44 y159 x5_1).f3, (rd_T44 y159 x5_1).f4, ((Int.tmod (wrap64 ((wrap64 ((wrap64 ((wrap64 ((wrap64 (x1_1 + 1)) + 1)) + 1)) + 1)) + 1)) 3) == 0), (rd_T44 y159 x5_1).f6, (rd_T44 y159 x5_1).f7⟩ : S44) : List (S44))).bind fun y160 => ((some (y160.set (x5_1 : Int).toNat (⟨(rd_T44 y160 x5_1).f0, (rd_T44 y160 x5_1).f1, (rd_T44 y160 x5_1).f2, (rd_T44 y160 x5_1).f3, (rd_T44 y160 x5_1).f4, (rd_T44 y160 x5_1).f5, wrap64 ((wrap64 ((wrap64 ((wrap64 ((wrap64 ((wrap64 (x1_1 + 1)) + 1)) + 1)) + 1)) + 1)) + 1), (rd_T44 y160 x5_1).f7⟩ : S44) : List (S44))).bind fun yq => ((laws_markInt64S.f k1 ((rd_T44 yq x5_1).f7) (wrap64 ((wrap64 ((wrap64 ((wrap64 ((wrap64 ((wrap64 ((wrap64 (x1_1 + 1)) + 1)) + 1)) + 1)) + 1)) + 1)) + 1))).bind fun bq => (laws_markMessageS.l0 k1 (yq.set (x5_1 : Int).toNat (⟨(rd_T44 yq x5_1).f0, (rd_T44 yq x5_1).f1, (rd_T44 yq x5_1).f2, (rd_T44 yq x5_1).f3, (rd_T44 yq x5_1).f4, (rd_T44 yq x5_1).f5, (rd_T44 yq x5_1).f6, bq.2⟩ : S44)) bq.1 (wrap64 (x5_1 + 1))))))))))) = some (r1, r2) := by first | (rw [hy154]; with_reducible exact H) | (have H2_ := (Option.bind_some _ _).symm.trans H; rw [hy154]; with_reducible exact H2_) | (have H2_ := (Option.bind_some _ _).symm.trans H; with_reducible exact H2_) | with_reducible exact H | (rw [hy154]; exact H) | exact H
     have Ny154 := Aside0.mk hy154
     clear hy154
     obtain ⟨y155, hy155⟩ : ∃ y_ : List (S44), y_ = (y154.set (x5_1 : Int).toNat (⟨(rd_T44 y154 x5_1).f0, wrap64 (x1_1 + 1), (rd_T44 y154 x5_1).f2, (rd_T44 y154 x5_1).f3, (rd_T44 y154 x5_1).f4, (rd_T44 y154 x5_1).f5, (rd_T44 y154 x5_1).f6, (rd_T44 y154 x5_1).f7⟩ : S44)) := ⟨_, rfl⟩
     replace H : ((some (y155.set (x5_1 : Int).toNat (⟨(rd_T44 y155 x5_1).f0, (rd_T44 y155 x5_1).f1, wrap64 ((wrap64 (x1_1 + 1)) + 1), (rd_T44 y155 x5_1).f3, (rd_T44 y155 x5_1).f4, (rd_T44 y155 x5_1).f5, (rd_T44 y155 x5_1).f6, (rd_T44 y155 x5_1).f7⟩ : S44) : List (S44))).bind fun y156 => ((laws_markText.f k1 (wrap64 ((wrap64 ((wrap64 (x1_1 + 1)) + 1)) + 1))).bind fun t157 => ((some (y156.set (x5_1 : Int).toNat (⟨(rd_T44 y156 x5_1).f0, (rd_T44 y156 x5_1).f1, (rd_T44 y156 x5_1).f2, t157, (rd_T44 y156 x5_1).f4, (rd_T44 y156 x5_1).f5, (rd_T44 y156 x5_1).f6, (rd_T44 y156 x5_1).f7⟩ : S44) : List (S44))).bind fun y158 => ((some (y158.set (x5_1 : Int).toNat (⟨(rd_T44 y158 x5_1).f0, (rd_T44 y158 x5_1).f1, (rd_T44 y158 x5_1).f2, (rd_T44 y158 x5_1).f3, wrap64 ((wrap64 ((wrap64 ((wrap64 (x1_1 + 1)) + 1)) + 1)) + 1), (rd_T44 y158 x5_1).f5, (rd_T44 y158 x5_1).f6, (rd_T44 y158 x5_1).f7⟩ : S44) : List (S44))).bind fun y159 => ((some (y159.set (x5_1 : Int).toNat (⟨(rd_T44 y159 x5_1).f0, (rd_T44 y159 x5_1).f1, (rd_T44 y159 x5_1).f2, (rd_T44 y159 x5_1).f3, (rd_T44 y159 x5_1).f4, ((Int.tmod (wrap64 ((wrap64 ((wrap64 ((wrap64 ((wrap64 (x1_1 + 1)) + 1)) + 1)) + 1)) + 1)) 3) == 0), (rd_T44 y159 x5_1).f6, (rd_T44 y159 x5_1).f7⟩ : S44) : List (S44))).bind fun y160 => ((some (y160.set (x5_1 : Int).toNat (⟨(rd_T44 y160 x5_1).f0, (rd_T44 y160 x5_1).f1, (rd_T44 y160 x5_1).f2, (rd_T44 y160 x5_1).f3, (rd_T44 y160 x5_1).f4, (rd_T44 y160 x5_1).f5, wrap64 ((wrap64 ((wrap64 ((wrap64 ((wrap64 ((wrap64 (x1_1 + 1)) + 1)) + 1)) + 1)) + 1)) + 1), (rd_T44 y160 x5_1).f7⟩ : S44) : List (S44))).bind fun yq => ((laws_markInt64S.f k1 ((rd_T44 yq x5_1).f7) (wrap64 ((wrap64 ((wrap64 ((wrap64 ((wrap64 ((wrap64 ((wrap64 (x1_1 + 1)) + 1)) + 1)) + 1)) + 1)) + 1)) + 1))).bind fun bq => (laws_markMessageS.l0 k1 (yq.set (x5_1 : Int).toNat (⟨(rd_T44 yq x5_1).f0, (rd_T44 yq x5_1).f1, (rd_T44 yq x5_1).f2, (rd_T44 yq x5_1).f3, (rd_T44 yq x5_1).f4, (rd_T44 yq x5_1).f5, (rd_T44 yq x5_1).f6, bq.2⟩ : S44)) bq.1 (wrap64 (x5_1 + 1)))))))))) = some (r1, r2) := by first | (rw [hy155]; with_reducible exact H) | (have H2_ := (Option.bind_some _ _).symm.trans H; rw [hy155]; with_reducible exact H2_) | (have H2_ := (Option.bind_some _ _).symm.trans H; with_reducible exact H2_) | with_reducible exact H | (rw [hy155]; exact H) | exact H
     have Ny155 := Aside0.mk hy155
     clear hy155
     obtain ⟨y156, hy156⟩ : ∃ y_ : List (S44), y_ = (y155.set (x5_1 : Int).toNat (⟨(rd_T44 y155 x5_1).f0, (rd_T44 y155 x5_1).f1, wrap64 ((wrap64 (x1_1 + 1)) + 1), (rd_T44 y155 x5_1).f3, (rd_T44 y155 x5_1).f4, (rd_T44 y155 x5_1).f5, (rd_T44 y155 x5_1).f6, (rd_T44 y155 x5_1).f7⟩ : S44)) := ⟨_, rfl⟩
     replace H : ((laws_markText.f k1 (wrap64 ((wrap64 ((wrap64 (x1_1 + 1)) + 1)) + 1))).bind fun t157 => ((some (y156.set (x5_1 : Int).toNat (⟨(rd_T44 y156 x5_1).f0, (rd_T44 y156 x5_1).f1, (rd_T44 y156 x5_1).f2, t157, (rd_T44 y156 x5_1).f4, (rd_T44 y156 x5_1).f5, (rd_T44 y156 x5_1).f6, (rd_T44 y156 x5_1).f7⟩ : S44) : List (S44))).bind fun y158 => ((some (y158.set (x5_1 : Int).toNat (⟨(rd_T44 y158 x5_1).f0, (rd_T44 y158 x5_1).f1, (rd_T44 y158 x5_1).f2, (rd_T44 y158 x5_1).f3, wrap64 ((wrap64 ((wrap64 ((wrap64 (x1_1 + 1)) + 1)) + 1)) + 1), (rd_T44 y158 x5_1).f5, (rd_T44 y158 x5_1).f6, (rd_T44 y158 x5_1).f7⟩ : S44) : List (S44))).bind fun y159 => ((some (y159.set (x5_1 : Int).toNat (⟨(rd_T44 y159 x5_1).f0, (rd_T44 y159 x5_1).f1, (rd_T44 y159 x5_1).f2, (rd_T44 y159 x5_1).f3, (rd_T44 y159 x5_1).f4, ((Int.tmod (wrap64 ((wrap64 ((wrap64 ((wrap64 ((wrap64 (x1_1 + 1)) + 1)) + 1)) + 1)) + 1)) 3) == 0), (rd_T44 y159 x5_1).f6, (rd_T44 y159 x5_1).f7⟩ : S44) : List (S44))).bind fun y160 => ((some (y160.set (x5_1 : Int).toNat (⟨(rd_T44 y160 x5_1).f0, (rd_T44 y160 x5_1).f1, (rd_T44 y160 x5_1).f2, (rd_T44 y160 x5_1).f3, (rd_T44 y160 x5_1).f4, (rd_T44 y160 x5_1).f5, wrap64 ((wrap64 ((wrap64 ((wrap64 ((wrap64 ((wrap64 (x1_1 + 1)) + 1)) + 1)) + 1)) + 1)) + 1), (rd_T44 y160 x5_1).f7⟩ : S44) : List (S44))).bind fun yq => ((laws_markInt64S.f k1 ((rd_T44 yq x5_1).f7) (wrap64 ((wrap64 ((wrap64 ((wrap64 ((wrap64 ((wrap64 ((wrap64 (x1_1 + 1)) + 1)) + 1)) + 1)) + 1)) + 1)) + 1))).bind fun bq => (laws_markMessageS.l0 k1 (yq.set (x5_1 : Int).toNat (⟨(rd_T44 yq x5_1).f0, (rd_T44 yq x5_1).f1, (rd_T44 yq x5_1).f2, (rd_T44 yq x5_1).f3, (rd_T44 yq x5_1).f4, (rd_T44 yq x5_1).f5, (rd_T44 yq x5_1).f6, bq.2⟩ : S44)) bq.1 (wrap64 (x5_1 + 1))))))))) = some (r1, r2) := by first | (rw [hy156]; with_reducible exact H) | (have H2_ := (Option.bind_some _ _).symm.trans H; rw [hy156]; with_reducible exact H2_) | (have H2_ := (Option.bind_some _ _).symm.trans H; with_reducible exact H2_) | with_reducible exact H | (rw [hy156]; exact H) | exact H
     have Ny156 := Aside0.mk hy156
     clear hy156
     replace H := Option.bind_eq_some_iff.mp H
     obtain ⟨t157, A80, H⟩ := H
     replace H : ((some (y156.set (x5_1 : Int).toNat (⟨(rd_T44 y156 x5_1).f0, (rd_T44 y156 x5_1).f1, (rd_T44 y156 x5_1).f2, t157, (rd_T44 y156 x5_1).f4, (rd_T44 y156 x5_1).f5, (rd_T44 y156 x5_1).f6, (rd_T44 y156 x5_1).f7⟩ : S44) : List (S44))).bind fun y158 => ((some (y158.set (x5_1 : Int).toNat (⟨(rd_T44 y158 x5_1).f0, (rd_T44 y158 x5_1).f1, (rd_T44 y158 x5_1).f2, (rd_T44 y158 x5_1).f3, wrap64 ((wrap64 ((wrap64 ((wrap64 (x1_1 + 1)) + 1)) + 1)) + 1), (rd_T44 y158 x5_1).f5, (rd_T44 y158 x5_1).f6, (rd_T44 y158 x5_1).f7⟩ : S44) : List (S44))).bind fun y159 => ((some (y159.set (x5_1 : Int).toNat (⟨(rd_T44 y159 x5_1).f0, (rd_T44 y159 x5_1).f1, (rd_T44 y159 x5_1).f2, (rd_T44 y159 x5_1).f3, (rd_T44 y159 x5_1).f4, ((Int.tmod (wrap64 ((wrap64 ((wrap64 ((wrap64 ((wrap64 (x1_1 + 1)) + 1)) + 1)) + 1)) + 1)) 3) == 0), (rd_T44 y159 x5_1).f6, (rd_T44 y159 x5_1).f7⟩ : S44) : List (S44))).bind fun y160 => ((some (y160.set (x5_1 : Int).toNat (⟨(rd_T44 y160 x5_1).f0, (rd_T44 y160 x5_1).f1, (rd_T44 y160 x5_1).f2, (rd_T44 y160 x5_1).f3, (rd_T44 y160 x5_1).f4, (rd_T44 y160 x5_1).f5, wrap64 ((wrap64 ((wrap64 ((wrap64 ((wrap64 ((wrap64 (x1_1 + 1)) + 1)) + 1)) + 1)) + 1)) + 1), (rd_T44 y160 x5_1).f7⟩ : S44) : List (S44))).bind fun yq => ((laws_markInt64S.f k1 ((rd_T44 yq x5_1).f7) (wrap64 ((wrap64 ((wrap64 ((wrap64 ((wrap64 ((wrap64 ((wrap64 (x1_1 + 1)) + 1)) + 1)) + 1)) + 1)) + 1)) + 1))).bind fun bq => (laws_markMessageS.l0 k1 (yq.set (x5_1 : Int).toNat (⟨(rd_T44 yq x5_1).f0, (rd_T44 yq x5_1).f1, (rd_T44 yq x5_1).f2, (rd_T44 yq x5_1).f3, (rd_T44 yq x5_1).f4, (rd_T44 yq x5_1).f5, (rd_T44 yq x5_1).f6, bq.2⟩ : S44)) bq.1 (wrap64 (x5_1 + 1)))))))) = some (r1, r2) := H
     have A8 := Aside0.mk A80
     clear A80
     obtain ⟨y158, hy158⟩ : ∃ y_ : List (S44), y_ = (y156.set (x5_1 : Int).toNat (⟨(rd_T44 y156 x5_1).f0, (rd_T44 y156 x5_1).f1, (rd_T44 y156 x5_1).f2, t157, (rd_T44 y156 x5_1).f4, (rd_T44 y156 x5_1).f5, (rd_T44 y156 x5_1).f6, (rd_T44 y156 x5_1).f7⟩ : S44)) := ⟨_, rfl⟩
     replace H : ((some (y158.set (x5_1 : Int).toNat (⟨(rd_T44 y158 x5_1).f0, (rd_T44 y158 x5_1).f1, (rd_T44 y158 x5_1).f2, (rd_T44 y158 x5_1).f3, wrap64 ((wrap64 ((wrap64 ((wrap64 (x1_1 + 1)) + 1)) + 1)) + 1), (rd_T44 y158 x5_1).f5, (rd_T44 y158 x5_1).f6, (rd_T44 y158 x5_1).f7⟩ : S44) : List (S44))).bind fun y159 => ((some (y159.set (x5_1 : Int).toNat (⟨(rd_T44 y159 x5_1).f0, (rd_T44 y159 x5_1).f1, (rd_T44 y159 x5_1).f2, (rd_T44 y159 x5_1).f3, (rd_T44 y159 x5_1).f4, ((Int.tmod (wrap64 ((wrap64 ((wrap64 ((wrap64 ((wrap64 (x1_1 + 1)) + 1)) + 1)) + 1)) + 1)) 3) == 0), (rd_T44 y159 x5_1).f6, (rd_T44 y159 x5_1).f7⟩ : S44) : List (S44))).bind fun y160 => ((some (y160.set (x5_1 : Int).toNat (⟨(rd_T44 y160 x5_1).f0, (rd_T44 y160 x5_1).f1, (rd_T44 y160 x5_1).f2, (rd_T44 y160 x5_1).f3, (rd_T44 y160 x5_1).f4, (rd_T44 y160 x5_1).f5, wrap64 ((wrap64 ((wrap64 ((wrap64 ((wrap64 ((wrap64 (x1_1 + 1)) + 1)) + 1)) + 1)) + 1)) + 1), (rd_T44 y160 x5_1).f7⟩ : S44) : List (S44))).bind fun yq => ((laws_markInt64S.f k1 ((rd_T44 yq x5_1).f7) (wrap64 ((wrap64 ((wrap64 ((wrap64 ((wrap64 ((wrap64 ((wrap64 (x1_1 + 1)) + 1)) + 1)) + 1)) + 1)) + 1)) + 1))).bind fun bq => (laws_markMessageS.l0 k1 (yq.set (x5_1 : Int).toNat (⟨(rd_T44 yq x5_1).f0, (rd_T44 yq x5_1).f1, (rd_T44 yq x5_1).f2, (rd_T44 yq x5_1).f3, (rd_T44 yq x5_1).f4, (rd_T44 yq x5_1).f5, (rd_T44 yq x5_1).f6, bq.2⟩ : S44)) bq.1 (wrap64 (x5_1 + 1))))))) = some (r1, r2) := by first | (rw [hy158]; with_reducible exact H) | (have H2_ := (Option.bind_some _ _).symm.trans H; rw [hy158]; with_reducible exact H2_) | (have H2_ := (Option.bind_some _ _).symm.trans H; with_reducible exact H2_) | with_reducible exact H | (rw [hy158]; exact H) | exact H
     have Ny158 := Aside0.mk hy158
     clear hy158
     obtain ⟨y159, hy159⟩ : ∃ y_ : List (S44), y_ = (y158.set (x5_1 : Int).toNat (⟨(rd_T44 y158 x5_1).f0, (rd_T44 y158 x5_1).f1, (rd_T44 y158 x5_1).f2, (rd_T44 y158 x5_1).f3, wrap64 ((wrap64 ((wrap64 ((wrap64 (x1_1 + 1)) + 1)) + 1)) + 1), (rd_T44 y158 x5_1).f5, (rd_T44 y158 x5_1).f6, (rd_T44 y158 x5_1).f7⟩ : S44)) := ⟨_, rfl⟩
     replace H : ((some (y159.set (x5_1 : Int).toNat (⟨(rd_T44 y159 x5_1).f0, (rd_T44 y159 x5_1).f1, (rd_T44 y159 x5_1).f2, (rd_T44 y159 x5_1).f3, (rd_T44 y159 x5_1).f4, ((Int.tmod (wrap64 ((wrap64 ((wrap64 ((wrap64 ((wrap64 (x1_1 + 1)) + 1)) + 1)) + 1)) + 1)) 3) == 0), (rd_T44 y159 x5_1).f6, (rd_T44 y159 x5_1).f7⟩ : S44) : List (S44))).bind fun y160 => ((some (y160.set (x5_1 : Int).toNat (⟨(rd_T44 y160 x5_1).f0, (rd_T44 y160 x5_1).f1, (rd_T44 y160 x5_1).f2, (rd_T44 y160 x5_1).f3, (rd_T44 y160 x5_1).f4, (rd_T44 y160 x5_1).f5, wrap64 ((wrap64 ((wrap64 ((wrap64 ((wrap64 ((wrap64 (x1_1 + 1)) + 1)) + 1)) + 1)) + 1)) + 1), (rd_T44 y160 x5_1).f7⟩ : S44) : List (S44))).bind fun yq => ((laws_markInt64S.f k1 ((rd_T44 yq x5_1).f7) (wrap64 ((wrap64 ((wrap64 ((wrap64 ((wrap64 ((wrap64 ((wrap64 (x1_1 + 1)) + 1)) + 1)) + 1)) + 1)) + 1)) + 1))).bind fun bq => (laws_markMessageS.l0 k1 (yq.set (x5_1 : Int).toNat (⟨(rd_T44 yq x5_1).f0, (rd_T44 yq x5_1).f1, (rd_T44 yq x5_1).f2, (rd_T44 yq x5_1).f3, (rd_T44 yq x5_1).f4, (rd_T44 yq x5_1).f5, (rd_T44 yq x5_1).f6, bq.2⟩ : S44)) bq.1 (wrap64 (x5_1 + 1)))))) = some (r1, r2) := by first | (rw [hy159]; with_reducible exact H) | (have H2_ := (Option.bind_some _ _).symm.trans H; rw [hy159]; with_reducible exact H2_) | (have H2_ := (Option.bind_some _ _).symm.trans H; with_reducible exact H2_) | with_reducible exact H | (rw [hy159]; exact H) | exact H
     have Ny159 := Aside0.mk hy159
     clear hy159
     obtain ⟨y160, hy160⟩ : ∃ y_ : List (S44), y_ = (y159.set (x5_1 : Int).toNat (⟨(rd_T44 y159 x5_1).f0, (rd_T44 y159 x5_1).f1, (rd_T44 y159 x5_1).f2, (rd_T44 y159 x5_1).f3, (rd_T44 y159 x5_1).f4, ((Int.tmod (wrap64 ((wrap64 ((wrap64 ((wrap64 ((wrap64 (x1_1 + 1)) + 1)) + 1)) + 1)) + 1)) 3) == 0), (rd_T44 y159 x5_1).f6, (rd_T44 y159 x5_1).f7⟩ : S44)) := ⟨_, rfl⟩
     replace H : ((some (y160.set (x5_1 : Int).toNat (⟨(rd_T44 y160 x5_1).f0, (rd_T44 y160 x5_1).f1, (rd_T44 y160 x5_1).f2, (rd_T44 y160 x5_1).f3, (rd_T44 y160 x5_1).f4, (rd_T44 y160 x5_1).f5, wrap64 ((wrap64 ((wrap64 ((wrap64 ((wrap64 ((wrap64 (x1_1 + 1)) + 1)) + 1)) + 1)) + 1)) + 1), (rd_T44 y160 x5_1).f7⟩ : S44) : List (S44))).bind fun yq => ((laws_markInt64S.f k1 ((rd_T44 yq x5_1).f7) (wrap64 ((wrap64 ((wrap64 ((wrap64 ((wrap64 ((wrap64 ((wrap64 (x1_1 + 1)) + 1)) + 1)) + 1)) + 1)) + 1)) + 1))).bind fun bq => (laws_markMessageS.l0 k1 (yq.set (x5_1 : Int).toNat (⟨(rd_T44 yq x5_1).f0, (rd_T44 yq x5_1).f1, (rd_T44 yq x5_1).f2, (rd_T44 yq x5_1).f3, (rd_T44 yq x5_1).f4, (rd_T44 yq x5_1).f5, (rd_T44 yq x5_1).f6, bq.2⟩ : S44)) bq.1 (wrap64 (x5_1 + 1))))) = some (r1, r2) := by first | (rw [hy160]; with_reducible exact H) | (have H2_ := (Option.bind_some _ _).symm.trans H; rw [hy160]; with_reducible exact H2_) | (have H2_ := (Option.bind_some _ _).symm.trans H; with_reducible exact H2_) | with_reducible exact H | (rw [hy160]; exact H) | exact H
     have Ny160 := Aside0.mk hy160
     clear hy160
     obtain ⟨y161, hy161⟩ : ∃ y_ : List (S44), y_ = (y160.set (x5_1 : Int).toNat (⟨(rd_T44 y160 x5_1).f0, (rd_T44 y160 x5_1).f1, (rd_T44 y160 x5_1).f2, (rd_T44 y160 x5_1).f3, (rd_T44 y160 x5_1).f4, (rd_T44 y160 x5_1).f5, wrap64 ((wrap64 ((wrap64 ((wrap64 ((wrap64 ((wrap64 (x1_1 + 1)) + 1)) + 1)) + 1)) + 1)) + 1), (rd_T44 y160 x5_1).f7⟩ : S44)) := ⟨_, rfl⟩
     replace H : ((laws_markInt64S.f k1 ((rd_T44 y161 x5_1).f7) (wrap64 ((wrap64 ((wrap64 ((wrap64 ((wrap64 ((wrap64 ((wrap64 (x1_1 + 1)) + 1)) + 1)) + 1)) + 1)) + 1)) + 1))).bind fun bq => (laws_markMessageS.l0 k1 (y161.set (x5_1 : Int).toNat (⟨(rd_T44 y161 x5_1).f0, (rd_T44 y161 x5_1).f1, (rd_T44 y161 x5_1).f2, (rd_T44 y161 x5_1).f3, (rd_T44 y161 x5_1).f4, (rd_T44 y161 x5_1).f5, (rd_T44 y161 x5_1).f6, bq.2⟩ : S44)) bq.1 (wrap64 (x5_1 + 1)))) = some (r1, r2) := by first | (rw [hy161]; with_reducible exact H) | (have H2_ := (Option.bind_some _ _).symm.trans H; rw [hy161]; with_reducible exact H2_) | (have H2_ := (Option.bind_some _ _).symm.trans H; with_reducible exact H2_) | with_reducible exact H | (rw [hy161]; exact H) | exact H
     have Ny161 := Aside0.mk hy161
     clear hy161
     replace H := Option.bind_eq_some_iff.mp H
     obtain ⟨btq, A990, H⟩ := H
     replace H : (laws_markMessageS.l0 k1 (y161.set (x5_1 : Int).toNat (⟨(rd_T44 y161 x5_1).f0, (rd_T44 y161 x5_1).f1, (rd_T44 y161 x5_1).f2, (rd_T44 y161 x5_1).f3, (rd_T44 y161 x5_1).f4, (rd_T44 y161 x5_1).f5, (rd_T44 y161 x5_1).f6, btq.2⟩ : S44)) btq.1 (wrap64 (x5_1 + 1))) = some (r1, r2) := H
     have A99 := Aside0.mk A990
     clear A990
     obtain ⟨yqq, hyqq⟩ : ∃ y_ : List (S44), y_ = (y161.set (x5_1 : Int).toNat (⟨(rd_T44 y161 x5_1).f0, (rd_T44 y161 x5_1).f1, (rd_T44 y161 x5_1).f2, (rd_T44 y161 x5_1).f3, (rd_T44 y161 x5_1).f4, (rd_T44 y161 x5_1).f5, (rd_T44 y161 x5_1).f6, btq.2⟩ : S44)) := ⟨_, rfl⟩
     replace H : (laws_markMessageS.l0 k1 yqq btq.1 (wrap64 (x5_1 + 1))) = some (r1, r2) := by rw [hyqq]; exact H
     have Nyqq := Aside0.mk hyqq
     clear hyqq
     have H' := Aside0.mk H
     clear H
     obtain ⟨Ao13, co13, eo13⟩ := Kd.S_slice HO_0.out
     subst eo13
     have p5 : 0 ≤ (x5_1 : Int) := of_decide_eq_true (by first | (with_reducible assumption) | assumption)
     have q5 : (x5_1 : Int) < ((x0_1.length : Int) : Int) := of_decide_eq_true (by first | (with_reducible assumption) | assumption)
     obtain ⟨go5, co5, eo5, gb5, gl5, cl5, HG5⟩ := Kd.S_form HO_0.out (by omega)
     (first | cases eo5 | (injection eo5 with ea_ en_ ec_; (first | subst ea_ | (injection ea_ with ea_; subst ea_)); subst ec_; clear en_))
     have GB5 := Aside0.mk gb5
     have GG5 := Aside0.mk HG5
     clear gb5 gl5 HG5
     have HMgo5 := Aside0.mk (show (P0_ go5 ∨ w.heap.size ≤ go5) from ((Kd.S_R HO_0.out).1 _ rfl))
     obtain ⟨_, ce5, hcl5, hM5, hcc5, hfr5, _, _⟩ := Kd.S_elem HO_0.out z44 (x5_1 : Int) p5 q5
     obtain ⟨ve5_7, rfl, ge5_7⟩ := k44_openM hM5
     have hx5_0 : wr.cell? ⟨go5, (x5_1 : Int).toNat * 8, none⟩ = some (.int .i64 ((rd_T44 x0_1 x5_1).f0)) := hcc5 0 _ rfl
     have hx5_1 : wr.cell? ⟨go5, (x5_1 : Int).toNat * 8 + 1, none⟩ = some (.int .i64 ((rd_T44 x0_1 x5_1).f1)) := hcc5 1 _ rfl
     have hx5_2 : wr.cell? ⟨go5, (x5_1 : Int).toNat * 8 + 2, none⟩ = some (.int .i64 ((rd_T44 x0_1 x5_1).f2)) := hcc5 2 _ rfl
     have hx5_3 : wr.cell? ⟨go5, (x5_1 : Int).toNat * 8 + 3, none⟩ = some (.string ((rd_T44 x0_1 x5_1).f3)) := hcc5 3 _ rfl
     have hx5_4 : wr.cell? ⟨go5, (x5_1 : Int).toNat * 8 + 4, none⟩ = some (.int .i64 ((rd_T44 x0_1 x5_1).f4)) := hcc5 4 _ rfl
     have hx5_5 : wr.cell? ⟨go5, (x5_1 : Int).toNat * 8 + 5, none⟩ = some (.bool ((rd_T44 x0_1 x5_1).f5)) := hcc5 5 _ rfl
     have hx5_6 : wr.cell? ⟨go5, (x5_1 : Int).toNat * 8 + 6, none⟩ = some (.int .i64 ((rd_T44 x0_1 x5_1).f6)) := hcc5 6 _ rfl
     have hx5_7 : wr.cell? ⟨go5, (x5_1 : Int).toNat * 8 + 7, none⟩ = some (ve5_7) := hcc5 7 _ rfl
     have hf5_0 : wr.frozen? ⟨go5, (x5_1 : Int).toNat * 8, none⟩ = false := hfr5 0
     have hf5_1 : wr.frozen? ⟨go5, (x5_1 : Int).toNat * 8 + 1, none⟩ = false := hfr5 1
     have hf5_2 : wr.frozen? ⟨go5, (x5_1 : Int).toNat * 8 + 2, none⟩ = false := hfr5 2
     have hf5_3 : wr.frozen? ⟨go5, (x5_1 : Int).toNat * 8 + 3, none⟩ = false := hfr5 3
     have hf5_4 : wr.frozen? ⟨go5, (x5_1 : Int).toNat * 8 + 4, none⟩ = false := hfr5 4
     have hf5_5 : wr.frozen? ⟨go5, (x5_1 : Int).toNat * 8 + 5, none⟩ = false := hfr5 5
     have hf5_6 : wr.frozen? ⟨go5, (x5_1 : Int).toNat * 8 + 6, none⟩ = false := hfr5 6
     have hf5_7 : wr.frozen? ⟨go5, (x5_1 : Int).toNat * 8 + 7, none⟩ = false := hfr5 7
     clear hcl5 hcc5 hfr5 hM5
     replace p5 := eq_true p5
     replace q5 := eq_true q5
     have HX14 := Aside0.mk (show Kd.S k44 44 wr w0.heap.size (fun k_ => ((fun k_ => (P0_ k_ ∨ w.heap.size ≤ k_))) k_ ∧ ¬ ((fun _ => False)) k_) (.slice (some ⟨go5, 0, none⟩) x0_1.length co13) x0_1 from (by (with_reducible repeat (first | apply Kd.S_alloc | apply Kd.S_drewN | apply Kd.S_drew)); exact Kd.S_mono HO_0.out (fun k_ hk => ⟨hk, fun e_ => e_⟩)))
     obtain ⟨oki14, ce14, hcl14, hM14, hcc14, hfr14, hoki14, hH14⟩ := Kd.S_elem HX14.out z44 (x5_1 : Int) (of_decide_eq_true (by first | (with_reducible assumption) | assumption)) (by have h_ : (x5_1 : Int) < ((x0_1.length : Int) : Int) := of_decide_eq_true (by first | (with_reducible assumption) | assumption); first | exact h_ | (have e_ := (Kd.S_reads' HO_0.out).1; omega) | simpa using h_)
     obtain ⟨ve14_7, rfl, ge14_7⟩ := k44_openM hM14
     have HP14 := Kd.S_seg hH14 (of_decide_eq_true (by first | (with_reducible assumption) | assumption)) (by have h_ : (x5_1 : Int) < ((x0_1.length : Int) : Int) := of_decide_eq_true (by first | (with_reducible assumption) | assumption); first | exact h_ | (have e_ := (Kd.S_reads' HO_0.out).1; omega) | simpa using h_) (seg := [.int .i64 x1_1]) (j := 0) (show 1 ≤ 8 from by decide) (x' := (⟨x1_1, (rd_T44 x0_1 x5_1).f1, (rd_T44 x0_1 x5_1).f2, (rd_T44 x0_1 x5_1).f3, (rd_T44 x0_1 x5_1).f4, (rd_T44 x0_1 x5_1).f5, (rd_T44 x0_1 x5_1).f6, (rd_T44 x0_1 x5_1).f7⟩ : S44)) (k44_mkM _ _ _ (⟨x1_1, (rd_T44 x0_1 x5_1).f1, (rd_T44 x0_1 x5_1).f2, (rd_T44 x0_1 x5_1).f3, (rd_T44 x0_1 x5_1).f4, (rd_T44 x0_1 x5_1).f5, (rd_T44 x0_1 x5_1).f6, (rd_T44 x0_1 x5_1).f7⟩ : S44) (Kd.R_mono ge14_7 (fun _ h_ => Or.inl h_))) (fun _ hk => hk) (fun k_ hk_ => hk_.elim)
     have hx14_0 := hcc14 0 _ rfl
     (try simp only [show (k44).sz = 8 from rfl, Nat.mul_one, Nat.add_zero] at hx14_0)
     have hf14_0 := hfr14 0
     (try simp only [show (k44).sz = 8 from rfl, Nat.mul_one, Nat.add_zero] at hf14_0)
     clear hcl14 hcc14 hfr14 hM14 hoki14 hH14
     go_wp2_with (first | ((with_reducible refine gate_store (t := 2) (p := 16) rfl ?_); refine store_event (t := 2) (p := 16) (v := ?vo_w15) (w1 := (wr.setCell ⟨go5, (x5_1 : Int).toNat * 8, none⟩ (.int .i64 x1_1))) ?hg ?ho ?hn ?hr ?_; (case ho => rfl); (case hg => rfl); (case hn => rfl); (case hr => first | (go_simp; done) | (go_simp; rfl)); intro w15 hw; have hg : wr.grownBy w15 (some go5) := (by rw [hw]; exact HP14.2); have hp_ : Kd.S k44 44 w15 w0.heap.size (fun k_ => (P0_ k_ ∨ w.heap.size ≤ k_)) (.slice (some ⟨go5, 0, none⟩) x0_1.length co13) y154 := (by rw [hw, Ny154.out]; exact HP14.1); clear HP14; have n0_ := Aside0.mk (hp_); have n1_ := Aside0.mk ((by rw [hw]; exact below_set (HB.out) GB5.out : Below w0.heap.size w0 w15)); have n2_ := Aside0.mk (Kept.of_grown (S := (fun k_ => P0_ k_)) hg (by repeat (first | (with_reducible first | exact HK.out | apply Kept.alloc | apply Kept.drewN | apply Kept.drew) | exact HK.out)) (fun k_ e_ => ((Kd.S_R HO_0.out).1 k_ e_))); clear HO_0; clear HB; clear HK; have HO_0 := n0_; have HB := n1_; have HK := n2_; clear n0_ n1_ n2_; clear hg hw hp_; have p6 : 0 ≤ (x5_1 : Int) := of_decide_eq_true (by first | (with_reducible assumption) | assumption); have q6 : (x5_1 : Int) < ((x0_1.length : Int) : Int) := of_decide_eq_true (by first | (with_reducible assumption) | assumption); obtain ⟨_, ce6, hcl6, hM6, hcc6, hfr6, _, _⟩ := Kd.S_elem HO_0.out z44 (x5_1 : Int) p6 q6; obtain ⟨ve6_7, rfl, ge6_7⟩ := k44_openM hM6; have hx6_0 : w15.cell? ⟨go5, (x5_1 : Int).toNat * 8, none⟩ = some (.int .i64 ((rd_T44 y154 x5_1).f0)) := hcc6 0 _ rfl; have hx6_1 : w15.cell? ⟨go5, (x5_1 : Int).toNat * 8 + 1, none⟩ = some (.int .i64 ((rd_T44 y154 x5_1).f1)) := hcc6 1 _ rfl; have hx6_2 : w15.cell? ⟨go5, (x5_1 : Int).toNat * 8 + 2, none⟩ = some (.int .i64 ((rd_T44 y154 x5_1).f2)) := hcc6 2 _ rfl; have hx6_3 : w15.cell? ⟨go5, (x5_1 : Int).toNat * 8 + 3, none⟩ = some (.string ((rd_T44 y154 x5_1).f3)) := hcc6 3 _ rfl; have hx6_4 : w15.cell? ⟨go5, (x5_1 : Int).toNat * 8 + 4, none⟩ = some (.int .i64 ((rd_T44 y154 x5_1).f4)) := hcc6 4 _ rfl; have hx6_5 : w15.cell? ⟨go5, (x5_1 : Int).toNat * 8 + 5, none⟩ = some (.bool ((rd_T44 y154 x5_1).f5)) := hcc6 5 _ rfl; have hx6_6 : w15.cell? ⟨go5, (x5_1 : Int).toNat * 8 + 6, none⟩ = some (.int .i64 ((rd_T44 y154 x5_1).f6)) := hcc6 6 _ rfl; have hx6_7 : w15.cell? ⟨go5, (x5_1 : Int).toNat * 8 + 7, none⟩ = some (ve6_7) := hcc6 7 _ rfl; have hf6_0 : w15.frozen? ⟨go5, (x5_1 : Int).toNat * 8, none⟩ = false := hfr6 0; have hf6_1 : w15.frozen? ⟨go5, (x5_1 : Int).toNat * 8 + 1, none⟩ = false := hfr6 1; have hf6_2 : w15.frozen? ⟨go5, (x5_1 : Int).toNat * 8 + 2, none⟩ = false := hfr6 2; have hf6_3 : w15.frozen? ⟨go5, (x5_1 : Int).toNat * 8 + 3, none⟩ = false := hfr6 3; have hf6_4 : w15.frozen? ⟨go5, (x5_1 : Int).toNat * 8 + 4, none⟩ = false := hfr6 4; have hf6_5 : w15.frozen? ⟨go5, (x5_1 : Int).toNat * 8 + 5, none⟩ = false := hfr6 5; have hf6_6 : w15.frozen? ⟨go5, (x5_1 : Int).toNat * 8 + 6, none⟩ = false := hfr6 6; have hf6_7 : w15.frozen? ⟨go5, (x5_1 : Int).toNat * 8 + 7, none⟩ = false := hfr6 7; clear hcl6 hcc6 hfr6 hM6; replace p6 := eq_true p6; replace q6 := eq_true q6; have HX16 := Aside0.mk (show Kd.S k44 44 w15 w0.heap.size (fun k_ => ((fun k_ => (P0_ k_ ∨ w.heap.size ≤ k_))) k_ ∧ ¬ ((fun _ => False)) k_) (.slice (some ⟨go5, 0, none⟩) x0_1.length co13) y154 from (by (with_reducible repeat (first | apply Kd.S_alloc | apply Kd.S_drewN | apply Kd.S_drew)); exact Kd.S_mono HO_0.out (fun k_ hk => ⟨hk, fun e_ => e_⟩))); obtain ⟨oki16, ce16, hcl16, hM16, hcc16, hfr16, hoki16, hH16⟩ := Kd.S_elem HX16.out z44 (x5_1 : Int) (of_decide_eq_true (by first | (with_reducible assumption) | assumption)) (by have h_ : (x5_1 : Int) < ((x0_1.length : Int) : Int) := of_decide_eq_true (by first | (with_reducible assumption) | assumption); first | exact h_ | (have e_ := (Kd.S_reads' HO_0.out).1; omega) | simpa using h_); obtain ⟨ve16_7, rfl, ge16_7⟩ := k44_openM hM16; have HP16 := Kd.S_seg hH16 (of_decide_eq_true (by first | (with_reducible assumption) | assumption)) (by have h_ : (x5_1 : Int) < ((x0_1.length : Int) : Int) := of_decide_eq_true (by first | (with_reducible assumption) | assumption); first | exact h_ | (have e_ := (Kd.S_reads' HO_0.out).1; omega) | simpa using h_) (seg := [.int .i64 (wrap64 (x1_1 + 1))]) (j := 1) (show 2 ≤ 8 from by decide) (x' := (⟨(rd_T44 y154 x5_1).f0, wrap64 (x1_1 + 1), (rd_T44 y154 x5_1).f2, (rd_T44 y154 x5_1).f3, (rd_T44 y154 x5_1).f4, (rd_T44 y154 x5_1).f5, (rd_T44 y154 x5_1).f6, (rd_T44 y154 x5_1).f7⟩ : S44)) (k44_mkM _ _ _ (⟨(rd_T44 y154 x5_1).f0, wrap64 (x1_1 + 1), (rd_T44 y154 x5_1).f2, (rd_T44 y154 x5_1).f3, (rd_T44 y154 x5_1).f4, (rd_T44 y154 x5_1).f5, (rd_T44 y154 x5_1).f6, (rd_T44 y154 x5_1).f7⟩ : S44) (Kd.R_mono ge16_7 (fun _ h_ => Or.inl h_))) (fun _ hk => hk) (fun k_ hk_ => hk_.elim); have hx16_1 := hcc16 1 _ rfl; (try simp only [show (k44).sz = 8 from rfl, Nat.mul_one, Nat.add_zero] at hx16_1); have hf16_1 := hfr16 1; (try simp only [show (k44).sz = 8 from rfl, Nat.mul_one, Nat.add_zero] at hf16_1); clear hcl16 hcc16 hfr16 hM16 hoki16 hH16) | ((with_reducible refine gate_store (t := 2) (p := 23) rfl ?_); refine store_event (t := 2) (p := 23) (v := ?vo_w17) (w1 := (w15.setCell ⟨go5, (x5_1 : Int).toNat * 8 + 1, none⟩ (.int .i64 (wrap64 (x1_1 + 1))))) ?hg ?ho ?hn ?hr ?_; (case ho => rfl); (case hg => rfl); (case hn => rfl); (case hr => first | (go_simp; done) | (go_simp; rfl)); intro w17 hw; have hg : w15.grownBy w17 (some go5) := (by rw [hw]; exact HP16.2); have hp_ : Kd.S k44 44 w17 w0.heap.size (fun k_ => (P0_ k_ ∨ w.heap.size ≤ k_)) (.slice (some ⟨go5, 0, none⟩) x0_1.length co13) y155 := (by rw [hw, Ny155.out]; exact HP16.1); clear HP16; have n0_ := Aside0.mk (hp_); have n1_ := Aside0.mk ((by rw [hw]; exact below_set (HB.out) GB5.out : Below w0.heap.size w0 w17)); have n2_ := Aside0.mk (Kept.of_grown (S := (fun k_ => P0_ k_)) hg (by repeat (first | (with_reducible first | exact HK.out | apply Kept.alloc | apply Kept.drewN | apply Kept.drew) | exact HK.out)) (fun k_ e_ => ((Kd.S_R HO_0.out).1 k_ e_))); clear HO_0; clear HB; clear HK; have HO_0 := n0_; have HB := n1_; have HK := n2_; clear n0_ n1_ n2_; clear hg hw hp_; have p7 : 0 ≤ (x5_1 : Int) := of_decide_eq_true (by first | (with_reducible assumption) | assumption); have q7 : (x5_1 : Int) < ((x0_1.length : Int) : Int) := of_decide_eq_true (by first | (with_reducible assumption) | assumption); obtain ⟨_, ce7, hcl7, hM7, hcc7, hfr7, _, _⟩ := Kd.S_elem HO_0.out z44 (x5_1 : Int) p7 q7; obtain ⟨ve7_7, rfl, ge7_7⟩ := k44_openM hM7; have hx7_0 : w17.cell? ⟨go5, (x5_1 : Int).toNat * 8, none⟩ = some (.int .i64 ((rd_T44 y155 x5_1).f0)) := hcc7 0 _ rfl; have hx7_1 : w17.cell? ⟨go5, (x5_1 : Int).toNat * 8 + 1, none⟩ = some (.int .i64 ((rd_T44 y155 x5_1).f1)) := hcc7 1 _ rfl; have hx7_2 : w17.cell? ⟨go5, (x5_1 : Int).toNat * 8 + 2, none⟩ = some (.int .i64 ((rd_T44 y155 x5_1).f2)) := hcc7 2 _ rfl; have hx7_3 : w17.cell? ⟨go5, (x5_1 : Int).toNat * 8 + 3, none⟩ = some (.string ((rd_T44 y155 x5_1).f3)) := hcc7 3 _ rfl; have hx7_4 : w17.cell? ⟨go5, (x5_1 : Int).toNat * 8 + 4, none⟩ = some (.int .i64 ((rd_T44 y155 x5_1).f4)) := hcc7 4 _ rfl; have hx7_5 : w17.cell? ⟨go5, (x5_1 : Int).toNat * 8 + 5, none⟩ = some (.bool ((rd_T44 y155 x5_1).f5)) := hcc7 5 _ rfl; have hx7_6 : w17.cell? ⟨go5, (x5_1 : Int).toNat * 8 + 6, none⟩ = some (.int .i64 ((rd_T44 y155 x5_1).f6)) := hcc7 6 _ rfl; have hx7_7 : w17.cell? ⟨go5, (x5_1 : Int).toNat * 8 + 7, none⟩ = some (ve7_7) := hcc7 7 _ rfl; have hf7_0 : w17.frozen? ⟨go5, (x5_1 : Int).toNat * 8, none⟩ = false := hfr7 0; have hf7_1 : w17.frozen? ⟨go5, (x5_1 : Int).toNat * 8 + 1, none⟩ = false := hfr7 1; have hf7_2 : w17.frozen? ⟨go5, (x5_1 : Int).toNat * 8 + 2, none⟩ = false := hfr7 2; have hf7_3 : w17.frozen? ⟨go5, (x5_1 : Int).toNat * 8 + 3, none⟩ = false := hfr7 3; have hf7_4 : w17.frozen? ⟨go5, (x5_1 : Int).toNat * 8 + 4, none⟩ = false := hfr7 4; have hf7_5 : w17.frozen? ⟨go5, (x5_1 : Int).toNat * 8 + 5, none⟩ = false := hfr7 5; have hf7_6 : w17.frozen? ⟨go5, (x5_1 : Int).toNat * 8 + 6, none⟩ = false := hfr7 6; have hf7_7 : w17.frozen? ⟨go5, (x5_1 : Int).toNat * 8 + 7, none⟩ = false := hfr7 7; clear hcl7 hcc7 hfr7 hM7; replace p7 := eq_true p7; replace q7 := eq_true q7; have HX18 := Aside0.mk (show Kd.S k44 44 w17 w0.heap.size (fun k_ => ((fun k_ => (P0_ k_ ∨ w.heap.size ≤ k_))) k_ ∧ ¬ ((fun _ => False)) k_) (.slice (some ⟨go5, 0, none⟩) x0_1.length co13) y155 from (by (with_reducible repeat (first | apply Kd.S_alloc | apply Kd.S_drewN | apply Kd.S_drew)); exact Kd.S_mono HO_0.out (fun k_ hk => ⟨hk, fun e_ => e_⟩))); obtain ⟨oki18, ce18, hcl18, hM18, hcc18, hfr18, hoki18, hH18⟩ := Kd.S_elem HX18.out z44 (x5_1 : Int) (of_decide_eq_true (by first | (with_reducible assumption) | assumption)) (by have h_ : (x5_1 : Int) < ((x0_1.length : Int) : Int) := of_decide_eq_true (by first | (with_reducible assumption) | assumption); first | exact h_ | (have e_ := (Kd.S_reads' HO_0.out).1; omega) | simpa using h_); obtain ⟨ve18_7, rfl, ge18_7⟩ := k44_openM hM18; have HP18 := Kd.S_seg hH18 (of_decide_eq_true (by first | (with_reducible assumption) | assumption)) (by have h_ : (x5_1 : Int) < ((x0_1.length : Int) : Int) := of_decide_eq_true (by first | (with_reducible assumption) | assumption); first | exact h_ | (have e_ := (Kd.S_reads' HO_0.out).1; omega) | simpa using h_) (seg := [.int .i64 (wrap64 ((wrap64 (x1_1 + 1)) + 1))]) (j := 2) (show 3 ≤ 8 from by decide) (x' := (⟨(rd_T44 y155 x5_1).f0, (rd_T44 y155 x5_1).f1, wrap64 ((wrap64 (x1_1 + 1)) + 1), (rd_T44 y155 x5_1).f3, (rd_T44 y155 x5_1).f4, (rd_T44 y155 x5_1).f5, (rd_T44 y155 x5_1).f6, (rd_T44 y155 x5_1).f7⟩ : S44)) (k44_mkM _ _ _ (⟨(rd_T44 y155 x5_1).f0, (rd_T44 y155 x5_1).f1, wrap64 ((wrap64 (x1_1 + 1)) + 1), (rd_T44 y155 x5_1).f3, (rd_T44 y155 x5_1).f4, (rd_T44 y155 x5_1).f5, (rd_T44 y155 x5_1).f6, (rd_T44 y155 x5_1).f7⟩ : S44) (Kd.R_mono ge18_7 (fun _ h_ => Or.inl h_))) (fun _ hk => hk) (fun k_ hk_ => hk_.elim); have hx18_2 := hcc18 2 _ rfl; (try simp only [show (k44).sz = 8 from rfl, Nat.mul_one, Nat.add_zero] at hx18_2); have hf18_2 := hfr18 2; (try simp only [show (k44).sz = 8 from rfl, Nat.mul_one, Nat.add_zero] at hf18_2); clear hcl18 hcc18 hfr18 hM18 hoki18 hH18) | ((with_reducible refine gate_store (t := 2) (p := 30) rfl ?_); refine store_event (t := 2) (p := 30) (v := ?vo_w19) (w1 := (w17.setCell ⟨go5, (x5_1 : Int).toNat * 8 + 2, none⟩ (.int .i64 (wrap64 ((wrap64 (x1_1 + 1)) + 1))))) ?hg ?ho ?hn ?hr ?_; (case ho => rfl); (case hg => rfl); (case hn => rfl); (case hr => first | (go_simp; done) | (go_simp; rfl)); intro w19 hw; have hg : w17.grownBy w19 (some go5) := (by rw [hw]; exact HP18.2); have hp_ : Kd.S k44 44 w19 w0.heap.size (fun k_ => (P0_ k_ ∨ w.heap.size ≤ k_)) (.slice (some ⟨go5, 0, none⟩) x0_1.length co13) y156 := (by rw [hw, Ny156.out]; exact HP18.1); clear HP18; have n0_ := Aside0.mk (hp_); have n1_ := Aside0.mk ((by rw [hw]; exact below_set (HB.out) GB5.out : Below w0.heap.size w0 w19)); have n2_ := Aside0.mk (Kept.of_grown (S := (fun k_ => P0_ k_)) hg (by repeat (first | (with_reducible first | exact HK.out | apply Kept.alloc | apply Kept.drewN | apply Kept.drew) | exact HK.out)) (fun k_ e_ => ((Kd.S_R HO_0.out).1 k_ e_))); clear HO_0; clear HB; clear HK; have HO_0 := n0_; have HB := n1_; have HK := n2_; clear n0_ n1_ n2_; clear hg hw hp_) | ((with_reducible refine gate_callee (f := 38) rfl ?_); refine goesL_ (some 36) rfl rfl Try.func38 (by kernel_rfl) rfl #[.int .i64 (wrap64 ((wrap64 ((wrap64 (x1_1 + 1)) + 1)) + 1))] rfl (by (try simp only [List.map_toArray, List.map_cons, List.map_nil]); first | done | rfl | (simp only [List.length_drop, List.length_take]; rfl)) ?_; (with_reducible refine (laws_markText.calls k1 (wrap64 ((wrap64 ((wrap64 (x1_1 + 1)) + 1)) + 1)) t157 _ A8.out).mono ?_); rintro e w20 ⟨rfl, hb⟩; refine ⟨_, rfl, ?_⟩; have n0_ := Aside0.mk (Kd.S_below (by (with_reducible repeat (first | apply Kd.S_alloc | apply Kd.S_drewN | apply Kd.S_drew)); exact HO_0.out) hb); have n1_ := Aside0.mk (Kept.below (S := (fun k_ => P0_ k_)) (by repeat (first | (with_reducible first | exact HK.out | apply Kept.alloc | apply Kept.drewN | apply Kept.drew) | exact HK.out)) hb); have n2_ := Aside0.mk (below_step (by repeat (first | (with_reducible first | exact HB.out | apply below_alloc | apply pw_below_drewN | apply below_drew1) | exact HB.out)) hb); clear HO_0; clear HK; clear HB; have HO_0 := n0_; have HK := n1_; have HB := n2_; clear n0_ n1_ n2_; (try clear hb); (try clear hb2); (try clear hk); (try clear hi); have p9 : 0 ≤ (x5_1 : Int) := of_decide_eq_true (by first | (with_reducible assumption) | assumption); have q9 : (x5_1 : Int) < ((x0_1.length : Int) : Int) := of_decide_eq_true (by first | (with_reducible assumption) | assumption); obtain ⟨_, ce9, hcl9, hM9, hcc9, hfr9, _, _⟩ := Kd.S_elem HO_0.out z44 (x5_1 : Int) p9 q9; obtain ⟨ve9_7, rfl, ge9_7⟩ := k44_openM hM9; have hx9_0 : w20.cell? ⟨go5, (x5_1 : Int).toNat * 8, none⟩ = some (.int .i64 ((rd_T44 y156 x5_1).f0)) := hcc9 0 _ rfl; have hx9_1 : w20.cell? ⟨go5, (x5_1 : Int).toNat * 8 + 1, none⟩ = some (.int .i64 ((rd_T44 y156 x5_1).f1)) := hcc9 1 _ rfl; have hx9_2 : w20.cell? ⟨go5, (x5_1 : Int).toNat * 8 + 2, none⟩ = some (.int .i64 ((rd_T44 y156 x5_1).f2)) := hcc9 2 _ rfl; have hx9_3 : w20.cell? ⟨go5, (x5_1 : Int).toNat * 8 + 3, none⟩ = some (.string ((rd_T44 y156 x5_1).f3)) := hcc9 3 _ rfl; have hx9_4 : w20.cell? ⟨go5, (x5_1 : Int).toNat * 8 + 4, none⟩ = some (.int .i64 ((rd_T44 y156 x5_1).f4)) := hcc9 4 _ rfl; have hx9_5 : w20.cell? ⟨go5, (x5_1 : Int).toNat * 8 + 5, none⟩ = some (.bool ((rd_T44 y156 x5_1).f5)) := hcc9 5 _ rfl; have hx9_6 : w20.cell? ⟨go5, (x5_1 : Int).toNat * 8 + 6, none⟩ = some (.int .i64 ((rd_T44 y156 x5_1).f6)) := hcc9 6 _ rfl; have hx9_7 : w20.cell? ⟨go5, (x5_1 : Int).toNat * 8 + 7, none⟩ = some (ve9_7) := hcc9 7 _ rfl; have hf9_0 : w20.frozen? ⟨go5, (x5_1 : Int).toNat * 8, none⟩ = false := hfr9 0; have hf9_1 : w20.frozen? ⟨go5, (x5_1 : Int).toNat * 8 + 1, none⟩ = false := hfr9 1; have hf9_2 : w20.frozen? ⟨go5, (x5_1 : Int).toNat * 8 + 2, none⟩ = false := hfr9 2; have hf9_3 : w20.frozen? ⟨go5, (x5_1 : Int).toNat * 8 + 3, none⟩ = false := hfr9 3; have hf9_4 : w20.frozen? ⟨go5, (x5_1 : Int).toNat * 8 + 4, none⟩ = false := hfr9 4; have hf9_5 : w20.frozen? ⟨go5, (x5_1 : Int).toNat * 8 + 5, none⟩ = false := hfr9 5; have hf9_6 : w20.frozen? ⟨go5, (x5_1 : Int).toNat * 8 + 6, none⟩ = false := hfr9 6; have hf9_7 : w20.frozen? ⟨go5, (x5_1 : Int).toNat * 8 + 7, none⟩ = false := hfr9 7; clear hcl9 hcc9 hfr9 hM9; replace p9 := eq_true p9; replace q9 := eq_true q9; have HX21 := Aside0.mk (show Kd.S k44 44 w20 w0.heap.size (fun k_ => ((fun k_ => (P0_ k_ ∨ w.heap.size ≤ k_))) k_ ∧ ¬ ((fun _ => False)) k_) (.slice (some ⟨go5, 0, none⟩) x0_1.length co13) y156 from (by (with_reducible repeat (first | apply Kd.S_alloc | apply Kd.S_drewN | apply Kd.S_drew)); exact Kd.S_mono HO_0.out (fun k_ hk => ⟨hk, fun e_ => e_⟩))); obtain ⟨oki21, ce21, hcl21, hM21, hcc21, hfr21, hoki21, hH21⟩ := Kd.S_elem HX21.out z44 (x5_1 : Int) (of_decide_eq_true (by first | (with_reducible assumption) | assumption)) (by have h_ : (x5_1 : Int) < ((x0_1.length : Int) : Int) := of_decide_eq_true (by first | (with_reducible assumption) | assumption); first | exact h_ | (have e_ := (Kd.S_reads' HO_0.out).1; omega) | simpa using h_); obtain ⟨ve21_7, rfl, ge21_7⟩ := k44_openM hM21; have HP21 := Kd.S_seg hH21 (of_decide_eq_true (by first | (with_reducible assumption) | assumption)) (by have h_ : (x5_1 : Int) < ((x0_1.length : Int) : Int) := of_decide_eq_true (by first | (with_reducible assumption) | assumption); first | exact h_ | (have e_ := (Kd.S_reads' HO_0.out).1; omega) | simpa using h_) (seg := [.string t157]) (j := 3) (show 4 ≤ 8 from by decide) (x' := (⟨(rd_T44 y156 x5_1).f0, (rd_T44 y156 x5_1).f1, (rd_T44 y156 x5_1).f2, t157, (rd_T44 y156 x5_1).f4, (rd_T44 y156 x5_1).f5, (rd_T44 y156 x5_1).f6, (rd_T44 y156 x5_1).f7⟩ : S44)) (k44_mkM _ _ _ (⟨(rd_T44 y156 x5_1).f0, (rd_T44 y156 x5_1).f1, (rd_T44 y156 x5_1).f2, t157, (rd_T44 y156 x5_1).f4, (rd_T44 y156 x5_1).f5, (rd_T44 y156 x5_1).f6, (rd_T44 y156 x5_1).f7⟩ : S44) (Kd.R_mono ge21_7 (fun _ h_ => Or.inl h_))) (fun _ hk => hk) (fun k_ hk_ => hk_.elim); have hx21_3 := hcc21 3 _ rfl; (try simp only [show (k44).sz = 8 from rfl, Nat.mul_one, Nat.add_zero] at hx21_3); have hf21_3 := hfr21 3; (try simp only [show (k44).sz = 8 from rfl, Nat.mul_one, Nat.add_zero] at hf21_3); clear hcl21 hcc21 hfr21 hM21 hoki21 hH21) | ((with_reducible refine gate_store (t := 9) (p := 38) rfl ?_); refine store_event (t := 9) (p := 38) (v := ?vo_w22) (w1 := (w20.setCell ⟨go5, (x5_1 : Int).toNat * 8 + 3, none⟩ (.string t157))) ?hg ?ho ?hn ?hr ?_; (case ho => rfl); (case hg => rfl); (case hn => rfl); (case hr => first | (go_simp; done) | (go_simp; rfl)); intro w22 hw; have hg : w20.grownBy w22 (some go5) := (by rw [hw]; exact HP21.2); have hp_ : Kd.S k44 44 w22 w0.heap.size (fun k_ => (P0_ k_ ∨ w.heap.size ≤ k_)) (.slice (some ⟨go5, 0, none⟩) x0_1.length co13) y158 := (by rw [hw, Ny158.out]; exact HP21.1); clear HP21; have n0_ := Aside0.mk (hp_); have n1_ := Aside0.mk ((by rw [hw]; exact below_set (HB.out) GB5.out : Below w0.heap.size w0 w22)); have n2_ := Aside0.mk (Kept.of_grown (S := (fun k_ => P0_ k_)) hg (by repeat (first | (with_reducible first | exact HK.out | apply Kept.alloc | apply Kept.drewN | apply Kept.drew) | exact HK.out)) (fun k_ e_ => ((Kd.S_R HO_0.out).1 k_ e_))); clear HO_0; clear HB; clear HK; have HO_0 := n0_; have HB := n1_; have HK := n2_; clear n0_ n1_ n2_; clear hg hw hp_; have p10 : 0 ≤ (x5_1 : Int) := of_decide_eq_true (by first | (with_reducible assumption) | assumption); have q10 : (x5_1 : Int) < ((x0_1.length : Int) : Int) := of_decide_eq_true (by first | (with_reducible assumption) | assumption); obtain ⟨_, ce10, hcl10, hM10, hcc10, hfr10, _, _⟩ := Kd.S_elem HO_0.out z44 (x5_1 : Int) p10 q10; obtain ⟨ve10_7, rfl, ge10_7⟩ := k44_openM hM10; have hx10_0 : w22.cell? ⟨go5, (x5_1 : Int).toNat * 8, none⟩ = some (.int .i64 ((rd_T44 y158 x5_1).f0)) := hcc10 0 _ rfl; have hx10_1 : w22.cell? ⟨go5, (x5_1 : Int).toNat * 8 + 1, none⟩ = some (.int .i64 ((rd_T44 y158 x5_1).f1)) := hcc10 1 _ rfl; have hx10_2 : w22.cell? ⟨go5, (x5_1 : Int).toNat * 8 + 2, none⟩ = some (.int .i64 ((rd_T44 y158 x5_1).f2)) := hcc10 2 _ rfl; have hx10_3 : w22.cell? ⟨go5, (x5_1 : Int).toNat * 8 + 3, none⟩ = some (.string ((rd_T44 y158 x5_1).f3)) := hcc10 3 _ rfl; have hx10_4 : w22.cell? ⟨go5, (x5_1 : Int).toNat * 8 + 4, none⟩ = some (.int .i64 ((rd_T44 y158 x5_1).f4)) := hcc10 4 _ rfl; have hx10_5 : w22.cell? ⟨go5, (x5_1 : Int).toNat * 8 + 5, none⟩ = some (.bool ((rd_T44 y158 x5_1).f5)) := hcc10 5 _ rfl; have hx10_6 : w22.cell? ⟨go5, (x5_1 : Int).toNat * 8 + 6, none⟩ = some (.int .i64 ((rd_T44 y158 x5_1).f6)) := hcc10 6 _ rfl; have hx10_7 : w22.cell? ⟨go5, (x5_1 : Int).toNat * 8 + 7, none⟩ = some (ve10_7) := hcc10 7 _ rfl; have hf10_0 : w22.frozen? ⟨go5, (x5_1 : Int).toNat * 8, none⟩ = false := hfr10 0; have hf10_1 : w22.frozen? ⟨go5, (x5_1 : Int).toNat * 8 + 1, none⟩ = false := hfr10 1; have hf10_2 : w22.frozen? ⟨go5, (x5_1 : Int).toNat * 8 + 2, none⟩ = false := hfr10 2; have hf10_3 : w22.frozen? ⟨go5, (x5_1 : Int).toNat * 8 + 3, none⟩ = false := hfr10 3; have hf10_4 : w22.frozen? ⟨go5, (x5_1 : Int).toNat * 8 + 4, none⟩ = false := hfr10 4; have hf10_5 : w22.frozen? ⟨go5, (x5_1 : Int).toNat * 8 + 5, none⟩ = false := hfr10 5; have hf10_6 : w22.frozen? ⟨go5, (x5_1 : Int).toNat * 8 + 6, none⟩ = false := hfr10 6; have hf10_7 : w22.frozen? ⟨go5, (x5_1 : Int).toNat * 8 + 7, none⟩ = false := hfr10 7; clear hcl10 hcc10 hfr10 hM10; replace p10 := eq_true p10; replace q10 := eq_true q10; have HX23 := Aside0.mk (show Kd.S k44 44 w22 w0.heap.size (fun k_ => ((fun k_ => (P0_ k_ ∨ w.heap.size ≤ k_))) k_ ∧ ¬ ((fun _ => False)) k_) (.slice (some ⟨go5, 0, none⟩) x0_1.length co13) y158 from (by (with_reducible repeat (first | apply Kd.S_alloc | apply Kd.S_drewN | apply Kd.S_drew)); exact Kd.S_mono HO_0.out (fun k_ hk => ⟨hk, fun e_ => e_⟩))); obtain ⟨oki23, ce23, hcl23, hM23, hcc23, hfr23, hoki23, hH23⟩ := Kd.S_elem HX23.out z44 (x5_1 : Int) (of_decide_eq_true (by first | (with_reducible assumption) | assumption)) (by have h_ : (x5_1 : Int) < ((x0_1.length : Int) : Int) := of_decide_eq_true (by first | (with_reducible assumption) | assumption); first | exact h_ | (have e_ := (Kd.S_reads' HO_0.out).1; omega) | simpa using h_); obtain ⟨ve23_7, rfl, ge23_7⟩ := k44_openM hM23; have HP23 := Kd.S_seg hH23 (of_decide_eq_true (by first | (with_reducible assumption) | assumption)) (by have h_ : (x5_1 : Int) < ((x0_1.length : Int) : Int) := of_decide_eq_true (by first | (with_reducible assumption) | assumption); first | exact h_ | (have e_ := (Kd.S_reads' HO_0.out).1; omega) | simpa using h_) (seg := [.int .i64 (wrap64 ((wrap64 ((wrap64 ((wrap64 (x1_1 + 1)) + 1)) + 1)) + 1))]) (j := 4) (show 5 ≤ 8 from by decide) (x' := (⟨(rd_T44 y158 x5_1).f0, (rd_T44 y158 x5_1).f1, (rd_T44 y158 x5_1).f2, (rd_T44 y158 x5_1).f3, wrap64 ((wrap64 ((wrap64 ((wrap64 (x1_1 + 1)) + 1)) + 1)) + 1), (rd_T44 y158 x5_1).f5, (rd_T44 y158 x5_1).f6, (rd_T44 y158 x5_1).f7⟩ : S44)) (k44_mkM _ _ _ (⟨(rd_T44 y158 x5_1).f0, (rd_T44 y158 x5_1).f1, (rd_T44 y158 x5_1).f2, (rd_T44 y158 x5_1).f3, wrap64 ((wrap64 ((wrap64 ((wrap64 (x1_1 + 1)) + 1)) + 1)) + 1), (rd_T44 y158 x5_1).f5, (rd_T44 y158 x5_1).f6, (rd_T44 y158 x5_1).f7⟩ : S44) (Kd.R_mono ge23_7 (fun _ h_ => Or.inl h_))) (fun _ hk => hk) (fun k_ hk_ => hk_.elim); have hx23_4 := hcc23 4 _ rfl; (try simp only [show (k44).sz = 8 from rfl, Nat.mul_one, Nat.add_zero] at hx23_4); have hf23_4 := hfr23 4; (try simp only [show (k44).sz = 8 from rfl, Nat.mul_one, Nat.add_zero] at hf23_4); clear hcl23 hcc23 hfr23 hM23 hoki23 hH23) | ((with_reducible refine gate_store (t := 2) (p := 45) rfl ?_); refine store_event (t := 2) (p := 45) (v := ?vo_w24) (w1 := (w22.setCell ⟨go5, (x5_1 : Int).toNat * 8 + 4, none⟩ (.int .i64 (wrap64 ((wrap64 ((wrap64 ((wrap64 (x1_1 + 1)) + 1)) + 1)) + 1))))) ?hg ?ho ?hn ?hr ?_; (case ho => rfl); (case hg => rfl); (case hn => rfl); (case hr => first | (go_simp; done) | (go_simp; rfl)); intro w24 hw; have hg : w22.grownBy w24 (some go5) := (by rw [hw]; exact HP23.2); have hp_ : Kd.S k44 44 w24 w0.heap.size (fun k_ => (P0_ k_ ∨ w.heap.size ≤ k_)) (.slice (some ⟨go5, 0, none⟩) x0_1.length co13) y159 := (by rw [hw, Ny159.out]; exact HP23.1); clear HP23; have n0_ := Aside0.mk (hp_); have n1_ := Aside0.mk ((by rw [hw]; exact below_set (HB.out) GB5.out : Below w0.heap.size w0 w24)); have n2_ := Aside0.mk (Kept.of_grown (S := (fun k_ => P0_ k_)) hg (by repeat (first | (with_reducible first | exact HK.out | apply Kept.alloc | apply Kept.drewN | apply Kept.drew) | exact HK.out)) (fun k_ e_ => ((Kd.S_R HO_0.out).1 k_ e_))); clear HO_0; clear HB; clear HK; have HO_0 := n0_; have HB := n1_; have HK := n2_; clear n0_ n1_ n2_; clear hg hw hp_; have p11 : 0 ≤ (x5_1 : Int) := of_decide_eq_true (by first | (with_reducible assumption) | assumption); have q11 : (x5_1 : Int) < ((x0_1.length : Int) : Int) := of_decide_eq_true (by first | (with_reducible assumption) | assumption); obtain ⟨_, ce11, hcl11, hM11, hcc11, hfr11, _, _⟩ := Kd.S_elem HO_0.out z44 (x5_1 : Int) p11 q11; obtain ⟨ve11_7, rfl, ge11_7⟩ := k44_openM hM11; have hx11_0 : w24.cell? ⟨go5, (x5_1 : Int).toNat * 8, none⟩ = some (.int .i64 ((rd_T44 y159 x5_1).f0)) := hcc11 0 _ rfl; have hx11_1 : w24.cell? ⟨go5, (x5_1 : Int).toNat * 8 + 1, none⟩ = some (.int .i64 ((rd_T44 y159 x5_1).f1)) := hcc11 1 _ rfl; have hx11_2 : w24.cell? ⟨go5, (x5_1 : Int).toNat * 8 + 2, none⟩ = some (.int .i64 ((rd_T44 y159 x5_1).f2)) := hcc11 2 _ rfl; have hx11_3 : w24.cell? ⟨go5, (x5_1 : Int).toNat * 8 + 3, none⟩ = some (.string ((rd_T44 y159 x5_1).f3)) := hcc11 3 _ rfl; have hx11_4 : w24.cell? ⟨go5, (x5_1 : Int).toNat * 8 + 4, none⟩ = some (.int .i64 ((rd_T44 y159 x5_1).f4)) := hcc11 4 _ rfl; have hx11_5 : w24.cell? ⟨go5, (x5_1 : Int).toNat * 8 + 5, none⟩ = some (.bool ((rd_T44 y159 x5_1).f5)) := hcc11 5 _ rfl; have hx11_6 : w24.cell? ⟨go5, (x5_1 : Int).toNat * 8 + 6, none⟩ = some (.int .i64 ((rd_T44 y159 x5_1).f6)) := hcc11 6 _ rfl; have hx11_7 : w24.cell? ⟨go5, (x5_1 : Int).toNat * 8 + 7, none⟩ = some (ve11_7) := hcc11 7 _ rfl; have hf11_0 : w24.frozen? ⟨go5, (x5_1 : Int).toNat * 8, none⟩ = false := hfr11 0; have hf11_1 : w24.frozen? ⟨go5, (x5_1 : Int).toNat * 8 + 1, none⟩ = false := hfr11 1; have hf11_2 : w24.frozen? ⟨go5, (x5_1 : Int).toNat * 8 + 2, none⟩ = false := hfr11 2; have hf11_3 : w24.frozen? ⟨go5, (x5_1 : Int).toNat * 8 + 3, none⟩ = false := hfr11 3; have hf11_4 : w24.frozen? ⟨go5, (x5_1 : Int).toNat * 8 + 4, none⟩ = false := hfr11 4; have hf11_5 : w24.frozen? ⟨go5, (x5_1 : Int).toNat * 8 + 5, none⟩ = false := hfr11 5; have hf11_6 : w24.frozen? ⟨go5, (x5_1 : Int).toNat * 8 + 6, none⟩ = false := hfr11 6; have hf11_7 : w24.frozen? ⟨go5, (x5_1 : Int).toNat * 8 + 7, none⟩ = false := hfr11 7; clear hcl11 hcc11 hfr11 hM11; replace p11 := eq_true p11; replace q11 := eq_true q11; have HX25 := Aside0.mk (show Kd.S k44 44 w24 w0.heap.size (fun k_ => ((fun k_ => (P0_ k_ ∨ w.heap.size ≤ k_))) k_ ∧ ¬ ((fun _ => False)) k_) (.slice (some ⟨go5, 0, none⟩) x0_1.length co13) y159 from (by (with_reducible repeat (first | apply Kd.S_alloc | apply Kd.S_drewN | apply Kd.S_drew)); exact Kd.S_mono HO_0.out (fun k_ hk => ⟨hk, fun e_ => e_⟩))); obtain ⟨oki25, ce25, hcl25, hM25, hcc25, hfr25, hoki25, hH25⟩ := Kd.S_elem HX25.out z44 (x5_1 : Int) (of_decide_eq_true (by first | (with_reducible assumption) | assumption)) (by have h_ : (x5_1 : Int) < ((x0_1.length : Int) : Int) := of_decide_eq_true (by first | (with_reducible assumption) | assumption); first | exact h_ | (have e_ := (Kd.S_reads' HO_0.out).1; omega) | simpa using h_); obtain ⟨ve25_7, rfl, ge25_7⟩ := k44_openM hM25; have HP25 := Kd.S_seg hH25 (of_decide_eq_true (by first | (with_reducible assumption) | assumption)) (by have h_ : (x5_1 : Int) < ((x0_1.length : Int) : Int) := of_decide_eq_true (by first | (with_reducible assumption) | assumption); first | exact h_ | (have e_ := (Kd.S_reads' HO_0.out).1; omega) | simpa using h_) (seg := [.bool ((Int.tmod (wrap64 ((wrap64 ((wrap64 ((wrap64 ((wrap64 (x1_1 + 1)) + 1)) + 1)) + 1)) + 1)) 3) == 0)]) (j := 5) (show 6 ≤ 8 from by decide) (x' := (⟨(rd_T44 y159 x5_1).f0, (rd_T44 y159 x5_1).f1, (rd_T44 y159 x5_1).f2, (rd_T44 y159 x5_1).f3, (rd_T44 y159 x5_1).f4, ((Int.tmod (wrap64 ((wrap64 ((wrap64 ((wrap64 ((wrap64 (x1_1 + 1)) + 1)) + 1)) + 1)) + 1)) 3) == 0), (rd_T44 y159 x5_1).f6, (rd_T44 y159 x5_1).f7⟩ : S44)) (k44_mkM _ _ _ (⟨(rd_T44 y159 x5_1).f0, (rd_T44 y159 x5_1).f1, (rd_T44 y159 x5_1).f2, (rd_T44 y159 x5_1).f3, (rd_T44 y159 x5_1).f4, ((Int.tmod (wrap64 ((wrap64 ((wrap64 ((wrap64 ((wrap64 (x1_1 + 1)) + 1)) + 1)) + 1)) + 1)) 3) == 0), (rd_T44 y159 x5_1).f6, (rd_T44 y159 x5_1).f7⟩ : S44) (Kd.R_mono ge25_7 (fun _ h_ => Or.inl h_))) (fun _ hk => hk) (fun k_ hk_ => hk_.elim); have hx25_5 := hcc25 5 _ rfl; (try simp only [show (k44).sz = 8 from rfl, Nat.mul_one, Nat.add_zero] at hx25_5); have hf25_5 := hfr25 5; (try simp only [show (k44).sz = 8 from rfl, Nat.mul_one, Nat.add_zero] at hf25_5); clear hcl25 hcc25 hfr25 hM25 hoki25 hH25) | ((with_reducible refine gate_store (t := 4) (p := 54) rfl ?_); refine store_event (t := 4) (p := 54) (v := ?vo_w26) (w1 := (w24.setCell ⟨go5, (x5_1 : Int).toNat * 8 + 5, none⟩ (.bool ((Int.tmod (wrap64 ((wrap64 ((wrap64 ((wrap64 ((wrap64 (x1_1 + 1)) + 1)) + 1)) + 1)) + 1)) 3) == 0)))) ?hg ?ho ?hn ?hr ?_; (case ho => rfl); (case hg => rfl); (case hn => rfl); (case hr => first | (go_simp; done) | (go_simp; rfl)); intro w26 hw; have hg : w24.grownBy w26 (some go5) := (by rw [hw]; exact HP25.2); have hp_ : Kd.S k44 44 w26 w0.heap.size (fun k_ => (P0_ k_ ∨ w.heap.size ≤ k_)) (.slice (some ⟨go5, 0, none⟩) x0_1.length co13) y160 := (by rw [hw, Ny160.out]; exact HP25.1); clear HP25; have n0_ := Aside0.mk (hp_); have n1_ := Aside0.mk ((by rw [hw]; exact below_set (HB.out) GB5.out : Below w0.heap.size w0 w26)); have n2_ := Aside0.mk (Kept.of_grown (S := (fun k_ => P0_ k_)) hg (by repeat (first | (with_reducible first | exact HK.out | apply Kept.alloc | apply Kept.drewN | apply Kept.drew) | exact HK.out)) (fun k_ e_ => ((Kd.S_R HO_0.out).1 k_ e_))); clear HO_0; clear HB; clear HK; have HO_0 := n0_; have HB := n1_; have HK := n2_; clear n0_ n1_ n2_; clear hg hw hp_; have p12 : 0 ≤ (x5_1 : Int) := of_decide_eq_true (by first | (with_reducible assumption) | assumption); have q12 : (x5_1 : Int) < ((x0_1.length : Int) : Int) := of_decide_eq_true (by first | (with_reducible assumption) | assumption); obtain ⟨_, ce12, hcl12, hM12, hcc12, hfr12, _, _⟩ := Kd.S_elem HO_0.out z44 (x5_1 : Int) p12 q12; obtain ⟨ve12_7, rfl, ge12_7⟩ := k44_openM hM12; have hx12_0 : w26.cell? ⟨go5, (x5_1 : Int).toNat * 8, none⟩ = some (.int .i64 ((rd_T44 y160 x5_1).f0)) := hcc12 0 _ rfl; have hx12_1 : w26.cell? ⟨go5, (x5_1 : Int).toNat * 8 + 1, none⟩ = some (.int .i64 ((rd_T44 y160 x5_1).f1)) := hcc12 1 _ rfl; have hx12_2 : w26.cell? ⟨go5, (x5_1 : Int).toNat * 8 + 2, none⟩ = some (.int .i64 ((rd_T44 y160 x5_1).f2)) := hcc12 2 _ rfl; have hx12_3 : w26.cell? ⟨go5, (x5_1 : Int).toNat * 8 + 3, none⟩ = some (.string ((rd_T44 y160 x5_1).f3)) := hcc12 3 _ rfl; have hx12_4 : w26.cell? ⟨go5, (x5_1 : Int).toNat * 8 + 4, none⟩ = some (.int .i64 ((rd_T44 y160 x5_1).f4)) := hcc12 4 _ rfl; have hx12_5 : w26.cell? ⟨go5, (x5_1 : Int).toNat * 8 + 5, none⟩ = some (.bool ((rd_T44 y160 x5_1).f5)) := hcc12 5 _ rfl; have hx12_6 : w26.cell? ⟨go5, (x5_1 : Int).toNat * 8 + 6, none⟩ = some (.int .i64 ((rd_T44 y160 x5_1).f6)) := hcc12 6 _ rfl; have hx12_7 : w26.cell? ⟨go5, (x5_1 : Int).toNat * 8 + 7, none⟩ = some (ve12_7) := hcc12 7 _ rfl; have hf12_0 : w26.frozen? ⟨go5, (x5_1 : Int).toNat * 8, none⟩ = false := hfr12 0; have hf12_1 : w26.frozen? ⟨go5, (x5_1 : Int).toNat * 8 + 1, none⟩ = false := hfr12 1; have hf12_2 : w26.frozen? ⟨go5, (x5_1 : Int).toNat * 8 + 2, none⟩ = false := hfr12 2; have hf12_3 : w26.frozen? ⟨go5, (x5_1 : Int).toNat * 8 + 3, none⟩ = false := hfr12 3; have hf12_4 : w26.frozen? ⟨go5, (x5_1 : Int).toNat * 8 + 4, none⟩ = false := hfr12 4; have hf12_5 : w26.frozen? ⟨go5, (x5_1 : Int).toNat * 8 + 5, none⟩ = false := hfr12 5; have hf12_6 : w26.frozen? ⟨go5, (x5_1 : Int).toNat * 8 + 6, none⟩ = false := hfr12 6; have hf12_7 : w26.frozen? ⟨go5, (x5_1 : Int).toNat * 8 + 7, none⟩ = false := hfr12 7; clear hcl12 hcc12 hfr12 hM12; replace p12 := eq_true p12; replace q12 := eq_true q12; have HX27 := Aside0.mk (show Kd.S k44 44 w26 w0.heap.size (fun k_ => ((fun k_ => (P0_ k_ ∨ w.heap.size ≤ k_))) k_ ∧ ¬ ((fun _ => False)) k_) (.slice (some ⟨go5, 0, none⟩) x0_1.length co13) y160 from (by (with_reducible repeat (first | apply Kd.S_alloc | apply Kd.S_drewN | apply Kd.S_drew)); exact Kd.S_mono HO_0.out (fun k_ hk => ⟨hk, fun e_ => e_⟩))); obtain ⟨oki27, ce27, hcl27, hM27, hcc27, hfr27, hoki27, hH27⟩ := Kd.S_elem HX27.out z44 (x5_1 : Int) (of_decide_eq_true (by first | (with_reducible assumption) | assumption)) (by have h_ : (x5_1 : Int) < ((x0_1.length : Int) : Int) := of_decide_eq_true (by first | (with_reducible assumption) | assumption); first | exact h_ | (have e_ := (Kd.S_reads' HO_0.out).1; omega) | simpa using h_); obtain ⟨ve27_7, rfl, ge27_7⟩ := k44_openM hM27; have HP27 := Kd.S_seg hH27 (of_decide_eq_true (by first | (with_reducible assumption) | assumption)) (by have h_ : (x5_1 : Int) < ((x0_1.length : Int) : Int) := of_decide_eq_true (by first | (with_reducible assumption) | assumption); first | exact h_ | (have e_ := (Kd.S_reads' HO_0.out).1; omega) | simpa using h_) (seg := [.int .i64 (wrap64 ((wrap64 ((wrap64 ((wrap64 ((wrap64 ((wrap64 (x1_1 + 1)) + 1)) + 1)) + 1)) + 1)) + 1))]) (j := 6) (show 7 ≤ 8 from by decide) (x' := (⟨(rd_T44 y160 x5_1).f0, (rd_T44 y160 x5_1).f1, (rd_T44 y160 x5_1).f2, (rd_T44 y160 x5_1).f3, (rd_T44 y160 x5_1).f4, (rd_T44 y160 x5_1).f5, wrap64 ((wrap64 ((wrap64 ((wrap64 ((wrap64 ((wrap64 (x1_1 + 1)) + 1)) + 1)) + 1)) + 1)) + 1), (rd_T44 y160 x5_1).f7⟩ : S44)) (k44_mkM _ _ _ (⟨(rd_T44 y160 x5_1).f0, (rd_T44 y160 x5_1).f1, (rd_T44 y160 x5_1).f2, (rd_T44 y160 x5_1).f3, (rd_T44 y160 x5_1).f4, (rd_T44 y160 x5_1).f5, wrap64 ((wrap64 ((wrap64 ((wrap64 ((wrap64 ((wrap64 (x1_1 + 1)) + 1)) + 1)) + 1)) + 1)) + 1), (rd_T44 y160 x5_1).f7⟩ : S44) (Kd.R_mono ge27_7 (fun _ h_ => Or.inl h_))) (fun _ hk => hk) (fun k_ hk_ => hk_.elim); have hx27_6 := hcc27 6 _ rfl; (try simp only [show (k44).sz = 8 from rfl, Nat.mul_one, Nat.add_zero] at hx27_6); have hf27_6 := hfr27 6; (try simp only [show (k44).sz = 8 from rfl, Nat.mul_one, Nat.add_zero] at hf27_6); clear hcl27 hcc27 hfr27 hM27 hoki27 hH27) | ((with_reducible refine gate_store (t := 2) (p := 61) rfl ?_); refine store_event (t := 2) (p := 61) (v := ?vo_w28) (w1 := (w26.setCell ⟨go5, (x5_1 : Int).toNat * 8 + 6, none⟩ (.int .i64 (wrap64 ((wrap64 ((wrap64 ((wrap64 ((wrap64 ((wrap64 (x1_1 + 1)) + 1)) + 1)) + 1)) + 1)) + 1))))) ?hg ?ho ?hn ?hr ?_; (case ho => rfl); (case hg => rfl); (case hn => rfl); (case hr => first | (go_simp; done) | (go_simp; rfl)); intro w28 hw; have hg : w26.grownBy w28 (some go5) := (by rw [hw]; exact HP27.2); have hp_ : Kd.S k44 44 w28 w0.heap.size (fun k_ => (P0_ k_ ∨ w.heap.size ≤ k_)) (.slice (some ⟨go5, 0, none⟩) x0_1.length co13) y161 := (by rw [hw, Ny161.out]; exact HP27.1); clear HP27; have n0_ := Aside0.mk (hp_); have n1_ := Aside0.mk ((by rw [hw]; exact below_set (HB.out) GB5.out : Below w0.heap.size w0 w28)); have n2_ := Aside0.mk (Kept.of_grown (S := (fun k_ => P0_ k_)) hg (by repeat (first | (with_reducible first | exact HK.out | apply Kept.alloc | apply Kept.drewN | apply Kept.drew) | exact HK.out)) (fun k_ e_ => ((Kd.S_R HO_0.out).1 k_ e_))); clear HO_0; clear HB; clear HK; have HO_0 := n0_; have HB := n1_; have HK := n2_; clear n0_ n1_ n2_; clear hg hw hp_; have p162 : 0 ≤ (x5_1 : Int) := of_decide_eq_true (by first | (with_reducible assumption) | assumption); have q162 : x5_1 < (y161.length : Int) := (by have h_ : (x5_1 : Int) < ((x0_1.length : Int) : Int) := of_decide_eq_true (by first | (with_reducible assumption) | assumption); first | (have e_ := (Kd.S_reads' HO_0.out).1; omega) | simpa only [Ny154.out, Ny155.out, Ny156.out, Ny158.out, Ny159.out, Ny160.out, Ny161.out, List.length_set] using h_); have ql162 : ((x5_1 : Int) < ((x0_1.length : Int) : Int)) = True := eq_true (of_decide_eq_true (by first | (with_reducible assumption) | assumption)); obtain ⟨ad162, A162_7, c162_7, e162, hx162_0, hx162_1, hx162_2, hx162_3, hx162_4, hx162_5, hx162_6, hx162_7, hl162_7, hi162_7⟩ := at_T44 (Kd.S_reads' HO_0.out).2.2 x5_1 p162 q162; obtain rfl : (⟨go5, 0, none⟩ : Addr) = ad162 := (by injection e162); obtain ⟨ce162, hce162, hMe162, hcc162⟩ := Kd.S_get HO_0.out z44 x5_1 p162 (by first | exact q162 | exact of_decide_eq_true (by first | (with_reducible assumption) | assumption) | (have e_ := (Kd.S_reads' HO_0.out).1; omega)); obtain ⟨ve162_7, rfl, ge162_7⟩ := k44_openM hMe162; have hv162_7 := hcc162 7 _ rfl; rw [add_field _ _ 7 (by omega)] at hv162_7; replace hv162_7 := Option.some.inj (hv162_7.symm.trans hx162_7); rw [hv162_7] at ge162_7; have HL162_7 := Aside0.mk (show Kd.R (Kd.int .i64) 2 _ _ _ _ ((rd_T44 y161 x5_1).f7) from ge162_7); clear hv162_7 ge162_7; clear hcc162 hce162; (first | simp only [add_plain] at hx162_0 | simp only [add_at] at hx162_0 | simp only [Addr.add, Nat.zero_add] at hx162_0 | skip); (first | simp only [add_plain] at hx162_1 | simp only [add_at] at hx162_1 | simp only [Addr.add, Nat.zero_add] at hx162_1 | skip); (first | simp only [add_plain] at hx162_2 | simp only [add_at] at hx162_2 | simp only [Addr.add, Nat.zero_add] at hx162_2 | skip); (first | simp only [add_plain] at hx162_3 | simp only [add_at] at hx162_3 | simp only [Addr.add, Nat.zero_add] at hx162_3 | skip); (first | simp only [add_plain] at hx162_4 | simp only [add_at] at hx162_4 | simp only [Addr.add, Nat.zero_add] at hx162_4 | skip); (first | simp only [add_plain] at hx162_5 | simp only [add_at] at hx162_5 | simp only [Addr.add, Nat.zero_add] at hx162_5 | skip); (first | simp only [add_plain] at hx162_6 | simp only [add_at] at hx162_6 | simp only [Addr.add, Nat.zero_add] at hx162_6 | skip); (first | simp only [add_plain] at hx162_7 | simp only [add_at] at hx162_7 | simp only [Addr.add, Nat.zero_add] at hx162_7 | skip); have HR162_7 := Aside0.mk hi162_7; have HC162_7 := Aside0.mk hl162_7; clear hi162_7 hl162_7; replace p162 := eq_true p162; replace q162 := eq_true q162) | ((with_reducible refine gate_callee (f := 26) rfl ?_); refine goesL_ (some 70) rfl rfl Try.func26 (by kernel_rfl) rfl #[.slice A162_7 ((rd_T44 y161 x5_1).f7).length c162_7, .int .i64 (wrap64 ((wrap64 ((wrap64 ((wrap64 ((wrap64 ((wrap64 ((wrap64 (x1_1 + 1)) + 1)) + 1)) + 1)) + 1)) + 1)) + 1))] rfl (by (try simp only [List.map_toArray, List.map_cons, List.map_nil]); first | done | rfl | (simp only [List.length_drop, List.length_take]; rfl)) ?_; obtain ⟨okj, cej, hclj, hMj, hccj, hokj, hbackj⟩ := S_through HO_0.out z44 (x5_1 : Int) (of_eq_true p162) (of_eq_true ql162); obtain ⟨vej, rfl, gej⟩ := k44_openM hMj; have hvj := hccj 7 _ rfl; replace hvj := Option.some.inj (hvj.symm.trans hx162_7); subst hvj; refine (laws_markInt64S.calls k1 okj _ ((rd_T44 y161 x5_1).f7) (wrap64 ((wrap64 ((wrap64 ((wrap64 ((wrap64 ((wrap64 ((wrap64 (x1_1 + 1)) + 1)) + 1)) + 1)) + 1)) + 1)) + 1)) btq.1 btq.2 w0 _ ?sideA ?sideB A99.out).mono ?_; (case sideA => repeat (first | (with_reducible first | exact HB.out | apply below_alloc | apply pw_below_drewN | apply below_drew1) | exact HB.out)); (case sideB => (with_reducible repeat (first | apply Kd.R_alloc | apply Kd.R_drewN | apply Kd.R_drew)); exact gej); rintro e w99 ⟨rfl, hy, hb, hkp⟩; refine ⟨_, rfl, ?_⟩; have n0_ := Aside0.mk (show Kd.S k44 44 w99 w0.heap.size (fun k_ => (P0_ k_ ∨ w.heap.size ≤ k_)) (.slice (some ⟨go5, 0, none⟩) x0_1.length co13) yqq from (by rw [Nyqq.out]; exact hbackj hkp (k44_mkM _ _ _ (⟨(rd_T44 y161 x5_1).f0, (rd_T44 y161 x5_1).f1, (rd_T44 y161 x5_1).f2, (rd_T44 y161 x5_1).f3, (rd_T44 y161 x5_1).f4, (rd_T44 y161 x5_1).f5, (rd_T44 y161 x5_1).f6, btq.2⟩ : S44) (Kd.R_reok rfl hy (fun k_ e_ => gej.1 k_ e_))))); have n1_ := Aside0.mk hb; have n2_ := Aside0.mk (Kept.then_ (S := (fun k_ => P0_ k_)) (by repeat (first | (with_reducible first | exact HK.out | apply Kept.alloc | apply Kept.drewN | apply Kept.drew) | exact HK.out)) hkp (fun k_ h_ => (hokj k_ h_).1)); clear HO_0; clear HB; clear HK; have HO_0 := n0_; have HB := n1_; have HK := n2_; clear n0_ n1_ n2_; clear hy hb hkp hbackj hokj hccj hMj gej hclj))
     go_roundg k1
     case measure => have := HK1.out; omega
     case rel => exact ⟨(yqq), (btq.1), (wrap64 (x5_1 + 1)), (by first | rfl | (simp; done) | (simp [*]; done)), (by first | rfl | (simp; done) | (simp [*]; done)), H', ⟨by have := HK1.out; omega⟩, ⟨by (with_reducible repeat (first | apply Kd.S_alloc | apply Kd.S_drewN | apply Kd.S_drew)); exact HO_0.out⟩, ⟨by repeat (first | (with_reducible first | exact HK.out | apply Kept.alloc | apply Kept.drewN | apply Kept.drew) | exact HK.out)⟩, ⟨by repeat (first | (with_reducible first | exact HB.out | apply below_alloc | apply pw_below_drewN | apply below_drew1) | exact HB.out)⟩⟩
    ·rw [if_neg c4] at H
     exact absurd H (by simp)
   ·rw [if_neg c3] at H
    have c3b0 : decide (x5_1 < (x0_1.length : Int)) = false := decide_eq_false c3
    clear c3
    simp only [Option.some.injEq, Prod.mk.injEq] at H
    obtain ⟨rfl, rfl⟩ := H
    obtain ⟨Ao29, co29, eo29⟩ := Kd.S_slice HO_0.out
    subst eo29
    go_wp2
    go_ret
    exact ⟨by first | rfl | (simp [errW_none, errW_some] <;> rfl) | (simp [*, errW_none, errW_some] <;> rfl), by (with_reducible repeat (first | apply Kd.S_alloc | apply Kd.S_drewN | apply Kd.S_drew)); exact HO_0.out, by repeat (first | (with_reducible first | exact HB.out | apply below_alloc | apply pw_below_drewN | apply below_drew1) | exact HB.out), by repeat (first | (with_reducible first | exact HK.out | apply Kept.alloc | apply Kept.drewN | apply Kept.drew) | exact HK.out)⟩

/-! ### laws_markLog: function 10 -/
def laws_markLog.f (k : Nat) (a0_0 : Int) (l0_1 : List (S44)) (a1 : Int) : Option (Int × (List (S44))) := (laws_markMessageS.f k l0_1 a1).bind fun bt164 => (some (bt164.1, bt164.2))
theorem laws_markLog.mono : ∀ a0 a1 a2 k, LeO (laws_markLog.f k a0 a1 a2) (laws_markLog.f (k + 1) a0 a1 a2) := by
 intro a0 a1 a2 k
 unfold laws_markLog.f
 repeat' first
   | (with_reducible exact laws_markMessageS.mono _ _ _)
   | (with_reducible exact LeO.refl _)
   | (with_reducible exact LeO.none _)
   | (with_reducible refine LeO.ite ?_ ?_)
   | (with_reducible refine LeO.bind ?_ (fun _ => ?_))
   | exact laws_markMessageS.mono _ _ _
   | exact LeO.none _
   | refine LeO.ite ?_ ?_
   | refine LeO.bind ?_ (fun _ => ?_)
set_option maxHeartbeats 8000000 in
set_option maxRecDepth 100000 in
theorem laws_markLog.calls (k : Nat) (a0_0 : Int) (P0_1_ : Nat → Prop) (u9000_ : Value) (l0_1 : List (S44)) (a1 : Int) (r1 : Int) (r2 : List (S44)) (w0 w : World) (hB : Below w0.heap.size w0 w) (ho0_1 : Kd.S k44 44 w w0.heap.size P0_1_ u9000_ l0_1) (h : laws_markLog.f k a0_0 l0_1 a1 = some (r1, r2)) :
  Calls Try.prog 10 #[.agg #[.int .i64 a0_0, u9000_], .int .i64 a1] w fun e w' => e = .returned (.int .i64 r1) ∧ Kd.S k44 44 w' w0.heap.size (fun k_ => (P0_1_ k_ ∨ w.heap.size ≤ k_)) u9000_ r2 ∧ Below w0.heap.size w0 w' ∧ Kept w w' (fun k_ => P0_1_ k_) := by
 have hu31 := Try.underlying31
 have HO0_1 := Aside0.mk (show Kd.S k44 44 w w0.heap.size (fun k_ => (P0_1_ k_ ∨ w.heap.size ≤ k_)) u9000_ l0_1 from Kd.S_mono ho0_1 (fun k_ hk => (.inl hk)))
 have HK := Aside0.mk (Kept.refl w (fun k_ => P0_1_ k_))
 have HW0 := Aside0.mk hB.size
 have HB := Aside0.mk hB
 clear hB
 have H : ((laws_markMessageS.f k l0_1 a1).bind fun bt164 => (some (bt164.1, bt164.2))) = some (r1, r2) := h
 clear h
 replace H := Option.bind_eq_some_iff.mp H
 obtain ⟨⟨t164, t165⟩, A30, H⟩ := H
 replace H : (some (t164, t165)) = some (r1, r2) := H
 have A3 := Aside0.mk A30
 clear A30
 simp only [Option.some.injEq, Prod.mk.injEq] at H
 obtain ⟨rfl, rfl⟩ := H
 obtain ⟨Ao4, co4, eo4⟩ := Kd.S_slice HO0_1.out
 subst eo4
 go_enter Try.func10, Try.ntmps10
 go_wp2_with (first | ((with_reducible refine gate_dst (N := 2) rfl ?_); refine box_event ?hg (N := 2) ?hd (cs := #[.int .i64 a0_0, .slice Ao4 l0_1.length co4]) (t := 31) ?hr ?_; (case hd => rfl); (case hg => rfl); (case hr => first | (go_simp; done) | (go_simp; rfl)); intro gb163 hg w5 hbox hb; have n0_ := Aside0.mk (Kd.S_below (by (with_reducible repeat (first | apply Kd.S_alloc | apply Kd.S_drewN | apply Kd.S_drew)); exact HO0_1.out) hb); have n1_ := Aside0.mk (Kept.below (S := (fun k_ => P0_1_ k_)) (by repeat (first | (with_reducible first | exact HK.out | apply Kept.alloc | apply Kept.drewN | apply Kept.drew) | exact HK.out)) hb); have n2_ := Aside0.mk (below_step (by repeat (first | (with_reducible first | exact HB.out | apply below_alloc | apply pw_below_drewN | apply below_drew1) | exact HB.out)) hb); have n3_ := Aside0.mk (hbox); have n4_ := Aside0.mk ((by rw [hg]; exact (by first | exact HK.out.1 | exact (show Kept w _ (fun k_ => P0_1_ k_) from by repeat (first | (with_reducible first | exact HK.out | apply Kept.alloc | apply Kept.drewN | apply Kept.drew) | exact HK.out)).1) : w.heap.size ≤ gb163)); have n5_ := Aside0.mk ((by rw [hg]; exact (below_size (by repeat (first | (with_reducible first | exact HB.out | apply below_alloc | apply pw_below_drewN | apply below_drew1) | exact HB.out))) : w0.heap.size ≤ gb163)); clear HO0_1; clear HK; clear HB; have HO0_1 := n0_; have HK := n1_; have HB := n2_; have BK163 := n3_; have GW163 := n4_; have GE163 := n5_; clear n0_ n1_ n2_ n3_ n4_ n5_; clear hb hbox hg; have hcz6_0 : w5.cell? ⟨gb163, 0, none⟩ = some (.int .i64 a0_0) := (blk_cell BK163.out 0).trans rfl; have hcz6_1 : w5.cell? ⟨gb163, 1, none⟩ = some (.slice Ao4 l0_1.length co4) := (blk_cell BK163.out 1).trans rfl; have hfz6_0 := blk_frozen BK163.out 0; have hfz6_1 := blk_frozen BK163.out 1) | ((with_reducible refine gate_callee (f := 25) rfl ?_); refine goesL_ (some 8) rfl rfl Try.func25 (by kernel_rfl) rfl #[.slice Ao4 l0_1.length co4, .int .i64 a1] rfl (by (try simp only [List.map_toArray, List.map_cons, List.map_nil]); first | done | rfl | (simp only [List.length_drop, List.length_take]; rfl)) ?_; (with_reducible refine (laws_markMessageS.calls k (fun k_ => (((P0_1_ k_ ∨ w.heap.size ≤ k_))) ∧ TyP w5 w0.heap.size [44, 2] k_) (.slice Ao4 l0_1.length co4) l0_1 a1 t164 t165 w0 _ ?side1 ?side2 A3.out).mono ?_); (case side1 => repeat (first | (with_reducible first | exact HB.out | apply below_alloc | apply pw_below_drewN | apply below_drew1 | refine below_set ?_ GE163.out) | exact HB.out)); (case side2 => exact S_ty2 (by (with_reducible repeat (first | apply Kd.S_alloc | apply Kd.S_drewN | apply Kd.S_drew)); exact HO0_1.out) (by decide)); rintro e w7 ⟨rfl, hy0, hb, hkp⟩; refine ⟨_, rfl, ?_⟩; have n0_ := Aside0.mk (Kd.S_mono hy0 (fun k_ h_ => Or.elim h_ (fun z_ => z_.1) (fun hn_ => .inr (Nat.le_trans (by repeat (first | (with_reducible first | exact HK.out | apply Kept.alloc | apply Kept.drewN | apply Kept.drew | refine Kept.setCell ?_ (.inr GW163.out) _) | exact HK.out) : Kept w w5 (fun k_ => P0_1_ k_)).1 hn_)))); have n1_ := Aside0.mk (blk_kept_ty2 (by (with_reducible repeat (first | refine blk_drewN ?_ _ | refine blk_drew ?_ | refine blk_alloc ?_ _)); exact BK163.out) hkp (by decide)); have n2_ := Aside0.mk (Kept.then_ (S := (fun k_ => P0_1_ k_)) (by repeat (first | (with_reducible first | exact HK.out | apply Kept.alloc | apply Kept.drewN | apply Kept.drew | refine Kept.setCell ?_ (.inr GW163.out) _) | exact HK.out)) hkp (fun k_ hs_ => hs_.1)); have n3_ := Aside0.mk (hb); clear HO0_1; clear BK163; clear HK; clear HB; have HO0_1 := n0_; have BK163 := n1_; have HK := n2_; have HB := n3_; clear n0_ n1_ n2_ n3_; (try clear hb); (try clear hkp); (try clear hy0)))
 go_ret
 exact ⟨by first | rfl | (simp [errW_none, errW_some] <;> rfl) | (simp [*, errW_none, errW_some] <;> rfl), by (with_reducible repeat (first | apply Kd.S_alloc | apply Kd.S_drewN | apply Kd.S_drew)); exact HO0_1.out, by repeat (first | (with_reducible first | exact HB.out | apply below_alloc | apply pw_below_drewN | apply below_drew1 | refine below_set ?_ GE163.out) | exact HB.out), by repeat (first | (with_reducible first | exact HK.out | apply Kept.alloc | apply Kept.drewN | apply Kept.drew | refine Kept.setCell ?_ (.inr GW163.out) _) | exact HK.out)⟩

/-! ### spec_l00In: function 29 -/
def spec_l00In.f (a0 : Int) (a1 : Int) (a2 : Int) : Option (Bool) := if a0 ≥ a1 then (some (decide (a0 ≤ a2))) else (some false)
set_option maxHeartbeats 8000000 in
set_option maxRecDepth 100000 in
theorem spec_l00In.calls (a0 : Int) (a1 : Int) (a2 : Int) (r : Bool) (w : World) (h : spec_l00In.f a0 a1 a2 = some r) :
  Calls Try.prog 29 #[.int .i64 a0, .int .i64 a1, .int .i64 a2] w fun e w' => e = .returned (.bool r) ∧ Drawn0 w w' := by
 have H : (if a0 ≥ a1 then (some (decide (a0 ≤ a2))) else (some false)) = some r := h
 clear h
 by_cases c4 : a0 ≥ a1
 ·rw [if_pos c4] at H
  have c4b0 : decide (a1 ≤ a0) = true := decide_eq_true c4
  clear c4
  obtain rfl := Option.some.inj H
  go_enter Try.func29, Try.ntmps29
  go_wp2
  go_ret
  exact ⟨by first | rfl | (simp; done) | (simp [*]; done), by repeat (first | exact Drawn0.refl _ | apply Drawn0.step)⟩
 ·rw [if_neg c4] at H
  have c4b0 : decide (a1 ≤ a0) = false := decide_eq_false c4
  clear c4
  obtain rfl := Option.some.inj H
  go_enter Try.func29, Try.ntmps29
  go_wp2
  go_ret
  exact ⟨by first | rfl | (simp; done) | (simp [*]; done), by repeat (first | exact Drawn0.refl _ | apply Drawn0.step)⟩

/-! ### spec_l01Member: function 40 -/
def spec_l01Member.f (a0 : Int) : Option (Bool) := (spec_l00In.f a0 1 1000).bind fun t166 => (some t166)
set_option maxHeartbeats 8000000 in
set_option maxRecDepth 100000 in
theorem spec_l01Member.calls (a0 : Int) (r : Bool) (w : World) (h : spec_l01Member.f a0 = some r) :
  Calls Try.prog 40 #[.int .i64 a0] w fun e w' => e = .returned (.bool r) ∧ Drawn0 w w' := by
 have H : ((spec_l00In.f a0 1 1000).bind fun t166 => (some t166)) = some r := h
 clear h
 replace H := Option.bind_eq_some_iff.mp H
 obtain ⟨t166, A20, H⟩ := H
 replace H : (some t166) = some r := H
 have A2 := Aside0.mk A20
 clear A20
 obtain rfl := Option.some.inj H
 go_enter Try.func40, Try.ntmps40
 go_wp2_with (first | ((with_reducible refine gate_callee (f := 29) rfl ?_); refine goesL_ (some 4) rfl rfl Try.func29 (by kernel_rfl) rfl #[.int .i64 a0, .int .i64 1, .int .i64 1000] rfl (by (try simp only [List.map_toArray, List.map_cons, List.map_nil]); first | done | rfl | (simp only [List.length_drop, List.length_take]; rfl)) ?_; (with_reducible refine (spec_l00In.calls a0 1 1000 t166 _ A2.out).mono ?_); rintro e w' ⟨rfl, ⟨nd, rfl⟩⟩; refine ⟨_, rfl, ?_⟩))
 go_ret
 exact ⟨by first | rfl | (simp; done) | (simp [*]; done), by repeat (first | exact Drawn0.refl _ | apply Drawn0.step)⟩

/-! ### spec_l01Tick: function 41 -/
def spec_l01Tick.f (a0 : Int) : Option (Bool) := (spec_l00In.f a0 0 1000000).bind fun t167 => (some t167)
set_option maxHeartbeats 8000000 in
set_option maxRecDepth 100000 in
theorem spec_l01Tick.calls (a0 : Int) (r : Bool) (w : World) (h : spec_l01Tick.f a0 = some r) :
  Calls Try.prog 41 #[.int .i64 a0] w fun e w' => e = .returned (.bool r) ∧ Drawn0 w w' := by
 have H : ((spec_l00In.f a0 0 1000000).bind fun t167 => (some t167)) = some r := h
 clear h
 replace H := Option.bind_eq_some_iff.mp H
 obtain ⟨t167, A20, H⟩ := H
 replace H : (some t167) = some r := H
 have A2 := Aside0.mk A20
 clear A20
 obtain rfl := Option.some.inj H
 go_enter Try.func41, Try.ntmps41
 go_wp2_with (first | ((with_reducible refine gate_callee (f := 29) rfl ?_); refine goesL_ (some 4) rfl rfl Try.func29 (by kernel_rfl) rfl #[.int .i64 a0, .int .i64 0, .int .i64 1000000] rfl (by (try simp only [List.map_toArray, List.map_cons, List.map_nil]); first | done | rfl | (simp only [List.length_drop, List.length_take]; rfl)) ?_; (with_reducible refine (spec_l00In.calls a0 0 1000000 t167 _ A2.out).mono ?_); rintro e w' ⟨rfl, ⟨nd, rfl⟩⟩; refine ⟨_, rfl, ?_⟩))
 go_ret
 exact ⟨by first | rfl | (simp; done) | (simp [*]; done), by repeat (first | exact Drawn0.refl _ | apply Drawn0.step)⟩

/-! ### spec_l01IsText: function 42 -/
def spec_l01IsText.l0 : Nat → ByteArray → Int → Option (Bool)
 | 0, _, _ => none
 | k + 1, x0, x3 => if x3 < (x0.size : Int) then (if 0 ≤ x3 then (if (bt x0 x3) < 32 then (some false) else (if (bt x0 x3) > 126 then (some false) else (spec_l01IsText.l0 k x0 (wrap64 (x3 + 1))))) else (none)) else (some (decide ((x0.size : Int) ≤ 80)))
def spec_l01IsText.f (k : Nat) (a0 : ByteArray) : Option (Bool) := spec_l01IsText.l0 k a0 0
theorem spec_l01IsText.mono_l : ∀ k, (∀ y0 y1, LeO (spec_l01IsText.l0 k y0 y1) (spec_l01IsText.l0 (k + 1) y0 y1))
 | 0 => fun _ _ r h => by simp [spec_l01IsText.l0] at h
 | k + 1 => by
  have ih0 := spec_l01IsText.mono_l k
  ·intro y0 y1
   unfold spec_l01IsText.l0
   repeat' first
   | (with_reducible exact ih0 _ _)
   | (with_reducible exact LeO.refl _)
   | (with_reducible exact LeO.none _)
   | (with_reducible refine LeO.ite ?_ ?_)
   | (with_reducible refine LeO.bind ?_ (fun _ => ?_))
   | exact ih0 _ _
   | exact LeO.none _
   | refine LeO.ite ?_ ?_
   | refine LeO.bind ?_ (fun _ => ?_)
theorem spec_l01IsText.mono : ∀ a0 k, LeO (spec_l01IsText.f k a0) (spec_l01IsText.f (k + 1) a0) := by
 intro a0 k
 have ih0 := spec_l01IsText.mono_l k
 unfold spec_l01IsText.f
 repeat' first
   | (with_reducible exact ih0 _ _)
   | (with_reducible exact LeO.refl _)
   | (with_reducible exact LeO.none _)
   | (with_reducible refine LeO.ite ?_ ?_)
   | (with_reducible refine LeO.bind ?_ (fun _ => ?_))
   | exact ih0 _ _
   | exact LeO.none _
   | refine LeO.ite ?_ ?_
   | refine LeO.bind ?_ (fun _ => ?_)
set_option maxHeartbeats 8000000 in
set_option maxRecDepth 100000 in
theorem spec_l01IsText.calls (k : Nat) (a0 : ByteArray) (r : Bool) (w : World) (h : spec_l01IsText.f k a0 = some r) :
  Calls Try.prog 42 #[.string a0] w fun e w' => e = .returned (.bool r) ∧ Drawn0 w w' := by
 have H : (spec_l01IsText.l0 k a0 0) = some r := h
 clear h
 have H' := Aside0.mk H
 clear H
 go_enter Try.func42, Try.ntmps42
 go_wp2
 go_loopg [3] k (fun kq v3 w' => ∃ (x3_1 : Int), v3 = .int .i64 x3_1 ∧ Aside0 (spec_l01IsText.l0 kq a0 x3_1 = some r) ∧ Aside0 (kq ≤ k) ∧ Drawn0 w w')
 case atStart => exact ⟨(0), (by first | rfl | (simp; done) | (simp [*]; done)), H', ⟨Nat.le_refl _⟩, by repeat (first | exact Drawn0.refl _ | apply Drawn0.step)⟩
 case round =>
  clear H'
  obtain ⟨x3_1, rfl, HA, HK1, ⟨m1, rfl⟩⟩ := hrel
  cases gk with
  | zero => exact absurd HA.out (by simp [spec_l01IsText.l0])
  | succ k1 =>
   have H := HA.out
   clear HA
   simp only [spec_l01IsText.l0] at H
   by_cases c2 : x3_1 < (a0.size : Int)
   ·rw [if_pos c2] at H
    have c2b0 : decide (x3_1 < (a0.size : Int)) = true := decide_eq_true c2
    clear c2
    by_cases c3 : 0 ≤ x3_1
    ·rw [if_pos c3] at H
     have c3b0 : decide (0 ≤ x3_1) = true := decide_eq_true c3
     clear c3
     by_cases c5 : (bt a0 x3_1) < 32
     ·rw [if_pos c5] at H
      have c5b0 : decide ((bt a0 x3_1) < 32) = true := decide_eq_true c5
      clear c5
      obtain rfl := Option.some.inj H
      have p4 : 0 ≤ (x3_1 : Int) := of_decide_eq_true (by first | (with_reducible assumption) | assumption)
      have q4 : x3_1 < (a0.size : Int) := of_decide_eq_true (by first | (with_reducible assumption) | assumption)
      have hx4 := bt_at a0 x3_1
      replace p4 := eq_true p4
      replace q4 := eq_true q4
      go_wp2
      go_ret
      exact ⟨by first | rfl | (simp; done) | (simp [*]; done), by repeat (first | exact Drawn0.refl _ | apply Drawn0.step)⟩
     ·rw [if_neg c5] at H
      have c5b0 : decide ((bt a0 x3_1) < 32) = false := decide_eq_false c5
      clear c5
      by_cases c7 : (bt a0 x3_1) > 126
      ·rw [if_pos c7] at H
       have c7b0 : decide (126 < (bt a0 x3_1)) = true := decide_eq_true c7
       clear c7
       obtain rfl := Option.some.inj H
       have p4 : 0 ≤ (x3_1 : Int) := of_decide_eq_true (by first | (with_reducible assumption) | assumption)
       have q4 : x3_1 < (a0.size : Int) := of_decide_eq_true (by first | (with_reducible assumption) | assumption)
       have hx4 := bt_at a0 x3_1
       replace p4 := eq_true p4
       replace q4 := eq_true q4
       have p6 : 0 ≤ (x3_1 : Int) := of_decide_eq_true (by first | (with_reducible assumption) | assumption)
       have q6 : x3_1 < (a0.size : Int) := of_decide_eq_true (by first | (with_reducible assumption) | assumption)
       have hx6 := bt_at a0 x3_1
       replace p6 := eq_true p6
       replace q6 := eq_true q6
       go_wp2
       go_ret
       exact ⟨by first | rfl | (simp; done) | (simp [*]; done), by repeat (first | exact Drawn0.refl _ | apply Drawn0.step)⟩
      ·rw [if_neg c7] at H
       have c7b0 : decide (126 < (bt a0 x3_1)) = false := decide_eq_false c7
       clear c7
       have H' := Aside0.mk H
       clear H
       have p4 : 0 ≤ (x3_1 : Int) := of_decide_eq_true (by first | (with_reducible assumption) | assumption)
       have q4 : x3_1 < (a0.size : Int) := of_decide_eq_true (by first | (with_reducible assumption) | assumption)
       have hx4 := bt_at a0 x3_1
       replace p4 := eq_true p4
       replace q4 := eq_true q4
       have p6 : 0 ≤ (x3_1 : Int) := of_decide_eq_true (by first | (with_reducible assumption) | assumption)
       have q6 : x3_1 < (a0.size : Int) := of_decide_eq_true (by first | (with_reducible assumption) | assumption)
       have hx6 := bt_at a0 x3_1
       replace p6 := eq_true p6
       replace q6 := eq_true q6
       go_wp2
       go_roundg k1
       case measure => have := HK1.out; omega
       case rel => exact ⟨(wrap64 (x3_1 + 1)), (by first | rfl | (simp; done) | (simp [*]; done)), H', ⟨by have := HK1.out; omega⟩, by repeat (first | exact Drawn0.refl _ | apply Drawn0.step)⟩
    ·rw [if_neg c3] at H
     exact absurd H (by simp)
   ·rw [if_neg c2] at H
    have c2b0 : decide (x3_1 < (a0.size : Int)) = false := decide_eq_false c2
    clear c2
    obtain rfl := Option.some.inj H
    go_wp2
    go_ret
    exact ⟨by first | rfl | (simp; done) | (simp [*]; done), by repeat (first | exact Drawn0.refl _ | apply Drawn0.step)⟩

/-! ### spec_l00Rises: function 62 -/
def spec_l00Rises.l0 : Nat → List Int → Int → Int → Int → Option (Bool)
 | 0, _, _, _, _ => none
 | k + 1, x0, x1, x2, x7 => if x7 < (x0.length : Int) then (if 0 ≤ x7 then ((spec_l00In.f (rd x0 x7) x1 x2).bind fun t169 => (if t169 = true then (if x7 > 0 then (if 0 ≤ (wrap64 (x7 - 1)) then (if (wrap64 (x7 - 1)) < (x0.length : Int) then (if (rd x0 (wrap64 (x7 - 1))) ≥ (rd x0 x7) then (some false) else (spec_l00Rises.l0 k x0 x1 x2 (wrap64 (x7 + 1)))) else (none)) else (none)) else (spec_l00Rises.l0 k x0 x1 x2 (wrap64 (x7 + 1)))) else (some false))) else (none)) else (some true)
def spec_l00Rises.f (k : Nat) (l0 : List Int) (a1 : Int) (a2 : Int) : Option (Bool) := spec_l00Rises.l0 k l0 a1 a2 0
theorem spec_l00Rises.mono_l : ∀ k, (∀ y0 y1 y2 y3, LeO (spec_l00Rises.l0 k y0 y1 y2 y3) (spec_l00Rises.l0 (k + 1) y0 y1 y2 y3))
 | 0 => fun _ _ _ _ r h => by simp [spec_l00Rises.l0] at h
 | k + 1 => by
  have ih0 := spec_l00Rises.mono_l k
  ·intro y0 y1 y2 y3
   unfold spec_l00Rises.l0
   repeat' first
   | (with_reducible exact ih0 _ _ _ _)
   | (with_reducible exact LeO.refl _)
   | (with_reducible exact LeO.none _)
   | (with_reducible refine LeO.ite ?_ ?_)
   | (with_reducible refine LeO.bind ?_ (fun _ => ?_))
   | exact ih0 _ _ _ _
   | exact LeO.none _
   | refine LeO.ite ?_ ?_
   | refine LeO.bind ?_ (fun _ => ?_)
theorem spec_l00Rises.mono : ∀ a0 a1 a2 k, LeO (spec_l00Rises.f k a0 a1 a2) (spec_l00Rises.f (k + 1) a0 a1 a2) := by
 intro a0 a1 a2 k
 have ih0 := spec_l00Rises.mono_l k
 unfold spec_l00Rises.f
 repeat' first
   | (with_reducible exact ih0 _ _ _ _)
   | (with_reducible exact LeO.refl _)
   | (with_reducible exact LeO.none _)
   | (with_reducible refine LeO.ite ?_ ?_)
   | (with_reducible refine LeO.bind ?_ (fun _ => ?_))
   | exact ih0 _ _ _ _
   | exact LeO.none _
   | refine LeO.ite ?_ ?_
   | refine LeO.bind ?_ (fun _ => ?_)
set_option maxHeartbeats 8000000 in
set_option maxRecDepth 100000 in
theorem spec_l00Rises.calls (k : Nat) (A0 : Option Addr) (c0 : Nat) (l0 : List Int) (a1 : Int) (a2 : Int) (r : Bool) (w : World) (hr0 : Kd.C (Kd.int .i64) w A0 l0.length l0) (hc0 : l0.length ≤ c0) (h : spec_l00Rises.f k l0 a1 a2 = some r) :
  Calls Try.prog 62 #[.slice A0 l0.length c0, .int .i64 a1, .int .i64 a2] w fun e w' => e = .returned (.bool r) ∧ Drawn0 w w' := by
 have HR0 := Aside0.mk hr0
 have HC0 := Aside0.mk hc0
 clear hr0 hc0
 have H : (spec_l00Rises.l0 k l0 a1 a2 0) = some r := h
 clear h
 have H' := Aside0.mk H
 clear H
 go_enter Try.func62, Try.ntmps62
 go_wp2
 repeat (go_quiet (fail); try go_wp2)
 go_loopg [7] k (fun kq v7 w' => ∃ (x7_1 : Int), v7 = .int .i64 x7_1 ∧ Aside0 (spec_l00Rises.l0 kq l0 a1 a2 x7_1 = some r) ∧ Aside0 (kq ≤ k) ∧ Drawn0 w w')
 case atStart => exact ⟨(0), (by first | rfl | (simp; done) | (simp [*]; done)), H', ⟨Nat.le_refl _⟩, by repeat (first | exact Drawn0.refl _ | apply Drawn0.step)⟩
 case round =>
  clear H'
  try clear p2
  obtain ⟨x7_1, rfl, HA, HK1, ⟨m1, rfl⟩⟩ := hrel
  cases gk with
  | zero => exact absurd HA.out (by simp [spec_l00Rises.l0])
  | succ k1 =>
   have H := HA.out
   clear HA
   simp only [spec_l00Rises.l0] at H
   by_cases c4 : x7_1 < (l0.length : Int)
   ·rw [if_pos c4] at H
    have c4b0 : decide (x7_1 < (l0.length : Int)) = true := decide_eq_true c4
    clear c4
    by_cases c5 : 0 ≤ x7_1
    ·rw [if_pos c5] at H
     have c5b0 : decide (0 ≤ x7_1) = true := decide_eq_true c5
     clear c5
     replace H := Option.bind_eq_some_iff.mp H
     obtain ⟨t169, A60, H⟩ := H
     replace H : (if t169 = true then (if x7_1 > 0 then (if 0 ≤ (wrap64 (x7_1 - 1)) then (if (wrap64 (x7_1 - 1)) < (l0.length : Int) then (if (rd l0 (wrap64 (x7_1 - 1))) ≥ (rd l0 x7_1) then (some false) else (spec_l00Rises.l0 k1 l0 a1 a2 (wrap64 (x7_1 + 1)))) else (none)) else (none)) else (spec_l00Rises.l0 k1 l0 a1 a2 (wrap64 (x7_1 + 1)))) else (some false)) = some r := H
     have A6 := Aside0.mk A60
     clear A60
     by_cases c7 : t169 = true
     ·subst c7
      have H1 : (if x7_1 > 0 then (if 0 ≤ (wrap64 (x7_1 - 1)) then (if (wrap64 (x7_1 - 1)) < (l0.length : Int) then (if (rd l0 (wrap64 (x7_1 - 1))) ≥ (rd l0 x7_1) then (some false) else (spec_l00Rises.l0 k1 l0 a1 a2 (wrap64 (x7_1 + 1)))) else (none)) else (none)) else (spec_l00Rises.l0 k1 l0 a1 a2 (wrap64 (x7_1 + 1)))) = some r := by rw [if_pos rfl] at H; exact H
      clear H
      have H := H1
      clear H1
      by_cases c8 : x7_1 > 0
      ·rw [if_pos c8] at H
       have c8b0 : decide (0 < x7_1) = true := decide_eq_true c8
       clear c8
       obtain ⟨ji9, hji9⟩ : ∃ j_ : Int, (wrap64 (x7_1 - 1)) = j_ := ⟨_, rfl⟩
       replace H : (if 0 ≤ (ji9) then (if (ji9) < (l0.length : Int) then (if (rd l0 (ji9)) ≥ (rd l0 x7_1) then (some false) else (spec_l00Rises.l0 k1 l0 a1 a2 (wrap64 (x7_1 + 1)))) else (none)) else (none)) = some r := by first | (rw [hji9] at H; exact H) | (simp only [hji9] at H ⊢; exact H)
       (try rw [hji9] at A6)
       have hji9w : (IntKind.i64.wrap (x7_1 - 1)) = ji9 := (i64_w _).trans hji9
       by_cases c10 : 0 ≤ (ji9)
       ·rw [if_pos c10] at H
        have c10b0 : decide (0 ≤ (ji9)) = true := decide_eq_true c10
        clear c10
        by_cases c11 : (ji9) < (l0.length : Int)
        ·rw [if_pos c11] at H
         have c11b0 : decide ((ji9) < (l0.length : Int)) = true := decide_eq_true c11
         clear c11
         by_cases c12 : (rd l0 (ji9)) ≥ (rd l0 x7_1)
         ·rw [if_pos c12] at H
          have c12b0 : decide ((rd l0 x7_1) ≤ (rd l0 (ji9))) = true := decide_eq_true c12
          clear c12
          obtain rfl := Option.some.inj H
          have p168 : 0 ≤ (x7_1 : Int) := of_decide_eq_true (by first | (with_reducible assumption) | assumption)
          have q168 : x7_1 < (l0.length : Int) := of_decide_eq_true (by first | (with_reducible assumption) | assumption)
          obtain ⟨ad168, e168, hx168_0⟩ := Kd.at_int HR0.out x7_1 p168 q168
          cases e168
          replace p168 := eq_true p168
          replace q168 := eq_true q168
          go_wp2_with (first | (go_at_call 29; (with_reducible refine (spec_l00In.calls (rd l0 x7_1) a1 a2 true _ A6.out).mono ?_); rintro e w' ⟨rfl, ⟨nd, rfl⟩⟩; (try first | exact ⟨rfl, _, World.drewN_drewN _ _ _⟩ | exact ⟨rfl, _, Eq.trans (World.drewN_drewN _ _ _) (congrArg (World.drewN _) (Nat.add_assoc _ _ _))⟩); have p170 : 0 ≤ ((ji9) : Int) := of_decide_eq_true (by first | (with_reducible assumption) | assumption); have q170 : (ji9) < (l0.length : Int) := of_decide_eq_true (by first | (with_reducible assumption) | assumption); obtain ⟨ad170, e170, hx170_0⟩ := Kd.at_int HR0.out (ji9) p170 q170; obtain rfl : ad168 = ad170 := (by injection e170); replace p170 := eq_true p170; replace q170 := eq_true q170; have p171 : 0 ≤ (x7_1 : Int) := of_decide_eq_true (by first | (with_reducible assumption) | assumption); have q171 : x7_1 < (l0.length : Int) := of_decide_eq_true (by first | (with_reducible assumption) | assumption); obtain ⟨ad171, e171, hx171_0⟩ := Kd.at_int HR0.out x7_1 p171 q171; obtain rfl : ad168 = ad171 := (by injection e171); replace p171 := eq_true p171; replace q171 := eq_true q171))
          repeat (go_quiet (first | (go_at_call 29; (with_reducible refine (spec_l00In.calls (rd l0 x7_1) a1 a2 true _ A6.out).mono ?_); rintro e w' ⟨rfl, ⟨nd, rfl⟩⟩; (try first | exact ⟨rfl, _, World.drewN_drewN _ _ _⟩ | exact ⟨rfl, _, Eq.trans (World.drewN_drewN _ _ _) (congrArg (World.drewN _) (Nat.add_assoc _ _ _))⟩); have p170 : 0 ≤ ((ji9) : Int) := of_decide_eq_true (by first | (with_reducible assumption) | assumption); have q170 : (ji9) < (l0.length : Int) := of_decide_eq_true (by first | (with_reducible assumption) | assumption); obtain ⟨ad170, e170, hx170_0⟩ := Kd.at_int HR0.out (ji9) p170 q170; obtain rfl : ad168 = ad170 := (by injection e170); replace p170 := eq_true p170; replace q170 := eq_true q170; have p171 : 0 ≤ (x7_1 : Int) := of_decide_eq_true (by first | (with_reducible assumption) | assumption); have q171 : x7_1 < (l0.length : Int) := of_decide_eq_true (by first | (with_reducible assumption) | assumption); obtain ⟨ad171, e171, hx171_0⟩ := Kd.at_int HR0.out x7_1 p171 q171; obtain rfl : ad168 = ad171 := (by injection e171); replace p171 := eq_true p171; replace q171 := eq_true q171)); try go_wp2_with (first | (go_at_call 29; (with_reducible refine (spec_l00In.calls (rd l0 x7_1) a1 a2 true _ A6.out).mono ?_); rintro e w' ⟨rfl, ⟨nd, rfl⟩⟩; (try first | exact ⟨rfl, _, World.drewN_drewN _ _ _⟩ | exact ⟨rfl, _, Eq.trans (World.drewN_drewN _ _ _) (congrArg (World.drewN _) (Nat.add_assoc _ _ _))⟩); have p170 : 0 ≤ ((ji9) : Int) := of_decide_eq_true (by first | (with_reducible assumption) | assumption); have q170 : (ji9) < (l0.length : Int) := of_decide_eq_true (by first | (with_reducible assumption) | assumption); obtain ⟨ad170, e170, hx170_0⟩ := Kd.at_int HR0.out (ji9) p170 q170; obtain rfl : ad168 = ad170 := (by injection e170); replace p170 := eq_true p170; replace q170 := eq_true q170; have p171 : 0 ≤ (x7_1 : Int) := of_decide_eq_true (by first | (with_reducible assumption) | assumption); have q171 : x7_1 < (l0.length : Int) := of_decide_eq_true (by first | (with_reducible assumption) | assumption); obtain ⟨ad171, e171, hx171_0⟩ := Kd.at_int HR0.out x7_1 p171 q171; obtain rfl : ad168 = ad171 := (by injection e171); replace p171 := eq_true p171; replace q171 := eq_true q171)))
          go_ret
          exact ⟨by first | rfl | (simp; done) | (simp only [← hji9] <;> (first | rfl | simp)) | (simp [*]; done), by repeat (first | exact Drawn0.refl _ | apply Drawn0.step)⟩
         ·rw [if_neg c12] at H
          have c12b0 : decide ((rd l0 x7_1) ≤ (rd l0 (ji9))) = false := decide_eq_false c12
          clear c12
          have H' := Aside0.mk H
          clear H
          have p168 : 0 ≤ (x7_1 : Int) := of_decide_eq_true (by first | (with_reducible assumption) | assumption)
          have q168 : x7_1 < (l0.length : Int) := of_decide_eq_true (by first | (with_reducible assumption) | assumption)
          obtain ⟨ad168, e168, hx168_0⟩ := Kd.at_int HR0.out x7_1 p168 q168
          cases e168
          replace p168 := eq_true p168
          replace q168 := eq_true q168
          go_wp2_with (first | (go_at_call 29; (with_reducible refine (spec_l00In.calls (rd l0 x7_1) a1 a2 true _ A6.out).mono ?_); rintro e w' ⟨rfl, ⟨nd, rfl⟩⟩; (try first | exact ⟨rfl, _, World.drewN_drewN _ _ _⟩ | exact ⟨rfl, _, Eq.trans (World.drewN_drewN _ _ _) (congrArg (World.drewN _) (Nat.add_assoc _ _ _))⟩); have p170 : 0 ≤ ((ji9) : Int) := of_decide_eq_true (by first | (with_reducible assumption) | assumption); have q170 : (ji9) < (l0.length : Int) := of_decide_eq_true (by first | (with_reducible assumption) | assumption); obtain ⟨ad170, e170, hx170_0⟩ := Kd.at_int HR0.out (ji9) p170 q170; obtain rfl : ad168 = ad170 := (by injection e170); replace p170 := eq_true p170; replace q170 := eq_true q170; have p171 : 0 ≤ (x7_1 : Int) := of_decide_eq_true (by first | (with_reducible assumption) | assumption); have q171 : x7_1 < (l0.length : Int) := of_decide_eq_true (by first | (with_reducible assumption) | assumption); obtain ⟨ad171, e171, hx171_0⟩ := Kd.at_int HR0.out x7_1 p171 q171; obtain rfl : ad168 = ad171 := (by injection e171); replace p171 := eq_true p171; replace q171 := eq_true q171))
          repeat (go_quiet (first | (go_at_call 29; (with_reducible refine (spec_l00In.calls (rd l0 x7_1) a1 a2 true _ A6.out).mono ?_); rintro e w' ⟨rfl, ⟨nd, rfl⟩⟩; (try first | exact ⟨rfl, _, World.drewN_drewN _ _ _⟩ | exact ⟨rfl, _, Eq.trans (World.drewN_drewN _ _ _) (congrArg (World.drewN _) (Nat.add_assoc _ _ _))⟩); have p170 : 0 ≤ ((ji9) : Int) := of_decide_eq_true (by first | (with_reducible assumption) | assumption); have q170 : (ji9) < (l0.length : Int) := of_decide_eq_true (by first | (with_reducible assumption) | assumption); obtain ⟨ad170, e170, hx170_0⟩ := Kd.at_int HR0.out (ji9) p170 q170; obtain rfl : ad168 = ad170 := (by injection e170); replace p170 := eq_true p170; replace q170 := eq_true q170; have p171 : 0 ≤ (x7_1 : Int) := of_decide_eq_true (by first | (with_reducible assumption) | assumption); have q171 : x7_1 < (l0.length : Int) := of_decide_eq_true (by first | (with_reducible assumption) | assumption); obtain ⟨ad171, e171, hx171_0⟩ := Kd.at_int HR0.out x7_1 p171 q171; obtain rfl : ad168 = ad171 := (by injection e171); replace p171 := eq_true p171; replace q171 := eq_true q171)); try go_wp2_with (first | (go_at_call 29; (with_reducible refine (spec_l00In.calls (rd l0 x7_1) a1 a2 true _ A6.out).mono ?_); rintro e w' ⟨rfl, ⟨nd, rfl⟩⟩; (try first | exact ⟨rfl, _, World.drewN_drewN _ _ _⟩ | exact ⟨rfl, _, Eq.trans (World.drewN_drewN _ _ _) (congrArg (World.drewN _) (Nat.add_assoc _ _ _))⟩); have p170 : 0 ≤ ((ji9) : Int) := of_decide_eq_true (by first | (with_reducible assumption) | assumption); have q170 : (ji9) < (l0.length : Int) := of_decide_eq_true (by first | (with_reducible assumption) | assumption); obtain ⟨ad170, e170, hx170_0⟩ := Kd.at_int HR0.out (ji9) p170 q170; obtain rfl : ad168 = ad170 := (by injection e170); replace p170 := eq_true p170; replace q170 := eq_true q170; have p171 : 0 ≤ (x7_1 : Int) := of_decide_eq_true (by first | (with_reducible assumption) | assumption); have q171 : x7_1 < (l0.length : Int) := of_decide_eq_true (by first | (with_reducible assumption) | assumption); obtain ⟨ad171, e171, hx171_0⟩ := Kd.at_int HR0.out x7_1 p171 q171; obtain rfl : ad168 = ad171 := (by injection e171); replace p171 := eq_true p171; replace q171 := eq_true q171)))
          go_roundg k1
          case measure => have := HK1.out; omega
          case rel => exact ⟨(wrap64 (x7_1 + 1)), (by first | rfl | (simp; done) | (simp [*]; done)), H', ⟨by have := HK1.out; omega⟩, by repeat (first | exact Drawn0.refl _ | apply Drawn0.step)⟩
        ·rw [if_neg c11] at H
         exact absurd H (by simp)
       ·rw [if_neg c10] at H
        exact absurd H (by simp)
      ·rw [if_neg c8] at H
       have c8b0 : decide (0 < x7_1) = false := decide_eq_false c8
       clear c8
       have H' := Aside0.mk H
       clear H
       have p168 : 0 ≤ (x7_1 : Int) := of_decide_eq_true (by first | (with_reducible assumption) | assumption)
       have q168 : x7_1 < (l0.length : Int) := of_decide_eq_true (by first | (with_reducible assumption) | assumption)
       obtain ⟨ad168, e168, hx168_0⟩ := Kd.at_int HR0.out x7_1 p168 q168
       cases e168
       replace p168 := eq_true p168
       replace q168 := eq_true q168
       go_wp2_with (first | (go_at_call 29; (with_reducible refine (spec_l00In.calls (rd l0 x7_1) a1 a2 true _ A6.out).mono ?_); rintro e w' ⟨rfl, ⟨nd, rfl⟩⟩; (try first | exact ⟨rfl, _, World.drewN_drewN _ _ _⟩ | exact ⟨rfl, _, Eq.trans (World.drewN_drewN _ _ _) (congrArg (World.drewN _) (Nat.add_assoc _ _ _))⟩)))
       repeat (go_quiet (first | (go_at_call 29; (with_reducible refine (spec_l00In.calls (rd l0 x7_1) a1 a2 true _ A6.out).mono ?_); rintro e w' ⟨rfl, ⟨nd, rfl⟩⟩; (try first | exact ⟨rfl, _, World.drewN_drewN _ _ _⟩ | exact ⟨rfl, _, Eq.trans (World.drewN_drewN _ _ _) (congrArg (World.drewN _) (Nat.add_assoc _ _ _))⟩))); try go_wp2_with (first | (go_at_call 29; (with_reducible refine (spec_l00In.calls (rd l0 x7_1) a1 a2 true _ A6.out).mono ?_); rintro e w' ⟨rfl, ⟨nd, rfl⟩⟩; (try first | exact ⟨rfl, _, World.drewN_drewN _ _ _⟩ | exact ⟨rfl, _, Eq.trans (World.drewN_drewN _ _ _) (congrArg (World.drewN _) (Nat.add_assoc _ _ _))⟩))))
       go_roundg k1
       case measure => have := HK1.out; omega
       case rel => exact ⟨(wrap64 (x7_1 + 1)), (by first | rfl | (simp; done) | (simp [*]; done)), H', ⟨by have := HK1.out; omega⟩, by repeat (first | exact Drawn0.refl _ | apply Drawn0.step)⟩
     ·replace c7 := Bool.eq_false_iff.mpr c7
      subst c7
      have H1 : (some false) = some r := by rw [if_neg (show ¬ (false = true) by decide)] at H; exact H
      clear H
      have H := H1
      clear H1
      obtain rfl := Option.some.inj H
      have p168 : 0 ≤ (x7_1 : Int) := of_decide_eq_true (by first | (with_reducible assumption) | assumption)
      have q168 : x7_1 < (l0.length : Int) := of_decide_eq_true (by first | (with_reducible assumption) | assumption)
      obtain ⟨ad168, e168, hx168_0⟩ := Kd.at_int HR0.out x7_1 p168 q168
      cases e168
      replace p168 := eq_true p168
      replace q168 := eq_true q168
      go_wp2_with (first | (go_at_call 29; (with_reducible refine (spec_l00In.calls (rd l0 x7_1) a1 a2 false _ A6.out).mono ?_); rintro e w' ⟨rfl, ⟨nd, rfl⟩⟩; (try first | exact ⟨rfl, _, World.drewN_drewN _ _ _⟩ | exact ⟨rfl, _, Eq.trans (World.drewN_drewN _ _ _) (congrArg (World.drewN _) (Nat.add_assoc _ _ _))⟩)))
      repeat (go_quiet (first | (go_at_call 29; (with_reducible refine (spec_l00In.calls (rd l0 x7_1) a1 a2 false _ A6.out).mono ?_); rintro e w' ⟨rfl, ⟨nd, rfl⟩⟩; (try first | exact ⟨rfl, _, World.drewN_drewN _ _ _⟩ | exact ⟨rfl, _, Eq.trans (World.drewN_drewN _ _ _) (congrArg (World.drewN _) (Nat.add_assoc _ _ _))⟩))); try go_wp2_with (first | (go_at_call 29; (with_reducible refine (spec_l00In.calls (rd l0 x7_1) a1 a2 false _ A6.out).mono ?_); rintro e w' ⟨rfl, ⟨nd, rfl⟩⟩; (try first | exact ⟨rfl, _, World.drewN_drewN _ _ _⟩ | exact ⟨rfl, _, Eq.trans (World.drewN_drewN _ _ _) (congrArg (World.drewN _) (Nat.add_assoc _ _ _))⟩))))
      go_ret
      exact ⟨by first | rfl | (simp; done) | (simp [*]; done), by repeat (first | exact Drawn0.refl _ | apply Drawn0.step)⟩
    ·rw [if_neg c5] at H
     exact absurd H (by simp)
   ·rw [if_neg c4] at H
    have c4b0 : decide (x7_1 < (l0.length : Int)) = false := decide_eq_false c4
    clear c4
    obtain rfl := Option.some.inj H
    go_wp2
    repeat (go_quiet (fail); try go_wp2)
    go_ret
    exact ⟨by first | rfl | (simp; done) | (simp [*]; done), by repeat (first | exact Drawn0.refl _ | apply Drawn0.step)⟩

/-! ### spec_l01Members: function 43 -/
def spec_l01Members.f (k : Nat) (l0 : List Int) : Option (Bool) := (spec_l00Rises.f k l0 1 1000).bind fun t172 => (some t172)
theorem spec_l01Members.mono : ∀ a0 k, LeO (spec_l01Members.f k a0) (spec_l01Members.f (k + 1) a0) := by
 intro a0 k
 unfold spec_l01Members.f
 repeat' first
   | (with_reducible exact spec_l00Rises.mono _ _ _ _)
   | (with_reducible exact LeO.refl _)
   | (with_reducible exact LeO.none _)
   | (with_reducible refine LeO.ite ?_ ?_)
   | (with_reducible refine LeO.bind ?_ (fun _ => ?_))
   | exact spec_l00Rises.mono _ _ _ _
   | exact LeO.none _
   | refine LeO.ite ?_ ?_
   | refine LeO.bind ?_ (fun _ => ?_)
set_option maxHeartbeats 8000000 in
set_option maxRecDepth 100000 in
theorem spec_l01Members.calls (k : Nat) (A0 : Option Addr) (c0 : Nat) (l0 : List Int) (r : Bool) (w : World) (hr0 : Kd.C (Kd.int .i64) w A0 l0.length l0) (hc0 : l0.length ≤ c0) (h : spec_l01Members.f k l0 = some r) :
  Calls Try.prog 43 #[.slice A0 l0.length c0] w fun e w' => e = .returned (.bool r) ∧ Drawn0 w w' := by
 have HR0 := Aside0.mk hr0
 have HC0 := Aside0.mk hc0
 clear hr0 hc0
 have H : ((spec_l00Rises.f k l0 1 1000).bind fun t172 => (some t172)) = some r := h
 clear h
 replace H := Option.bind_eq_some_iff.mp H
 obtain ⟨t172, A20, H⟩ := H
 replace H : (some t172) = some r := H
 have A2 := Aside0.mk A20
 clear A20
 obtain rfl := Option.some.inj H
 go_enter Try.func43, Try.ntmps43
 go_wp2_with (first | ((with_reducible refine gate_callee (f := 62) rfl ?_); refine goesL_ (some 4) rfl rfl Try.func62 (by kernel_rfl) rfl #[.slice A0 l0.length c0, .int .i64 1, .int .i64 1000] rfl (by (try simp only [List.map_toArray, List.map_cons, List.map_nil]); first | done | rfl | (simp only [List.length_drop, List.length_take]; rfl)) ?_; (with_reducible refine (spec_l00Rises.calls k _ _ l0 1 1000 t172 _ ?side1 ?side2 A2.out).mono ?_); (case side1 => repeat (first | exact HR0.out | (with_reducible refine Kd.C_alloc ?_ _) | (with_reducible refine Kd.C_drewN ?_ _) | (with_reducible refine Kd.C_drew ?_))); (case side2 => exact HC0.out); rintro e w' ⟨rfl, ⟨nd, rfl⟩⟩; refine ⟨_, rfl, ?_⟩))
 go_ret
 exact ⟨by first | rfl | (simp; done) | (simp [*]; done), by repeat (first | exact Drawn0.refl _ | apply Drawn0.step)⟩

/-! ### spec_l00Has: function 44 -/
def spec_l00Has.l0 : Nat → List Int → Int → Int → Option (Bool)
 | 0, _, _, _ => none
 | k + 1, x0, x1, x5 => if x5 < (x0.length : Int) then (if 0 ≤ x5 then (if (rd x0 x5) = x1 then (some true) else (spec_l00Has.l0 k x0 x1 (wrap64 (x5 + 1)))) else (none)) else (some false)
def spec_l00Has.f (k : Nat) (l0 : List Int) (a1 : Int) : Option (Bool) := spec_l00Has.l0 k l0 a1 0
theorem spec_l00Has.mono_l : ∀ k, (∀ y0 y1 y2, LeO (spec_l00Has.l0 k y0 y1 y2) (spec_l00Has.l0 (k + 1) y0 y1 y2))
 | 0 => fun _ _ _ r h => by simp [spec_l00Has.l0] at h
 | k + 1 => by
  have ih0 := spec_l00Has.mono_l k
  ·intro y0 y1 y2
   unfold spec_l00Has.l0
   repeat' first
   | (with_reducible exact ih0 _ _ _)
   | (with_reducible exact LeO.refl _)
   | (with_reducible exact LeO.none _)
   | (with_reducible refine LeO.ite ?_ ?_)
   | (with_reducible refine LeO.bind ?_ (fun _ => ?_))
   | exact ih0 _ _ _
   | exact LeO.none _
   | refine LeO.ite ?_ ?_
   | refine LeO.bind ?_ (fun _ => ?_)
theorem spec_l00Has.mono : ∀ a0 a1 k, LeO (spec_l00Has.f k a0 a1) (spec_l00Has.f (k + 1) a0 a1) := by
 intro a0 a1 k
 have ih0 := spec_l00Has.mono_l k
 unfold spec_l00Has.f
 repeat' first
   | (with_reducible exact ih0 _ _ _)
   | (with_reducible exact LeO.refl _)
   | (with_reducible exact LeO.none _)
   | (with_reducible refine LeO.ite ?_ ?_)
   | (with_reducible refine LeO.bind ?_ (fun _ => ?_))
   | exact ih0 _ _ _
   | exact LeO.none _
   | refine LeO.ite ?_ ?_
   | refine LeO.bind ?_ (fun _ => ?_)
set_option maxHeartbeats 8000000 in
set_option maxRecDepth 100000 in
theorem spec_l00Has.calls (k : Nat) (A0 : Option Addr) (c0 : Nat) (l0 : List Int) (a1 : Int) (r : Bool) (w : World) (hr0 : Kd.C (Kd.int .i64) w A0 l0.length l0) (hc0 : l0.length ≤ c0) (h : spec_l00Has.f k l0 a1 = some r) :
  Calls Try.prog 44 #[.slice A0 l0.length c0, .int .i64 a1] w fun e w' => e = .returned (.bool r) ∧ Drawn0 w w' := by
 have HR0 := Aside0.mk hr0
 have HC0 := Aside0.mk hc0
 clear hr0 hc0
 have H : (spec_l00Has.l0 k l0 a1 0) = some r := h
 clear h
 have H' := Aside0.mk H
 clear H
 go_enter Try.func44, Try.ntmps44
 go_wp2
 go_loopg [5] k (fun kq v5 w' => ∃ (x5_1 : Int), v5 = .int .i64 x5_1 ∧ Aside0 (spec_l00Has.l0 kq l0 a1 x5_1 = some r) ∧ Aside0 (kq ≤ k) ∧ Drawn0 w w')
 case atStart => exact ⟨(0), (by first | rfl | (simp; done) | (simp [*]; done)), H', ⟨Nat.le_refl _⟩, by repeat (first | exact Drawn0.refl _ | apply Drawn0.step)⟩
 case round =>
  clear H'
  try clear p2
  obtain ⟨x5_1, rfl, HA, HK1, ⟨m1, rfl⟩⟩ := hrel
  cases gk with
  | zero => exact absurd HA.out (by simp [spec_l00Has.l0])
  | succ k1 =>
   have H := HA.out
   clear HA
   simp only [spec_l00Has.l0] at H
   by_cases c3 : x5_1 < (l0.length : Int)
   ·rw [if_pos c3] at H
    have c3b0 : decide (x5_1 < (l0.length : Int)) = true := decide_eq_true c3
    clear c3
    by_cases c4 : 0 ≤ x5_1
    ·rw [if_pos c4] at H
     have c4b0 : decide (0 ≤ x5_1) = true := decide_eq_true c4
     clear c4
     by_cases c5 : (rd l0 x5_1) = a1
     ·rw [if_pos c5] at H
      have c5b0 : ((rd l0 x5_1) == a1) = true := beq_iff_eq.mpr c5
      have c5b1 : ((rd l0 x5_1) != a1) = false := bne_eq_false_iff_eq.mpr c5
      clear c5
      obtain rfl := Option.some.inj H
      have p173 : 0 ≤ (x5_1 : Int) := of_decide_eq_true (by first | (with_reducible assumption) | assumption)
      have q173 : x5_1 < (l0.length : Int) := of_decide_eq_true (by first | (with_reducible assumption) | assumption)
      obtain ⟨ad173, e173, hx173_0⟩ := Kd.at_int HR0.out x5_1 p173 q173
      cases e173
      replace p173 := eq_true p173
      replace q173 := eq_true q173
      go_wp2
      go_ret
      exact ⟨by first | rfl | (simp; done) | (simp [*]; done), by repeat (first | exact Drawn0.refl _ | apply Drawn0.step)⟩
     ·rw [if_neg c5] at H
      have c5b0 : ((rd l0 x5_1) == a1) = false := beq_eq_false_iff_ne.mpr c5
      have c5b1 : ((rd l0 x5_1) != a1) = true := bne_iff_ne.mpr c5
      have H' := Aside0.mk H
      clear H
      have p173 : 0 ≤ (x5_1 : Int) := of_decide_eq_true (by first | (with_reducible assumption) | assumption)
      have q173 : x5_1 < (l0.length : Int) := of_decide_eq_true (by first | (with_reducible assumption) | assumption)
      obtain ⟨ad173, e173, hx173_0⟩ := Kd.at_int HR0.out x5_1 p173 q173
      cases e173
      replace p173 := eq_true p173
      replace q173 := eq_true q173
      go_wp2
      go_roundg k1
      case measure => have := HK1.out; omega
      case rel => exact ⟨(wrap64 (x5_1 + 1)), (by first | rfl | (simp; done) | (simp [*]; done)), H', ⟨by have := HK1.out; omega⟩, by repeat (first | exact Drawn0.refl _ | apply Drawn0.step)⟩
    ·rw [if_neg c4] at H
     exact absurd H (by simp)
   ·rw [if_neg c3] at H
    have c3b0 : decide (x5_1 < (l0.length : Int)) = false := decide_eq_false c3
    clear c3
    obtain rfl := Option.some.inj H
    go_wp2
    go_ret
    exact ⟨by first | rfl | (simp; done) | (simp [*]; done), by repeat (first | exact Drawn0.refl _ | apply Drawn0.step)⟩

end Go.Proofs.Ytallocgnpbpbhab.XFnExactCountsOf
