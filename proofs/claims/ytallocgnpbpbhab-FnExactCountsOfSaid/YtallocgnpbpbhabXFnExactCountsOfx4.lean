-- Written by a program of this session (wip/xprint: over the kit's print). Not trusted: Lean checks it.
import Derived.Test.YtallocgnpbpbhabXFnExactCountsOfx0
import Derived.Test.YtallocgnpbpbhabXFnExactCountsOfx3
namespace Go.Proofs.Ytallocgnpbpbhab.XFnExactCountsOf
open Go.RowKit Go.Proofs.YtallocgnpbpbhabW.PrintWords Go.Proofs.YtallocgnpbpbhabW.PrintLast Go.Proofs.YtallocgnpbpbhabW.PrintMore
open Go.Proofs.Ytallocgnpbpbhab.XW
attribute [local go_sem] max2_int min2_int max_two min_two max_three min_three max_four min_four   -- for this text's walks alone
set_option linter.unusedVariables false
set_option linter.unusedSimpArgs false

/-! ### spec_l03Message: function 30 -/
def spec_l03Message.j0 : Nat → Bool → Int → Int → Int → ByteArray → Int → Bool → Int → List Int → Option (Bool)
 | 0, _, _, _, _, _, _, _, _, _ => none
 | k + 1, x53, x1000, x1001, x1002, x1003, x1004, x1005, x1006, x1007 => if x53 = true then (some false) else (if (x1007.length : Int) > 20 then (some false) else ((spec_l01Members.f k x1007).bind fun t180 => (if t180 = true then ((spec_l00Has.f k x1007 x1001).bind fun t181 => (if t181 = true then (some false) else (if x1005 = true then (if x1003.toList = ([] : List UInt8) then (some ((x1007.length : Int) == 0)) else (some false)) else (some true)))) else (some false))))
def spec_l03Message.f (k : Nat) (a0_0 : Int) (a0_1 : Int) (a0_2 : Int) (a0_3 : ByteArray) (a0_4 : Int) (a0_5 : Bool) (a0_6 : Int) (l0_7 : List Int) : Option (Bool) := (spec_l00In.f a0_0 1 1000000000).bind fun t174 => (if t174 = true then ((spec_l01Member.f a0_1).bind fun t175 => (if t175 = true then ((spec_l01Tick.f a0_2).bind fun t176 => (if t176 = true then ((spec_l01IsText.f k a0_3).bind fun t177 => (if t177 = true then ((spec_l00In.f a0_4 0 1000000000).bind fun t178 => (if t178 = true then ((spec_l00In.f a0_6 0 (wrap64 (a0_0 - 1))).bind fun t179 => (spec_l03Message.j0 k (!t179) a0_0 a0_1 a0_2 a0_3 a0_4 a0_5 a0_6 l0_7)) else (spec_l03Message.j0 k true a0_0 a0_1 a0_2 a0_3 a0_4 a0_5 a0_6 l0_7))) else (spec_l03Message.j0 k true a0_0 a0_1 a0_2 a0_3 a0_4 a0_5 a0_6 l0_7))) else (spec_l03Message.j0 k true a0_0 a0_1 a0_2 a0_3 a0_4 a0_5 a0_6 l0_7))) else (spec_l03Message.j0 k true a0_0 a0_1 a0_2 a0_3 a0_4 a0_5 a0_6 l0_7))) else (spec_l03Message.j0 k true a0_0 a0_1 a0_2 a0_3 a0_4 a0_5 a0_6 l0_7))
theorem spec_l03Message.mono_l : ∀ k, (∀ y0 y1 y2 y3 y4 y5 y6 y7 y8, LeO (spec_l03Message.j0 k y0 y1 y2 y3 y4 y5 y6 y7 y8) (spec_l03Message.j0 (k + 1) y0 y1 y2 y3 y4 y5 y6 y7 y8))
 | 0 => fun _ _ _ _ _ _ _ _ _ r h => by simp [spec_l03Message.j0] at h
 | k + 1 => by
  have ih0 := spec_l03Message.mono_l k
  ·intro y0 y1 y2 y3 y4 y5 y6 y7 y8
   unfold spec_l03Message.j0
   repeat' first
   | (with_reducible exact ih0 _ _ _ _ _ _ _ _ _)
   | (with_reducible exact spec_l00Has.mono _ _ _)
   | (with_reducible exact spec_l01IsText.mono _ _)
   | (with_reducible exact spec_l01Members.mono _ _)
   | (with_reducible exact LeO.refl _)
   | (with_reducible exact LeO.none _)
   | (with_reducible refine LeO.ite ?_ ?_)
   | (with_reducible refine LeO.bind ?_ (fun _ => ?_))
   | exact ih0 _ _ _ _ _ _ _ _ _
   | exact spec_l00Has.mono _ _ _
   | exact spec_l01IsText.mono _ _
   | exact spec_l01Members.mono _ _
   | exact LeO.none _
   | refine LeO.ite ?_ ?_
   | refine LeO.bind ?_ (fun _ => ?_)
theorem spec_l03Message.mono : ∀ a0 a1 a2 a3 a4 a5 a6 a7 k, LeO (spec_l03Message.f k a0 a1 a2 a3 a4 a5 a6 a7) (spec_l03Message.f (k + 1) a0 a1 a2 a3 a4 a5 a6 a7) := by
 intro a0 a1 a2 a3 a4 a5 a6 a7 k
 have ih0 := spec_l03Message.mono_l k
 unfold spec_l03Message.f
 repeat' first
   | (with_reducible exact ih0 _ _ _ _ _ _ _ _ _)
   | (with_reducible exact spec_l00Has.mono _ _ _)
   | (with_reducible exact spec_l01IsText.mono _ _)
   | (with_reducible exact spec_l01Members.mono _ _)
   | (with_reducible exact LeO.refl _)
   | (with_reducible exact LeO.none _)
   | (with_reducible refine LeO.ite ?_ ?_)
   | (with_reducible refine LeO.bind ?_ (fun _ => ?_))
   | exact ih0 _ _ _ _ _ _ _ _ _
   | exact spec_l00Has.mono _ _ _
   | exact spec_l01IsText.mono _ _
   | exact spec_l01Members.mono _ _
   | exact LeO.none _
   | refine LeO.ite ?_ ?_
   | refine LeO.bind ?_ (fun _ => ?_)
set_option maxHeartbeats 8000000 in
set_option maxRecDepth 100000 in
theorem spec_l03Message.calls (k : Nat) (pa0_ : Addr) (a0_0 : Int) (a0_1 : Int) (a0_2 : Int) (a0_3 : ByteArray) (a0_4 : Int) (a0_5 : Bool) (a0_6 : Int) (A0_7 : Option Addr) (c0_7 : Nat) (l0_7 : List Int) (r : Bool) (w : World) (hq0 : RP w pa0_ [.int .i64 a0_0, .int .i64 a0_1, .int .i64 a0_2, .string a0_3, .int .i64 a0_4, .bool a0_5, .int .i64 a0_6, .slice A0_7 l0_7.length c0_7]) (hr0_7 : Kd.C (Kd.int .i64) w A0_7 l0_7.length l0_7) (hc0_7 : l0_7.length ≤ c0_7) (h : spec_l03Message.f k a0_0 a0_1 a0_2 a0_3 a0_4 a0_5 a0_6 l0_7 = some r) :
  Calls Try.prog 30 #[.pointer (some pa0_)] w fun e w' => e = .returned (.bool r) ∧ Drawn0 w w' := by
 have HQ0 := Aside0.mk hq0
 clear hq0
 have HR0_7 := Aside0.mk hr0_7
 have HC0_7 := Aside0.mk hc0_7
 clear hr0_7 hc0_7
 have H : ((spec_l00In.f a0_0 1 1000000000).bind fun t174 => (if t174 = true then ((spec_l01Member.f a0_1).bind fun t175 => (if t175 = true then ((spec_l01Tick.f a0_2).bind fun t176 => (if t176 = true then ((spec_l01IsText.f k a0_3).bind fun t177 => (if t177 = true then ((spec_l00In.f a0_4 0 1000000000).bind fun t178 => (if t178 = true then ((spec_l00In.f a0_6 0 (wrap64 (a0_0 - 1))).bind fun t179 => (spec_l03Message.j0 k (!t179) a0_0 a0_1 a0_2 a0_3 a0_4 a0_5 a0_6 l0_7)) else (spec_l03Message.j0 k true a0_0 a0_1 a0_2 a0_3 a0_4 a0_5 a0_6 l0_7))) else (spec_l03Message.j0 k true a0_0 a0_1 a0_2 a0_3 a0_4 a0_5 a0_6 l0_7))) else (spec_l03Message.j0 k true a0_0 a0_1 a0_2 a0_3 a0_4 a0_5 a0_6 l0_7))) else (spec_l03Message.j0 k true a0_0 a0_1 a0_2 a0_3 a0_4 a0_5 a0_6 l0_7))) else (spec_l03Message.j0 k true a0_0 a0_1 a0_2 a0_3 a0_4 a0_5 a0_6 l0_7))) = some r := h
 clear h
 have HC2 := Aside0.mk H
 clear H
 go_enter Try.func30, Try.ntmps30
 go_upto_region 1 with (fail)
 repeat (go_quiet (fail); go_upto_region 1 with (fail))
 go_cut [53] (fun v53 wc => ∃ (kq : Nat) (x53_1 : Bool), v53 = .bool x53_1 ∧ Aside0 (spec_l03Message.j0 kq x53_1 a0_0 a0_1 a0_2 a0_3 a0_4 a0_5 a0_6 l0_7 = some r) ∧ Aside0 (kq ≤ k) ∧ Drawn0 w wc)
 case first =>
  have H := HC2.out
  clear HC2
  replace H := Option.bind_eq_some_iff.mp H
  obtain ⟨t174, A30, H⟩ := H
  replace H : (if t174 = true then ((spec_l01Member.f a0_1).bind fun t175 => (if t175 = true then ((spec_l01Tick.f a0_2).bind fun t176 => (if t176 = true then ((spec_l01IsText.f k a0_3).bind fun t177 => (if t177 = true then ((spec_l00In.f a0_4 0 1000000000).bind fun t178 => (if t178 = true then ((spec_l00In.f a0_6 0 (wrap64 (a0_0 - 1))).bind fun t179 => (spec_l03Message.j0 k (!t179) a0_0 a0_1 a0_2 a0_3 a0_4 a0_5 a0_6 l0_7)) else (spec_l03Message.j0 k true a0_0 a0_1 a0_2 a0_3 a0_4 a0_5 a0_6 l0_7))) else (spec_l03Message.j0 k true a0_0 a0_1 a0_2 a0_3 a0_4 a0_5 a0_6 l0_7))) else (spec_l03Message.j0 k true a0_0 a0_1 a0_2 a0_3 a0_4 a0_5 a0_6 l0_7))) else (spec_l03Message.j0 k true a0_0 a0_1 a0_2 a0_3 a0_4 a0_5 a0_6 l0_7))) else (spec_l03Message.j0 k true a0_0 a0_1 a0_2 a0_3 a0_4 a0_5 a0_6 l0_7)) = some r := H
  have A3 := Aside0.mk A30
  clear A30
  by_cases c4 : t174 = true
  ·subst c4
   have H1 : ((spec_l01Member.f a0_1).bind fun t175 => (if t175 = true then ((spec_l01Tick.f a0_2).bind fun t176 => (if t176 = true then ((spec_l01IsText.f k a0_3).bind fun t177 => (if t177 = true then ((spec_l00In.f a0_4 0 1000000000).bind fun t178 => (if t178 = true then ((spec_l00In.f a0_6 0 (wrap64 (a0_0 - 1))).bind fun t179 => (spec_l03Message.j0 k (!t179) a0_0 a0_1 a0_2 a0_3 a0_4 a0_5 a0_6 l0_7)) else (spec_l03Message.j0 k true a0_0 a0_1 a0_2 a0_3 a0_4 a0_5 a0_6 l0_7))) else (spec_l03Message.j0 k true a0_0 a0_1 a0_2 a0_3 a0_4 a0_5 a0_6 l0_7))) else (spec_l03Message.j0 k true a0_0 a0_1 a0_2 a0_3 a0_4 a0_5 a0_6 l0_7))) else (spec_l03Message.j0 k true a0_0 a0_1 a0_2 a0_3 a0_4 a0_5 a0_6 l0_7))) = some r := by rw [if_pos rfl] at H; exact H
   clear H
   have H := H1
   clear H1
   replace H := Option.bind_eq_some_iff.mp H
   obtain ⟨t175, A50, H⟩ := H
   replace H : (if t175 = true then ((spec_l01Tick.f a0_2).bind fun t176 => (if t176 = true then ((spec_l01IsText.f k a0_3).bind fun t177 => (if t177 = true then ((spec_l00In.f a0_4 0 1000000000).bind fun t178 => (if t178 = true then ((spec_l00In.f a0_6 0 (wrap64 (a0_0 - 1))).bind fun t179 => (spec_l03Message.j0 k (!t179) a0_0 a0_1 a0_2 a0_3 a0_4 a0_5 a0_6 l0_7)) else (spec_l03Message.j0 k true a0_0 a0_1 a0_2 a0_3 a0_4 a0_5 a0_6 l0_7))) else (spec_l03Message.j0 k true a0_0 a0_1 a0_2 a0_3 a0_4 a0_5 a0_6 l0_7))) else (spec_l03Message.j0 k true a0_0 a0_1 a0_2 a0_3 a0_4 a0_5 a0_6 l0_7))) else (spec_l03Message.j0 k true a0_0 a0_1 a0_2 a0_3 a0_4 a0_5 a0_6 l0_7)) = some r := H
   have A5 := Aside0.mk A50
   clear A50
   by_cases c6 : t175 = true
   ·subst c6
    have H1 : ((spec_l01Tick.f a0_2).bind fun t176 => (if t176 = true then ((spec_l01IsText.f k a0_3).bind fun t177 => (if t177 = true then ((spec_l00In.f a0_4 0 1000000000).bind fun t178 => (if t178 = true then ((spec_l00In.f a0_6 0 (wrap64 (a0_0 - 1))).bind fun t179 => (spec_l03Message.j0 k (!t179) a0_0 a0_1 a0_2 a0_3 a0_4 a0_5 a0_6 l0_7)) else (spec_l03Message.j0 k true a0_0 a0_1 a0_2 a0_3 a0_4 a0_5 a0_6 l0_7))) else (spec_l03Message.j0 k true a0_0 a0_1 a0_2 a0_3 a0_4 a0_5 a0_6 l0_7))) else (spec_l03Message.j0 k true a0_0 a0_1 a0_2 a0_3 a0_4 a0_5 a0_6 l0_7))) = some r := by rw [if_pos rfl] at H; exact H
    clear H
    have H := H1
    clear H1
    replace H := Option.bind_eq_some_iff.mp H
    obtain ⟨t176, A70, H⟩ := H
    replace H : (if t176 = true then ((spec_l01IsText.f k a0_3).bind fun t177 => (if t177 = true then ((spec_l00In.f a0_4 0 1000000000).bind fun t178 => (if t178 = true then ((spec_l00In.f a0_6 0 (wrap64 (a0_0 - 1))).bind fun t179 => (spec_l03Message.j0 k (!t179) a0_0 a0_1 a0_2 a0_3 a0_4 a0_5 a0_6 l0_7)) else (spec_l03Message.j0 k true a0_0 a0_1 a0_2 a0_3 a0_4 a0_5 a0_6 l0_7))) else (spec_l03Message.j0 k true a0_0 a0_1 a0_2 a0_3 a0_4 a0_5 a0_6 l0_7))) else (spec_l03Message.j0 k true a0_0 a0_1 a0_2 a0_3 a0_4 a0_5 a0_6 l0_7)) = some r := H
    have A7 := Aside0.mk A70
    clear A70
    by_cases c8 : t176 = true
    ·subst c8
     have H1 : ((spec_l01IsText.f k a0_3).bind fun t177 => (if t177 = true then ((spec_l00In.f a0_4 0 1000000000).bind fun t178 => (if t178 = true then ((spec_l00In.f a0_6 0 (wrap64 (a0_0 - 1))).bind fun t179 => (spec_l03Message.j0 k (!t179) a0_0 a0_1 a0_2 a0_3 a0_4 a0_5 a0_6 l0_7)) else (spec_l03Message.j0 k true a0_0 a0_1 a0_2 a0_3 a0_4 a0_5 a0_6 l0_7))) else (spec_l03Message.j0 k true a0_0 a0_1 a0_2 a0_3 a0_4 a0_5 a0_6 l0_7))) = some r := by rw [if_pos rfl] at H; exact H
     clear H
     have H := H1
     clear H1
     replace H := Option.bind_eq_some_iff.mp H
     obtain ⟨t177, A90, H⟩ := H
     replace H : (if t177 = true then ((spec_l00In.f a0_4 0 1000000000).bind fun t178 => (if t178 = true then ((spec_l00In.f a0_6 0 (wrap64 (a0_0 - 1))).bind fun t179 => (spec_l03Message.j0 k (!t179) a0_0 a0_1 a0_2 a0_3 a0_4 a0_5 a0_6 l0_7)) else (spec_l03Message.j0 k true a0_0 a0_1 a0_2 a0_3 a0_4 a0_5 a0_6 l0_7))) else (spec_l03Message.j0 k true a0_0 a0_1 a0_2 a0_3 a0_4 a0_5 a0_6 l0_7)) = some r := H
     have A9 := Aside0.mk A90
     clear A90
     by_cases c10 : t177 = true
     ·subst c10
      have H1 : ((spec_l00In.f a0_4 0 1000000000).bind fun t178 => (if t178 = true then ((spec_l00In.f a0_6 0 (wrap64 (a0_0 - 1))).bind fun t179 => (spec_l03Message.j0 k (!t179) a0_0 a0_1 a0_2 a0_3 a0_4 a0_5 a0_6 l0_7)) else (spec_l03Message.j0 k true a0_0 a0_1 a0_2 a0_3 a0_4 a0_5 a0_6 l0_7))) = some r := by rw [if_pos rfl] at H; exact H
      clear H
      have H := H1
      clear H1
      replace H := Option.bind_eq_some_iff.mp H
      obtain ⟨t178, A110, H⟩ := H
      replace H : (if t178 = true then ((spec_l00In.f a0_6 0 (wrap64 (a0_0 - 1))).bind fun t179 => (spec_l03Message.j0 k (!t179) a0_0 a0_1 a0_2 a0_3 a0_4 a0_5 a0_6 l0_7)) else (spec_l03Message.j0 k true a0_0 a0_1 a0_2 a0_3 a0_4 a0_5 a0_6 l0_7)) = some r := H
      have A11 := Aside0.mk A110
      clear A110
      by_cases c12 : t178 = true
      ·subst c12
       have H1 : ((spec_l00In.f a0_6 0 (wrap64 (a0_0 - 1))).bind fun t179 => (spec_l03Message.j0 k (!t179) a0_0 a0_1 a0_2 a0_3 a0_4 a0_5 a0_6 l0_7)) = some r := by rw [if_pos rfl] at H; exact H
       clear H
       have H := H1
       clear H1
       replace H := Option.bind_eq_some_iff.mp H
       obtain ⟨t179, A130, H⟩ := H
       replace H : (spec_l03Message.j0 k (!t179) a0_0 a0_1 a0_2 a0_3 a0_4 a0_5 a0_6 l0_7) = some r := H
       have A13 := Aside0.mk A130
       clear A130
       have H' := Aside0.mk H
       clear H
       have hcz14_0 : w.cell? pa0_ = some (.int .i64 a0_0) := (RP.get HQ0.out 0 rfl)
       have hcz14_1 : w.cell? ⟨pa0_.block, pa0_.off + 1, none⟩ = some (.int .i64 a0_1) := (RP.get HQ0.out 1 rfl)
       have hcz14_2 : w.cell? ⟨pa0_.block, pa0_.off + 2, none⟩ = some (.int .i64 a0_2) := (RP.get HQ0.out 2 rfl)
       have hcz14_3 : w.cell? ⟨pa0_.block, pa0_.off + 3, none⟩ = some (.string a0_3) := (RP.get HQ0.out 3 rfl)
       have hcz14_4 : w.cell? ⟨pa0_.block, pa0_.off + 4, none⟩ = some (.int .i64 a0_4) := (RP.get HQ0.out 4 rfl)
       have hcz14_5 : w.cell? ⟨pa0_.block, pa0_.off + 5, none⟩ = some (.bool a0_5) := (RP.get HQ0.out 5 rfl)
       have hcz14_6 : w.cell? ⟨pa0_.block, pa0_.off + 6, none⟩ = some (.int .i64 a0_6) := (RP.get HQ0.out 6 rfl)
       have hcz14_7 : w.cell? ⟨pa0_.block, pa0_.off + 7, none⟩ = some (.slice A0_7 l0_7.length c0_7) := (RP.get HQ0.out 7 rfl)
       go_wp2_with (first | (go_at_call 29; (with_reducible refine (spec_l00In.calls a0_0 1 1000000000 true _ A3.out).mono ?_); rintro e w' ⟨rfl, ⟨nd, rfl⟩⟩; (try first | exact ⟨rfl, _, World.drewN_drewN _ _ _⟩ | exact ⟨rfl, _, Eq.trans (World.drewN_drewN _ _ _) (congrArg (World.drewN _) (Nat.add_assoc _ _ _))⟩)) | (go_at_call 40; (with_reducible refine (spec_l01Member.calls a0_1 true _ A5.out).mono ?_); rintro e w' ⟨rfl, ⟨nd, rfl⟩⟩; (try first | exact ⟨rfl, _, World.drewN_drewN _ _ _⟩ | exact ⟨rfl, _, Eq.trans (World.drewN_drewN _ _ _) (congrArg (World.drewN _) (Nat.add_assoc _ _ _))⟩)) | (go_at_call 41; (with_reducible refine (spec_l01Tick.calls a0_2 true _ A7.out).mono ?_); rintro e w' ⟨rfl, ⟨nd, rfl⟩⟩; (try first | exact ⟨rfl, _, World.drewN_drewN _ _ _⟩ | exact ⟨rfl, _, Eq.trans (World.drewN_drewN _ _ _) (congrArg (World.drewN _) (Nat.add_assoc _ _ _))⟩)) | (go_at_call 42; (with_reducible refine (spec_l01IsText.calls k a0_3 true _ A9.out).mono ?_); rintro e w' ⟨rfl, ⟨nd, rfl⟩⟩; (try first | exact ⟨rfl, _, World.drewN_drewN _ _ _⟩ | exact ⟨rfl, _, Eq.trans (World.drewN_drewN _ _ _) (congrArg (World.drewN _) (Nat.add_assoc _ _ _))⟩)) | (go_at_call 29; (with_reducible refine (spec_l00In.calls a0_4 0 1000000000 true _ A11.out).mono ?_); rintro e w' ⟨rfl, ⟨nd, rfl⟩⟩; (try first | exact ⟨rfl, _, World.drewN_drewN _ _ _⟩ | exact ⟨rfl, _, Eq.trans (World.drewN_drewN _ _ _) (congrArg (World.drewN _) (Nat.add_assoc _ _ _))⟩)) | (go_at_call 29; (with_reducible refine (spec_l00In.calls a0_6 0 (wrap64 (a0_0 - 1)) t179 _ A13.out).mono ?_); rintro e w' ⟨rfl, ⟨nd, rfl⟩⟩; (try first | exact ⟨rfl, _, World.drewN_drewN _ _ _⟩ | exact ⟨rfl, _, Eq.trans (World.drewN_drewN _ _ _) (congrArg (World.drewN _) (Nat.add_assoc _ _ _))⟩)))
       repeat (go_quiet (first | (go_at_call 29; (with_reducible refine (spec_l00In.calls a0_0 1 1000000000 true _ A3.out).mono ?_); rintro e w' ⟨rfl, ⟨nd, rfl⟩⟩; (try first | exact ⟨rfl, _, World.drewN_drewN _ _ _⟩ | exact ⟨rfl, _, Eq.trans (World.drewN_drewN _ _ _) (congrArg (World.drewN _) (Nat.add_assoc _ _ _))⟩)) | (go_at_call 40; (with_reducible refine (spec_l01Member.calls a0_1 true _ A5.out).mono ?_); rintro e w' ⟨rfl, ⟨nd, rfl⟩⟩; (try first | exact ⟨rfl, _, World.drewN_drewN _ _ _⟩ | exact ⟨rfl, _, Eq.trans (World.drewN_drewN _ _ _) (congrArg (World.drewN _) (Nat.add_assoc _ _ _))⟩)) | (go_at_call 41; (with_reducible refine (spec_l01Tick.calls a0_2 true _ A7.out).mono ?_); rintro e w' ⟨rfl, ⟨nd, rfl⟩⟩; (try first | exact ⟨rfl, _, World.drewN_drewN _ _ _⟩ | exact ⟨rfl, _, Eq.trans (World.drewN_drewN _ _ _) (congrArg (World.drewN _) (Nat.add_assoc _ _ _))⟩)) | (go_at_call 42; (with_reducible refine (spec_l01IsText.calls k a0_3 true _ A9.out).mono ?_); rintro e w' ⟨rfl, ⟨nd, rfl⟩⟩; (try first | exact ⟨rfl, _, World.drewN_drewN _ _ _⟩ | exact ⟨rfl, _, Eq.trans (World.drewN_drewN _ _ _) (congrArg (World.drewN _) (Nat.add_assoc _ _ _))⟩)) | (go_at_call 29; (with_reducible refine (spec_l00In.calls a0_4 0 1000000000 true _ A11.out).mono ?_); rintro e w' ⟨rfl, ⟨nd, rfl⟩⟩; (try first | exact ⟨rfl, _, World.drewN_drewN _ _ _⟩ | exact ⟨rfl, _, Eq.trans (World.drewN_drewN _ _ _) (congrArg (World.drewN _) (Nat.add_assoc _ _ _))⟩)) | (go_at_call 29; (with_reducible refine (spec_l00In.calls a0_6 0 (wrap64 (a0_0 - 1)) t179 _ A13.out).mono ?_); rintro e w' ⟨rfl, ⟨nd, rfl⟩⟩; (try first | exact ⟨rfl, _, World.drewN_drewN _ _ _⟩ | exact ⟨rfl, _, Eq.trans (World.drewN_drewN _ _ _) (congrArg (World.drewN _) (Nat.add_assoc _ _ _))⟩))); try go_wp2_with (first | (go_at_call 29; (with_reducible refine (spec_l00In.calls a0_0 1 1000000000 true _ A3.out).mono ?_); rintro e w' ⟨rfl, ⟨nd, rfl⟩⟩; (try first | exact ⟨rfl, _, World.drewN_drewN _ _ _⟩ | exact ⟨rfl, _, Eq.trans (World.drewN_drewN _ _ _) (congrArg (World.drewN _) (Nat.add_assoc _ _ _))⟩)) | (go_at_call 40; (with_reducible refine (spec_l01Member.calls a0_1 true _ A5.out).mono ?_); rintro e w' ⟨rfl, ⟨nd, rfl⟩⟩; (try first | exact ⟨rfl, _, World.drewN_drewN _ _ _⟩ | exact ⟨rfl, _, Eq.trans (World.drewN_drewN _ _ _) (congrArg (World.drewN _) (Nat.add_assoc _ _ _))⟩)) | (go_at_call 41; (with_reducible refine (spec_l01Tick.calls a0_2 true _ A7.out).mono ?_); rintro e w' ⟨rfl, ⟨nd, rfl⟩⟩; (try first | exact ⟨rfl, _, World.drewN_drewN _ _ _⟩ | exact ⟨rfl, _, Eq.trans (World.drewN_drewN _ _ _) (congrArg (World.drewN _) (Nat.add_assoc _ _ _))⟩)) | (go_at_call 42; (with_reducible refine (spec_l01IsText.calls k a0_3 true _ A9.out).mono ?_); rintro e w' ⟨rfl, ⟨nd, rfl⟩⟩; (try first | exact ⟨rfl, _, World.drewN_drewN _ _ _⟩ | exact ⟨rfl, _, Eq.trans (World.drewN_drewN _ _ _) (congrArg (World.drewN _) (Nat.add_assoc _ _ _))⟩)) | (go_at_call 29; (with_reducible refine (spec_l00In.calls a0_4 0 1000000000 true _ A11.out).mono ?_); rintro e w' ⟨rfl, ⟨nd, rfl⟩⟩; (try first | exact ⟨rfl, _, World.drewN_drewN _ _ _⟩ | exact ⟨rfl, _, Eq.trans (World.drewN_drewN _ _ _) (congrArg (World.drewN _) (Nat.add_assoc _ _ _))⟩)) | (go_at_call 29; (with_reducible refine (spec_l00In.calls a0_6 0 (wrap64 (a0_0 - 1)) t179 _ A13.out).mono ?_); rintro e w' ⟨rfl, ⟨nd, rfl⟩⟩; (try first | exact ⟨rfl, _, World.drewN_drewN _ _ _⟩ | exact ⟨rfl, _, Eq.trans (World.drewN_drewN _ _ _) (congrArg (World.drewN _) (Nat.add_assoc _ _ _))⟩))))
       go_meet
       case rel => exact ⟨_, (!t179), (by first | rfl | (simp; done) | (simp [*]; done)), H', ⟨by first | omega | exact Nat.le_refl _⟩, by repeat (first | exact Drawn0.refl _ | apply Drawn0.step)⟩
      ·replace c12 := Bool.eq_false_iff.mpr c12
       subst c12
       have H1 : (spec_l03Message.j0 k true a0_0 a0_1 a0_2 a0_3 a0_4 a0_5 a0_6 l0_7) = some r := by rw [if_neg (show ¬ (false = true) by decide)] at H; exact H
       clear H
       have H := H1
       clear H1
       have H' := Aside0.mk H
       clear H
       have hcz15_0 : w.cell? pa0_ = some (.int .i64 a0_0) := (RP.get HQ0.out 0 rfl)
       have hcz15_1 : w.cell? ⟨pa0_.block, pa0_.off + 1, none⟩ = some (.int .i64 a0_1) := (RP.get HQ0.out 1 rfl)
       have hcz15_2 : w.cell? ⟨pa0_.block, pa0_.off + 2, none⟩ = some (.int .i64 a0_2) := (RP.get HQ0.out 2 rfl)
       have hcz15_3 : w.cell? ⟨pa0_.block, pa0_.off + 3, none⟩ = some (.string a0_3) := (RP.get HQ0.out 3 rfl)
       have hcz15_4 : w.cell? ⟨pa0_.block, pa0_.off + 4, none⟩ = some (.int .i64 a0_4) := (RP.get HQ0.out 4 rfl)
       have hcz15_5 : w.cell? ⟨pa0_.block, pa0_.off + 5, none⟩ = some (.bool a0_5) := (RP.get HQ0.out 5 rfl)
       have hcz15_6 : w.cell? ⟨pa0_.block, pa0_.off + 6, none⟩ = some (.int .i64 a0_6) := (RP.get HQ0.out 6 rfl)
       have hcz15_7 : w.cell? ⟨pa0_.block, pa0_.off + 7, none⟩ = some (.slice A0_7 l0_7.length c0_7) := (RP.get HQ0.out 7 rfl)
       go_wp2_with (first | (go_at_call 29; (with_reducible refine (spec_l00In.calls a0_0 1 1000000000 true _ A3.out).mono ?_); rintro e w' ⟨rfl, ⟨nd, rfl⟩⟩; (try first | exact ⟨rfl, _, World.drewN_drewN _ _ _⟩ | exact ⟨rfl, _, Eq.trans (World.drewN_drewN _ _ _) (congrArg (World.drewN _) (Nat.add_assoc _ _ _))⟩)) | (go_at_call 40; (with_reducible refine (spec_l01Member.calls a0_1 true _ A5.out).mono ?_); rintro e w' ⟨rfl, ⟨nd, rfl⟩⟩; (try first | exact ⟨rfl, _, World.drewN_drewN _ _ _⟩ | exact ⟨rfl, _, Eq.trans (World.drewN_drewN _ _ _) (congrArg (World.drewN _) (Nat.add_assoc _ _ _))⟩)) | (go_at_call 41; (with_reducible refine (spec_l01Tick.calls a0_2 true _ A7.out).mono ?_); rintro e w' ⟨rfl, ⟨nd, rfl⟩⟩; (try first | exact ⟨rfl, _, World.drewN_drewN _ _ _⟩ | exact ⟨rfl, _, Eq.trans (World.drewN_drewN _ _ _) (congrArg (World.drewN _) (Nat.add_assoc _ _ _))⟩)) | (go_at_call 42; (with_reducible refine (spec_l01IsText.calls k a0_3 true _ A9.out).mono ?_); rintro e w' ⟨rfl, ⟨nd, rfl⟩⟩; (try first | exact ⟨rfl, _, World.drewN_drewN _ _ _⟩ | exact ⟨rfl, _, Eq.trans (World.drewN_drewN _ _ _) (congrArg (World.drewN _) (Nat.add_assoc _ _ _))⟩)) | (go_at_call 29; (with_reducible refine (spec_l00In.calls a0_4 0 1000000000 false _ A11.out).mono ?_); rintro e w' ⟨rfl, ⟨nd, rfl⟩⟩; (try first | exact ⟨rfl, _, World.drewN_drewN _ _ _⟩ | exact ⟨rfl, _, Eq.trans (World.drewN_drewN _ _ _) (congrArg (World.drewN _) (Nat.add_assoc _ _ _))⟩)))
       repeat (go_quiet (first | (go_at_call 29; (with_reducible refine (spec_l00In.calls a0_0 1 1000000000 true _ A3.out).mono ?_); rintro e w' ⟨rfl, ⟨nd, rfl⟩⟩; (try first | exact ⟨rfl, _, World.drewN_drewN _ _ _⟩ | exact ⟨rfl, _, Eq.trans (World.drewN_drewN _ _ _) (congrArg (World.drewN _) (Nat.add_assoc _ _ _))⟩)) | (go_at_call 40; (with_reducible refine (spec_l01Member.calls a0_1 true _ A5.out).mono ?_); rintro e w' ⟨rfl, ⟨nd, rfl⟩⟩; (try first | exact ⟨rfl, _, World.drewN_drewN _ _ _⟩ | exact ⟨rfl, _, Eq.trans (World.drewN_drewN _ _ _) (congrArg (World.drewN _) (Nat.add_assoc _ _ _))⟩)) | (go_at_call 41; (with_reducible refine (spec_l01Tick.calls a0_2 true _ A7.out).mono ?_); rintro e w' ⟨rfl, ⟨nd, rfl⟩⟩; (try first | exact ⟨rfl, _, World.drewN_drewN _ _ _⟩ | exact ⟨rfl, _, Eq.trans (World.drewN_drewN _ _ _) (congrArg (World.drewN _) (Nat.add_assoc _ _ _))⟩)) | (go_at_call 42; (with_reducible refine (spec_l01IsText.calls k a0_3 true _ A9.out).mono ?_); rintro e w' ⟨rfl, ⟨nd, rfl⟩⟩; (try first | exact ⟨rfl, _, World.drewN_drewN _ _ _⟩ | exact ⟨rfl, _, Eq.trans (World.drewN_drewN _ _ _) (congrArg (World.drewN _) (Nat.add_assoc _ _ _))⟩)) | (go_at_call 29; (with_reducible refine (spec_l00In.calls a0_4 0 1000000000 false _ A11.out).mono ?_); rintro e w' ⟨rfl, ⟨nd, rfl⟩⟩; (try first | exact ⟨rfl, _, World.drewN_drewN _ _ _⟩ | exact ⟨rfl, _, Eq.trans (World.drewN_drewN _ _ _) (congrArg (World.drewN _) (Nat.add_assoc _ _ _))⟩))); try go_wp2_with (first | (go_at_call 29; (with_reducible refine (spec_l00In.calls a0_0 1 1000000000 true _ A3.out).mono ?_); rintro e w' ⟨rfl, ⟨nd, rfl⟩⟩; (try first | exact ⟨rfl, _, World.drewN_drewN _ _ _⟩ | exact ⟨rfl, _, Eq.trans (World.drewN_drewN _ _ _) (congrArg (World.drewN _) (Nat.add_assoc _ _ _))⟩)) | (go_at_call 40; (with_reducible refine (spec_l01Member.calls a0_1 true _ A5.out).mono ?_); rintro e w' ⟨rfl, ⟨nd, rfl⟩⟩; (try first | exact ⟨rfl, _, World.drewN_drewN _ _ _⟩ | exact ⟨rfl, _, Eq.trans (World.drewN_drewN _ _ _) (congrArg (World.drewN _) (Nat.add_assoc _ _ _))⟩)) | (go_at_call 41; (with_reducible refine (spec_l01Tick.calls a0_2 true _ A7.out).mono ?_); rintro e w' ⟨rfl, ⟨nd, rfl⟩⟩; (try first | exact ⟨rfl, _, World.drewN_drewN _ _ _⟩ | exact ⟨rfl, _, Eq.trans (World.drewN_drewN _ _ _) (congrArg (World.drewN _) (Nat.add_assoc _ _ _))⟩)) | (go_at_call 42; (with_reducible refine (spec_l01IsText.calls k a0_3 true _ A9.out).mono ?_); rintro e w' ⟨rfl, ⟨nd, rfl⟩⟩; (try first | exact ⟨rfl, _, World.drewN_drewN _ _ _⟩ | exact ⟨rfl, _, Eq.trans (World.drewN_drewN _ _ _) (congrArg (World.drewN _) (Nat.add_assoc _ _ _))⟩)) | (go_at_call 29; (with_reducible refine (spec_l00In.calls a0_4 0 1000000000 false _ A11.out).mono ?_); rintro e w' ⟨rfl, ⟨nd, rfl⟩⟩; (try first | exact ⟨rfl, _, World.drewN_drewN _ _ _⟩ | exact ⟨rfl, _, Eq.trans (World.drewN_drewN _ _ _) (congrArg (World.drewN _) (Nat.add_assoc _ _ _))⟩))))
       go_meet
       case rel => exact ⟨_, (true), (by first | rfl | (simp; done) | (simp [*]; done)), H', ⟨by first | omega | exact Nat.le_refl _⟩, by repeat (first | exact Drawn0.refl _ | apply Drawn0.step)⟩
     ·replace c10 := Bool.eq_false_iff.mpr c10
      subst c10
      have H1 : (spec_l03Message.j0 k true a0_0 a0_1 a0_2 a0_3 a0_4 a0_5 a0_6 l0_7) = some r := by rw [if_neg (show ¬ (false = true) by decide)] at H; exact H
      clear H
      have H := H1
      clear H1
      have H' := Aside0.mk H
      clear H
      have hcz16_0 : w.cell? pa0_ = some (.int .i64 a0_0) := (RP.get HQ0.out 0 rfl)
      have hcz16_1 : w.cell? ⟨pa0_.block, pa0_.off + 1, none⟩ = some (.int .i64 a0_1) := (RP.get HQ0.out 1 rfl)
      have hcz16_2 : w.cell? ⟨pa0_.block, pa0_.off + 2, none⟩ = some (.int .i64 a0_2) := (RP.get HQ0.out 2 rfl)
      have hcz16_3 : w.cell? ⟨pa0_.block, pa0_.off + 3, none⟩ = some (.string a0_3) := (RP.get HQ0.out 3 rfl)
      have hcz16_4 : w.cell? ⟨pa0_.block, pa0_.off + 4, none⟩ = some (.int .i64 a0_4) := (RP.get HQ0.out 4 rfl)
      have hcz16_5 : w.cell? ⟨pa0_.block, pa0_.off + 5, none⟩ = some (.bool a0_5) := (RP.get HQ0.out 5 rfl)
      have hcz16_6 : w.cell? ⟨pa0_.block, pa0_.off + 6, none⟩ = some (.int .i64 a0_6) := (RP.get HQ0.out 6 rfl)
      have hcz16_7 : w.cell? ⟨pa0_.block, pa0_.off + 7, none⟩ = some (.slice A0_7 l0_7.length c0_7) := (RP.get HQ0.out 7 rfl)
      go_wp2_with (first | (go_at_call 29; (with_reducible refine (spec_l00In.calls a0_0 1 1000000000 true _ A3.out).mono ?_); rintro e w' ⟨rfl, ⟨nd, rfl⟩⟩; (try first | exact ⟨rfl, _, World.drewN_drewN _ _ _⟩ | exact ⟨rfl, _, Eq.trans (World.drewN_drewN _ _ _) (congrArg (World.drewN _) (Nat.add_assoc _ _ _))⟩)) | (go_at_call 40; (with_reducible refine (spec_l01Member.calls a0_1 true _ A5.out).mono ?_); rintro e w' ⟨rfl, ⟨nd, rfl⟩⟩; (try first | exact ⟨rfl, _, World.drewN_drewN _ _ _⟩ | exact ⟨rfl, _, Eq.trans (World.drewN_drewN _ _ _) (congrArg (World.drewN _) (Nat.add_assoc _ _ _))⟩)) | (go_at_call 41; (with_reducible refine (spec_l01Tick.calls a0_2 true _ A7.out).mono ?_); rintro e w' ⟨rfl, ⟨nd, rfl⟩⟩; (try first | exact ⟨rfl, _, World.drewN_drewN _ _ _⟩ | exact ⟨rfl, _, Eq.trans (World.drewN_drewN _ _ _) (congrArg (World.drewN _) (Nat.add_assoc _ _ _))⟩)) | (go_at_call 42; (with_reducible refine (spec_l01IsText.calls k a0_3 false _ A9.out).mono ?_); rintro e w' ⟨rfl, ⟨nd, rfl⟩⟩; (try first | exact ⟨rfl, _, World.drewN_drewN _ _ _⟩ | exact ⟨rfl, _, Eq.trans (World.drewN_drewN _ _ _) (congrArg (World.drewN _) (Nat.add_assoc _ _ _))⟩)))
      repeat (go_quiet (first | (go_at_call 29; (with_reducible refine (spec_l00In.calls a0_0 1 1000000000 true _ A3.out).mono ?_); rintro e w' ⟨rfl, ⟨nd, rfl⟩⟩; (try first | exact ⟨rfl, _, World.drewN_drewN _ _ _⟩ | exact ⟨rfl, _, Eq.trans (World.drewN_drewN _ _ _) (congrArg (World.drewN _) (Nat.add_assoc _ _ _))⟩)) | (go_at_call 40; (with_reducible refine (spec_l01Member.calls a0_1 true _ A5.out).mono ?_); rintro e w' ⟨rfl, ⟨nd, rfl⟩⟩; (try first | exact ⟨rfl, _, World.drewN_drewN _ _ _⟩ | exact ⟨rfl, _, Eq.trans (World.drewN_drewN _ _ _) (congrArg (World.drewN _) (Nat.add_assoc _ _ _))⟩)) | (go_at_call 41; (with_reducible refine (spec_l01Tick.calls a0_2 true _ A7.out).mono ?_); rintro e w' ⟨rfl, ⟨nd, rfl⟩⟩; (try first | exact ⟨rfl, _, World.drewN_drewN _ _ _⟩ | exact ⟨rfl, _, Eq.trans (World.drewN_drewN _ _ _) (congrArg (World.drewN _) (Nat.add_assoc _ _ _))⟩)) | (go_at_call 42; (with_reducible refine (spec_l01IsText.calls k a0_3 false _ A9.out).mono ?_); rintro e w' ⟨rfl, ⟨nd, rfl⟩⟩; (try first | exact ⟨rfl, _, World.drewN_drewN _ _ _⟩ | exact ⟨rfl, _, Eq.trans (World.drewN_drewN _ _ _) (congrArg (World.drewN _) (Nat.add_assoc _ _ _))⟩))); try go_wp2_with (first | (go_at_call 29; (with_reducible refine (spec_l00In.calls a0_0 1 1000000000 true _ A3.out).mono ?_); rintro e w' ⟨rfl, ⟨nd, rfl⟩⟩; (try first | exact ⟨rfl, _, World.drewN_drewN _ _ _⟩ | exact ⟨rfl, _, Eq.trans (World.drewN_drewN _ _ _) (congrArg (World.drewN _) (Nat.add_assoc _ _ _))⟩)) | (go_at_call 40; (with_reducible refine (spec_l01Member.calls a0_1 true _ A5.out).mono ?_); rintro e w' ⟨rfl, ⟨nd, rfl⟩⟩; (try first | exact ⟨rfl, _, World.drewN_drewN _ _ _⟩ | exact ⟨rfl, _, Eq.trans (World.drewN_drewN _ _ _) (congrArg (World.drewN _) (Nat.add_assoc _ _ _))⟩)) | (go_at_call 41; (with_reducible refine (spec_l01Tick.calls a0_2 true _ A7.out).mono ?_); rintro e w' ⟨rfl, ⟨nd, rfl⟩⟩; (try first | exact ⟨rfl, _, World.drewN_drewN _ _ _⟩ | exact ⟨rfl, _, Eq.trans (World.drewN_drewN _ _ _) (congrArg (World.drewN _) (Nat.add_assoc _ _ _))⟩)) | (go_at_call 42; (with_reducible refine (spec_l01IsText.calls k a0_3 false _ A9.out).mono ?_); rintro e w' ⟨rfl, ⟨nd, rfl⟩⟩; (try first | exact ⟨rfl, _, World.drewN_drewN _ _ _⟩ | exact ⟨rfl, _, Eq.trans (World.drewN_drewN _ _ _) (congrArg (World.drewN _) (Nat.add_assoc _ _ _))⟩))))
      go_meet
      case rel => exact ⟨_, (true), (by first | rfl | (simp; done) | (simp [*]; done)), H', ⟨by first | omega | exact Nat.le_refl _⟩, by repeat (first | exact Drawn0.refl _ | apply Drawn0.step)⟩
    ·replace c8 := Bool.eq_false_iff.mpr c8
     subst c8
     have H1 : (spec_l03Message.j0 k true a0_0 a0_1 a0_2 a0_3 a0_4 a0_5 a0_6 l0_7) = some r := by rw [if_neg (show ¬ (false = true) by decide)] at H; exact H
     clear H
     have H := H1
     clear H1
     have H' := Aside0.mk H
     clear H
     have hcz17_0 : w.cell? pa0_ = some (.int .i64 a0_0) := (RP.get HQ0.out 0 rfl)
     have hcz17_1 : w.cell? ⟨pa0_.block, pa0_.off + 1, none⟩ = some (.int .i64 a0_1) := (RP.get HQ0.out 1 rfl)
     have hcz17_2 : w.cell? ⟨pa0_.block, pa0_.off + 2, none⟩ = some (.int .i64 a0_2) := (RP.get HQ0.out 2 rfl)
     have hcz17_3 : w.cell? ⟨pa0_.block, pa0_.off + 3, none⟩ = some (.string a0_3) := (RP.get HQ0.out 3 rfl)
     have hcz17_4 : w.cell? ⟨pa0_.block, pa0_.off + 4, none⟩ = some (.int .i64 a0_4) := (RP.get HQ0.out 4 rfl)
     have hcz17_5 : w.cell? ⟨pa0_.block, pa0_.off + 5, none⟩ = some (.bool a0_5) := (RP.get HQ0.out 5 rfl)
     have hcz17_6 : w.cell? ⟨pa0_.block, pa0_.off + 6, none⟩ = some (.int .i64 a0_6) := (RP.get HQ0.out 6 rfl)
     have hcz17_7 : w.cell? ⟨pa0_.block, pa0_.off + 7, none⟩ = some (.slice A0_7 l0_7.length c0_7) := (RP.get HQ0.out 7 rfl)
     go_wp2_with (first | (go_at_call 29; (with_reducible refine (spec_l00In.calls a0_0 1 1000000000 true _ A3.out).mono ?_); rintro e w' ⟨rfl, ⟨nd, rfl⟩⟩; (try first | exact ⟨rfl, _, World.drewN_drewN _ _ _⟩ | exact ⟨rfl, _, Eq.trans (World.drewN_drewN _ _ _) (congrArg (World.drewN _) (Nat.add_assoc _ _ _))⟩)) | (go_at_call 40; (with_reducible refine (spec_l01Member.calls a0_1 true _ A5.out).mono ?_); rintro e w' ⟨rfl, ⟨nd, rfl⟩⟩; (try first | exact ⟨rfl, _, World.drewN_drewN _ _ _⟩ | exact ⟨rfl, _, Eq.trans (World.drewN_drewN _ _ _) (congrArg (World.drewN _) (Nat.add_assoc _ _ _))⟩)) | (go_at_call 41; (with_reducible refine (spec_l01Tick.calls a0_2 false _ A7.out).mono ?_); rintro e w' ⟨rfl, ⟨nd, rfl⟩⟩; (try first | exact ⟨rfl, _, World.drewN_drewN _ _ _⟩ | exact ⟨rfl, _, Eq.trans (World.drewN_drewN _ _ _) (congrArg (World.drewN _) (Nat.add_assoc _ _ _))⟩)))
     repeat (go_quiet (first | (go_at_call 29; (with_reducible refine (spec_l00In.calls a0_0 1 1000000000 true _ A3.out).mono ?_); rintro e w' ⟨rfl, ⟨nd, rfl⟩⟩; (try first | exact ⟨rfl, _, World.drewN_drewN _ _ _⟩ | exact ⟨rfl, _, Eq.trans (World.drewN_drewN _ _ _) (congrArg (World.drewN _) (Nat.add_assoc _ _ _))⟩)) | (go_at_call 40; (with_reducible refine (spec_l01Member.calls a0_1 true _ A5.out).mono ?_); rintro e w' ⟨rfl, ⟨nd, rfl⟩⟩; (try first | exact ⟨rfl, _, World.drewN_drewN _ _ _⟩ | exact ⟨rfl, _, Eq.trans (World.drewN_drewN _ _ _) (congrArg (World.drewN _) (Nat.add_assoc _ _ _))⟩)) | (go_at_call 41; (with_reducible refine (spec_l01Tick.calls a0_2 false _ A7.out).mono ?_); rintro e w' ⟨rfl, ⟨nd, rfl⟩⟩; (try first | exact ⟨rfl, _, World.drewN_drewN _ _ _⟩ | exact ⟨rfl, _, Eq.trans (World.drewN_drewN _ _ _) (congrArg (World.drewN _) (Nat.add_assoc _ _ _))⟩))); try go_wp2_with (first | (go_at_call 29; (with_reducible refine (spec_l00In.calls a0_0 1 1000000000 true _ A3.out).mono ?_); rintro e w' ⟨rfl, ⟨nd, rfl⟩⟩; (try first | exact ⟨rfl, _, World.drewN_drewN _ _ _⟩ | exact ⟨rfl, _, Eq.trans (World.drewN_drewN _ _ _) (congrArg (World.drewN _) (Nat.add_assoc _ _ _))⟩)) | (go_at_call 40; (with_reducible refine (spec_l01Member.calls a0_1 true _ A5.out).mono ?_); rintro e w' ⟨rfl, ⟨nd, rfl⟩⟩; (try first | exact ⟨rfl, _, World.drewN_drewN _ _ _⟩ | exact ⟨rfl, _, Eq.trans (World.drewN_drewN _ _ _) (congrArg (World.drewN _) (Nat.add_assoc _ _ _))⟩)) | (go_at_call 41; (with_reducible refine (spec_l01Tick.calls a0_2 false _ A7.out).mono ?_); rintro e w' ⟨rfl, ⟨nd, rfl⟩⟩; (try first | exact ⟨rfl, _, World.drewN_drewN _ _ _⟩ | exact ⟨rfl, _, Eq.trans (World.drewN_drewN _ _ _) (congrArg (World.drewN _) (Nat.add_assoc _ _ _))⟩))))
     go_meet
     case rel => exact ⟨_, (true), (by first | rfl | (simp; done) | (simp [*]; done)), H', ⟨by first | omega | exact Nat.le_refl _⟩, by repeat (first | exact Drawn0.refl _ | apply Drawn0.step)⟩
   ·replace c6 := Bool.eq_false_iff.mpr c6
    subst c6
    have H1 : (spec_l03Message.j0 k true a0_0 a0_1 a0_2 a0_3 a0_4 a0_5 a0_6 l0_7) = some r := by rw [if_neg (show ¬ (false = true) by decide)] at H; exact H
    clear H
    have H := H1
    clear H1
    have H' := Aside0.mk H
    clear H
    have hcz18_0 : w.cell? pa0_ = some (.int .i64 a0_0) := (RP.get HQ0.out 0 rfl)
    have hcz18_1 : w.cell? ⟨pa0_.block, pa0_.off + 1, none⟩ = some (.int .i64 a0_1) := (RP.get HQ0.out 1 rfl)
    have hcz18_2 : w.cell? ⟨pa0_.block, pa0_.off + 2, none⟩ = some (.int .i64 a0_2) := (RP.get HQ0.out 2 rfl)
    have hcz18_3 : w.cell? ⟨pa0_.block, pa0_.off + 3, none⟩ = some (.string a0_3) := (RP.get HQ0.out 3 rfl)
    have hcz18_4 : w.cell? ⟨pa0_.block, pa0_.off + 4, none⟩ = some (.int .i64 a0_4) := (RP.get HQ0.out 4 rfl)
    have hcz18_5 : w.cell? ⟨pa0_.block, pa0_.off + 5, none⟩ = some (.bool a0_5) := (RP.get HQ0.out 5 rfl)
    have hcz18_6 : w.cell? ⟨pa0_.block, pa0_.off + 6, none⟩ = some (.int .i64 a0_6) := (RP.get HQ0.out 6 rfl)
    have hcz18_7 : w.cell? ⟨pa0_.block, pa0_.off + 7, none⟩ = some (.slice A0_7 l0_7.length c0_7) := (RP.get HQ0.out 7 rfl)
    go_wp2_with (first | (go_at_call 29; (with_reducible refine (spec_l00In.calls a0_0 1 1000000000 true _ A3.out).mono ?_); rintro e w' ⟨rfl, ⟨nd, rfl⟩⟩; (try first | exact ⟨rfl, _, World.drewN_drewN _ _ _⟩ | exact ⟨rfl, _, Eq.trans (World.drewN_drewN _ _ _) (congrArg (World.drewN _) (Nat.add_assoc _ _ _))⟩)) | (go_at_call 40; (with_reducible refine (spec_l01Member.calls a0_1 false _ A5.out).mono ?_); rintro e w' ⟨rfl, ⟨nd, rfl⟩⟩; (try first | exact ⟨rfl, _, World.drewN_drewN _ _ _⟩ | exact ⟨rfl, _, Eq.trans (World.drewN_drewN _ _ _) (congrArg (World.drewN _) (Nat.add_assoc _ _ _))⟩)))
    repeat (go_quiet (first | (go_at_call 29; (with_reducible refine (spec_l00In.calls a0_0 1 1000000000 true _ A3.out).mono ?_); rintro e w' ⟨rfl, ⟨nd, rfl⟩⟩; (try first | exact ⟨rfl, _, World.drewN_drewN _ _ _⟩ | exact ⟨rfl, _, Eq.trans (World.drewN_drewN _ _ _) (congrArg (World.drewN _) (Nat.add_assoc _ _ _))⟩)) | (go_at_call 40; (with_reducible refine (spec_l01Member.calls a0_1 false _ A5.out).mono ?_); rintro e w' ⟨rfl, ⟨nd, rfl⟩⟩; (try first | exact ⟨rfl, _, World.drewN_drewN _ _ _⟩ | exact ⟨rfl, _, Eq.trans (World.drewN_drewN _ _ _) (congrArg (World.drewN _) (Nat.add_assoc _ _ _))⟩))); try go_wp2_with (first | (go_at_call 29; (with_reducible refine (spec_l00In.calls a0_0 1 1000000000 true _ A3.out).mono ?_); rintro e w' ⟨rfl, ⟨nd, rfl⟩⟩; (try first | exact ⟨rfl, _, World.drewN_drewN _ _ _⟩ | exact ⟨rfl, _, Eq.trans (World.drewN_drewN _ _ _) (congrArg (World.drewN _) (Nat.add_assoc _ _ _))⟩)) | (go_at_call 40; (with_reducible refine (spec_l01Member.calls a0_1 false _ A5.out).mono ?_); rintro e w' ⟨rfl, ⟨nd, rfl⟩⟩; (try first | exact ⟨rfl, _, World.drewN_drewN _ _ _⟩ | exact ⟨rfl, _, Eq.trans (World.drewN_drewN _ _ _) (congrArg (World.drewN _) (Nat.add_assoc _ _ _))⟩))))
    go_meet
    case rel => exact ⟨_, (true), (by first | rfl | (simp; done) | (simp [*]; done)), H', ⟨by first | omega | exact Nat.le_refl _⟩, by repeat (first | exact Drawn0.refl _ | apply Drawn0.step)⟩
  ·replace c4 := Bool.eq_false_iff.mpr c4
   subst c4
   have H1 : (spec_l03Message.j0 k true a0_0 a0_1 a0_2 a0_3 a0_4 a0_5 a0_6 l0_7) = some r := by rw [if_neg (show ¬ (false = true) by decide)] at H; exact H
   clear H
   have H := H1
   clear H1
   have H' := Aside0.mk H
   clear H
   have hcz19_0 : w.cell? pa0_ = some (.int .i64 a0_0) := (RP.get HQ0.out 0 rfl)
   have hcz19_1 : w.cell? ⟨pa0_.block, pa0_.off + 1, none⟩ = some (.int .i64 a0_1) := (RP.get HQ0.out 1 rfl)
   have hcz19_2 : w.cell? ⟨pa0_.block, pa0_.off + 2, none⟩ = some (.int .i64 a0_2) := (RP.get HQ0.out 2 rfl)
   have hcz19_3 : w.cell? ⟨pa0_.block, pa0_.off + 3, none⟩ = some (.string a0_3) := (RP.get HQ0.out 3 rfl)
   have hcz19_4 : w.cell? ⟨pa0_.block, pa0_.off + 4, none⟩ = some (.int .i64 a0_4) := (RP.get HQ0.out 4 rfl)
   have hcz19_5 : w.cell? ⟨pa0_.block, pa0_.off + 5, none⟩ = some (.bool a0_5) := (RP.get HQ0.out 5 rfl)
   have hcz19_6 : w.cell? ⟨pa0_.block, pa0_.off + 6, none⟩ = some (.int .i64 a0_6) := (RP.get HQ0.out 6 rfl)
   have hcz19_7 : w.cell? ⟨pa0_.block, pa0_.off + 7, none⟩ = some (.slice A0_7 l0_7.length c0_7) := (RP.get HQ0.out 7 rfl)
   go_wp2_with (first | (go_at_call 29; (with_reducible refine (spec_l00In.calls a0_0 1 1000000000 false _ A3.out).mono ?_); rintro e w' ⟨rfl, ⟨nd, rfl⟩⟩; (try first | exact ⟨rfl, _, World.drewN_drewN _ _ _⟩ | exact ⟨rfl, _, Eq.trans (World.drewN_drewN _ _ _) (congrArg (World.drewN _) (Nat.add_assoc _ _ _))⟩)))
   repeat (go_quiet (first | (go_at_call 29; (with_reducible refine (spec_l00In.calls a0_0 1 1000000000 false _ A3.out).mono ?_); rintro e w' ⟨rfl, ⟨nd, rfl⟩⟩; (try first | exact ⟨rfl, _, World.drewN_drewN _ _ _⟩ | exact ⟨rfl, _, Eq.trans (World.drewN_drewN _ _ _) (congrArg (World.drewN _) (Nat.add_assoc _ _ _))⟩))); try go_wp2_with (first | (go_at_call 29; (with_reducible refine (spec_l00In.calls a0_0 1 1000000000 false _ A3.out).mono ?_); rintro e w' ⟨rfl, ⟨nd, rfl⟩⟩; (try first | exact ⟨rfl, _, World.drewN_drewN _ _ _⟩ | exact ⟨rfl, _, Eq.trans (World.drewN_drewN _ _ _) (congrArg (World.drewN _) (Nat.add_assoc _ _ _))⟩))))
   go_meet
   case rel => exact ⟨_, (true), (by first | rfl | (simp; done) | (simp [*]; done)), H', ⟨by first | omega | exact Nat.le_refl _⟩, by repeat (first | exact Drawn0.refl _ | apply Drawn0.step)⟩
 case rest =>
  clear HC2
  try clear c1
  try clear p2
  try clear c3
  try clear c4
  try clear c6
  try clear p6
  try clear c8
  try clear c10
  try clear c12
  try clear hcz14_0
  try clear hcz14_1
  try clear hcz14_2
  try clear hcz14_3
  try clear hcz14_4
  try clear hcz14_5
  try clear hcz14_6
  try clear hcz14_7
  try clear hcz15_0
  try clear hcz15_1
  try clear hcz15_2
  try clear hcz15_3
  try clear hcz15_4
  try clear hcz15_5
  try clear hcz15_6
  try clear hcz15_7
  try clear hcz16_0
  try clear hcz16_1
  try clear hcz16_2
  try clear hcz16_3
  try clear hcz16_4
  try clear hcz16_5
  try clear hcz16_6
  try clear hcz16_7
  try clear hcz17_0
  try clear hcz17_1
  try clear hcz17_2
  try clear hcz17_3
  try clear hcz17_4
  try clear hcz17_5
  try clear hcz17_6
  try clear hcz17_7
  try clear hcz18_0
  try clear hcz18_1
  try clear hcz18_2
  try clear hcz18_3
  try clear hcz18_4
  try clear hcz18_5
  try clear hcz18_6
  try clear hcz18_7
  try clear hcz19_0
  try clear hcz19_1
  try clear hcz19_2
  try clear hcz19_3
  try clear hcz19_4
  try clear hcz19_5
  try clear hcz19_6
  try clear hcz19_7
  obtain ⟨kq, x53_1, rfl, HA, HJ1, ⟨mc1, rfl⟩⟩ := hcut
  cases kq with
  | zero => exact absurd HA.out (by simp [spec_l03Message.j0])
  | succ kj1 =>
   have H := HA.out
   clear HA
   simp only [spec_l03Message.j0] at H
   by_cases c20 : x53_1 = true
   ·subst c20
    have H1 : (some false) = some r := by rw [if_pos rfl] at H; exact H
    clear H
    have H := H1
    clear H1
    obtain rfl := Option.some.inj H
    go_wp2
    repeat (go_quiet (fail); try go_wp2)
    go_ret
    exact ⟨by first | rfl | (simp; done) | (simp [*]; done), by repeat (first | exact Drawn0.refl _ | apply Drawn0.step)⟩
   ·replace c20 := Bool.eq_false_iff.mpr c20
    subst c20
    have H1 : (if (l0_7.length : Int) > 20 then (some false) else ((spec_l01Members.f kj1 l0_7).bind fun t180 => (if t180 = true then ((spec_l00Has.f kj1 l0_7 a0_1).bind fun t181 => (if t181 = true then (some false) else (if a0_5 = true then (if a0_3.toList = ([] : List UInt8) then (some ((l0_7.length : Int) == 0)) else (some false)) else (some true)))) else (some false)))) = some r := by rw [if_neg (show ¬ (false = true) by decide)] at H; exact H
    clear H
    have H := H1
    clear H1
    by_cases c21 : (l0_7.length : Int) > 20
    ·rw [if_pos c21] at H
     have c21b0 : decide (20 < (l0_7.length : Int)) = true := decide_eq_true c21
     have c21b1 : decide (20 < l0_7.length) = true := decide_eq_true (by omega)
     clear c21
     obtain rfl := Option.some.inj H
     have hcz22_0 : w.cell? pa0_ = some (.int .i64 a0_0) := (RP.get HQ0.out 0 rfl)
     have hcz22_1 : w.cell? ⟨pa0_.block, pa0_.off + 1, none⟩ = some (.int .i64 a0_1) := (RP.get HQ0.out 1 rfl)
     have hcz22_2 : w.cell? ⟨pa0_.block, pa0_.off + 2, none⟩ = some (.int .i64 a0_2) := (RP.get HQ0.out 2 rfl)
     have hcz22_3 : w.cell? ⟨pa0_.block, pa0_.off + 3, none⟩ = some (.string a0_3) := (RP.get HQ0.out 3 rfl)
     have hcz22_4 : w.cell? ⟨pa0_.block, pa0_.off + 4, none⟩ = some (.int .i64 a0_4) := (RP.get HQ0.out 4 rfl)
     have hcz22_5 : w.cell? ⟨pa0_.block, pa0_.off + 5, none⟩ = some (.bool a0_5) := (RP.get HQ0.out 5 rfl)
     have hcz22_6 : w.cell? ⟨pa0_.block, pa0_.off + 6, none⟩ = some (.int .i64 a0_6) := (RP.get HQ0.out 6 rfl)
     have hcz22_7 : w.cell? ⟨pa0_.block, pa0_.off + 7, none⟩ = some (.slice A0_7 l0_7.length c0_7) := (RP.get HQ0.out 7 rfl)
     go_wp2
     repeat (go_quiet (fail); try go_wp2)
     go_ret
     exact ⟨by first | rfl | (simp; done) | (simp [*]; done), by repeat (first | exact Drawn0.refl _ | apply Drawn0.step)⟩
    ·rw [if_neg c21] at H
     have c21b0 : decide (20 < (l0_7.length : Int)) = false := decide_eq_false c21
     have c21b1 : decide (20 < l0_7.length) = false := decide_eq_false (by omega)
     clear c21
     replace H := Option.bind_eq_some_iff.mp H
     obtain ⟨t180, A230, H⟩ := H
     replace H : (if t180 = true then ((spec_l00Has.f kj1 l0_7 a0_1).bind fun t181 => (if t181 = true then (some false) else (if a0_5 = true then (if a0_3.toList = ([] : List UInt8) then (some ((l0_7.length : Int) == 0)) else (some false)) else (some true)))) else (some false)) = some r := H
     have A23 := Aside0.mk A230
     clear A230
     by_cases c24 : t180 = true
     ·subst c24
      have H1 : ((spec_l00Has.f kj1 l0_7 a0_1).bind fun t181 => (if t181 = true then (some false) else (if a0_5 = true then (if a0_3.toList = ([] : List UInt8) then (some ((l0_7.length : Int) == 0)) else (some false)) else (some true)))) = some r := by rw [if_pos rfl] at H; exact H
      clear H
      have H := H1
      clear H1
      replace H := Option.bind_eq_some_iff.mp H
      obtain ⟨t181, A250, H⟩ := H
      replace H : (if t181 = true then (some false) else (if a0_5 = true then (if a0_3.toList = ([] : List UInt8) then (some ((l0_7.length : Int) == 0)) else (some false)) else (some true))) = some r := H
      have A25 := Aside0.mk A250
      clear A250
      by_cases c26 : t181 = true
      ·subst c26
       have H1 : (some false) = some r := by rw [if_pos rfl] at H; exact H
       clear H
       have H := H1
       clear H1
       obtain rfl := Option.some.inj H
       have hcz27_0 : w.cell? pa0_ = some (.int .i64 a0_0) := (RP.get HQ0.out 0 rfl)
       have hcz27_1 : w.cell? ⟨pa0_.block, pa0_.off + 1, none⟩ = some (.int .i64 a0_1) := (RP.get HQ0.out 1 rfl)
       have hcz27_2 : w.cell? ⟨pa0_.block, pa0_.off + 2, none⟩ = some (.int .i64 a0_2) := (RP.get HQ0.out 2 rfl)
       have hcz27_3 : w.cell? ⟨pa0_.block, pa0_.off + 3, none⟩ = some (.string a0_3) := (RP.get HQ0.out 3 rfl)
       have hcz27_4 : w.cell? ⟨pa0_.block, pa0_.off + 4, none⟩ = some (.int .i64 a0_4) := (RP.get HQ0.out 4 rfl)
       have hcz27_5 : w.cell? ⟨pa0_.block, pa0_.off + 5, none⟩ = some (.bool a0_5) := (RP.get HQ0.out 5 rfl)
       have hcz27_6 : w.cell? ⟨pa0_.block, pa0_.off + 6, none⟩ = some (.int .i64 a0_6) := (RP.get HQ0.out 6 rfl)
       have hcz27_7 : w.cell? ⟨pa0_.block, pa0_.off + 7, none⟩ = some (.slice A0_7 l0_7.length c0_7) := (RP.get HQ0.out 7 rfl)
       go_wp2_with (first | (go_at_call 43; (with_reducible refine (spec_l01Members.calls kj1 _ _ l0_7 true _ ?side1 ?side2 A23.out).mono ?_); (case side1 => repeat (first | exact HR0_7.out | (with_reducible refine Kd.C_alloc ?_ _) | (with_reducible refine Kd.C_drewN ?_ _) | (with_reducible refine Kd.C_drew ?_))); (case side2 => exact HC0_7.out); rintro e w' ⟨rfl, ⟨nd, rfl⟩⟩; (try first | exact ⟨rfl, _, World.drewN_drewN _ _ _⟩ | exact ⟨rfl, _, Eq.trans (World.drewN_drewN _ _ _) (congrArg (World.drewN _) (Nat.add_assoc _ _ _))⟩)) | (go_at_call 44; (with_reducible refine (spec_l00Has.calls kj1 _ _ l0_7 a0_1 true _ ?side1 ?side2 A25.out).mono ?_); (case side1 => repeat (first | exact HR0_7.out | (with_reducible refine Kd.C_alloc ?_ _) | (with_reducible refine Kd.C_drewN ?_ _) | (with_reducible refine Kd.C_drew ?_))); (case side2 => exact HC0_7.out); rintro e w' ⟨rfl, ⟨nd, rfl⟩⟩; (try first | exact ⟨rfl, _, World.drewN_drewN _ _ _⟩ | exact ⟨rfl, _, Eq.trans (World.drewN_drewN _ _ _) (congrArg (World.drewN _) (Nat.add_assoc _ _ _))⟩)))
       repeat (go_quiet (first | (go_at_call 43; (with_reducible refine (spec_l01Members.calls kj1 _ _ l0_7 true _ ?side1 ?side2 A23.out).mono ?_); (case side1 => repeat (first | exact HR0_7.out | (with_reducible refine Kd.C_alloc ?_ _) | (with_reducible refine Kd.C_drewN ?_ _) | (with_reducible refine Kd.C_drew ?_))); (case side2 => exact HC0_7.out); rintro e w' ⟨rfl, ⟨nd, rfl⟩⟩; (try first | exact ⟨rfl, _, World.drewN_drewN _ _ _⟩ | exact ⟨rfl, _, Eq.trans (World.drewN_drewN _ _ _) (congrArg (World.drewN _) (Nat.add_assoc _ _ _))⟩)) | (go_at_call 44; (with_reducible refine (spec_l00Has.calls kj1 _ _ l0_7 a0_1 true _ ?side1 ?side2 A25.out).mono ?_); (case side1 => repeat (first | exact HR0_7.out | (with_reducible refine Kd.C_alloc ?_ _) | (with_reducible refine Kd.C_drewN ?_ _) | (with_reducible refine Kd.C_drew ?_))); (case side2 => exact HC0_7.out); rintro e w' ⟨rfl, ⟨nd, rfl⟩⟩; (try first | exact ⟨rfl, _, World.drewN_drewN _ _ _⟩ | exact ⟨rfl, _, Eq.trans (World.drewN_drewN _ _ _) (congrArg (World.drewN _) (Nat.add_assoc _ _ _))⟩))); try go_wp2_with (first | (go_at_call 43; (with_reducible refine (spec_l01Members.calls kj1 _ _ l0_7 true _ ?side1 ?side2 A23.out).mono ?_); (case side1 => repeat (first | exact HR0_7.out | (with_reducible refine Kd.C_alloc ?_ _) | (with_reducible refine Kd.C_drewN ?_ _) | (with_reducible refine Kd.C_drew ?_))); (case side2 => exact HC0_7.out); rintro e w' ⟨rfl, ⟨nd, rfl⟩⟩; (try first | exact ⟨rfl, _, World.drewN_drewN _ _ _⟩ | exact ⟨rfl, _, Eq.trans (World.drewN_drewN _ _ _) (congrArg (World.drewN _) (Nat.add_assoc _ _ _))⟩)) | (go_at_call 44; (with_reducible refine (spec_l00Has.calls kj1 _ _ l0_7 a0_1 true _ ?side1 ?side2 A25.out).mono ?_); (case side1 => repeat (first | exact HR0_7.out | (with_reducible refine Kd.C_alloc ?_ _) | (with_reducible refine Kd.C_drewN ?_ _) | (with_reducible refine Kd.C_drew ?_))); (case side2 => exact HC0_7.out); rintro e w' ⟨rfl, ⟨nd, rfl⟩⟩; (try first | exact ⟨rfl, _, World.drewN_drewN _ _ _⟩ | exact ⟨rfl, _, Eq.trans (World.drewN_drewN _ _ _) (congrArg (World.drewN _) (Nat.add_assoc _ _ _))⟩))))
       go_ret
       exact ⟨by first | rfl | (simp; done) | (simp [*]; done), by repeat (first | exact Drawn0.refl _ | apply Drawn0.step)⟩
      ·replace c26 := Bool.eq_false_iff.mpr c26
       subst c26
       have H1 : (if a0_5 = true then (if a0_3.toList = ([] : List UInt8) then (some ((l0_7.length : Int) == 0)) else (some false)) else (some true)) = some r := by rw [if_neg (show ¬ (false = true) by decide)] at H; exact H
       clear H
       have H := H1
       clear H1
       by_cases c28 : a0_5 = true
       ·subst c28
        have H1 : (if a0_3.toList = ([] : List UInt8) then (some ((l0_7.length : Int) == 0)) else (some false)) = some r := by rw [if_pos rfl] at H; exact H
        clear H
        have H := H1
        clear H1
        by_cases c29 : a0_3.toList = ([] : List UInt8)
        ·rw [if_pos c29] at H
         have c29b0 : (a0_3.toList == ([] : List UInt8)) = true := beq_iff_eq.mpr c29
         have c29b1 : (a0_3.toList != ([] : List UInt8)) = false := bne_eq_false_iff_eq.mpr c29
         clear c29
         obtain rfl := Option.some.inj H
         have hcz30_0 : w.cell? pa0_ = some (.int .i64 a0_0) := (RP.get HQ0.out 0 rfl)
         have hcz30_1 : w.cell? ⟨pa0_.block, pa0_.off + 1, none⟩ = some (.int .i64 a0_1) := (RP.get HQ0.out 1 rfl)
         have hcz30_2 : w.cell? ⟨pa0_.block, pa0_.off + 2, none⟩ = some (.int .i64 a0_2) := (RP.get HQ0.out 2 rfl)
         have hcz30_3 : w.cell? ⟨pa0_.block, pa0_.off + 3, none⟩ = some (.string a0_3) := (RP.get HQ0.out 3 rfl)
         have hcz30_4 : w.cell? ⟨pa0_.block, pa0_.off + 4, none⟩ = some (.int .i64 a0_4) := (RP.get HQ0.out 4 rfl)
         have hcz30_5 : w.cell? ⟨pa0_.block, pa0_.off + 5, none⟩ = some (.bool true) := (RP.get HQ0.out 5 rfl)
         have hcz30_6 : w.cell? ⟨pa0_.block, pa0_.off + 6, none⟩ = some (.int .i64 a0_6) := (RP.get HQ0.out 6 rfl)
         have hcz30_7 : w.cell? ⟨pa0_.block, pa0_.off + 7, none⟩ = some (.slice A0_7 l0_7.length c0_7) := (RP.get HQ0.out 7 rfl)
         go_wp2_with (first | (go_at_call 43; (with_reducible refine (spec_l01Members.calls kj1 _ _ l0_7 true _ ?side1 ?side2 A23.out).mono ?_); (case side1 => repeat (first | exact HR0_7.out | (with_reducible refine Kd.C_alloc ?_ _) | (with_reducible refine Kd.C_drewN ?_ _) | (with_reducible refine Kd.C_drew ?_))); (case side2 => exact HC0_7.out); rintro e w' ⟨rfl, ⟨nd, rfl⟩⟩; (try first | exact ⟨rfl, _, World.drewN_drewN _ _ _⟩ | exact ⟨rfl, _, Eq.trans (World.drewN_drewN _ _ _) (congrArg (World.drewN _) (Nat.add_assoc _ _ _))⟩)) | (go_at_call 44; (with_reducible refine (spec_l00Has.calls kj1 _ _ l0_7 a0_1 false _ ?side1 ?side2 A25.out).mono ?_); (case side1 => repeat (first | exact HR0_7.out | (with_reducible refine Kd.C_alloc ?_ _) | (with_reducible refine Kd.C_drewN ?_ _) | (with_reducible refine Kd.C_drew ?_))); (case side2 => exact HC0_7.out); rintro e w' ⟨rfl, ⟨nd, rfl⟩⟩; (try first | exact ⟨rfl, _, World.drewN_drewN _ _ _⟩ | exact ⟨rfl, _, Eq.trans (World.drewN_drewN _ _ _) (congrArg (World.drewN _) (Nat.add_assoc _ _ _))⟩)))
         repeat (go_quiet (first | (go_at_call 43; (with_reducible refine (spec_l01Members.calls kj1 _ _ l0_7 true _ ?side1 ?side2 A23.out).mono ?_); (case side1 => repeat (first | exact HR0_7.out | (with_reducible refine Kd.C_alloc ?_ _) | (with_reducible refine Kd.C_drewN ?_ _) | (with_reducible refine Kd.C_drew ?_))); (case side2 => exact HC0_7.out); rintro e w' ⟨rfl, ⟨nd, rfl⟩⟩; (try first | exact ⟨rfl, _, World.drewN_drewN _ _ _⟩ | exact ⟨rfl, _, Eq.trans (World.drewN_drewN _ _ _) (congrArg (World.drewN _) (Nat.add_assoc _ _ _))⟩)) | (go_at_call 44; (with_reducible refine (spec_l00Has.calls kj1 _ _ l0_7 a0_1 false _ ?side1 ?side2 A25.out).mono ?_); (case side1 => repeat (first | exact HR0_7.out | (with_reducible refine Kd.C_alloc ?_ _) | (with_reducible refine Kd.C_drewN ?_ _) | (with_reducible refine Kd.C_drew ?_))); (case side2 => exact HC0_7.out); rintro e w' ⟨rfl, ⟨nd, rfl⟩⟩; (try first | exact ⟨rfl, _, World.drewN_drewN _ _ _⟩ | exact ⟨rfl, _, Eq.trans (World.drewN_drewN _ _ _) (congrArg (World.drewN _) (Nat.add_assoc _ _ _))⟩))); try go_wp2_with (first | (go_at_call 43; (with_reducible refine (spec_l01Members.calls kj1 _ _ l0_7 true _ ?side1 ?side2 A23.out).mono ?_); (case side1 => repeat (first | exact HR0_7.out | (with_reducible refine Kd.C_alloc ?_ _) | (with_reducible refine Kd.C_drewN ?_ _) | (with_reducible refine Kd.C_drew ?_))); (case side2 => exact HC0_7.out); rintro e w' ⟨rfl, ⟨nd, rfl⟩⟩; (try first | exact ⟨rfl, _, World.drewN_drewN _ _ _⟩ | exact ⟨rfl, _, Eq.trans (World.drewN_drewN _ _ _) (congrArg (World.drewN _) (Nat.add_assoc _ _ _))⟩)) | (go_at_call 44; (with_reducible refine (spec_l00Has.calls kj1 _ _ l0_7 a0_1 false _ ?side1 ?side2 A25.out).mono ?_); (case side1 => repeat (first | exact HR0_7.out | (with_reducible refine Kd.C_alloc ?_ _) | (with_reducible refine Kd.C_drewN ?_ _) | (with_reducible refine Kd.C_drew ?_))); (case side2 => exact HC0_7.out); rintro e w' ⟨rfl, ⟨nd, rfl⟩⟩; (try first | exact ⟨rfl, _, World.drewN_drewN _ _ _⟩ | exact ⟨rfl, _, Eq.trans (World.drewN_drewN _ _ _) (congrArg (World.drewN _) (Nat.add_assoc _ _ _))⟩))))
         go_ret
         exact ⟨by first | rfl | (simp; done) | (simp [*]; done), by repeat (first | exact Drawn0.refl _ | apply Drawn0.step)⟩
        ·rw [if_neg c29] at H
         have c29b0 : (a0_3.toList == ([] : List UInt8)) = false := beq_eq_false_iff_ne.mpr c29
         have c29b1 : (a0_3.toList != ([] : List UInt8)) = true := bne_iff_ne.mpr c29
         obtain rfl := Option.some.inj H
         have hcz31_0 : w.cell? pa0_ = some (.int .i64 a0_0) := (RP.get HQ0.out 0 rfl)
         have hcz31_1 : w.cell? ⟨pa0_.block, pa0_.off + 1, none⟩ = some (.int .i64 a0_1) := (RP.get HQ0.out 1 rfl)
         have hcz31_2 : w.cell? ⟨pa0_.block, pa0_.off + 2, none⟩ = some (.int .i64 a0_2) := (RP.get HQ0.out 2 rfl)
         have hcz31_3 : w.cell? ⟨pa0_.block, pa0_.off + 3, none⟩ = some (.string a0_3) := (RP.get HQ0.out 3 rfl)
         have hcz31_4 : w.cell? ⟨pa0_.block, pa0_.off + 4, none⟩ = some (.int .i64 a0_4) := (RP.get HQ0.out 4 rfl)
         have hcz31_5 : w.cell? ⟨pa0_.block, pa0_.off + 5, none⟩ = some (.bool true) := (RP.get HQ0.out 5 rfl)
         have hcz31_6 : w.cell? ⟨pa0_.block, pa0_.off + 6, none⟩ = some (.int .i64 a0_6) := (RP.get HQ0.out 6 rfl)
         have hcz31_7 : w.cell? ⟨pa0_.block, pa0_.off + 7, none⟩ = some (.slice A0_7 l0_7.length c0_7) := (RP.get HQ0.out 7 rfl)
         go_wp2_with (first | (go_at_call 43; (with_reducible refine (spec_l01Members.calls kj1 _ _ l0_7 true _ ?side1 ?side2 A23.out).mono ?_); (case side1 => repeat (first | exact HR0_7.out | (with_reducible refine Kd.C_alloc ?_ _) | (with_reducible refine Kd.C_drewN ?_ _) | (with_reducible refine Kd.C_drew ?_))); (case side2 => exact HC0_7.out); rintro e w' ⟨rfl, ⟨nd, rfl⟩⟩; (try first | exact ⟨rfl, _, World.drewN_drewN _ _ _⟩ | exact ⟨rfl, _, Eq.trans (World.drewN_drewN _ _ _) (congrArg (World.drewN _) (Nat.add_assoc _ _ _))⟩)) | (go_at_call 44; (with_reducible refine (spec_l00Has.calls kj1 _ _ l0_7 a0_1 false _ ?side1 ?side2 A25.out).mono ?_); (case side1 => repeat (first | exact HR0_7.out | (with_reducible refine Kd.C_alloc ?_ _) | (with_reducible refine Kd.C_drewN ?_ _) | (with_reducible refine Kd.C_drew ?_))); (case side2 => exact HC0_7.out); rintro e w' ⟨rfl, ⟨nd, rfl⟩⟩; (try first | exact ⟨rfl, _, World.drewN_drewN _ _ _⟩ | exact ⟨rfl, _, Eq.trans (World.drewN_drewN _ _ _) (congrArg (World.drewN _) (Nat.add_assoc _ _ _))⟩)))
         repeat (go_quiet (first | (go_at_call 43; (with_reducible refine (spec_l01Members.calls kj1 _ _ l0_7 true _ ?side1 ?side2 A23.out).mono ?_); (case side1 => repeat (first | exact HR0_7.out | (with_reducible refine Kd.C_alloc ?_ _) | (with_reducible refine Kd.C_drewN ?_ _) | (with_reducible refine Kd.C_drew ?_))); (case side2 => exact HC0_7.out); rintro e w' ⟨rfl, ⟨nd, rfl⟩⟩; (try first | exact ⟨rfl, _, World.drewN_drewN _ _ _⟩ | exact ⟨rfl, _, Eq.trans (World.drewN_drewN _ _ _) (congrArg (World.drewN _) (Nat.add_assoc _ _ _))⟩)) | (go_at_call 44; (with_reducible refine (spec_l00Has.calls kj1 _ _ l0_7 a0_1 false _ ?side1 ?side2 A25.out).mono ?_); (case side1 => repeat (first | exact HR0_7.out | (with_reducible refine Kd.C_alloc ?_ _) | (with_reducible refine Kd.C_drewN ?_ _) | (with_reducible refine Kd.C_drew ?_))); (case side2 => exact HC0_7.out); rintro e w' ⟨rfl, ⟨nd, rfl⟩⟩; (try first | exact ⟨rfl, _, World.drewN_drewN _ _ _⟩ | exact ⟨rfl, _, Eq.trans (World.drewN_drewN _ _ _) (congrArg (World.drewN _) (Nat.add_assoc _ _ _))⟩))); try go_wp2_with (first | (go_at_call 43; (with_reducible refine (spec_l01Members.calls kj1 _ _ l0_7 true _ ?side1 ?side2 A23.out).mono ?_); (case side1 => repeat (first | exact HR0_7.out | (with_reducible refine Kd.C_alloc ?_ _) | (with_reducible refine Kd.C_drewN ?_ _) | (with_reducible refine Kd.C_drew ?_))); (case side2 => exact HC0_7.out); rintro e w' ⟨rfl, ⟨nd, rfl⟩⟩; (try first | exact ⟨rfl, _, World.drewN_drewN _ _ _⟩ | exact ⟨rfl, _, Eq.trans (World.drewN_drewN _ _ _) (congrArg (World.drewN _) (Nat.add_assoc _ _ _))⟩)) | (go_at_call 44; (with_reducible refine (spec_l00Has.calls kj1 _ _ l0_7 a0_1 false _ ?side1 ?side2 A25.out).mono ?_); (case side1 => repeat (first | exact HR0_7.out | (with_reducible refine Kd.C_alloc ?_ _) | (with_reducible refine Kd.C_drewN ?_ _) | (with_reducible refine Kd.C_drew ?_))); (case side2 => exact HC0_7.out); rintro e w' ⟨rfl, ⟨nd, rfl⟩⟩; (try first | exact ⟨rfl, _, World.drewN_drewN _ _ _⟩ | exact ⟨rfl, _, Eq.trans (World.drewN_drewN _ _ _) (congrArg (World.drewN _) (Nat.add_assoc _ _ _))⟩))))
         go_ret
         exact ⟨by first | rfl | (simp; done) | (simp [*]; done), by repeat (first | exact Drawn0.refl _ | apply Drawn0.step)⟩
       ·replace c28 := Bool.eq_false_iff.mpr c28
        subst c28
        have H1 : (some true) = some r := by rw [if_neg (show ¬ (false = true) by decide)] at H; exact H
        clear H
        have H := H1
        clear H1
        obtain rfl := Option.some.inj H
        have hcz32_0 : w.cell? pa0_ = some (.int .i64 a0_0) := (RP.get HQ0.out 0 rfl)
        have hcz32_1 : w.cell? ⟨pa0_.block, pa0_.off + 1, none⟩ = some (.int .i64 a0_1) := (RP.get HQ0.out 1 rfl)
        have hcz32_2 : w.cell? ⟨pa0_.block, pa0_.off + 2, none⟩ = some (.int .i64 a0_2) := (RP.get HQ0.out 2 rfl)
        have hcz32_3 : w.cell? ⟨pa0_.block, pa0_.off + 3, none⟩ = some (.string a0_3) := (RP.get HQ0.out 3 rfl)
        have hcz32_4 : w.cell? ⟨pa0_.block, pa0_.off + 4, none⟩ = some (.int .i64 a0_4) := (RP.get HQ0.out 4 rfl)
        have hcz32_5 : w.cell? ⟨pa0_.block, pa0_.off + 5, none⟩ = some (.bool false) := (RP.get HQ0.out 5 rfl)
        have hcz32_6 : w.cell? ⟨pa0_.block, pa0_.off + 6, none⟩ = some (.int .i64 a0_6) := (RP.get HQ0.out 6 rfl)
        have hcz32_7 : w.cell? ⟨pa0_.block, pa0_.off + 7, none⟩ = some (.slice A0_7 l0_7.length c0_7) := (RP.get HQ0.out 7 rfl)
        go_wp2_with (first | (go_at_call 43; (with_reducible refine (spec_l01Members.calls kj1 _ _ l0_7 true _ ?side1 ?side2 A23.out).mono ?_); (case side1 => repeat (first | exact HR0_7.out | (with_reducible refine Kd.C_alloc ?_ _) | (with_reducible refine Kd.C_drewN ?_ _) | (with_reducible refine Kd.C_drew ?_))); (case side2 => exact HC0_7.out); rintro e w' ⟨rfl, ⟨nd, rfl⟩⟩; (try first | exact ⟨rfl, _, World.drewN_drewN _ _ _⟩ | exact ⟨rfl, _, Eq.trans (World.drewN_drewN _ _ _) (congrArg (World.drewN _) (Nat.add_assoc _ _ _))⟩)) | (go_at_call 44; (with_reducible refine (spec_l00Has.calls kj1 _ _ l0_7 a0_1 false _ ?side1 ?side2 A25.out).mono ?_); (case side1 => repeat (first | exact HR0_7.out | (with_reducible refine Kd.C_alloc ?_ _) | (with_reducible refine Kd.C_drewN ?_ _) | (with_reducible refine Kd.C_drew ?_))); (case side2 => exact HC0_7.out); rintro e w' ⟨rfl, ⟨nd, rfl⟩⟩; (try first | exact ⟨rfl, _, World.drewN_drewN _ _ _⟩ | exact ⟨rfl, _, Eq.trans (World.drewN_drewN _ _ _) (congrArg (World.drewN _) (Nat.add_assoc _ _ _))⟩)))
        repeat (go_quiet (first | (go_at_call 43; (with_reducible refine (spec_l01Members.calls kj1 _ _ l0_7 true _ ?side1 ?side2 A23.out).mono ?_); (case side1 => repeat (first | exact HR0_7.out | (with_reducible refine Kd.C_alloc ?_ _) | (with_reducible refine Kd.C_drewN ?_ _) | (with_reducible refine Kd.C_drew ?_))); (case side2 => exact HC0_7.out); rintro e w' ⟨rfl, ⟨nd, rfl⟩⟩; (try first | exact ⟨rfl, _, World.drewN_drewN _ _ _⟩ | exact ⟨rfl, _, Eq.trans (World.drewN_drewN _ _ _) (congrArg (World.drewN _) (Nat.add_assoc _ _ _))⟩)) | (go_at_call 44; (with_reducible refine (spec_l00Has.calls kj1 _ _ l0_7 a0_1 false _ ?side1 ?side2 A25.out).mono ?_); (case side1 => repeat (first | exact HR0_7.out | (with_reducible refine Kd.C_alloc ?_ _) | (with_reducible refine Kd.C_drewN ?_ _) | (with_reducible refine Kd.C_drew ?_))); (case side2 => exact HC0_7.out); rintro e w' ⟨rfl, ⟨nd, rfl⟩⟩; (try first | exact ⟨rfl, _, World.drewN_drewN _ _ _⟩ | exact ⟨rfl, _, Eq.trans (World.drewN_drewN _ _ _) (congrArg (World.drewN _) (Nat.add_assoc _ _ _))⟩))); try go_wp2_with (first | (go_at_call 43; (with_reducible refine (spec_l01Members.calls kj1 _ _ l0_7 true _ ?side1 ?side2 A23.out).mono ?_); (case side1 => repeat (first | exact HR0_7.out | (with_reducible refine Kd.C_alloc ?_ _) | (with_reducible refine Kd.C_drewN ?_ _) | (with_reducible refine Kd.C_drew ?_))); (case side2 => exact HC0_7.out); rintro e w' ⟨rfl, ⟨nd, rfl⟩⟩; (try first | exact ⟨rfl, _, World.drewN_drewN _ _ _⟩ | exact ⟨rfl, _, Eq.trans (World.drewN_drewN _ _ _) (congrArg (World.drewN _) (Nat.add_assoc _ _ _))⟩)) | (go_at_call 44; (with_reducible refine (spec_l00Has.calls kj1 _ _ l0_7 a0_1 false _ ?side1 ?side2 A25.out).mono ?_); (case side1 => repeat (first | exact HR0_7.out | (with_reducible refine Kd.C_alloc ?_ _) | (with_reducible refine Kd.C_drewN ?_ _) | (with_reducible refine Kd.C_drew ?_))); (case side2 => exact HC0_7.out); rintro e w' ⟨rfl, ⟨nd, rfl⟩⟩; (try first | exact ⟨rfl, _, World.drewN_drewN _ _ _⟩ | exact ⟨rfl, _, Eq.trans (World.drewN_drewN _ _ _) (congrArg (World.drewN _) (Nat.add_assoc _ _ _))⟩))))
        go_ret
        exact ⟨by first | rfl | (simp; done) | (simp [*]; done), by repeat (first | exact Drawn0.refl _ | apply Drawn0.step)⟩
     ·replace c24 := Bool.eq_false_iff.mpr c24
      subst c24
      have H1 : (some false) = some r := by rw [if_neg (show ¬ (false = true) by decide)] at H; exact H
      clear H
      have H := H1
      clear H1
      obtain rfl := Option.some.inj H
      have hcz33_0 : w.cell? pa0_ = some (.int .i64 a0_0) := (RP.get HQ0.out 0 rfl)
      have hcz33_1 : w.cell? ⟨pa0_.block, pa0_.off + 1, none⟩ = some (.int .i64 a0_1) := (RP.get HQ0.out 1 rfl)
      have hcz33_2 : w.cell? ⟨pa0_.block, pa0_.off + 2, none⟩ = some (.int .i64 a0_2) := (RP.get HQ0.out 2 rfl)
      have hcz33_3 : w.cell? ⟨pa0_.block, pa0_.off + 3, none⟩ = some (.string a0_3) := (RP.get HQ0.out 3 rfl)
      have hcz33_4 : w.cell? ⟨pa0_.block, pa0_.off + 4, none⟩ = some (.int .i64 a0_4) := (RP.get HQ0.out 4 rfl)
      have hcz33_5 : w.cell? ⟨pa0_.block, pa0_.off + 5, none⟩ = some (.bool a0_5) := (RP.get HQ0.out 5 rfl)
      have hcz33_6 : w.cell? ⟨pa0_.block, pa0_.off + 6, none⟩ = some (.int .i64 a0_6) := (RP.get HQ0.out 6 rfl)
      have hcz33_7 : w.cell? ⟨pa0_.block, pa0_.off + 7, none⟩ = some (.slice A0_7 l0_7.length c0_7) := (RP.get HQ0.out 7 rfl)
      go_wp2_with (first | (go_at_call 43; (with_reducible refine (spec_l01Members.calls kj1 _ _ l0_7 false _ ?side1 ?side2 A23.out).mono ?_); (case side1 => repeat (first | exact HR0_7.out | (with_reducible refine Kd.C_alloc ?_ _) | (with_reducible refine Kd.C_drewN ?_ _) | (with_reducible refine Kd.C_drew ?_))); (case side2 => exact HC0_7.out); rintro e w' ⟨rfl, ⟨nd, rfl⟩⟩; (try first | exact ⟨rfl, _, World.drewN_drewN _ _ _⟩ | exact ⟨rfl, _, Eq.trans (World.drewN_drewN _ _ _) (congrArg (World.drewN _) (Nat.add_assoc _ _ _))⟩)))
      repeat (go_quiet (first | (go_at_call 43; (with_reducible refine (spec_l01Members.calls kj1 _ _ l0_7 false _ ?side1 ?side2 A23.out).mono ?_); (case side1 => repeat (first | exact HR0_7.out | (with_reducible refine Kd.C_alloc ?_ _) | (with_reducible refine Kd.C_drewN ?_ _) | (with_reducible refine Kd.C_drew ?_))); (case side2 => exact HC0_7.out); rintro e w' ⟨rfl, ⟨nd, rfl⟩⟩; (try first | exact ⟨rfl, _, World.drewN_drewN _ _ _⟩ | exact ⟨rfl, _, Eq.trans (World.drewN_drewN _ _ _) (congrArg (World.drewN _) (Nat.add_assoc _ _ _))⟩))); try go_wp2_with (first | (go_at_call 43; (with_reducible refine (spec_l01Members.calls kj1 _ _ l0_7 false _ ?side1 ?side2 A23.out).mono ?_); (case side1 => repeat (first | exact HR0_7.out | (with_reducible refine Kd.C_alloc ?_ _) | (with_reducible refine Kd.C_drewN ?_ _) | (with_reducible refine Kd.C_drew ?_))); (case side2 => exact HC0_7.out); rintro e w' ⟨rfl, ⟨nd, rfl⟩⟩; (try first | exact ⟨rfl, _, World.drewN_drewN _ _ _⟩ | exact ⟨rfl, _, Eq.trans (World.drewN_drewN _ _ _) (congrArg (World.drewN _) (Nat.add_assoc _ _ _))⟩))))
      go_ret
      exact ⟨by first | rfl | (simp; done) | (simp [*]; done), by repeat (first | exact Drawn0.refl _ | apply Drawn0.step)⟩

end Go.Proofs.Ytallocgnpbpbhab.XFnExactCountsOf
