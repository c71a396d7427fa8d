-- Written by a program of this session (wip/xprint: over the kit's print). Not trusted: Lean checks it.
import Derived.Test.YtgpiaeklhhacjaaXFnFairx0
import Derived.Test.YtgpiaeklhhacjaaXFnFairx2
import Derived.Test.YtgpiaeklhhacjaaXFnFairx3
namespace Go.Proofs.Ytgpiaeklhhacjaa.XFnFair
open Go.RowKit Go.Proofs.YtgpiaeklhhacjaaW.PrintWords Go.Proofs.YtgpiaeklhhacjaaW.PrintLast Go.Proofs.YtgpiaeklhhacjaaW.PrintMore
open Go.Proofs.Ytgpiaeklhhacjaa.XW
attribute [local go_sem] max2_int min2_int max_two min_two max_three min_three max_four min_four   -- for this text's walks alone
set_option linter.unusedVariables false
set_option linter.unusedSimpArgs false

/-! ### laws_FnFair: function 13 -/
mutual
def laws_FnFair.j0 : Nat → List Int → List Int → Option (Bool)
 | 0, _, _ => none
 | k + 1, x0, x1 => (laws_r8At.f x1 0 12).bind fun t163 => ((spec_R8Parcels.f k x0 t163).bind fun t164 => ((laws_r8At.f x1 1 5).bind fun t167 => ((impl_FairOrder.f k t164 t167).bind fun bt168 => ((impl_RoomsIn.f k t164).bind fun bt172 => (if bt168.2 = true then (if bt172.2 = true then (laws_FnFair.j1 k t164 t167 bt168.1 bt172.1 ((bt168.1.length : Int) != (t164.length : Int))) else (laws_FnFair.j1 k t164 t167 bt168.1 bt172.1 true)) else (laws_FnFair.j1 k t164 t167 bt168.1 bt172.1 true))))))
def laws_FnFair.j1 : Nat → List (S60) → Int → List (S60) → List Int → Bool → Option (Bool)
 | 0, _, _, _, _, _ => none
 | k + 1, x5, x6, x7, x9, x49 => if x49 = true then (some false) else (laws_FnFair.j2 k x5 x6 x7 x9)
def laws_FnFair.j2 : Nat → List (S60) → Int → List (S60) → List Int → Option (Bool)
 | 0, _, _, _, _ => none
 | k + 1, x5, x6, x7, x9 => laws_FnFair.l0 k x5 x6 x7 x9 0
def laws_FnFair.l0 : Nat → List (S60) → Int → List (S60) → List Int → Int → Option (Bool)
 | 0, _, _, _, _, _ => none
 | k + 1, x5, x6, x7, x9, x11 => if x11 < (x9.length : Int) then (laws_FnFair.j4 k x5 x6 x7 x9 x11) else (laws_FnFair.l1 k x6 x7 0)
def laws_FnFair.j4 : Nat → List (S60) → Int → List (S60) → List Int → Int → Option (Bool)
 | 0, _, _, _, _, _ => none
 | k + 1, x5, x6, x7, x9, x11 => if 0 ≤ x11 then (if x11 < (x9.length : Int) then ((laws_r8OfRoom.f k x7 (rd x9 x11)).bind fun t177 => ((laws_r8OfRoom.f k x5 (rd x9 x11)).bind fun t181 => ((laws_r8Parcels.f k t177 t181).bind fun t184 => (if t184 = true then ((laws_r8OfRoom.f k x5 (rd x9 x11)).bind fun t186 => (if (t186.length : Int) = 0 then (some false) else (if x11 > 0 then (if 0 ≤ (wrap64 (x11 - 1)) then (if (wrap64 (x11 - 1)) < (x9.length : Int) then (if (rd x9 x11) ≤ (rd x9 (wrap64 (x11 - 1))) then (some false) else (laws_FnFair.l0 k x5 x6 x7 x9 (wrap64 (x11 + 1)))) else (none)) else (none)) else (laws_FnFair.l0 k x5 x6 x7 x9 (wrap64 (x11 + 1)))))) else (some false))))) else (none)) else (none)
def laws_FnFair.l1 : Nat → Int → List (S60) → Int → Option (Bool)
 | 0, _, _, _ => none
 | k + 1, x6, x7, x12 => if x12 < (x7.length : Int) then (laws_FnFair.j6 k x6 x7 x12) else (some true)
def laws_FnFair.j6 : Nat → Int → List (S60) → Int → Option (Bool)
 | 0, _, _, _ => none
 | k + 1, x6, x7, x12 => if 0 ≤ x12 then (if x12 ≤ (x7.length : Int) then ((impl_RoomsIn.f k (x7.drop (x12 : Int).toNat)).bind fun bt195 => (if bt195.2 = true then (laws_FnFair.j7 k x6 x7 x12 bt195.1 ((bt195.1.length : Int) == 0)) else (laws_FnFair.j7 k x6 x7 x12 bt195.1 true))) else (none)) else (none)
def laws_FnFair.j7 : Nat → Int → List (S60) → Int → List Int → Bool → Option (Bool)
 | 0, _, _, _, _, _ => none
 | k + 1, x6, x7, x12, x13, x115 => if x115 = true then (some false) else (laws_FnFair.j8 k x6 x7 x12 x13)
def laws_FnFair.j8 : Nat → Int → List (S60) → Int → List Int → Option (Bool)
 | 0, _, _, _, _ => none
 | k + 1, x6, x7, x12, x13 => if 0 < (x13.length : Int) then (laws_FnFair.l2 k x6 x7 x12 x13 (rd x13 0) (wrap64 ((x13.length : Int) - 1))) else (none)
def laws_FnFair.l2 : Nat → Int → List (S60) → Int → List Int → Int → Int → Option (Bool)
 | 0, _, _, _, _, _, _ => none
 | k + 1, x6, x7, x12, x13, x15, x16 => if x16 ≥ 0 then (if 0 ≤ x16 then (if x16 < (x13.length : Int) then (if (rd x13 x16) > x6 then (laws_FnFair.l2 k x6 x7 x12 x13 (rd x13 x16) (wrap64 (x16 - 1))) else (laws_FnFair.l2 k x6 x7 x12 x13 x15 (wrap64 (x16 - 1)))) else (none)) else (none)) else (if 0 ≤ x12 then (if x12 < (x7.length : Int) then (if ((rd_T60 x7 x12).f0) = x15 then (laws_FnFair.l1 k x15 x7 (wrap64 (x12 + 1))) else (some false)) else (none)) else (none))
end
def laws_FnFair.f (k : Nat) (l0 : List Int) (l1 : List Int) : Option (Bool) := (laws_r8Long.f l0 l1).bind fun t162 => (if t162 = true then (some true) else (laws_FnFair.j0 k l0 l1))
theorem laws_FnFair.mono_l : ∀ k, (∀ y0 y1, LeO (laws_FnFair.j0 k y0 y1) (laws_FnFair.j0 (k + 1) y0 y1)) ∧ (∀ y0 y1 y2 y3 y4, LeO (laws_FnFair.j1 k y0 y1 y2 y3 y4) (laws_FnFair.j1 (k + 1) y0 y1 y2 y3 y4)) ∧ (∀ y0 y1 y2 y3, LeO (laws_FnFair.j2 k y0 y1 y2 y3) (laws_FnFair.j2 (k + 1) y0 y1 y2 y3)) ∧ (∀ y0 y1 y2 y3 y4, LeO (laws_FnFair.l0 k y0 y1 y2 y3 y4) (laws_FnFair.l0 (k + 1) y0 y1 y2 y3 y4)) ∧ (∀ y0 y1 y2 y3 y4, LeO (laws_FnFair.j4 k y0 y1 y2 y3 y4) (laws_FnFair.j4 (k + 1) y0 y1 y2 y3 y4)) ∧ (∀ y0 y1 y2, LeO (laws_FnFair.l1 k y0 y1 y2) (laws_FnFair.l1 (k + 1) y0 y1 y2)) ∧ (∀ y0 y1 y2, LeO (laws_FnFair.j6 k y0 y1 y2) (laws_FnFair.j6 (k + 1) y0 y1 y2)) ∧ (∀ y0 y1 y2 y3 y4, LeO (laws_FnFair.j7 k y0 y1 y2 y3 y4) (laws_FnFair.j7 (k + 1) y0 y1 y2 y3 y4)) ∧ (∀ y0 y1 y2 y3, LeO (laws_FnFair.j8 k y0 y1 y2 y3) (laws_FnFair.j8 (k + 1) y0 y1 y2 y3)) ∧ (∀ y0 y1 y2 y3 y4 y5, LeO (laws_FnFair.l2 k y0 y1 y2 y3 y4 y5) (laws_FnFair.l2 (k + 1) y0 y1 y2 y3 y4 y5))
 | 0 => ⟨fun _ _ r h => by simp [laws_FnFair.j0] at h, fun _ _ _ _ _ r h => by simp [laws_FnFair.j1] at h, fun _ _ _ _ r h => by simp [laws_FnFair.j2] at h, fun _ _ _ _ _ r h => by simp [laws_FnFair.l0] at h, fun _ _ _ _ _ r h => by simp [laws_FnFair.j4] at h, fun _ _ _ r h => by simp [laws_FnFair.l1] at h, fun _ _ _ r h => by simp [laws_FnFair.j6] at h, fun _ _ _ _ _ r h => by simp [laws_FnFair.j7] at h, fun _ _ _ _ r h => by simp [laws_FnFair.j8] at h, fun _ _ _ _ _ _ r h => by simp [laws_FnFair.l2] at h⟩
 | k + 1 => by
  obtain ⟨ih0, ih1, ih2, ih3, ih4, ih5, ih6, ih7, ih8, ih9⟩ := laws_FnFair.mono_l k
  refine ⟨?_, ?_, ?_, ?_, ?_, ?_, ?_, ?_, ?_, ?_⟩
  ·intro y0 y1
   unfold laws_FnFair.j0
   repeat' first
   | (with_reducible exact ih0 _ _)
   | (with_reducible exact ih1 _ _ _ _ _)
   | (with_reducible exact ih2 _ _ _ _)
   | (with_reducible exact ih3 _ _ _ _ _)
   | (with_reducible exact ih4 _ _ _ _ _)
   | (with_reducible exact ih5 _ _ _)
   | (with_reducible exact ih6 _ _ _)
   | (with_reducible exact ih7 _ _ _ _ _)
   | (with_reducible exact ih8 _ _ _ _)
   | (with_reducible exact ih9 _ _ _ _ _ _)
   | (with_reducible exact impl_FairOrder.mono _ _ _)
   | (with_reducible exact impl_RoomsIn.mono _ _)
   | (with_reducible exact laws_r8OfRoom.mono _ _ _)
   | (with_reducible exact laws_r8Parcels.mono _ _ _)
   | (with_reducible exact spec_R8Parcels.mono _ _ _)
   | (with_reducible exact LeO.refl _)
   | (with_reducible exact LeO.none _)
   | (with_reducible refine LeO.ite ?_ ?_)
   | (with_reducible refine LeO.bind ?_ (fun _ => ?_))
   | exact ih0 _ _
   | exact ih1 _ _ _ _ _
   | exact ih2 _ _ _ _
   | exact ih3 _ _ _ _ _
   | exact ih4 _ _ _ _ _
   | exact ih5 _ _ _
   | exact ih6 _ _ _
   | exact ih7 _ _ _ _ _
   | exact ih8 _ _ _ _
   | exact ih9 _ _ _ _ _ _
   | exact impl_FairOrder.mono _ _ _
   | exact impl_RoomsIn.mono _ _
   | exact laws_r8OfRoom.mono _ _ _
   | exact laws_r8Parcels.mono _ _ _
   | exact spec_R8Parcels.mono _ _ _
   | exact LeO.none _
   | refine LeO.ite ?_ ?_
   | refine LeO.bind ?_ (fun _ => ?_)
  ·intro y0 y1 y2 y3 y4
   unfold laws_FnFair.j1
   repeat' first
   | (with_reducible exact ih0 _ _)
   | (with_reducible exact ih1 _ _ _ _ _)
   | (with_reducible exact ih2 _ _ _ _)
   | (with_reducible exact ih3 _ _ _ _ _)
   | (with_reducible exact ih4 _ _ _ _ _)
   | (with_reducible exact ih5 _ _ _)
   | (with_reducible exact ih6 _ _ _)
   | (with_reducible exact ih7 _ _ _ _ _)
   | (with_reducible exact ih8 _ _ _ _)
   | (with_reducible exact ih9 _ _ _ _ _ _)
   | (with_reducible exact impl_FairOrder.mono _ _ _)
   | (with_reducible exact impl_RoomsIn.mono _ _)
   | (with_reducible exact laws_r8OfRoom.mono _ _ _)
   | (with_reducible exact laws_r8Parcels.mono _ _ _)
   | (with_reducible exact spec_R8Parcels.mono _ _ _)
   | (with_reducible exact LeO.refl _)
   | (with_reducible exact LeO.none _)
   | (with_reducible refine LeO.ite ?_ ?_)
   | (with_reducible refine LeO.bind ?_ (fun _ => ?_))
   | exact ih0 _ _
   | exact ih1 _ _ _ _ _
   | exact ih2 _ _ _ _
   | exact ih3 _ _ _ _ _
   | exact ih4 _ _ _ _ _
   | exact ih5 _ _ _
   | exact ih6 _ _ _
   | exact ih7 _ _ _ _ _
   | exact ih8 _ _ _ _
   | exact ih9 _ _ _ _ _ _
   | exact impl_FairOrder.mono _ _ _
   | exact impl_RoomsIn.mono _ _
   | exact laws_r8OfRoom.mono _ _ _
   | exact laws_r8Parcels.mono _ _ _
   | exact spec_R8Parcels.mono _ _ _
   | exact LeO.none _
   | refine LeO.ite ?_ ?_
   | refine LeO.bind ?_ (fun _ => ?_)
  ·intro y0 y1 y2 y3
   unfold laws_FnFair.j2
   repeat' first
   | (with_reducible exact ih0 _ _)
   | (with_reducible exact ih1 _ _ _ _ _)
   | (with_reducible exact ih2 _ _ _ _)
   | (with_reducible exact ih3 _ _ _ _ _)
   | (with_reducible exact ih4 _ _ _ _ _)
   | (with_reducible exact ih5 _ _ _)
   | (with_reducible exact ih6 _ _ _)
   | (with_reducible exact ih7 _ _ _ _ _)
   | (with_reducible exact ih8 _ _ _ _)
   | (with_reducible exact ih9 _ _ _ _ _ _)
   | (with_reducible exact impl_FairOrder.mono _ _ _)
   | (with_reducible exact impl_RoomsIn.mono _ _)
   | (with_reducible exact laws_r8OfRoom.mono _ _ _)
   | (with_reducible exact laws_r8Parcels.mono _ _ _)
   | (with_reducible exact spec_R8Parcels.mono _ _ _)
   | (with_reducible exact LeO.refl _)
   | (with_reducible exact LeO.none _)
   | (with_reducible refine LeO.ite ?_ ?_)
   | (with_reducible refine LeO.bind ?_ (fun _ => ?_))
   | exact ih0 _ _
   | exact ih1 _ _ _ _ _
   | exact ih2 _ _ _ _
   | exact ih3 _ _ _ _ _
   | exact ih4 _ _ _ _ _
   | exact ih5 _ _ _
   | exact ih6 _ _ _
   | exact ih7 _ _ _ _ _
   | exact ih8 _ _ _ _
   | exact ih9 _ _ _ _ _ _
   | exact impl_FairOrder.mono _ _ _
   | exact impl_RoomsIn.mono _ _
   | exact laws_r8OfRoom.mono _ _ _
   | exact laws_r8Parcels.mono _ _ _
   | exact spec_R8Parcels.mono _ _ _
   | exact LeO.none _
   | refine LeO.ite ?_ ?_
   | refine LeO.bind ?_ (fun _ => ?_)
  ·intro y0 y1 y2 y3 y4
   unfold laws_FnFair.l0
   repeat' first
   | (with_reducible exact ih0 _ _)
   | (with_reducible exact ih1 _ _ _ _ _)
   | (with_reducible exact ih2 _ _ _ _)
   | (with_reducible exact ih3 _ _ _ _ _)
   | (with_reducible exact ih4 _ _ _ _ _)
   | (with_reducible exact ih5 _ _ _)
   | (with_reducible exact ih6 _ _ _)
   | (with_reducible exact ih7 _ _ _ _ _)
   | (with_reducible exact ih8 _ _ _ _)
   | (with_reducible exact ih9 _ _ _ _ _ _)
   | (with_reducible exact impl_FairOrder.mono _ _ _)
   | (with_reducible exact impl_RoomsIn.mono _ _)
   | (with_reducible exact laws_r8OfRoom.mono _ _ _)
   | (with_reducible exact laws_r8Parcels.mono _ _ _)
   | (with_reducible exact spec_R8Parcels.mono _ _ _)
   | (with_reducible exact LeO.refl _)
   | (with_reducible exact LeO.none _)
   | (with_reducible refine LeO.ite ?_ ?_)
   | (with_reducible refine LeO.bind ?_ (fun _ => ?_))
   | exact ih0 _ _
   | exact ih1 _ _ _ _ _
   | exact ih2 _ _ _ _
   | exact ih3 _ _ _ _ _
   | exact ih4 _ _ _ _ _
   | exact ih5 _ _ _
   | exact ih6 _ _ _
   | exact ih7 _ _ _ _ _
   | exact ih8 _ _ _ _
   | exact ih9 _ _ _ _ _ _
   | exact impl_FairOrder.mono _ _ _
   | exact impl_RoomsIn.mono _ _
   | exact laws_r8OfRoom.mono _ _ _
   | exact laws_r8Parcels.mono _ _ _
   | exact spec_R8Parcels.mono _ _ _
   | exact LeO.none _
   | refine LeO.ite ?_ ?_
   | refine LeO.bind ?_ (fun _ => ?_)
  ·intro y0 y1 y2 y3 y4
   unfold laws_FnFair.j4
   repeat' first
   | (with_reducible exact ih0 _ _)
   | (with_reducible exact ih1 _ _ _ _ _)
   | (with_reducible exact ih2 _ _ _ _)
   | (with_reducible exact ih3 _ _ _ _ _)
   | (with_reducible exact ih4 _ _ _ _ _)
   | (with_reducible exact ih5 _ _ _)
   | (with_reducible exact ih6 _ _ _)
   | (with_reducible exact ih7 _ _ _ _ _)
   | (with_reducible exact ih8 _ _ _ _)
   | (with_reducible exact ih9 _ _ _ _ _ _)
   | (with_reducible exact impl_FairOrder.mono _ _ _)
   | (with_reducible exact impl_RoomsIn.mono _ _)
   | (with_reducible exact laws_r8OfRoom.mono _ _ _)
   | (with_reducible exact laws_r8Parcels.mono _ _ _)
   | (with_reducible exact spec_R8Parcels.mono _ _ _)
   | (with_reducible exact LeO.refl _)
   | (with_reducible exact LeO.none _)
   | (with_reducible refine LeO.ite ?_ ?_)
   | (with_reducible refine LeO.bind ?_ (fun _ => ?_))
   | exact ih0 _ _
   | exact ih1 _ _ _ _ _
   | exact ih2 _ _ _ _
   | exact ih3 _ _ _ _ _
   | exact ih4 _ _ _ _ _
   | exact ih5 _ _ _
   | exact ih6 _ _ _
   | exact ih7 _ _ _ _ _
   | exact ih8 _ _ _ _
   | exact ih9 _ _ _ _ _ _
   | exact impl_FairOrder.mono _ _ _
   | exact impl_RoomsIn.mono _ _
   | exact laws_r8OfRoom.mono _ _ _
   | exact laws_r8Parcels.mono _ _ _
   | exact spec_R8Parcels.mono _ _ _
   | exact LeO.none _
   | refine LeO.ite ?_ ?_
   | refine LeO.bind ?_ (fun _ => ?_)
  ·intro y0 y1 y2
   unfold laws_FnFair.l1
   repeat' first
   | (with_reducible exact ih0 _ _)
   | (with_reducible exact ih1 _ _ _ _ _)
   | (with_reducible exact ih2 _ _ _ _)
   | (with_reducible exact ih3 _ _ _ _ _)
   | (with_reducible exact ih4 _ _ _ _ _)
   | (with_reducible exact ih5 _ _ _)
   | (with_reducible exact ih6 _ _ _)
   | (with_reducible exact ih7 _ _ _ _ _)
   | (with_reducible exact ih8 _ _ _ _)
   | (with_reducible exact ih9 _ _ _ _ _ _)
   | (with_reducible exact impl_FairOrder.mono _ _ _)
   | (with_reducible exact impl_RoomsIn.mono _ _)
   | (with_reducible exact laws_r8OfRoom.mono _ _ _)
   | (with_reducible exact laws_r8Parcels.mono _ _ _)
   | (with_reducible exact spec_R8Parcels.mono _ _ _)
   | (with_reducible exact LeO.refl _)
   | (with_reducible exact LeO.none _)
   | (with_reducible refine LeO.ite ?_ ?_)
   | (with_reducible refine LeO.bind ?_ (fun _ => ?_))
   | exact ih0 _ _
   | exact ih1 _ _ _ _ _
   | exact ih2 _ _ _ _
   | exact ih3 _ _ _ _ _
   | exact ih4 _ _ _ _ _
   | exact ih5 _ _ _
   | exact ih6 _ _ _
   | exact ih7 _ _ _ _ _
   | exact ih8 _ _ _ _
   | exact ih9 _ _ _ _ _ _
   | exact impl_FairOrder.mono _ _ _
   | exact impl_RoomsIn.mono _ _
   | exact laws_r8OfRoom.mono _ _ _
   | exact laws_r8Parcels.mono _ _ _
   | exact spec_R8Parcels.mono _ _ _
   | exact LeO.none _
   | refine LeO.ite ?_ ?_
   | refine LeO.bind ?_ (fun _ => ?_)
  ·intro y0 y1 y2
   unfold laws_FnFair.j6
   repeat' first
   | (with_reducible exact ih0 _ _)
   | (with_reducible exact ih1 _ _ _ _ _)
   | (with_reducible exact ih2 _ _ _ _)
   | (with_reducible exact ih3 _ _ _ _ _)
   | (with_reducible exact ih4 _ _ _ _ _)
   | (with_reducible exact ih5 _ _ _)
   | (with_reducible exact ih6 _ _ _)
   | (with_reducible exact ih7 _ _ _ _ _)
   | (with_reducible exact ih8 _ _ _ _)
   | (with_reducible exact ih9 _ _ _ _ _ _)
   | (with_reducible exact impl_FairOrder.mono _ _ _)
   | (with_reducible exact impl_RoomsIn.mono _ _)
   | (with_reducible exact laws_r8OfRoom.mono _ _ _)
   | (with_reducible exact laws_r8Parcels.mono _ _ _)
   | (with_reducible exact spec_R8Parcels.mono _ _ _)
   | (with_reducible exact LeO.refl _)
   | (with_reducible exact LeO.none _)
   | (with_reducible refine LeO.ite ?_ ?_)
   | (with_reducible refine LeO.bind ?_ (fun _ => ?_))
   | exact ih0 _ _
   | exact ih1 _ _ _ _ _
   | exact ih2 _ _ _ _
   | exact ih3 _ _ _ _ _
   | exact ih4 _ _ _ _ _
   | exact ih5 _ _ _
   | exact ih6 _ _ _
   | exact ih7 _ _ _ _ _
   | exact ih8 _ _ _ _
   | exact ih9 _ _ _ _ _ _
   | exact impl_FairOrder.mono _ _ _
   | exact impl_RoomsIn.mono _ _
   | exact laws_r8OfRoom.mono _ _ _
   | exact laws_r8Parcels.mono _ _ _
   | exact spec_R8Parcels.mono _ _ _
   | exact LeO.none _
   | refine LeO.ite ?_ ?_
   | refine LeO.bind ?_ (fun _ => ?_)
  ·intro y0 y1 y2 y3 y4
   unfold laws_FnFair.j7
   repeat' first
   | (with_reducible exact ih0 _ _)
   | (with_reducible exact ih1 _ _ _ _ _)
   | (with_reducible exact ih2 _ _ _ _)
   | (with_reducible exact ih3 _ _ _ _ _)
   | (with_reducible exact ih4 _ _ _ _ _)
   | (with_reducible exact ih5 _ _ _)
   | (with_reducible exact ih6 _ _ _)
   | (with_reducible exact ih7 _ _ _ _ _)
   | (with_reducible exact ih8 _ _ _ _)
   | (with_reducible exact ih9 _ _ _ _ _ _)
   | (with_reducible exact impl_FairOrder.mono _ _ _)
   | (with_reducible exact impl_RoomsIn.mono _ _)
   | (with_reducible exact laws_r8OfRoom.mono _ _ _)
   | (with_reducible exact laws_r8Parcels.mono _ _ _)
   | (with_reducible exact spec_R8Parcels.mono _ _ _)
   | (with_reducible exact LeO.refl _)
   | (with_reducible exact LeO.none _)
   | (with_reducible refine LeO.ite ?_ ?_)
   | (with_reducible refine LeO.bind ?_ (fun _ => ?_))
   | exact ih0 _ _
   | exact ih1 _ _ _ _ _
   | exact ih2 _ _ _ _
   | exact ih3 _ _ _ _ _
   | exact ih4 _ _ _ _ _
   | exact ih5 _ _ _
   | exact ih6 _ _ _
   | exact ih7 _ _ _ _ _
   | exact ih8 _ _ _ _
   | exact ih9 _ _ _ _ _ _
   | exact impl_FairOrder.mono _ _ _
   | exact impl_RoomsIn.mono _ _
   | exact laws_r8OfRoom.mono _ _ _
   | exact laws_r8Parcels.mono _ _ _
   | exact spec_R8Parcels.mono _ _ _
   | exact LeO.none _
   | refine LeO.ite ?_ ?_
   | refine LeO.bind ?_ (fun _ => ?_)
  ·intro y0 y1 y2 y3
   unfold laws_FnFair.j8
   repeat' first
   | (with_reducible exact ih0 _ _)
   | (with_reducible exact ih1 _ _ _ _ _)
   | (with_reducible exact ih2 _ _ _ _)
   | (with_reducible exact ih3 _ _ _ _ _)
   | (with_reducible exact ih4 _ _ _ _ _)
   | (with_reducible exact ih5 _ _ _)
   | (with_reducible exact ih6 _ _ _)
   | (with_reducible exact ih7 _ _ _ _ _)
   | (with_reducible exact ih8 _ _ _ _)
   | (with_reducible exact ih9 _ _ _ _ _ _)
   | (with_reducible exact impl_FairOrder.mono _ _ _)
   | (with_reducible exact impl_RoomsIn.mono _ _)
   | (with_reducible exact laws_r8OfRoom.mono _ _ _)
   | (with_reducible exact laws_r8Parcels.mono _ _ _)
   | (with_reducible exact spec_R8Parcels.mono _ _ _)
   | (with_reducible exact LeO.refl _)
   | (with_reducible exact LeO.none _)
   | (with_reducible refine LeO.ite ?_ ?_)
   | (with_reducible refine LeO.bind ?_ (fun _ => ?_))
   | exact ih0 _ _
   | exact ih1 _ _ _ _ _
   | exact ih2 _ _ _ _
   | exact ih3 _ _ _ _ _
   | exact ih4 _ _ _ _ _
   | exact ih5 _ _ _
   | exact ih6 _ _ _
   | exact ih7 _ _ _ _ _
   | exact ih8 _ _ _ _
   | exact ih9 _ _ _ _ _ _
   | exact impl_FairOrder.mono _ _ _
   | exact impl_RoomsIn.mono _ _
   | exact laws_r8OfRoom.mono _ _ _
   | exact laws_r8Parcels.mono _ _ _
   | exact spec_R8Parcels.mono _ _ _
   | exact LeO.none _
   | refine LeO.ite ?_ ?_
   | refine LeO.bind ?_ (fun _ => ?_)
  ·intro y0 y1 y2 y3 y4 y5
   unfold laws_FnFair.l2
   repeat' first
   | (with_reducible exact ih0 _ _)
   | (with_reducible exact ih1 _ _ _ _ _)
   | (with_reducible exact ih2 _ _ _ _)
   | (with_reducible exact ih3 _ _ _ _ _)
   | (with_reducible exact ih4 _ _ _ _ _)
   | (with_reducible exact ih5 _ _ _)
   | (with_reducible exact ih6 _ _ _)
   | (with_reducible exact ih7 _ _ _ _ _)
   | (with_reducible exact ih8 _ _ _ _)
   | (with_reducible exact ih9 _ _ _ _ _ _)
   | (with_reducible exact impl_FairOrder.mono _ _ _)
   | (with_reducible exact impl_RoomsIn.mono _ _)
   | (with_reducible exact laws_r8OfRoom.mono _ _ _)
   | (with_reducible exact laws_r8Parcels.mono _ _ _)
   | (with_reducible exact spec_R8Parcels.mono _ _ _)
   | (with_reducible exact LeO.refl _)
   | (with_reducible exact LeO.none _)
   | (with_reducible refine LeO.ite ?_ ?_)
   | (with_reducible refine LeO.bind ?_ (fun _ => ?_))
   | exact ih0 _ _
   | exact ih1 _ _ _ _ _
   | exact ih2 _ _ _ _
   | exact ih3 _ _ _ _ _
   | exact ih4 _ _ _ _ _
   | exact ih5 _ _ _
   | exact ih6 _ _ _
   | exact ih7 _ _ _ _ _
   | exact ih8 _ _ _ _
   | exact ih9 _ _ _ _ _ _
   | exact impl_FairOrder.mono _ _ _
   | exact impl_RoomsIn.mono _ _
   | exact laws_r8OfRoom.mono _ _ _
   | exact laws_r8Parcels.mono _ _ _
   | exact spec_R8Parcels.mono _ _ _
   | exact LeO.none _
   | refine LeO.ite ?_ ?_
   | refine LeO.bind ?_ (fun _ => ?_)
theorem laws_FnFair.mono : ∀ a0 a1 k, LeO (laws_FnFair.f k a0 a1) (laws_FnFair.f (k + 1) a0 a1) := by
 intro a0 a1 k
 obtain ⟨ih0, ih1, ih2, ih3, ih4, ih5, ih6, ih7, ih8, ih9⟩ := laws_FnFair.mono_l k
 unfold laws_FnFair.f
 repeat' first
   | (with_reducible exact ih0 _ _)
   | (with_reducible exact ih1 _ _ _ _ _)
   | (with_reducible exact ih2 _ _ _ _)
   | (with_reducible exact ih3 _ _ _ _ _)
   | (with_reducible exact ih4 _ _ _ _ _)
   | (with_reducible exact ih5 _ _ _)
   | (with_reducible exact ih6 _ _ _)
   | (with_reducible exact ih7 _ _ _ _ _)
   | (with_reducible exact ih8 _ _ _ _)
   | (with_reducible exact ih9 _ _ _ _ _ _)
   | (with_reducible exact impl_FairOrder.mono _ _ _)
   | (with_reducible exact impl_RoomsIn.mono _ _)
   | (with_reducible exact laws_r8OfRoom.mono _ _ _)
   | (with_reducible exact laws_r8Parcels.mono _ _ _)
   | (with_reducible exact spec_R8Parcels.mono _ _ _)
   | (with_reducible exact LeO.refl _)
   | (with_reducible exact LeO.none _)
   | (with_reducible refine LeO.ite ?_ ?_)
   | (with_reducible refine LeO.bind ?_ (fun _ => ?_))
   | exact ih0 _ _
   | exact ih1 _ _ _ _ _
   | exact ih2 _ _ _ _
   | exact ih3 _ _ _ _ _
   | exact ih4 _ _ _ _ _
   | exact ih5 _ _ _
   | exact ih6 _ _ _
   | exact ih7 _ _ _ _ _
   | exact ih8 _ _ _ _
   | exact ih9 _ _ _ _ _ _
   | exact impl_FairOrder.mono _ _ _
   | exact impl_RoomsIn.mono _ _
   | exact laws_r8OfRoom.mono _ _ _
   | exact laws_r8Parcels.mono _ _ _
   | exact spec_R8Parcels.mono _ _ _
   | exact LeO.none _
   | refine LeO.ite ?_ ?_
   | refine LeO.bind ?_ (fun _ => ?_)

end Go.Proofs.Ytgpiaeklhhacjaa.XFnFair
