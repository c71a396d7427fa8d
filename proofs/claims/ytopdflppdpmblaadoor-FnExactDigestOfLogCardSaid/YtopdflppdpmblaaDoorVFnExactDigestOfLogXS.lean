-- The print's words of YtopdflppdpmblaaDoorXS, those that this claim's texts need (slim.py). Not trusted: Lean checks it.
import Derived.Test.YtopdflppdpmblaaDoorVFnExactDigestOfLogMore
import Derived.Sort.Grow
import Derived.Sort.EncStr
import Derived.Laws.OwnMore
namespace Go.Proofs.YtopdflppdpmblaaDoor.XS
open Go.RowKit Go.Sort Go.Proofs.YtopdflppdpmblaaDoorW.PrintWords Go.Proofs.YtopdflppdpmblaaDoorW.PrintLast Go.Proofs.YtopdflppdpmblaaDoorW.PrintMore
set_option linter.unusedVariables false
set_option linter.unusedSimpArgs false
section
variable {α : Type} [Inhabited α] {enc : α → Value}
end
theorem C_addr {α : Type} [Inhabited α] {enc : α → Value} {h1 : ∀ x, (enc x).oneCell' = true} {w : World} {A : Option Addr} {xs : List α} (h : (Kd.scalar enc h1).C w A xs.length xs) (hne : 0 < xs.length) :
    ∃ b off, A = some ⟨b, off, none⟩ ∧ b < w.heap.size ∧ ∀ j, j < xs.length → w.cell? ⟨b, off + j, none⟩ = some (enc xs[j]!) := by
  obtain ⟨_, _, h3⟩ := h
  obtain ⟨⟨b, off, sp⟩, rfl, hc⟩ := h3 hne
  have key : ∀ j, j < xs.length → w.cell? ((⟨b, off, sp⟩ : Addr).add j) = some (enc xs[j]!) := by
    intro j hj
    obtain ⟨c, hl, hr, hcell⟩ := hc j xs[j] (List.getElem?_eq_getElem hj)
    have hr' : c = [enc xs[j]] := hr
    subst hr'
    have := hcell 0 _ rfl
    rw [show (Kd.scalar enc h1).sz = 1 from rfl, Nat.mul_one, Nat.add_zero] at this
    rw [this, getElem!_pos xs j hj]
  have hs : sp = none := by
    have h0 := key 0 hne
    cases sp with
    | none => rfl
    | some s =>
      have ea : (⟨b, off, some s⟩ : Addr).add 0 = ⟨b, off, some s⟩ := by simp [Addr.add]
      rw [ea] at h0
      unfold World.cell? at h0
      split at h0
      · simp at h0
      · cases h0
  subst hs
  have ea : ∀ j, (⟨b, off, none⟩ : Addr).add j = ⟨b, off + j, none⟩ := fun j => by cases j <;> simp [Addr.add]
  refine ⟨b, off, rfl, ?_, fun j hj => ?_⟩
  · have := key 0 hne
    rw [ea] at this
    exact World.block_lt_of_cell? w _ this
  · rw [← ea]; exact key j hj
end Go.Proofs.YtopdflppdpmblaaDoor.XS
