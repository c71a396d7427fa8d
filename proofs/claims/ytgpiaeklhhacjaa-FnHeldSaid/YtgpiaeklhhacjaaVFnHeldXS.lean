-- The print's words of YtgpiaeklhhacjaaXS, those that this claim's texts need (slim.py). Not trusted: Lean checks it.
import Derived.Test.YtgpiaeklhhacjaaVFnHeldMore
import Derived.Sort.Grow
import Derived.Sort.EncStr
import Derived.Laws.OwnMore
namespace Go.Proofs.Ytgpiaeklhhacjaa.XS
open Go.RowKit Go.Sort Go.Proofs.YtgpiaeklhhacjaaW.PrintWords Go.Proofs.YtgpiaeklhhacjaaW.PrintLast Go.Proofs.YtgpiaeklhhacjaaW.PrintMore
set_option linter.unusedVariables false
set_option linter.unusedSimpArgs false
section
variable {α : Type} [Inhabited α] {enc : α → Value}
theorem grown_put {w : World} {g n : Nat} {os : Array Obj} (d : Array α) : w.grownBy (grow (putRow enc (Sort.ahead w n) g 0 d) os) (some g) := by
  refine ⟨rfl, rfl, rfl, by simp, fun k hk hne => ?_⟩
  rw [heap_grow_old _ _ (by simpa using hk)]
  have : g ≠ k := fun e => hne (by rw [e])
  simp [putRow, mapBlock, Sort.ahead, Array.getElem?_modify, this]
end
end Go.Proofs.Ytgpiaeklhhacjaa.XS
