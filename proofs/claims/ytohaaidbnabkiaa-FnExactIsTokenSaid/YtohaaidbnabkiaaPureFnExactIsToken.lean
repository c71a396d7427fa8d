/- The program's IsToken returns what the reference's returns, for every string that can be read. -/
import Derived.Test.YtohaaidbnabkiaaPFnExactIsTokenx1
namespace Go.Proofs.Ytohaaidbnabkiaa.Pure
open Go.RowKit Go.Proofs.Ytohaaidbnabkiaa.PFnExactIsToken Go.Proofs.YtohaaidbnabkiaaW.PrintWords Go.Proofs.YtohaaidbnabkiaaW.PrintLast

theorem FnExactIsToken : laws_FnExactIsToken.Pure := by
  intro s hs
  unfold laws_FnExactIsToken.f spec_IsToken.f impl_IsToken.f
  simp

end Go.Proofs.Ytohaaidbnabkiaa.Pure
