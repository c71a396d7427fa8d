/- The program's constants are those of the document: the law FnExactConstants returns true. No condition. -/
import Derived.Test.YtohaaidbnabkiaaPFnExactConstantsx1
namespace Go.Proofs.Ytohaaidbnabkiaa.Pure
open Go.RowKit Go.Proofs.Ytohaaidbnabkiaa.PFnExactConstants Go.Proofs.YtohaaidbnabkiaaW.PrintWords Go.Proofs.YtohaaidbnabkiaaW.PrintLast

theorem FnExactConstants : laws_FnExactConstants.Pure := rfl

end Go.Proofs.Ytohaaidbnabkiaa.Pure
