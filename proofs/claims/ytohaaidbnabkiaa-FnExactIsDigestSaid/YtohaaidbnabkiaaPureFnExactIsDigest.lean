/- The program's IsDigest returns what the reference's returns, for every string that can be read. -/
import Derived.Test.YtohaaidbnabkiaaPFnExactIsDigestx1
namespace Go.Proofs.Ytohaaidbnabkiaa.Pure
open Go.RowKit Go.Proofs.Ytohaaidbnabkiaa.PFnExactIsDigest Go.Proofs.YtohaaidbnabkiaaW.PrintWords Go.Proofs.YtohaaidbnabkiaaW.PrintLast

theorem FnExactIsDigest : laws_FnExactIsDigest.Pure := by
  intro s hs
  unfold laws_FnExactIsDigest.f spec_IsDigest.f impl_IsDigest.f
  simp

end Go.Proofs.Ytohaaidbnabkiaa.Pure
