/- Every exported constant of the program is the one that the law names: the law answers true, without any condition. -/
import Derived.Test.YtbeegojdcgliiaaPFnExactConstantsx1
namespace Go.Proofs.Ytbeegojdcgliiaa.Pure
open Go.RowKit Go.Proofs.Ytbeegojdcgliiaa.PFnExactConstants Go.Proofs.YtbeegojdcgliiaaW.PrintWords Go.Proofs.YtbeegojdcgliiaaW.PrintLast

/-- YOURS: laws_FnExactConstants.f  = some true
What it reaches (each with k first where it has rounds; `.mono`: more rounds tell the same; `.l0`, ..: its loops, with `.mono_l`): laws_FnExactConstants.f -/
theorem FnExactConstants : laws_FnExactConstants.Pure := by
  rfl

end Go.Proofs.Ytbeegojdcgliiaa.Pure
