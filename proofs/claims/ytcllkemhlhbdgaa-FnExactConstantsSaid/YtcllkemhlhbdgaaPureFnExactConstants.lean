/- Proved: FnExactConstants answers true. No condition. -/
import Derived.Test.YtcllkemhlhbdgaaPFnExactConstantsx1
namespace Go.Proofs.Ytcllkemhlhbdgaa.Pure
open Go.RowKit Go.Proofs.Ytcllkemhlhbdgaa.PFnExactConstants Go.Proofs.YtcllkemhlhbdgaaW.PrintWords Go.Proofs.YtcllkemhlhbdgaaW.PrintLast

/-- YOURS: laws_FnExactConstants.f  = some true
What it reaches (each with k first where it has rounds; `.mono`: more rounds tell the same; `.l0`, ..: its loops, with `.mono_l`): laws_FnExactConstants.f -/
theorem FnExactConstants : laws_FnExactConstants.Pure := by
  rfl

end Go.Proofs.Ytcllkemhlhbdgaa.Pure
