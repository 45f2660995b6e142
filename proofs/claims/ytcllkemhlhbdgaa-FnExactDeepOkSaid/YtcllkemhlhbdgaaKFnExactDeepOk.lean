/- Proved: FnExactDeepOk answers true for every program: the program's DeepOk is the reference's. No condition. -/
import Derived.Test.YtcllkemhlhbdgaaK573bf95a
import Derived.Test.YtcllkemhlhbdgaaKa0dc0aa0
namespace Go.Proofs.Ytcllkemhlhbdgaa
theorem fnExactDeepOk_holds : Rows.FnExactDeepOkSaid := fnExactDeepOk.over G.FnExactDeepOk_pure
#print axioms fnExactDeepOk_holds
end Go.Proofs.Ytcllkemhlhbdgaa
