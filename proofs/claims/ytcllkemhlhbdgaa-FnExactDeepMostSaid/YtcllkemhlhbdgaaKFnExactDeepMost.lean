/- Proved: FnExactDeepMost answers true for every program and method: the program's DeepMost is the reference's. No condition. -/
import Derived.Test.YtcllkemhlhbdgaaK1f160051
import Derived.Test.YtcllkemhlhbdgaaKeb2f6713
namespace Go.Proofs.Ytcllkemhlhbdgaa
theorem fnExactDeepMost_holds : Rows.FnExactDeepMostSaid := fnExactDeepMost.over G.FnExactDeepMost_pure
#print axioms fnExactDeepMost_holds
end Go.Proofs.Ytcllkemhlhbdgaa
