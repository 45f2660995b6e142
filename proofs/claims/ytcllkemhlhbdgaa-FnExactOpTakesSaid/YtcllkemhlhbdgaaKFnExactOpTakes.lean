/- Proved: FnExactOpTakes answers true for every program and operation: the program's OpTakes is the reference's. No condition. -/
import Derived.Test.YtcllkemhlhbdgaaKf4970567
import Derived.Test.YtcllkemhlhbdgaaKe74ec499
namespace Go.Proofs.Ytcllkemhlhbdgaa
theorem fnExactOpTakes_holds : Rows.FnExactOpTakesSaid := fnExactOpTakes.over G.FnExactOpTakes_pure
#print axioms fnExactOpTakes_holds
end Go.Proofs.Ytcllkemhlhbdgaa
