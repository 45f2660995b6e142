/- Proved: FnExactProgOk answers true for every program: the program's ProgOk is the reference's. No condition. -/
import Derived.Test.YtcllkemhlhbdgaaKFnExactProgOk5
import Derived.Test.YtcllkemhlhbdgaaKFnExactProgOk6
namespace Go.Proofs.Ytcllkemhlhbdgaa
theorem fnExactProgOk_holds : Rows.FnExactProgOkSaid := fnExactProgOk.over G.FnExactProgOk_pure
#print axioms fnExactProgOk_holds
end Go.Proofs.Ytcllkemhlhbdgaa
