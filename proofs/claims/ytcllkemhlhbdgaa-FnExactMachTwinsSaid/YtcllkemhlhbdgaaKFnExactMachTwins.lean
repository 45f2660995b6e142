/- Proved: FnExactMachTwins answers true for every machine: the program's MachTwins is the reference's. No condition. -/
import Derived.Test.YtcllkemhlhbdgaaK2f799adb
import Derived.Test.YtcllkemhlhbdgaaK246486ac
namespace Go.Proofs.Ytcllkemhlhbdgaa
theorem fnExactMachTwins_holds : Rows.FnExactMachTwinsSaid := fnExactMachTwins.over G.FnExactMachTwins_pure
#print axioms fnExactMachTwins_holds
end Go.Proofs.Ytcllkemhlhbdgaa
