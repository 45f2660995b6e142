/- Proved: FnExactMachFrames answers true for every machine: the program's MachFrames is the reference's. No condition. -/
import Derived.Test.YtcllkemhlhbdgaaK29e908aa
import Derived.Test.YtcllkemhlhbdgaaKfd2e732f
namespace Go.Proofs.Ytcllkemhlhbdgaa
theorem fnExactMachFrames_holds : Rows.FnExactMachFramesSaid := fnExactMachFrames.over G.FnExactMachFrames_pure
#print axioms fnExactMachFrames_holds
end Go.Proofs.Ytcllkemhlhbdgaa
