/- Proved: FnExactHeapDeep answers true for every heap: the program's HeapDeep is the reference's. No condition. -/
import Derived.Test.YtcllkemhlhbdgaaKa445a048
import Derived.Test.YtcllkemhlhbdgaaK39879583
namespace Go.Proofs.Ytcllkemhlhbdgaa
theorem fnExactHeapDeep_holds : Rows.FnExactHeapDeepSaid := fnExactHeapDeep.over G.FnExactHeapDeep_pure
#print axioms fnExactHeapDeep_holds
end Go.Proofs.Ytcllkemhlhbdgaa
