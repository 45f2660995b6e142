/- Proved: FnExactHeapOk answers true for every program and heap: the program's HeapOk is the reference's. No condition. -/
import Derived.Test.YtabcijheemjplaaK6bc428d0
import Derived.Test.YtabcijheemjplaaK0af8c23d
namespace Go.Proofs.Ytabcijheemjplaa
theorem fnExactHeapOk_holds : Rows.FnExactHeapOkSaid := fnExactHeapOk.over G.FnExactHeapOk_pure
#print axioms fnExactHeapOk_holds
end Go.Proofs.Ytabcijheemjplaa
