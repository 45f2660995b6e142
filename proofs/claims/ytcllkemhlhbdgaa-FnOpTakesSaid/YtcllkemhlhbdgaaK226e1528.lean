import Derived.Test.YtcllkemhlhbdgaaK5784264a
import Derived.Test.YtcllkemhlhbdgaaKf6c88e94
import Derived.Laws.EntriesVeiled
import Derived.IntWalk
import Derived.Deep.RegionHeld3
import Derived.Shelf.Abstract
namespace Go.Proofs.Ytcllkemhlhbdgaa.G
open Go.RowKit Go.Proofs.YtcllkemhlhbdgaaW.PrintWords Go.Proofs.YtcllkemhlhbdgaaW.PrintLast Go.Proofs.YtcllkemhlhbdgaaW.PrintMore
attribute [local go_sem] max2_int min2_int max_two min_two max_three min_three max_four min_four
set_option linter.unusedVariables false
set_option linter.unusedSimpArgs false
def opOkB (nl : Nat) (y : Int) (no : Nat) (k a : Int) : Bool :=
  if 1 ≤ k ∧ k ≤ 18 then (if mG k.toNat = none then decide (a = 0) else decide (0 ≤ a ∧ a ≤ mMost k.toNat nl y no - 1)) else false
end Go.Proofs.Ytcllkemhlhbdgaa.G
namespace Go.Proofs.Ytcllkemhlhbdgaa.G
open Go.RowKit Go.Proofs.YtcllkemhlhbdgaaW.PrintWords Go.Proofs.YtcllkemhlhbdgaaW.PrintLast Go.Proofs.YtcllkemhlhbdgaaW.PrintMore
attribute [local go_sem] max2_int min2_int max_two min_two max_three min_three max_four min_four
set_option linter.unusedVariables false
set_option linter.unusedSimpArgs false
def methodBadB (nl : Nat) (m : S_impl_Method) : Bool :=
  if 0 ≤ m.f0 ∧ m.f0 ≤ 2 ∧ m.f0 ≤ m.f1 ∧ m.f1 ≤ 4 ∧ m.f2.length ≤ 14 then m.f2.any (fun op => !opOkB nl m.f1 m.f2.length op.f0 op.f1) else true
def progOkB (l : List S_impl_Method) : Bool :=
  if 1 ≤ l.length ∧ l.length ≤ 4 ∧ (rd_impl_Method l 0).f0 = 0 then !(l.any (methodBadB l.length)) else false
end Go.Proofs.Ytcllkemhlhbdgaa.G
