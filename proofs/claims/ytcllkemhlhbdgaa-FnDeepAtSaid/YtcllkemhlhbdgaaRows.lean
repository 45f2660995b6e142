/-
  No cell of these rows narrows 'for every input' (looked for: loops, veiled, ifaces, maps, wideKeys, modest, calm, conditions, laid).
  DERIVED. THE GIVEN ROWS OF THIS SEAT. 12 by the template 'for every input the law returns true; each argument reads behind the call as it read before'; 0 by the template 'total and deterministic' (their statements: YtcllkemhlhbdgaaTotals.lean).
  GIVEN WITH THE SEED: the statements are not yours to turn. If you find one false, say at which input.
  Laid BY PROGRAM, IN A SANDBOX (cutbox-rows.mjs): the forced cells as the released guide's own fill.sh prints them over the translation e8f66e7051080ee8… (all of the seat's roots in one cut). By AI agents, Wed Nov 11 2026. No macro, syntax, notation, axiom, sorry.
-/
import Derived.Test.YtcllkemhlhbdgaaChecked
import GoSem.Claim
import GoSem.ClaimJoined
import GoSem.ClaimMapViews
import Derived.JoinedTies
import Derived.KernelRfl
namespace Go.Proofs.Ytcllkemhlhbdgaa
/- THE CELL 'sum', in the pinned program and in every row, IS THE sha256 OF THE DUMP (.gsa) THAT YtcllkemhlhbdgaaProg.lean LOADS. Nothing in Lean hashes anything: it is a label: what it is worth is what the hold of that sum in a sandbox is worth. -/
noncomputable def Try.pinned : Pinned := { name := "ytcllkemhlhbdgaa", sum := "e8f66e7051080ee8f0ec54a6cc62314de07a22f967115923fa6b793b6e91b9cc", checked := Try.checked }
namespace Rows
def none {H : Type} : Left H := { results := [], args := [] }

/-- 'laws.FnExactConstants': WHATEVER THE INPUT: true; the input reads as it did. -/
def fnExactConstantsSpec : ChangeSpec := { name := "fnExactConstants", fn := fun _ => fun
  | [] => { results := [.lit (.bool true)], args := [] }
  | _ => none }
def fnExactConstantsRow : OpenClaim := { program := "ytcllkemhlhbdgaa", sum := "e8f66e7051080ee8f0ec54a6cc62314de07a22f967115923fa6b793b6e91b9cc", func := "loop.example/gemel/laws.FnExactConstants", spec := "fnExactConstants", apart := false }
def FnExactConstantsSaid : Prop := fnExactConstantsRow.holds Try.pinned (OpenSpec.ofChange fnExactConstantsSpec)

/-- ITS FALSE NEIGHBOUR: 'it returns false'. Refute it at one input. -/
def fnExactConstantsWrong : ChangeSpec := { name := "fnExactConstants", fn := fun _ => fun
  | [] => { results := [.lit (.bool false)], args := [] }
  | _ => none }
def FnExactConstantsWrongFalsely : Prop := fnExactConstantsRow.holds Try.pinned (OpenSpec.ofChange fnExactConstantsWrong)

/-- 'laws.FnExactHeapDeep': WHATEVER THE INPUT: true; the input reads as it did. -/
def fnExactHeapDeepSpec : ChangeSpec := { name := "fnExactHeapDeep", fn := fun _ => fun
  | [d] => { results := [.lit (.bool true)], args := [d] }
  | _ => none }
def fnExactHeapDeepRow : OpenClaim := { program := "ytcllkemhlhbdgaa", sum := "e8f66e7051080ee8f0ec54a6cc62314de07a22f967115923fa6b793b6e91b9cc", func := "loop.example/gemel/laws.FnExactHeapDeep", spec := "fnExactHeapDeep", apart := false }
def FnExactHeapDeepSaid : Prop := fnExactHeapDeepRow.holds Try.pinned (OpenSpec.ofChange fnExactHeapDeepSpec)

/-- ITS FALSE NEIGHBOUR: 'it returns false'. Refute it at one input. -/
def fnExactHeapDeepWrong : ChangeSpec := { name := "fnExactHeapDeep", fn := fun _ => fun
  | [d] => { results := [.lit (.bool false)], args := [d] }
  | _ => none }
def FnExactHeapDeepWrongFalsely : Prop := fnExactHeapDeepRow.holds Try.pinned (OpenSpec.ofChange fnExactHeapDeepWrong)

/-- 'laws.FnExactOpTakes': WHATEVER THE INPUT: true; the input reads as it did. -/
def fnExactOpTakesSpec : ChangeSpec := { name := "fnExactOpTakes", fn := fun _ => fun
  | [d1, d2] => { results := [.lit (.bool true)], args := [d1, d2] }
  | _ => none }
def fnExactOpTakesRow : OpenClaim := { program := "ytcllkemhlhbdgaa", sum := "e8f66e7051080ee8f0ec54a6cc62314de07a22f967115923fa6b793b6e91b9cc", func := "loop.example/gemel/laws.FnExactOpTakes", spec := "fnExactOpTakes", unfollowed := true, recurses := true, apart := false }
def FnExactOpTakesSaid : Prop := fnExactOpTakesRow.holds Try.pinned (OpenSpec.ofChange fnExactOpTakesSpec)

/-- ITS FALSE NEIGHBOUR: 'it returns false'. Refute it at one input. -/
def fnExactOpTakesWrong : ChangeSpec := { name := "fnExactOpTakes", fn := fun _ => fun
  | [d1, d2] => { results := [.lit (.bool false)], args := [d1, d2] }
  | _ => none }
def FnExactOpTakesWrongFalsely : Prop := fnExactOpTakesRow.holds Try.pinned (OpenSpec.ofChange fnExactOpTakesWrong)

/-- 'laws.FnExactProgOk': WHATEVER THE INPUT: true; the input reads as it did. -/
def fnExactProgOkSpec : ChangeSpec := { name := "fnExactProgOk", fn := fun _ => fun
  | [d] => { results := [.lit (.bool true)], args := [d] }
  | _ => none }
def fnExactProgOkRow : OpenClaim := { program := "ytcllkemhlhbdgaa", sum := "e8f66e7051080ee8f0ec54a6cc62314de07a22f967115923fa6b793b6e91b9cc", func := "loop.example/gemel/laws.FnExactProgOk", spec := "fnExactProgOk", unfollowed := true, recurses := true, apart := false }
def FnExactProgOkSaid : Prop := fnExactProgOkRow.holds Try.pinned (OpenSpec.ofChange fnExactProgOkSpec)

/-- ITS FALSE NEIGHBOUR: 'it returns false'. Refute it at one input. -/
def fnExactProgOkWrong : ChangeSpec := { name := "fnExactProgOk", fn := fun _ => fun
  | [d] => { results := [.lit (.bool false)], args := [d] }
  | _ => none }
def FnExactProgOkWrongFalsely : Prop := fnExactProgOkRow.holds Try.pinned (OpenSpec.ofChange fnExactProgOkWrong)

/-- 'laws.FnOpTakes': WHATEVER THE INPUT: true; the input reads as it did. -/
def fnOpTakesSpec : ChangeSpec := { name := "fnOpTakes", fn := fun _ => fun
  | [d] => { results := [.lit (.bool true)], args := [d] }
  | _ => none }
def fnOpTakesRow : OpenClaim := { program := "ytcllkemhlhbdgaa", sum := "e8f66e7051080ee8f0ec54a6cc62314de07a22f967115923fa6b793b6e91b9cc", func := "loop.example/gemel/laws.FnOpTakes", spec := "fnOpTakes", unfollowed := true, recurses := true, apart := false }
def FnOpTakesSaid : Prop := fnOpTakesRow.holds Try.pinned (OpenSpec.ofChange fnOpTakesSpec)

/-- ITS FALSE NEIGHBOUR: 'it returns false'. Refute it at one input. -/
def fnOpTakesWrong : ChangeSpec := { name := "fnOpTakes", fn := fun _ => fun
  | [d] => { results := [.lit (.bool false)], args := [d] }
  | _ => none }
def FnOpTakesWrongFalsely : Prop := fnOpTakesRow.holds Try.pinned (OpenSpec.ofChange fnOpTakesWrong)

/-- 'laws.FnProgMore': WHATEVER THE INPUT: true; the input reads as it did. -/
def fnProgMoreSpec : ChangeSpec := { name := "fnProgMore", fn := fun _ => fun
  | [d] => { results := [.lit (.bool true)], args := [d] }
  | _ => none }
def fnProgMoreRow : OpenClaim := { program := "ytcllkemhlhbdgaa", sum := "e8f66e7051080ee8f0ec54a6cc62314de07a22f967115923fa6b793b6e91b9cc", func := "loop.example/gemel/laws.FnProgMore", spec := "fnProgMore", unfollowed := true, recurses := true, apart := false }
def FnProgMoreSaid : Prop := fnProgMoreRow.holds Try.pinned (OpenSpec.ofChange fnProgMoreSpec)

/-- ITS FALSE NEIGHBOUR: 'it returns false'. Refute it at one input. -/
def fnProgMoreWrong : ChangeSpec := { name := "fnProgMore", fn := fun _ => fun
  | [d] => { results := [.lit (.bool false)], args := [d] }
  | _ => none }
def FnProgMoreWrongFalsely : Prop := fnProgMoreRow.holds Try.pinned (OpenSpec.ofChange fnProgMoreWrong)

/-- 'laws.FnExactMachFrames': WHATEVER THE INPUT: true; the input reads as it did. -/
def fnExactMachFramesSpec : ChangeSpec := { name := "fnExactMachFrames", fn := fun _ => fun
  | [d] => { results := [.lit (.bool true)], args := [d] }
  | _ => none }
def fnExactMachFramesRow : OpenClaim := { program := "ytcllkemhlhbdgaa", sum := "e8f66e7051080ee8f0ec54a6cc62314de07a22f967115923fa6b793b6e91b9cc", func := "loop.example/gemel/laws.FnExactMachFrames", spec := "fnExactMachFrames", apart := false }
def FnExactMachFramesSaid : Prop := fnExactMachFramesRow.holds Try.pinned (OpenSpec.ofChange fnExactMachFramesSpec)

/-- ITS FALSE NEIGHBOUR: 'it returns false'. Refute it at one input. -/
def fnExactMachFramesWrong : ChangeSpec := { name := "fnExactMachFrames", fn := fun _ => fun
  | [d] => { results := [.lit (.bool false)], args := [d] }
  | _ => none }
def FnExactMachFramesWrongFalsely : Prop := fnExactMachFramesRow.holds Try.pinned (OpenSpec.ofChange fnExactMachFramesWrong)

/-- 'laws.FnExactMachTwins': WHATEVER THE INPUT: true; the input reads as it did. -/
def fnExactMachTwinsSpec : ChangeSpec := { name := "fnExactMachTwins", fn := fun _ => fun
  | [d] => { results := [.lit (.bool true)], args := [d] }
  | _ => none }
def fnExactMachTwinsRow : OpenClaim := { program := "ytcllkemhlhbdgaa", sum := "e8f66e7051080ee8f0ec54a6cc62314de07a22f967115923fa6b793b6e91b9cc", func := "loop.example/gemel/laws.FnExactMachTwins", spec := "fnExactMachTwins", apart := false }
def FnExactMachTwinsSaid : Prop := fnExactMachTwinsRow.holds Try.pinned (OpenSpec.ofChange fnExactMachTwinsSpec)

/-- ITS FALSE NEIGHBOUR: 'it returns false'. Refute it at one input. -/
def fnExactMachTwinsWrong : ChangeSpec := { name := "fnExactMachTwins", fn := fun _ => fun
  | [d] => { results := [.lit (.bool false)], args := [d] }
  | _ => none }
def FnExactMachTwinsWrongFalsely : Prop := fnExactMachTwinsRow.holds Try.pinned (OpenSpec.ofChange fnExactMachTwinsWrong)

/-- 'laws.FnExactDeepMost': WHATEVER THE INPUT: true; the input reads as it did. -/
def fnExactDeepMostSpec : ChangeSpec := { name := "fnExactDeepMost", fn := fun _ => fun
  | [d1, d2] => { results := [.lit (.bool true)], args := [d1, d2] }
  | _ => none }
def fnExactDeepMostRow : OpenClaim := { program := "ytcllkemhlhbdgaa", sum := "e8f66e7051080ee8f0ec54a6cc62314de07a22f967115923fa6b793b6e91b9cc", func := "loop.example/gemel/laws.FnExactDeepMost", spec := "fnExactDeepMost", unfollowed := true, recurses := true, apart := false }
def FnExactDeepMostSaid : Prop := fnExactDeepMostRow.holds Try.pinned (OpenSpec.ofChange fnExactDeepMostSpec)

/-- ITS FALSE NEIGHBOUR: 'it returns false'. Refute it at one input. -/
def fnExactDeepMostWrong : ChangeSpec := { name := "fnExactDeepMost", fn := fun _ => fun
  | [d1, d2] => { results := [.lit (.bool false)], args := [d1, d2] }
  | _ => none }
def FnExactDeepMostWrongFalsely : Prop := fnExactDeepMostRow.holds Try.pinned (OpenSpec.ofChange fnExactDeepMostWrong)

/-- 'laws.FnExactDeepOk': WHATEVER THE INPUT: true; the input reads as it did. -/
def fnExactDeepOkSpec : ChangeSpec := { name := "fnExactDeepOk", fn := fun _ => fun
  | [d] => { results := [.lit (.bool true)], args := [d] }
  | _ => none }
def fnExactDeepOkRow : OpenClaim := { program := "ytcllkemhlhbdgaa", sum := "e8f66e7051080ee8f0ec54a6cc62314de07a22f967115923fa6b793b6e91b9cc", func := "loop.example/gemel/laws.FnExactDeepOk", spec := "fnExactDeepOk", unfollowed := true, recurses := true, apart := false }
def FnExactDeepOkSaid : Prop := fnExactDeepOkRow.holds Try.pinned (OpenSpec.ofChange fnExactDeepOkSpec)

/-- ITS FALSE NEIGHBOUR: 'it returns false'. Refute it at one input. -/
def fnExactDeepOkWrong : ChangeSpec := { name := "fnExactDeepOk", fn := fun _ => fun
  | [d] => { results := [.lit (.bool false)], args := [d] }
  | _ => none }
def FnExactDeepOkWrongFalsely : Prop := fnExactDeepOkRow.holds Try.pinned (OpenSpec.ofChange fnExactDeepOkWrong)

/-- 'laws.FnExactDeepAt': WHATEVER THE INPUT: true; the input reads as it did. -/
def fnExactDeepAtSpec : ChangeSpec := { name := "fnExactDeepAt", fn := fun _ => fun
  | [d1, d2] => { results := [.lit (.bool true)], args := [d1, d2] }
  | _ => none }
def fnExactDeepAtRow : OpenClaim := { program := "ytcllkemhlhbdgaa", sum := "e8f66e7051080ee8f0ec54a6cc62314de07a22f967115923fa6b793b6e91b9cc", func := "loop.example/gemel/laws.FnExactDeepAt", spec := "fnExactDeepAt", unfollowed := true, recurses := true, apart := false }
def FnExactDeepAtSaid : Prop := fnExactDeepAtRow.holds Try.pinned (OpenSpec.ofChange fnExactDeepAtSpec)

/-- ITS FALSE NEIGHBOUR: 'it returns false'. Refute it at one input. -/
def fnExactDeepAtWrong : ChangeSpec := { name := "fnExactDeepAt", fn := fun _ => fun
  | [d1, d2] => { results := [.lit (.bool false)], args := [d1, d2] }
  | _ => none }
def FnExactDeepAtWrongFalsely : Prop := fnExactDeepAtRow.holds Try.pinned (OpenSpec.ofChange fnExactDeepAtWrong)

/-- 'laws.FnDeepAt': WHATEVER THE INPUT: true; the input reads as it did. -/
def fnDeepAtSpec : ChangeSpec := { name := "fnDeepAt", fn := fun _ => fun
  | [d] => { results := [.lit (.bool true)], args := [d] }
  | _ => none }
def fnDeepAtRow : OpenClaim := { program := "ytcllkemhlhbdgaa", sum := "e8f66e7051080ee8f0ec54a6cc62314de07a22f967115923fa6b793b6e91b9cc", func := "loop.example/gemel/laws.FnDeepAt", spec := "fnDeepAt", unfollowed := true, recurses := true, apart := false }
def FnDeepAtSaid : Prop := fnDeepAtRow.holds Try.pinned (OpenSpec.ofChange fnDeepAtSpec)

/-- ITS FALSE NEIGHBOUR: 'it returns false'. Refute it at one input. -/
def fnDeepAtWrong : ChangeSpec := { name := "fnDeepAt", fn := fun _ => fun
  | [d] => { results := [.lit (.bool false)], args := [d] }
  | _ => none }
def FnDeepAtWrongFalsely : Prop := fnDeepAtRow.holds Try.pinned (OpenSpec.ofChange fnDeepAtWrong)

/- THE SECOND FORM. 'bulk': how many values and letters a reading holds, each counted each time it is reached (what is shared counts as often as it is met; a slice's spare places count too). A statement '..UptoSaid' is the law's where the arguments, and the package variables that the reading takes, are together of bulk at most 1048576: NARROWER than '..Said'. Prove '..Said' where nothing that the law and all that it calls make is longer than what came in: it says more and counts as full. Else prove '..UptoSaid'. A law counts once. -/
mutual
def uptoBulk {H : Type} : DataW H → Nat
  | .lit (.string bytes) => bytes.length + 1
  | .lit _ => 1
  | .nil => 1
  | .ptr d => uptoBulk d + 1
  | .slice elems spare => uptoBulkAll elems + uptoBulkAll spare + 1
  | .agg parts => uptoBulkAll parts + 1
  | .iface _ d => uptoBulk d + 1
  | .map entries => uptoBulkEntries entries + 1
  | .held _ => 1
def uptoBulkAll {H : Type} : List (DataW H) → Nat
  | [] => 0
  | d :: r => uptoBulk d + uptoBulkAll r
def uptoBulkEntries {H : Type} : List (Lit × DataW H) → Nat
  | [] => 0
  | x :: r => uptoBulkEntry x + uptoBulkEntries r
def uptoBulkEntry {H : Type} : Lit × DataW H → Nat
  | (.string bytes, d) => bytes.length + uptoBulk d + 1
  | (_, d) => uptoBulk d + 1
 end
def uptoSmall : (H : Type) → List (DataW H) → Bool := fun _ ds => decide (uptoBulkAll ds ≤ 1048576)
def OpenSpec.upto (s : _root_.Go.ChangeSpec) : _root_.Go.OpenSpec := { _root_.Go.OpenSpec.ofChange s with cond := some uptoSmall }

/-- 'laws.FnExactConstants', WHERE WHAT IT READS IS OF BULK AT MOST 1048576: true; the input reads as it did. -/
def fnExactConstantsUptoRow : OpenClaim := { program := "ytcllkemhlhbdgaa", sum := "e8f66e7051080ee8f0ec54a6cc62314de07a22f967115923fa6b793b6e91b9cc", func := "loop.example/gemel/laws.FnExactConstants", spec := "fnExactConstants", apart := false, narrowed := true }
def FnExactConstantsUptoSaid : Prop := fnExactConstantsUptoRow.holds Try.pinned (OpenSpec.upto fnExactConstantsSpec)

/-- 'laws.FnExactHeapDeep', WHERE WHAT IT READS IS OF BULK AT MOST 1048576: true; the input reads as it did. -/
def fnExactHeapDeepUptoRow : OpenClaim := { program := "ytcllkemhlhbdgaa", sum := "e8f66e7051080ee8f0ec54a6cc62314de07a22f967115923fa6b793b6e91b9cc", func := "loop.example/gemel/laws.FnExactHeapDeep", spec := "fnExactHeapDeep", apart := false, narrowed := true }
def FnExactHeapDeepUptoSaid : Prop := fnExactHeapDeepUptoRow.holds Try.pinned (OpenSpec.upto fnExactHeapDeepSpec)

/-- 'laws.FnExactOpTakes', WHERE WHAT IT READS IS OF BULK AT MOST 1048576: true; the input reads as it did. -/
def fnExactOpTakesUptoRow : OpenClaim := { program := "ytcllkemhlhbdgaa", sum := "e8f66e7051080ee8f0ec54a6cc62314de07a22f967115923fa6b793b6e91b9cc", func := "loop.example/gemel/laws.FnExactOpTakes", spec := "fnExactOpTakes", unfollowed := true, recurses := true, apart := false, narrowed := true }
def FnExactOpTakesUptoSaid : Prop := fnExactOpTakesUptoRow.holds Try.pinned (OpenSpec.upto fnExactOpTakesSpec)

/-- 'laws.FnExactProgOk', WHERE WHAT IT READS IS OF BULK AT MOST 1048576: true; the input reads as it did. -/
def fnExactProgOkUptoRow : OpenClaim := { program := "ytcllkemhlhbdgaa", sum := "e8f66e7051080ee8f0ec54a6cc62314de07a22f967115923fa6b793b6e91b9cc", func := "loop.example/gemel/laws.FnExactProgOk", spec := "fnExactProgOk", unfollowed := true, recurses := true, apart := false, narrowed := true }
def FnExactProgOkUptoSaid : Prop := fnExactProgOkUptoRow.holds Try.pinned (OpenSpec.upto fnExactProgOkSpec)

/-- 'laws.FnOpTakes', WHERE WHAT IT READS IS OF BULK AT MOST 1048576: true; the input reads as it did. -/
def fnOpTakesUptoRow : OpenClaim := { program := "ytcllkemhlhbdgaa", sum := "e8f66e7051080ee8f0ec54a6cc62314de07a22f967115923fa6b793b6e91b9cc", func := "loop.example/gemel/laws.FnOpTakes", spec := "fnOpTakes", unfollowed := true, recurses := true, apart := false, narrowed := true }
def FnOpTakesUptoSaid : Prop := fnOpTakesUptoRow.holds Try.pinned (OpenSpec.upto fnOpTakesSpec)

/-- 'laws.FnProgMore', WHERE WHAT IT READS IS OF BULK AT MOST 1048576: true; the input reads as it did. -/
def fnProgMoreUptoRow : OpenClaim := { program := "ytcllkemhlhbdgaa", sum := "e8f66e7051080ee8f0ec54a6cc62314de07a22f967115923fa6b793b6e91b9cc", func := "loop.example/gemel/laws.FnProgMore", spec := "fnProgMore", unfollowed := true, recurses := true, apart := false, narrowed := true }
def FnProgMoreUptoSaid : Prop := fnProgMoreUptoRow.holds Try.pinned (OpenSpec.upto fnProgMoreSpec)

/-- 'laws.FnExactMachFrames', WHERE WHAT IT READS IS OF BULK AT MOST 1048576: true; the input reads as it did. -/
def fnExactMachFramesUptoRow : OpenClaim := { program := "ytcllkemhlhbdgaa", sum := "e8f66e7051080ee8f0ec54a6cc62314de07a22f967115923fa6b793b6e91b9cc", func := "loop.example/gemel/laws.FnExactMachFrames", spec := "fnExactMachFrames", apart := false, narrowed := true }
def FnExactMachFramesUptoSaid : Prop := fnExactMachFramesUptoRow.holds Try.pinned (OpenSpec.upto fnExactMachFramesSpec)

/-- 'laws.FnExactMachTwins', WHERE WHAT IT READS IS OF BULK AT MOST 1048576: true; the input reads as it did. -/
def fnExactMachTwinsUptoRow : OpenClaim := { program := "ytcllkemhlhbdgaa", sum := "e8f66e7051080ee8f0ec54a6cc62314de07a22f967115923fa6b793b6e91b9cc", func := "loop.example/gemel/laws.FnExactMachTwins", spec := "fnExactMachTwins", apart := false, narrowed := true }
def FnExactMachTwinsUptoSaid : Prop := fnExactMachTwinsUptoRow.holds Try.pinned (OpenSpec.upto fnExactMachTwinsSpec)

/-- 'laws.FnExactDeepMost', WHERE WHAT IT READS IS OF BULK AT MOST 1048576: true; the input reads as it did. -/
def fnExactDeepMostUptoRow : OpenClaim := { program := "ytcllkemhlhbdgaa", sum := "e8f66e7051080ee8f0ec54a6cc62314de07a22f967115923fa6b793b6e91b9cc", func := "loop.example/gemel/laws.FnExactDeepMost", spec := "fnExactDeepMost", unfollowed := true, recurses := true, apart := false, narrowed := true }
def FnExactDeepMostUptoSaid : Prop := fnExactDeepMostUptoRow.holds Try.pinned (OpenSpec.upto fnExactDeepMostSpec)

/-- 'laws.FnExactDeepOk', WHERE WHAT IT READS IS OF BULK AT MOST 1048576: true; the input reads as it did. -/
def fnExactDeepOkUptoRow : OpenClaim := { program := "ytcllkemhlhbdgaa", sum := "e8f66e7051080ee8f0ec54a6cc62314de07a22f967115923fa6b793b6e91b9cc", func := "loop.example/gemel/laws.FnExactDeepOk", spec := "fnExactDeepOk", unfollowed := true, recurses := true, apart := false, narrowed := true }
def FnExactDeepOkUptoSaid : Prop := fnExactDeepOkUptoRow.holds Try.pinned (OpenSpec.upto fnExactDeepOkSpec)

/-- 'laws.FnExactDeepAt', WHERE WHAT IT READS IS OF BULK AT MOST 1048576: true; the input reads as it did. -/
def fnExactDeepAtUptoRow : OpenClaim := { program := "ytcllkemhlhbdgaa", sum := "e8f66e7051080ee8f0ec54a6cc62314de07a22f967115923fa6b793b6e91b9cc", func := "loop.example/gemel/laws.FnExactDeepAt", spec := "fnExactDeepAt", unfollowed := true, recurses := true, apart := false, narrowed := true }
def FnExactDeepAtUptoSaid : Prop := fnExactDeepAtUptoRow.holds Try.pinned (OpenSpec.upto fnExactDeepAtSpec)

/-- 'laws.FnDeepAt', WHERE WHAT IT READS IS OF BULK AT MOST 1048576: true; the input reads as it did. -/
def fnDeepAtUptoRow : OpenClaim := { program := "ytcllkemhlhbdgaa", sum := "e8f66e7051080ee8f0ec54a6cc62314de07a22f967115923fa6b793b6e91b9cc", func := "loop.example/gemel/laws.FnDeepAt", spec := "fnDeepAt", unfollowed := true, recurses := true, apart := false, narrowed := true }
def FnDeepAtUptoSaid : Prop := fnDeepAtUptoRow.holds Try.pinned (OpenSpec.upto fnDeepAtSpec)

end Rows
end Go.Proofs.Ytcllkemhlhbdgaa
