/-
  No cell of these rows narrows 'for every input' (looked for: loops, veiled, ifaces, maps, wideKeys, modest, calm, conditions, laid).
  DERIVED. THE GIVEN ROWS OF THIS SEAT. 12 by the template 'for every input the law returns true; each argument reads behind the call as it read before'; 0 by the template 'total and deterministic' (their statements: YtabcijheemjplaaTotals.lean).
  GIVEN WITH THE SEED: the statements are not yours to turn. If you find one false, say at which input.
  Laid BY PROGRAM, IN A SANDBOX (cutbox-rows.mjs): the forced cells as the released guide's own fill.sh prints them over the translation 4cf21c6e860d6b98… (all of the seat's roots in one cut). By AI agents, Wed Nov 11 2026. No macro, syntax, notation, axiom, sorry.
-/
import Derived.Test.YtabcijheemjplaaChecked
import GoSem.Claim
import GoSem.ClaimJoined
import GoSem.ClaimMapViews
import Derived.JoinedTies
import Derived.KernelRfl
namespace Go.Proofs.Ytabcijheemjplaa
/- THE CELL 'sum', in the pinned program and in every row, IS THE sha256 OF THE DUMP (.gsa) THAT YtabcijheemjplaaProg.lean LOADS. Nothing in Lean hashes anything: it is a label: what it is worth is what the hold of that sum in a sandbox is worth. -/
noncomputable def Try.pinned : Pinned := { name := "ytabcijheemjplaa", sum := "4cf21c6e860d6b98debc6b7e8471a453b9434312e62d25fd19a6cf5c5fa68957", checked := Try.checked }
namespace Rows
def none {H : Type} : Left H := { results := [], args := [] }

/-- 'laws.FnDeepMore': WHATEVER THE INPUT: true; the input reads as it did. -/
def fnDeepMoreSpec : ChangeSpec := { name := "fnDeepMore", fn := fun _ => fun
  | [d] => { results := [.lit (.bool true)], args := [d] }
  | _ => none }
def fnDeepMoreRow : OpenClaim := { program := "ytabcijheemjplaa", sum := "4cf21c6e860d6b98debc6b7e8471a453b9434312e62d25fd19a6cf5c5fa68957", func := "loop.example/gemel/laws.FnDeepMore", spec := "fnDeepMore", unfollowed := true, recurses := true, apart := false }
def FnDeepMoreSaid : Prop := fnDeepMoreRow.holds Try.pinned (OpenSpec.ofChange fnDeepMoreSpec)

/-- ITS FALSE NEIGHBOUR: 'it returns false'. Refute it at one input. -/
def fnDeepMoreWrong : ChangeSpec := { name := "fnDeepMore", fn := fun _ => fun
  | [d] => { results := [.lit (.bool false)], args := [d] }
  | _ => none }
def FnDeepMoreWrongFalsely : Prop := fnDeepMoreRow.holds Try.pinned (OpenSpec.ofChange fnDeepMoreWrong)

/-- 'laws.FnDeepMost': WHATEVER THE INPUT: true; the input reads as it did. -/
def fnDeepMostSpec : ChangeSpec := { name := "fnDeepMost", fn := fun _ => fun
  | [d] => { results := [.lit (.bool true)], args := [d] }
  | _ => none }
def fnDeepMostRow : OpenClaim := { program := "ytabcijheemjplaa", sum := "4cf21c6e860d6b98debc6b7e8471a453b9434312e62d25fd19a6cf5c5fa68957", func := "loop.example/gemel/laws.FnDeepMost", spec := "fnDeepMost", unfollowed := true, recurses := true, apart := false }
def FnDeepMostSaid : Prop := fnDeepMostRow.holds Try.pinned (OpenSpec.ofChange fnDeepMostSpec)

/-- ITS FALSE NEIGHBOUR: 'it returns false'. Refute it at one input. -/
def fnDeepMostWrong : ChangeSpec := { name := "fnDeepMost", fn := fun _ => fun
  | [d] => { results := [.lit (.bool false)], args := [d] }
  | _ => none }
def FnDeepMostWrongFalsely : Prop := fnDeepMostRow.holds Try.pinned (OpenSpec.ofChange fnDeepMostWrong)

/-- 'laws.FnDeepOk': WHATEVER THE INPUT: true; the input reads as it did. -/
def fnDeepOkSpec : ChangeSpec := { name := "fnDeepOk", fn := fun _ => fun
  | [d] => { results := [.lit (.bool true)], args := [d] }
  | _ => none }
def fnDeepOkRow : OpenClaim := { program := "ytabcijheemjplaa", sum := "4cf21c6e860d6b98debc6b7e8471a453b9434312e62d25fd19a6cf5c5fa68957", func := "loop.example/gemel/laws.FnDeepOk", spec := "fnDeepOk", unfollowed := true, recurses := true, apart := false }
def FnDeepOkSaid : Prop := fnDeepOkRow.holds Try.pinned (OpenSpec.ofChange fnDeepOkSpec)

/-- ITS FALSE NEIGHBOUR: 'it returns false'. Refute it at one input. -/
def fnDeepOkWrong : ChangeSpec := { name := "fnDeepOk", fn := fun _ => fun
  | [d] => { results := [.lit (.bool false)], args := [d] }
  | _ => none }
def FnDeepOkWrongFalsely : Prop := fnDeepOkRow.holds Try.pinned (OpenSpec.ofChange fnDeepOkWrong)

/-- 'laws.FnExactHeapNew': WHATEVER THE INPUT: true; the input reads as it did. -/
def fnExactHeapNewSpec : ChangeSpec := { name := "fnExactHeapNew", fn := fun _ => fun
  | [d] => { results := [.lit (.bool true)], args := [d] }
  | _ => none }
def fnExactHeapNewRow : OpenClaim := { program := "ytabcijheemjplaa", sum := "4cf21c6e860d6b98debc6b7e8471a453b9434312e62d25fd19a6cf5c5fa68957", func := "loop.example/gemel/laws.FnExactHeapNew", spec := "fnExactHeapNew", unfollowed := true, recurses := true, apart := false }
def FnExactHeapNewSaid : Prop := fnExactHeapNewRow.holds Try.pinned (OpenSpec.ofChange fnExactHeapNewSpec)

/-- ITS FALSE NEIGHBOUR: 'it returns false'. Refute it at one input. -/
def fnExactHeapNewWrong : ChangeSpec := { name := "fnExactHeapNew", fn := fun _ => fun
  | [d] => { results := [.lit (.bool false)], args := [d] }
  | _ => none }
def FnExactHeapNewWrongFalsely : Prop := fnExactHeapNewRow.holds Try.pinned (OpenSpec.ofChange fnExactHeapNewWrong)

/-- 'laws.FnHeapNew': WHATEVER THE INPUT: true; the input reads as it did. -/
def fnHeapNewSpec : ChangeSpec := { name := "fnHeapNew", fn := fun _ => fun
  | [d] => { results := [.lit (.bool true)], args := [d] }
  | _ => none }
def fnHeapNewRow : OpenClaim := { program := "ytabcijheemjplaa", sum := "4cf21c6e860d6b98debc6b7e8471a453b9434312e62d25fd19a6cf5c5fa68957", func := "loop.example/gemel/laws.FnHeapNew", spec := "fnHeapNew", unfollowed := true, recurses := true, apart := false }
def FnHeapNewSaid : Prop := fnHeapNewRow.holds Try.pinned (OpenSpec.ofChange fnHeapNewSpec)

/-- ITS FALSE NEIGHBOUR: 'it returns false'. Refute it at one input. -/
def fnHeapNewWrong : ChangeSpec := { name := "fnHeapNew", fn := fun _ => fun
  | [d] => { results := [.lit (.bool false)], args := [d] }
  | _ => none }
def FnHeapNewWrongFalsely : Prop := fnHeapNewRow.holds Try.pinned (OpenSpec.ofChange fnHeapNewWrong)

/-- 'laws.FnExactHeapOk': WHATEVER THE INPUT: true; the input reads as it did. -/
def fnExactHeapOkSpec : ChangeSpec := { name := "fnExactHeapOk", fn := fun _ => fun
  | [d1, d2] => { results := [.lit (.bool true)], args := [d1, d2] }
  | _ => none }
def fnExactHeapOkRow : OpenClaim := { program := "ytabcijheemjplaa", sum := "4cf21c6e860d6b98debc6b7e8471a453b9434312e62d25fd19a6cf5c5fa68957", func := "loop.example/gemel/laws.FnExactHeapOk", spec := "fnExactHeapOk", unfollowed := true, recurses := true, apart := false }
def FnExactHeapOkSaid : Prop := fnExactHeapOkRow.holds Try.pinned (OpenSpec.ofChange fnExactHeapOkSpec)

/-- ITS FALSE NEIGHBOUR: 'it returns false'. Refute it at one input. -/
def fnExactHeapOkWrong : ChangeSpec := { name := "fnExactHeapOk", fn := fun _ => fun
  | [d1, d2] => { results := [.lit (.bool false)], args := [d1, d2] }
  | _ => none }
def FnExactHeapOkWrongFalsely : Prop := fnExactHeapOkRow.holds Try.pinned (OpenSpec.ofChange fnExactHeapOkWrong)

/-- 'laws.FnHeapDeep': WHATEVER THE INPUT: true; the input reads as it did. -/
def fnHeapDeepSpec : ChangeSpec := { name := "fnHeapDeep", fn := fun _ => fun
  | [d] => { results := [.lit (.bool true)], args := [d] }
  | _ => none }
def fnHeapDeepRow : OpenClaim := { program := "ytabcijheemjplaa", sum := "4cf21c6e860d6b98debc6b7e8471a453b9434312e62d25fd19a6cf5c5fa68957", func := "loop.example/gemel/laws.FnHeapDeep", spec := "fnHeapDeep", unfollowed := true, recurses := true, apart := false }
def FnHeapDeepSaid : Prop := fnHeapDeepRow.holds Try.pinned (OpenSpec.ofChange fnHeapDeepSpec)

/-- ITS FALSE NEIGHBOUR: 'it returns false'. Refute it at one input. -/
def fnHeapDeepWrong : ChangeSpec := { name := "fnHeapDeep", fn := fun _ => fun
  | [d] => { results := [.lit (.bool false)], args := [d] }
  | _ => none }
def FnHeapDeepWrongFalsely : Prop := fnHeapDeepRow.holds Try.pinned (OpenSpec.ofChange fnHeapDeepWrong)

/-- 'laws.FnHeapOk': WHATEVER THE INPUT: true; the input reads as it did. -/
def fnHeapOkSpec : ChangeSpec := { name := "fnHeapOk", fn := fun _ => fun
  | [d] => { results := [.lit (.bool true)], args := [d] }
  | _ => none }
def fnHeapOkRow : OpenClaim := { program := "ytabcijheemjplaa", sum := "4cf21c6e860d6b98debc6b7e8471a453b9434312e62d25fd19a6cf5c5fa68957", func := "loop.example/gemel/laws.FnHeapOk", spec := "fnHeapOk", unfollowed := true, recurses := true, apart := false }
def FnHeapOkSaid : Prop := fnHeapOkRow.holds Try.pinned (OpenSpec.ofChange fnHeapOkSpec)

/-- ITS FALSE NEIGHBOUR: 'it returns false'. Refute it at one input. -/
def fnHeapOkWrong : ChangeSpec := { name := "fnHeapOk", fn := fun _ => fun
  | [d] => { results := [.lit (.bool false)], args := [d] }
  | _ => none }
def FnHeapOkWrongFalsely : Prop := fnHeapOkRow.holds Try.pinned (OpenSpec.ofChange fnHeapOkWrong)

/-- 'laws.FnHeapView': WHATEVER THE INPUT: true; the input reads as it did. -/
def fnHeapViewSpec : ChangeSpec := { name := "fnHeapView", fn := fun _ => fun
  | [d] => { results := [.lit (.bool true)], args := [d] }
  | _ => none }
def fnHeapViewRow : OpenClaim := { program := "ytabcijheemjplaa", sum := "4cf21c6e860d6b98debc6b7e8471a453b9434312e62d25fd19a6cf5c5fa68957", func := "loop.example/gemel/laws.FnHeapView", spec := "fnHeapView", unfollowed := true, recurses := true, apart := false }
def FnHeapViewSaid : Prop := fnHeapViewRow.holds Try.pinned (OpenSpec.ofChange fnHeapViewSpec)

/-- ITS FALSE NEIGHBOUR: 'it returns false'. Refute it at one input. -/
def fnHeapViewWrong : ChangeSpec := { name := "fnHeapView", fn := fun _ => fun
  | [d] => { results := [.lit (.bool false)], args := [d] }
  | _ => none }
def FnHeapViewWrongFalsely : Prop := fnHeapViewRow.holds Try.pinned (OpenSpec.ofChange fnHeapViewWrong)

/-- 'laws.FnExactHeapTrim': WHATEVER THE INPUT: true; the input reads as it did. -/
def fnExactHeapTrimSpec : ChangeSpec := { name := "fnExactHeapTrim", fn := fun _ => fun
  | [d1, d2] => { results := [.lit (.bool true)], args := [d1, d2] }
  | _ => none }
def fnExactHeapTrimRow : OpenClaim := { program := "ytabcijheemjplaa", sum := "4cf21c6e860d6b98debc6b7e8471a453b9434312e62d25fd19a6cf5c5fa68957", func := "loop.example/gemel/laws.FnExactHeapTrim", spec := "fnExactHeapTrim", unfollowed := true, recurses := true, apart := false }
def FnExactHeapTrimSaid : Prop := fnExactHeapTrimRow.holds Try.pinned (OpenSpec.ofChange fnExactHeapTrimSpec)

/-- ITS FALSE NEIGHBOUR: 'it returns false'. Refute it at one input. -/
def fnExactHeapTrimWrong : ChangeSpec := { name := "fnExactHeapTrim", fn := fun _ => fun
  | [d1, d2] => { results := [.lit (.bool false)], args := [d1, d2] }
  | _ => none }
def FnExactHeapTrimWrongFalsely : Prop := fnExactHeapTrimRow.holds Try.pinned (OpenSpec.ofChange fnExactHeapTrimWrong)

/-- 'laws.FnHeapTrim': WHATEVER THE INPUT: true; the input reads as it did. -/
def fnHeapTrimSpec : ChangeSpec := { name := "fnHeapTrim", fn := fun _ => fun
  | [d] => { results := [.lit (.bool true)], args := [d] }
  | _ => none }
def fnHeapTrimRow : OpenClaim := { program := "ytabcijheemjplaa", sum := "4cf21c6e860d6b98debc6b7e8471a453b9434312e62d25fd19a6cf5c5fa68957", func := "loop.example/gemel/laws.FnHeapTrim", spec := "fnHeapTrim", unfollowed := true, recurses := true, apart := false }
def FnHeapTrimSaid : Prop := fnHeapTrimRow.holds Try.pinned (OpenSpec.ofChange fnHeapTrimSpec)

/-- ITS FALSE NEIGHBOUR: 'it returns false'. Refute it at one input. -/
def fnHeapTrimWrong : ChangeSpec := { name := "fnHeapTrim", fn := fun _ => fun
  | [d] => { results := [.lit (.bool false)], args := [d] }
  | _ => none }
def FnHeapTrimWrongFalsely : Prop := fnHeapTrimRow.holds Try.pinned (OpenSpec.ofChange fnHeapTrimWrong)

/-- 'laws.FnHeapTrimLess': WHATEVER THE INPUT: true; the input reads as it did. -/
def fnHeapTrimLessSpec : ChangeSpec := { name := "fnHeapTrimLess", fn := fun _ => fun
  | [d] => { results := [.lit (.bool true)], args := [d] }
  | _ => none }
def fnHeapTrimLessRow : OpenClaim := { program := "ytabcijheemjplaa", sum := "4cf21c6e860d6b98debc6b7e8471a453b9434312e62d25fd19a6cf5c5fa68957", func := "loop.example/gemel/laws.FnHeapTrimLess", spec := "fnHeapTrimLess", unfollowed := true, recurses := true, apart := false }
def FnHeapTrimLessSaid : Prop := fnHeapTrimLessRow.holds Try.pinned (OpenSpec.ofChange fnHeapTrimLessSpec)

/-- ITS FALSE NEIGHBOUR: 'it returns false'. Refute it at one input. -/
def fnHeapTrimLessWrong : ChangeSpec := { name := "fnHeapTrimLess", fn := fun _ => fun
  | [d] => { results := [.lit (.bool false)], args := [d] }
  | _ => none }
def FnHeapTrimLessWrongFalsely : Prop := fnHeapTrimLessRow.holds Try.pinned (OpenSpec.ofChange fnHeapTrimLessWrong)

/- THE SECOND FORM. 'bulk': how many values and letters a reading holds, each counted each time it is reached (what is shared counts as often as it is met; a slice's spare places count too). A statement '..UptoSaid' is the law's where the arguments, and the package variables that the reading takes, are together of bulk at most 1048576: NARROWER than '..Said'. Prove '..Said' where nothing that the law and all that it calls make is longer than what came in: it says more and counts as full. Else prove '..UptoSaid'. A law counts once. -/
mutual
def uptoBulk {H : Type} : DataW H → Nat
  | .lit (.string bytes) => bytes.length + 1
  | .lit _ => 1
  | .nil => 1
  | .ptr d => uptoBulk d + 1
  | .slice elems spare => uptoBulkAll elems + uptoBulkAll spare + 1
  | .agg parts => uptoBulkAll parts + 1
  | .iface _ d => uptoBulk d + 1
  | .map entries => uptoBulkEntries entries + 1
  | .held _ => 1
def uptoBulkAll {H : Type} : List (DataW H) → Nat
  | [] => 0
  | d :: r => uptoBulk d + uptoBulkAll r
def uptoBulkEntries {H : Type} : List (Lit × DataW H) → Nat
  | [] => 0
  | x :: r => uptoBulkEntry x + uptoBulkEntries r
def uptoBulkEntry {H : Type} : Lit × DataW H → Nat
  | (.string bytes, d) => bytes.length + uptoBulk d + 1
  | (_, d) => uptoBulk d + 1
 end
def uptoSmall : (H : Type) → List (DataW H) → Bool := fun _ ds => decide (uptoBulkAll ds ≤ 1048576)
def OpenSpec.upto (s : _root_.Go.ChangeSpec) : _root_.Go.OpenSpec := { _root_.Go.OpenSpec.ofChange s with cond := some uptoSmall }

/-- 'laws.FnDeepMore', WHERE WHAT IT READS IS OF BULK AT MOST 1048576: true; the input reads as it did. -/
def fnDeepMoreUptoRow : OpenClaim := { program := "ytabcijheemjplaa", sum := "4cf21c6e860d6b98debc6b7e8471a453b9434312e62d25fd19a6cf5c5fa68957", func := "loop.example/gemel/laws.FnDeepMore", spec := "fnDeepMore", unfollowed := true, recurses := true, apart := false, narrowed := true }
def FnDeepMoreUptoSaid : Prop := fnDeepMoreUptoRow.holds Try.pinned (OpenSpec.upto fnDeepMoreSpec)

/-- 'laws.FnDeepMost', WHERE WHAT IT READS IS OF BULK AT MOST 1048576: true; the input reads as it did. -/
def fnDeepMostUptoRow : OpenClaim := { program := "ytabcijheemjplaa", sum := "4cf21c6e860d6b98debc6b7e8471a453b9434312e62d25fd19a6cf5c5fa68957", func := "loop.example/gemel/laws.FnDeepMost", spec := "fnDeepMost", unfollowed := true, recurses := true, apart := false, narrowed := true }
def FnDeepMostUptoSaid : Prop := fnDeepMostUptoRow.holds Try.pinned (OpenSpec.upto fnDeepMostSpec)

/-- 'laws.FnDeepOk', WHERE WHAT IT READS IS OF BULK AT MOST 1048576: true; the input reads as it did. -/
def fnDeepOkUptoRow : OpenClaim := { program := "ytabcijheemjplaa", sum := "4cf21c6e860d6b98debc6b7e8471a453b9434312e62d25fd19a6cf5c5fa68957", func := "loop.example/gemel/laws.FnDeepOk", spec := "fnDeepOk", unfollowed := true, recurses := true, apart := false, narrowed := true }
def FnDeepOkUptoSaid : Prop := fnDeepOkUptoRow.holds Try.pinned (OpenSpec.upto fnDeepOkSpec)

/-- 'laws.FnExactHeapNew', WHERE WHAT IT READS IS OF BULK AT MOST 1048576: true; the input reads as it did. -/
def fnExactHeapNewUptoRow : OpenClaim := { program := "ytabcijheemjplaa", sum := "4cf21c6e860d6b98debc6b7e8471a453b9434312e62d25fd19a6cf5c5fa68957", func := "loop.example/gemel/laws.FnExactHeapNew", spec := "fnExactHeapNew", unfollowed := true, recurses := true, apart := false, narrowed := true }
def FnExactHeapNewUptoSaid : Prop := fnExactHeapNewUptoRow.holds Try.pinned (OpenSpec.upto fnExactHeapNewSpec)

/-- 'laws.FnHeapNew', WHERE WHAT IT READS IS OF BULK AT MOST 1048576: true; the input reads as it did. -/
def fnHeapNewUptoRow : OpenClaim := { program := "ytabcijheemjplaa", sum := "4cf21c6e860d6b98debc6b7e8471a453b9434312e62d25fd19a6cf5c5fa68957", func := "loop.example/gemel/laws.FnHeapNew", spec := "fnHeapNew", unfollowed := true, recurses := true, apart := false, narrowed := true }
def FnHeapNewUptoSaid : Prop := fnHeapNewUptoRow.holds Try.pinned (OpenSpec.upto fnHeapNewSpec)

/-- 'laws.FnExactHeapOk', WHERE WHAT IT READS IS OF BULK AT MOST 1048576: true; the input reads as it did. -/
def fnExactHeapOkUptoRow : OpenClaim := { program := "ytabcijheemjplaa", sum := "4cf21c6e860d6b98debc6b7e8471a453b9434312e62d25fd19a6cf5c5fa68957", func := "loop.example/gemel/laws.FnExactHeapOk", spec := "fnExactHeapOk", unfollowed := true, recurses := true, apart := false, narrowed := true }
def FnExactHeapOkUptoSaid : Prop := fnExactHeapOkUptoRow.holds Try.pinned (OpenSpec.upto fnExactHeapOkSpec)

/-- 'laws.FnHeapDeep', WHERE WHAT IT READS IS OF BULK AT MOST 1048576: true; the input reads as it did. -/
def fnHeapDeepUptoRow : OpenClaim := { program := "ytabcijheemjplaa", sum := "4cf21c6e860d6b98debc6b7e8471a453b9434312e62d25fd19a6cf5c5fa68957", func := "loop.example/gemel/laws.FnHeapDeep", spec := "fnHeapDeep", unfollowed := true, recurses := true, apart := false, narrowed := true }
def FnHeapDeepUptoSaid : Prop := fnHeapDeepUptoRow.holds Try.pinned (OpenSpec.upto fnHeapDeepSpec)

/-- 'laws.FnHeapOk', WHERE WHAT IT READS IS OF BULK AT MOST 1048576: true; the input reads as it did. -/
def fnHeapOkUptoRow : OpenClaim := { program := "ytabcijheemjplaa", sum := "4cf21c6e860d6b98debc6b7e8471a453b9434312e62d25fd19a6cf5c5fa68957", func := "loop.example/gemel/laws.FnHeapOk", spec := "fnHeapOk", unfollowed := true, recurses := true, apart := false, narrowed := true }
def FnHeapOkUptoSaid : Prop := fnHeapOkUptoRow.holds Try.pinned (OpenSpec.upto fnHeapOkSpec)

/-- 'laws.FnHeapView', WHERE WHAT IT READS IS OF BULK AT MOST 1048576: true; the input reads as it did. -/
def fnHeapViewUptoRow : OpenClaim := { program := "ytabcijheemjplaa", sum := "4cf21c6e860d6b98debc6b7e8471a453b9434312e62d25fd19a6cf5c5fa68957", func := "loop.example/gemel/laws.FnHeapView", spec := "fnHeapView", unfollowed := true, recurses := true, apart := false, narrowed := true }
def FnHeapViewUptoSaid : Prop := fnHeapViewUptoRow.holds Try.pinned (OpenSpec.upto fnHeapViewSpec)

/-- 'laws.FnExactHeapTrim', WHERE WHAT IT READS IS OF BULK AT MOST 1048576: true; the input reads as it did. -/
def fnExactHeapTrimUptoRow : OpenClaim := { program := "ytabcijheemjplaa", sum := "4cf21c6e860d6b98debc6b7e8471a453b9434312e62d25fd19a6cf5c5fa68957", func := "loop.example/gemel/laws.FnExactHeapTrim", spec := "fnExactHeapTrim", unfollowed := true, recurses := true, apart := false, narrowed := true }
def FnExactHeapTrimUptoSaid : Prop := fnExactHeapTrimUptoRow.holds Try.pinned (OpenSpec.upto fnExactHeapTrimSpec)

/-- 'laws.FnHeapTrim', WHERE WHAT IT READS IS OF BULK AT MOST 1048576: true; the input reads as it did. -/
def fnHeapTrimUptoRow : OpenClaim := { program := "ytabcijheemjplaa", sum := "4cf21c6e860d6b98debc6b7e8471a453b9434312e62d25fd19a6cf5c5fa68957", func := "loop.example/gemel/laws.FnHeapTrim", spec := "fnHeapTrim", unfollowed := true, recurses := true, apart := false, narrowed := true }
def FnHeapTrimUptoSaid : Prop := fnHeapTrimUptoRow.holds Try.pinned (OpenSpec.upto fnHeapTrimSpec)

/-- 'laws.FnHeapTrimLess', WHERE WHAT IT READS IS OF BULK AT MOST 1048576: true; the input reads as it did. -/
def fnHeapTrimLessUptoRow : OpenClaim := { program := "ytabcijheemjplaa", sum := "4cf21c6e860d6b98debc6b7e8471a453b9434312e62d25fd19a6cf5c5fa68957", func := "loop.example/gemel/laws.FnHeapTrimLess", spec := "fnHeapTrimLess", unfollowed := true, recurses := true, apart := false, narrowed := true }
def FnHeapTrimLessUptoSaid : Prop := fnHeapTrimLessUptoRow.holds Try.pinned (OpenSpec.upto fnHeapTrimLessSpec)

end Rows
end Go.Proofs.Ytabcijheemjplaa
