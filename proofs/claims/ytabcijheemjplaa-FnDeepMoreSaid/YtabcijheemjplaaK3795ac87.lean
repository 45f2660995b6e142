import Derived.Test.YtabcijheemjplaaK47733c20
import Derived.Test.YtabcijheemjplaaK79c2d69a
import Derived.Shelf.Abstract
import Derived.Deep.QuietTactic
import Derived.BigQuiet
import Derived.Outline
namespace Go.Proofs.Ytabcijheemjplaa.G
open Go.RowKit Go.Proofs.YtabcijheemjplaaW.PrintWords Go.Proofs.YtabcijheemjplaaW.PrintLast Go.Proofs.YtabcijheemjplaaW.PrintMore
attribute [local go_sem] QaP QaQ Qa2 Qa3 QaJ QaK QaR QaS
set_option linter.unusedVariables false
set_option linter.unusedSimpArgs false
section
variable {w0 W : World} {g : Nat} {pre : List Value} {t : Nat} {h : Hp} {L : List Loc}
theorem Qct {W : World} {g b j k : Nat} {u v : Value} (hne : g ≠ b) (z : W.cell? ⟨g, k, none⟩ = some v) : (W.setCell ⟨b, j, none⟩ u).cell? ⟨g, k, none⟩ = some v :=
 (World.cell?_of_block (w := W) (w' := W.setCell ⟨b, j, none⟩ u) (a := ⟨g, k, none⟩) (Qa1 (p := ⟨b, j, none⟩) hne)).trans z
end
end Go.Proofs.Ytabcijheemjplaa.G
