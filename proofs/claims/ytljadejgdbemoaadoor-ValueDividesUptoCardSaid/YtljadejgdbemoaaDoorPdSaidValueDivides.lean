/- The law ValueDivides: what is left to prove of it, about numbers and lists alone. -/
import Derived.Test.YtljadejgdbemoaaDoorPdBx9
import Derived.Test.YtljadejgdbemoaaDoorRows
import Derived.Test.YtljadejgdbemoaaDoorPdWWords
import Derived.WalkKit
import Derived.ProofKit
import Derived.OpenShut
import Derived.Deep.Slices
set_option linter.unusedVariables false
set_option linter.unusedSimpArgs false
namespace Go.Proofs.YtljadejgdbemoaaDoor.B
open Go.RowKit Go.Proofs.YtljadejgdbemoaaDoorW.PrintWords Go.Proofs.YtljadejgdbemoaaDoorW.PrintLast Go.Proofs.YtljadejgdbemoaaDoorX
/-- The one pure statement of the law. -/
def barbicanlaw05_ValueDivides_Pure : Prop := ∀ (a0 : Int) (a1 : Int), ((Lit.int .i64 a0).wf = true) → ((Lit.int .i64 a1).wf = true) → 1 + 1 ≤ 1048576 → ∃ k, barbicanlaw05_ValueDivides.f k a0 a1 = some true
end Go.Proofs.YtljadejgdbemoaaDoor.B
