/- The law ValueNulls: what is left to prove of it, about numbers and lists alone. -/
import Derived.Test.YtljadejgdbemoaaDoorPnUx7
import Derived.Test.YtljadejgdbemoaaDoorPnXOpen
set_option linter.unusedVariables false
set_option linter.unusedSimpArgs false
namespace Go.Proofs.YtljadejgdbemoaaDoor.U
open Go.RowKit Go.Proofs.YtljadejgdbemoaaDoorW.PrintWords Go.Proofs.YtljadejgdbemoaaDoorW.PrintLast Go.Proofs.YtljadejgdbemoaaDoorX
/-- The one pure statement of the law. -/
def barbicanlaw05_ValueNulls_Pure : Prop := ∀ (a0_0 : Int) (a0_1 : Int) (a0_2 : ByteArray) (a0_3 : Bool) (a1 : Int), ((Lit.int .i64 a0_0).wf = true) → ((Lit.int .i64 a0_1).wf = true) → (a0_2.size ≤ maxLen) → (True) → ((Lit.int .u8 a1).wf = true) → 1 + 1 + (a0_2.size + 1) + 1 + 1 ≤ 1048576 → ∃ k, barbicanlaw05_ValueNulls.f k a0_0 a0_1 a0_2 a0_3 a1 = some true
end Go.Proofs.YtljadejgdbemoaaDoor.U
