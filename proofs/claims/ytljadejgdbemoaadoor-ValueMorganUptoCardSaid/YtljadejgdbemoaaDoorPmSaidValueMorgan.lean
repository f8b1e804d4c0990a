/- The law ValueMorgan: what is left to prove of it, about numbers and lists alone. -/
import Derived.Test.YtljadejgdbemoaaDoorPmMx6
import Derived.Test.YtljadejgdbemoaaDoorPmXOpen
set_option linter.unusedVariables false
set_option linter.unusedSimpArgs false
namespace Go.Proofs.YtljadejgdbemoaaDoor.M
open Go.RowKit Go.Proofs.YtljadejgdbemoaaDoorW.PrintWords Go.Proofs.YtljadejgdbemoaaDoorW.PrintLast Go.Proofs.YtljadejgdbemoaaDoorX
/-- The one pure statement of the law. -/
def barbicanlaw05_ValueMorgan_Pure : Prop := ∀ (a0_0 : Int) (a0_1 : Int) (a0_2 : ByteArray) (a0_3 : Bool) (a1_0 : Int) (a1_1 : Int) (a1_2 : ByteArray) (a1_3 : Bool) (a2_0 : Int) (a2_1 : Int) (a2_2 : ByteArray) (a2_3 : Bool), ((Lit.int .i64 a0_0).wf = true) → ((Lit.int .i64 a0_1).wf = true) → (a0_2.size ≤ maxLen) → (True) → ((Lit.int .i64 a1_0).wf = true) → ((Lit.int .i64 a1_1).wf = true) → (a1_2.size ≤ maxLen) → (True) → ((Lit.int .i64 a2_0).wf = true) → ((Lit.int .i64 a2_1).wf = true) → (a2_2.size ≤ maxLen) → (True) → 1 + 1 + (a0_2.size + 1) + 1 + 1 + 1 + (a1_2.size + 1) + 1 + 1 + 1 + (a2_2.size + 1) + 1 ≤ 1048576 → ∃ k, barbicanlaw05_ValueMorgan.f k a0_0 a0_1 a0_2 a0_3 a1_0 a1_1 a1_2 a1_3 a2_0 a2_1 a2_2 a2_3 = some true
end Go.Proofs.YtljadejgdbemoaaDoor.M
