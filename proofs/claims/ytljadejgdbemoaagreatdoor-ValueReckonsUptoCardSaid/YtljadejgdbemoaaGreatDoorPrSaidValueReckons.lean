/- The law ValueReckons: what is left to prove of it, about numbers and lists alone. -/
import Derived.Test.YtljadejgdbemoaaGreatDoorPrAx9
import Derived.Test.YtljadejgdbemoaaGreatDoorPrXOpen
set_option linter.unusedVariables false
set_option linter.unusedSimpArgs false
namespace Go.Proofs.YtljadejgdbemoaaGreatDoor.A
open Go.RowKit Go.Proofs.YtljadejgdbemoaaGreatDoorW.PrintWords Go.Proofs.YtljadejgdbemoaaGreatDoorW.PrintLast Go.Proofs.YtljadejgdbemoaaGreatDoorX
/-- The one pure statement of the law. -/
def barbicanlaw05_ValueReckons_Pure : Prop := ∀ (a0 : Int) (a1_0 : Int) (a1_1 : Int) (a1_2 : ByteArray) (a1_3 : Bool) (a2_0 : Int) (a2_1 : Int) (a2_2 : ByteArray) (a2_3 : Bool), ((Lit.int .u8 a0).wf = true) → ((Lit.int .i64 a1_0).wf = true) → ((Lit.int .i64 a1_1).wf = true) → (a1_2.size ≤ maxLen) → (True) → ((Lit.int .i64 a2_0).wf = true) → ((Lit.int .i64 a2_1).wf = true) → (a2_2.size ≤ maxLen) → (True) → 1 + 1 + 1 + (a1_2.size + 1) + 1 + 1 + 1 + (a2_2.size + 1) + 1 ≤ 1048576 → ∃ k, barbicanlaw05_ValueReckons.f k a0 a1_0 a1_1 a1_2 a1_3 a2_0 a2_1 a2_2 a2_3 = some true
end Go.Proofs.YtljadejgdbemoaaGreatDoor.A
