/- The law ValueOrders: what is left to prove of it, about numbers and lists alone. -/
import Derived.Test.YtljadejgdbemoaaGreatDoorPwAx13
import Derived.Test.YtljadejgdbemoaaGreatDoorPwXOpen
set_option linter.unusedVariables false
set_option linter.unusedSimpArgs false
namespace Go.Proofs.YtljadejgdbemoaaGreatDoor.A
open Go.RowKit Go.Proofs.YtljadejgdbemoaaGreatDoorW.PrintWords Go.Proofs.YtljadejgdbemoaaGreatDoorW.PrintLast Go.Proofs.YtljadejgdbemoaaGreatDoorX
/-- The one pure statement of the law. -/
def barbicanlaw05_ValueOrders_Pure : Prop := ∀ (a0_0 : Int) (a0_1 : Int) (a0_2 : ByteArray) (a0_3 : Bool) (a1_0 : Int) (a1_1 : Int) (a1_2 : ByteArray) (a1_3 : Bool), ((Lit.int .i64 a0_0).wf = true) → ((Lit.int .i64 a0_1).wf = true) → (a0_2.size ≤ maxLen) → (True) → ((Lit.int .i64 a1_0).wf = true) → ((Lit.int .i64 a1_1).wf = true) → (a1_2.size ≤ maxLen) → (True) → 1 + 1 + (a0_2.size + 1) + 1 + 1 + 1 + (a1_2.size + 1) + 1 ≤ 1048576 → ∃ k, barbicanlaw05_ValueOrders.f k a0_0 a0_1 a0_2 a0_3 a1_0 a1_1 a1_2 a1_3 = some true
end Go.Proofs.YtljadejgdbemoaaGreatDoor.A
