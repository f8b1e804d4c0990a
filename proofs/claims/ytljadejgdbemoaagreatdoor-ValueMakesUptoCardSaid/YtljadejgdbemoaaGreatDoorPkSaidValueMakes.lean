/- The law ValueMakes: what is left to prove of it, about numbers and lists alone. -/
import Derived.Test.YtljadejgdbemoaaGreatDoorPkKx9
import Derived.Test.YtljadejgdbemoaaGreatDoorPkXOpen
set_option linter.unusedVariables false
set_option linter.unusedSimpArgs false
namespace Go.Proofs.YtljadejgdbemoaaGreatDoor.K
open Go.RowKit Go.Proofs.YtljadejgdbemoaaGreatDoorW.PrintWords Go.Proofs.YtljadejgdbemoaaGreatDoorW.PrintLast Go.Proofs.YtljadejgdbemoaaGreatDoorX
/-- The one pure statement of the law. -/
def barbicanlaw05_ValueMakes_Pure : Prop := ∀ (a0_0 : Int) (a0_1 : Int) (a0_2 : ByteArray) (a0_3 : Bool) (a1 : ByteArray) (a2 : Int), ((Lit.int .i64 a0_0).wf = true) → ((Lit.int .i64 a0_1).wf = true) → (a0_2.size ≤ maxLen) → (True) → (a1.size ≤ maxLen) → ((Lit.int .i64 a2).wf = true) → 1 + 1 + (a0_2.size + 1) + 1 + (a1.size + 1) + 1 ≤ 1048576 → ∃ k, barbicanlaw05_ValueMakes.f k a0_0 a0_1 a0_2 a0_3 a1 a2 = some true
end Go.Proofs.YtljadejgdbemoaaGreatDoor.K
