/- The law LexCases: what is left to prove of it, about numbers and lists alone. -/
import Derived.Test.YtaffmgphcmmdhaaGreatDoorPzCx5
import Derived.Test.YtaffmgphcmmdhaaGreatDoorRows
import Derived.Test.YtaffmgphcmmdhaaGreatDoorPzWWords
import Derived.WalkKit
import Derived.ProofKit
import Derived.OpenShut
import Derived.Deep.Slices
set_option linter.unusedVariables false
set_option linter.unusedSimpArgs false
namespace Go.Proofs.YtaffmgphcmmdhaaGreatDoor.C
open Go.RowKit Go.Proofs.YtaffmgphcmmdhaaGreatDoorW.PrintWords Go.Proofs.YtaffmgphcmmdhaaGreatDoorW.PrintLast Go.Proofs.YtaffmgphcmmdhaaGreatDoorX
/-- The one pure statement of the law. -/
def barbicanlaw18_LexCases_Pure : Prop := ∀ (a0 : ByteArray), (a0.size ≤ maxLen) → (a0.size + 1) ≤ 1048576 → ∃ k, barbicanlaw18_LexCases.f k a0 = some true
end Go.Proofs.YtaffmgphcmmdhaaGreatDoor.C
