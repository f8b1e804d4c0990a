/- The law LexTexts: what is left to prove of it, about numbers and lists alone. -/
import Derived.Test.YtaffmgphcmmdhaaGreatDoorPxLx7
import Derived.Test.YtaffmgphcmmdhaaGreatDoorRows
import Derived.Test.YtaffmgphcmmdhaaGreatDoorPxWWords
import Derived.WalkKit
import Derived.ProofKit
import Derived.OpenShut
import Derived.Deep.Slices
set_option linter.unusedVariables false
set_option linter.unusedSimpArgs false
namespace Go.Proofs.YtaffmgphcmmdhaaGreatDoor.L
open Go.RowKit Go.Proofs.YtaffmgphcmmdhaaGreatDoorW.PrintWords Go.Proofs.YtaffmgphcmmdhaaGreatDoorW.PrintLast Go.Proofs.YtaffmgphcmmdhaaGreatDoorX
/-- The one pure statement of the law. -/
def barbicanlaw18_LexTexts_Pure : Prop := ∀ (a0 : ByteArray), (a0.size ≤ maxLen) → (a0.size + 1) ≤ 1048576 → ∃ k, barbicanlaw18_LexTexts.f k a0 = some true
end Go.Proofs.YtaffmgphcmmdhaaGreatDoor.L
