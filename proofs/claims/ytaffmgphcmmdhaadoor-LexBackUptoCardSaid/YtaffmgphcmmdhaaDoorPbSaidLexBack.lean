/- The law LexBack: what is left to prove of it, about numbers and lists alone. -/
import Derived.Test.YtaffmgphcmmdhaaDoorPbLx7
import Derived.Test.YtaffmgphcmmdhaaDoorPbXOpen
set_option linter.unusedVariables false
set_option linter.unusedSimpArgs false
namespace Go.Proofs.YtaffmgphcmmdhaaDoor.L
open Go.RowKit Go.Proofs.YtaffmgphcmmdhaaDoorW.PrintWords Go.Proofs.YtaffmgphcmmdhaaDoorW.PrintLast Go.Proofs.YtaffmgphcmmdhaaDoorX
/-- The one pure statement of the law. -/
def barbicanlaw18_LexBack_Pure : Prop := ∀ (a0 : ByteArray) (l1 : List (Int)), (a0.size ≤ maxLen) → (∀ e_ ∈ l1, (Lit.int .i64 e_).wf = true) → (a0.size + 1) + ((l1.map fun e_ => 1).sum + 1) ≤ 1048576 → ∃ k, barbicanlaw18_LexBack.f k a0 l1 = some true
end Go.Proofs.YtaffmgphcmmdhaaDoor.L
