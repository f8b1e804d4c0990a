/- What the walks of order.Encode and row.Key compute, told plainly. -/
import Derived.Test.YtljadejgdbemoaaDoorPyXRowA
set_option linter.unusedVariables false
set_option linter.unusedSimpArgs false
namespace Go.Proofs.YtljadejgdbemoaaDoor.R
open Go.RowKit Go.Proofs.YtljadejgdbemoaaDoorW.PrintWords Go.Proofs.YtljadejgdbemoaaDoorW.PrintLast Go.Proofs.YtljadejgdbemoaaDoorX

/-! ### the places of the key -/

/-! ### order.Encode -/
def be : Nat → Int → List Int
  | 0, _ => []
  | n + 1, x => be n (x / 256) ++ [x % 256]

/-! ### row.Key -/
end Go.Proofs.YtljadejgdbemoaaDoor.R
