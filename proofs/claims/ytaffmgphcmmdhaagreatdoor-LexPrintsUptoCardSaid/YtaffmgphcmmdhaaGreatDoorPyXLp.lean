/- Tokens printed and read again; blanks laid between: plain lists. -/
import Derived.Test.YtaffmgphcmmdhaaGreatDoorPyXLc
set_option linter.unusedVariables false
set_option linter.unusedSimpArgs false
namespace Go.Proofs.YtaffmgphcmmdhaaGreatDoorX
open Go.RowKit
namespace Lx
def pr (t : Tok) : List UInt8 := if t.1 = 2 then Lib.itoa t.2.2 else if t.1 = 3 then 39 :: (dbl t.2.1 ++ [39]) else t.2.1
def jn : List (List UInt8) → List UInt8
  | [] => []
  | [p] => p
  | p :: q :: ps => p ++ 32 :: jn (q :: ps)
/-! ### pieces -/
end Lx
end Go.Proofs.YtaffmgphcmmdhaaGreatDoorX
