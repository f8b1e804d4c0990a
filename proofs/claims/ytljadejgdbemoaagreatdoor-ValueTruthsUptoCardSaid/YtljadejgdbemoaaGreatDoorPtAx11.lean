-- Written by wip/xprint.py of this session's own repo (a patched run of the kit's printer). Not trusted: Lean checks it.
import Derived.Test.YtljadejgdbemoaaGreatDoorPtAx0
import Derived.Test.YtljadejgdbemoaaGreatDoorPtAx2
import Derived.Test.YtljadejgdbemoaaGreatDoorPtAx3
import Derived.Test.YtljadejgdbemoaaGreatDoorPtAx10
namespace Go.Proofs.YtljadejgdbemoaaGreatDoor.A
open Go.RowKit Go.Proofs.YtljadejgdbemoaaGreatDoorW.PrintWords Go.Proofs.YtljadejgdbemoaaGreatDoorW.PrintLast Go.Proofs.YtljadejgdbemoaaGreatDoorW.PrintMore Go.Proofs.YtljadejgdbemoaaGreatDoorX
attribute [local go_sem] max2_int min2_int max_two min_two max_three min_three max_four min_four
set_option linter.unusedVariables false
set_option linter.unusedSimpArgs false

/-! ### cmp_Compare_string: function 63 -/

/-! ### value_Compare: function 19 -/

/-! ### value_known: function 85 -/

-- NOT PRINTED: function 59 (value_compared)

/-! ### value_Equal_1: function 60 -/

/-! ### value_compared_of_Equal_1: function 59 -/

/-! ### value_Equal: function 16 -/

/-! ### barbicanref05_Compare: function 20 -/

end Go.Proofs.YtljadejgdbemoaaGreatDoor.A
