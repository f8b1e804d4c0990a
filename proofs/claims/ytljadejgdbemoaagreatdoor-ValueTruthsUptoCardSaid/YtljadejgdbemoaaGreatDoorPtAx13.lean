-- Written by wip/xprint.py of this session's own repo (a patched run of the kit's printer). Not trusted: Lean checks it.
import Derived.Test.YtljadejgdbemoaaGreatDoorPtAx0
import Derived.Test.YtljadejgdbemoaaGreatDoorPtAx1
import Derived.Test.YtljadejgdbemoaaGreatDoorPtAx2
import Derived.Test.YtljadejgdbemoaaGreatDoorPtAx4
import Derived.Test.YtljadejgdbemoaaGreatDoorPtAx11
import Derived.Test.YtljadejgdbemoaaGreatDoorPtAx12
namespace Go.Proofs.YtljadejgdbemoaaGreatDoor.A
open Go.RowKit Go.Proofs.YtljadejgdbemoaaGreatDoorW.PrintWords Go.Proofs.YtljadejgdbemoaaGreatDoorW.PrintLast Go.Proofs.YtljadejgdbemoaaGreatDoorW.PrintMore Go.Proofs.YtljadejgdbemoaaGreatDoorX
attribute [local go_sem] max2_int min2_int max_two min_two max_three min_three max_four min_four
set_option linter.unusedVariables false
set_option linter.unusedSimpArgs false

attribute [local go_sem high] eqA23
/-! ### value_compared_of_Less_1: function 59 -/

/-! ### value_Less: function 18 -/

/-! ### barbicanlaw05_ValueOrders: function 4 -/

end Go.Proofs.YtljadejgdbemoaaGreatDoor.A
