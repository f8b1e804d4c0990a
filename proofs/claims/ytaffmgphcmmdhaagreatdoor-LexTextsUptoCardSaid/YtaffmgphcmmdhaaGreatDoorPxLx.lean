-- Written by wip/xprint.py of this session's own repo (a patched run of the kit's printer). Not trusted: Lean checks it.
import Derived.Test.YtaffmgphcmmdhaaGreatDoorPxLx0
import Derived.Test.YtaffmgphcmmdhaaGreatDoorPxLx1
import Derived.Test.YtaffmgphcmmdhaaGreatDoorPxLx2
import Derived.Test.YtaffmgphcmmdhaaGreatDoorPxLx3
import Derived.Test.YtaffmgphcmmdhaaGreatDoorPxLx4
import Derived.Test.YtaffmgphcmmdhaaGreatDoorPxLx5
import Derived.Test.YtaffmgphcmmdhaaGreatDoorPxLx6
import Derived.Test.YtaffmgphcmmdhaaGreatDoorPxLx7
namespace Go.Proofs.YtaffmgphcmmdhaaGreatDoor.L
open Go.RowKit Go.Proofs.YtaffmgphcmmdhaaGreatDoorW.PrintWords Go.Proofs.YtaffmgphcmmdhaaGreatDoorW.PrintLast Go.Proofs.YtaffmgphcmmdhaaGreatDoorW.PrintMore Go.Proofs.YtaffmgphcmmdhaaGreatDoorX
attribute [local go_sem] max2_int min2_int max_two min_two max_three min_three max_four min_four
set_option linter.unusedVariables false
set_option linter.unusedSimpArgs false

end Go.Proofs.YtaffmgphcmmdhaaGreatDoor.L
