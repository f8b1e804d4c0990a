-- Written by wip/xprint.py of this session's own repo (a patched run of the kit's printer). Not trusted: Lean checks it.
import Derived.Test.YtaffmgphcmmdhaaGreatDoorPyQx0
import Derived.Test.YtaffmgphcmmdhaaGreatDoorPyQx1
import Derived.Test.YtaffmgphcmmdhaaGreatDoorPyQx2
import Derived.Test.YtaffmgphcmmdhaaGreatDoorPyQx3
import Derived.Test.YtaffmgphcmmdhaaGreatDoorPyQx4
import Derived.Test.YtaffmgphcmmdhaaGreatDoorPyQx5
import Derived.Test.YtaffmgphcmmdhaaGreatDoorPyQx6
import Derived.Test.YtaffmgphcmmdhaaGreatDoorPyQx7
import Derived.Test.YtaffmgphcmmdhaaGreatDoorPyQx8
import Derived.Test.YtaffmgphcmmdhaaGreatDoorPyQx9
import Derived.Test.YtaffmgphcmmdhaaGreatDoorPyQx10
namespace Go.Proofs.YtaffmgphcmmdhaaGreatDoor.Q
open Go.RowKit Go.Proofs.YtaffmgphcmmdhaaGreatDoorW.PrintWords Go.Proofs.YtaffmgphcmmdhaaGreatDoorW.PrintLast Go.Proofs.YtaffmgphcmmdhaaGreatDoorW.PrintMore Go.Proofs.YtaffmgphcmmdhaaGreatDoorX
attribute [local go_sem] max2_int min2_int max_two min_two max_three min_three max_four min_four
set_option linter.unusedVariables false
set_option linter.unusedSimpArgs false

end Go.Proofs.YtaffmgphcmmdhaaGreatDoor.Q
