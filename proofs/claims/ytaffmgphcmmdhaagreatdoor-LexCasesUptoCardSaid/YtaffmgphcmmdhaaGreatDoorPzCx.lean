-- Written by wip/xprint.py of this session's own repo (a patched run of the kit's printer). Not trusted: Lean checks it.
import Derived.Test.YtaffmgphcmmdhaaGreatDoorPzCx0
import Derived.Test.YtaffmgphcmmdhaaGreatDoorPzCx1
import Derived.Test.YtaffmgphcmmdhaaGreatDoorPzCx2
import Derived.Test.YtaffmgphcmmdhaaGreatDoorPzCx3
import Derived.Test.YtaffmgphcmmdhaaGreatDoorPzCx4
import Derived.Test.YtaffmgphcmmdhaaGreatDoorPzCx5
namespace Go.Proofs.YtaffmgphcmmdhaaGreatDoor.C
open Go.RowKit Go.Proofs.YtaffmgphcmmdhaaGreatDoorW.PrintWords Go.Proofs.YtaffmgphcmmdhaaGreatDoorW.PrintLast Go.Proofs.YtaffmgphcmmdhaaGreatDoorW.PrintMore Go.Proofs.YtaffmgphcmmdhaaGreatDoorX
attribute [local go_sem] max2_int min2_int max_two min_two max_three min_three max_four min_four
set_option linter.unusedVariables false
set_option linter.unusedSimpArgs false

end Go.Proofs.YtaffmgphcmmdhaaGreatDoor.C
