-- Written by wip/xprint.py of this session's own repo (a patched run of the kit's printer). Not trusted: Lean checks it.
import Derived.Test.YtljadejgdbemoaaGreatDoorPqCx0
import Derived.Test.YtljadejgdbemoaaGreatDoorPqCx1
import Derived.Test.YtljadejgdbemoaaGreatDoorPqCx2
import Derived.Test.YtljadejgdbemoaaGreatDoorPqCx3
import Derived.Test.YtljadejgdbemoaaGreatDoorPqCx4
import Derived.Test.YtljadejgdbemoaaGreatDoorPqCx5
import Derived.Test.YtljadejgdbemoaaGreatDoorPqCx6
import Derived.Test.YtljadejgdbemoaaGreatDoorPqCx7
import Derived.Test.YtljadejgdbemoaaGreatDoorPqCx8
import Derived.Test.YtljadejgdbemoaaGreatDoorPqCx9
import Derived.Test.YtljadejgdbemoaaGreatDoorPqCx10
import Derived.Test.YtljadejgdbemoaaGreatDoorPqCx11
namespace Go.Proofs.YtljadejgdbemoaaGreatDoor.C
open Go.RowKit Go.Proofs.YtljadejgdbemoaaGreatDoorW.PrintWords Go.Proofs.YtljadejgdbemoaaGreatDoorW.PrintLast Go.Proofs.YtljadejgdbemoaaGreatDoorW.PrintMore Go.Proofs.YtljadejgdbemoaaGreatDoorX
attribute [local go_sem] max2_int min2_int max_two min_two max_three min_three max_four min_four
set_option linter.unusedVariables false
set_option linter.unusedSimpArgs false

end Go.Proofs.YtljadejgdbemoaaGreatDoor.C
