-- Written by wip/xprint.py of this session's own repo (a patched run of the kit's printer). Not trusted: Lean checks it.
import Derived.Test.YtljadejgdbemoaaGreatDoorPkKx0
import Derived.Test.YtljadejgdbemoaaGreatDoorPkKx1
import Derived.Test.YtljadejgdbemoaaGreatDoorPkKx2
import Derived.Test.YtljadejgdbemoaaGreatDoorPkKx3
import Derived.Test.YtljadejgdbemoaaGreatDoorPkKx4
import Derived.Test.YtljadejgdbemoaaGreatDoorPkKx5
import Derived.Test.YtljadejgdbemoaaGreatDoorPkKx6
import Derived.Test.YtljadejgdbemoaaGreatDoorPkKx7
import Derived.Test.YtljadejgdbemoaaGreatDoorPkKx8
import Derived.Test.YtljadejgdbemoaaGreatDoorPkKx9
namespace Go.Proofs.YtljadejgdbemoaaGreatDoor.K
open Go.RowKit Go.Proofs.YtljadejgdbemoaaGreatDoorW.PrintWords Go.Proofs.YtljadejgdbemoaaGreatDoorW.PrintLast Go.Proofs.YtljadejgdbemoaaGreatDoorW.PrintMore Go.Proofs.YtljadejgdbemoaaGreatDoorX
attribute [local go_sem] max2_int min2_int max_two min_two max_three min_three max_four min_four
set_option linter.unusedVariables false
set_option linter.unusedSimpArgs false

end Go.Proofs.YtljadejgdbemoaaGreatDoor.K
