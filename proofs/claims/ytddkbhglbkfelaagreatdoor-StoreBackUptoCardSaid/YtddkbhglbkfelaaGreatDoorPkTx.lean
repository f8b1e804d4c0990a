-- Written by wip/xprint.py of this session's own repo (a patched run of the kit's printer). Not trusted: Lean checks it.
import Derived.Test.YtddkbhglbkfelaaGreatDoorPkTx0
import Derived.Test.YtddkbhglbkfelaaGreatDoorPkTx1
import Derived.Test.YtddkbhglbkfelaaGreatDoorPkTx2
import Derived.Test.YtddkbhglbkfelaaGreatDoorPkTx3
import Derived.Test.YtddkbhglbkfelaaGreatDoorPkTx4
import Derived.Test.YtddkbhglbkfelaaGreatDoorPkTx5
import Derived.Test.YtddkbhglbkfelaaGreatDoorPkTx6
import Derived.Test.YtddkbhglbkfelaaGreatDoorPkTx7
import Derived.Test.YtddkbhglbkfelaaGreatDoorPkTx8
import Derived.Test.YtddkbhglbkfelaaGreatDoorPkTx9
import Derived.Test.YtddkbhglbkfelaaGreatDoorPkTx10
import Derived.Test.YtddkbhglbkfelaaGreatDoorPkTx11
import Derived.Test.YtddkbhglbkfelaaGreatDoorPkTx12
import Derived.Test.YtddkbhglbkfelaaGreatDoorPkTx13
import Derived.Test.YtddkbhglbkfelaaGreatDoorPkTx14
import Derived.Test.YtddkbhglbkfelaaGreatDoorPkTx15
import Derived.Test.YtddkbhglbkfelaaGreatDoorPkTx16
import Derived.Test.YtddkbhglbkfelaaGreatDoorPkTx17
import Derived.Test.YtddkbhglbkfelaaGreatDoorPkTx18
namespace Go.Proofs.YtddkbhglbkfelaaGreatDoor.T
open Go.RowKit Go.Proofs.YtddkbhglbkfelaaGreatDoorW.PrintWords Go.Proofs.YtddkbhglbkfelaaGreatDoorW.PrintLast Go.Proofs.YtddkbhglbkfelaaGreatDoorW.PrintMore Go.Proofs.YtddkbhglbkfelaaGreatDoorX
attribute [local go_sem] max2_int min2_int max_two min_two max_three min_three max_four min_four
set_option linter.unusedVariables false
set_option linter.unusedSimpArgs false

end Go.Proofs.YtddkbhglbkfelaaGreatDoor.T
