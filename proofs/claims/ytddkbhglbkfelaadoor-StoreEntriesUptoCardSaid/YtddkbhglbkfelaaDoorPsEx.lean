-- Written by wip/xprint.py of this session's own repo (a patched run of the kit's printer). Not trusted: Lean checks it.
import Derived.Test.YtddkbhglbkfelaaDoorPsEx0
import Derived.Test.YtddkbhglbkfelaaDoorPsEx1
import Derived.Test.YtddkbhglbkfelaaDoorPsEx2
import Derived.Test.YtddkbhglbkfelaaDoorPsEx3
import Derived.Test.YtddkbhglbkfelaaDoorPsEx4
import Derived.Test.YtddkbhglbkfelaaDoorPsEx5
import Derived.Test.YtddkbhglbkfelaaDoorPsEx6
import Derived.Test.YtddkbhglbkfelaaDoorPsEx7
import Derived.Test.YtddkbhglbkfelaaDoorPsEx8
import Derived.Test.YtddkbhglbkfelaaDoorPsEx9
import Derived.Test.YtddkbhglbkfelaaDoorPsEx10
import Derived.Test.YtddkbhglbkfelaaDoorPsEx11
import Derived.Test.YtddkbhglbkfelaaDoorPsEx12
import Derived.Test.YtddkbhglbkfelaaDoorPsEx13
import Derived.Test.YtddkbhglbkfelaaDoorPsEx14
import Derived.Test.YtddkbhglbkfelaaDoorPsEx15
import Derived.Test.YtddkbhglbkfelaaDoorPsEx16
import Derived.Test.YtddkbhglbkfelaaDoorPsEx17
import Derived.Test.YtddkbhglbkfelaaDoorPsEx18
namespace Go.Proofs.YtddkbhglbkfelaaDoor.E
open Go.RowKit Go.Proofs.YtddkbhglbkfelaaDoorW.PrintWords Go.Proofs.YtddkbhglbkfelaaDoorW.PrintLast Go.Proofs.YtddkbhglbkfelaaDoorW.PrintMore Go.Proofs.YtddkbhglbkfelaaDoorX
attribute [local go_sem] max2_int min2_int max_two min_two max_three min_three max_four min_four
set_option linter.unusedVariables false
set_option linter.unusedSimpArgs false

end Go.Proofs.YtddkbhglbkfelaaDoor.E
