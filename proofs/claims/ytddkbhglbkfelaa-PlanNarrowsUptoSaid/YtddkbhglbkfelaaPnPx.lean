-- Written by wip/xprint.py of this session's own repo (a patched run of the kit's printer). Not trusted: Lean checks it.
import Derived.Test.YtddkbhglbkfelaaPnPx0
import Derived.Test.YtddkbhglbkfelaaPnPx1
import Derived.Test.YtddkbhglbkfelaaPnPx2
import Derived.Test.YtddkbhglbkfelaaPnPx3
import Derived.Test.YtddkbhglbkfelaaPnPx4
import Derived.Test.YtddkbhglbkfelaaPnPx5
import Derived.Test.YtddkbhglbkfelaaPnPx6
import Derived.Test.YtddkbhglbkfelaaPnPx7
import Derived.Test.YtddkbhglbkfelaaPnPx8
import Derived.Test.YtddkbhglbkfelaaPnPx9
namespace Go.Proofs.Ytddkbhglbkfelaa.P
open Go.RowKit Go.Proofs.YtddkbhglbkfelaaW.PrintWords Go.Proofs.YtddkbhglbkfelaaW.PrintLast Go.Proofs.YtddkbhglbkfelaaW.PrintMore Go.Proofs.YtddkbhglbkfelaaX
attribute [local go_sem] max2_int min2_int max_two min_two max_three min_three max_four min_four
set_option linter.unusedVariables false
set_option linter.unusedSimpArgs false

end Go.Proofs.Ytddkbhglbkfelaa.P
