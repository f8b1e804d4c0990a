-- Written by wip/xprint.py of this session's own repo (a patched run of the kit's printer). Not trusted: Lean checks it.
import Derived.Test.YtljadejgdbemoaaDoorPmMx0
import Derived.Test.YtljadejgdbemoaaDoorPmMx1
import Derived.Test.YtljadejgdbemoaaDoorPmMx2
import Derived.Test.YtljadejgdbemoaaDoorPmMx3
import Derived.Test.YtljadejgdbemoaaDoorPmMx4
import Derived.Test.YtljadejgdbemoaaDoorPmMx5
import Derived.Test.YtljadejgdbemoaaDoorPmMx6
namespace Go.Proofs.YtljadejgdbemoaaDoor.M
open Go.RowKit Go.Proofs.YtljadejgdbemoaaDoorW.PrintWords Go.Proofs.YtljadejgdbemoaaDoorW.PrintLast Go.Proofs.YtljadejgdbemoaaDoorW.PrintMore Go.Proofs.YtljadejgdbemoaaDoorX
attribute [local go_sem] max2_int min2_int max_two min_two max_three min_three max_four min_four
set_option linter.unusedVariables false
set_option linter.unusedSimpArgs false

end Go.Proofs.YtljadejgdbemoaaDoor.M
