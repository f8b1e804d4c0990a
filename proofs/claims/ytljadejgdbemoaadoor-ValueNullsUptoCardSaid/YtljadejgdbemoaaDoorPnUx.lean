-- Written by wip/xprint.py of this session's own repo (a patched run of the kit's printer). Not trusted: Lean checks it.
import Derived.Test.YtljadejgdbemoaaDoorPnUx0
import Derived.Test.YtljadejgdbemoaaDoorPnUx1
import Derived.Test.YtljadejgdbemoaaDoorPnUx2
import Derived.Test.YtljadejgdbemoaaDoorPnUx3
import Derived.Test.YtljadejgdbemoaaDoorPnUx4
import Derived.Test.YtljadejgdbemoaaDoorPnUx5
import Derived.Test.YtljadejgdbemoaaDoorPnUx6
import Derived.Test.YtljadejgdbemoaaDoorPnUx7
namespace Go.Proofs.YtljadejgdbemoaaDoor.U
open Go.RowKit Go.Proofs.YtljadejgdbemoaaDoorW.PrintWords Go.Proofs.YtljadejgdbemoaaDoorW.PrintLast Go.Proofs.YtljadejgdbemoaaDoorW.PrintMore Go.Proofs.YtljadejgdbemoaaDoorX
attribute [local go_sem] max2_int min2_int max_two min_two max_three min_three max_four min_four
set_option linter.unusedVariables false
set_option linter.unusedSimpArgs false

end Go.Proofs.YtljadejgdbemoaaDoor.U
