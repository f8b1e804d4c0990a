-- Written by wip/xprint.py of this session's own repo (a patched run of the kit's printer). Not trusted: Lean checks it.
import Derived.Test.YtljadejgdbemoaaDoorPdBx0
import Derived.Test.YtljadejgdbemoaaDoorPdBx1
import Derived.Test.YtljadejgdbemoaaDoorPdBx2
import Derived.Test.YtljadejgdbemoaaDoorPdBx3
import Derived.Test.YtljadejgdbemoaaDoorPdBx4
import Derived.Test.YtljadejgdbemoaaDoorPdBx5
import Derived.Test.YtljadejgdbemoaaDoorPdBx6
import Derived.Test.YtljadejgdbemoaaDoorPdBx7
import Derived.Test.YtljadejgdbemoaaDoorPdBx8
namespace Go.Proofs.YtljadejgdbemoaaDoor.B
open Go.RowKit Go.Proofs.YtljadejgdbemoaaDoorW.PrintWords Go.Proofs.YtljadejgdbemoaaDoorW.PrintLast Go.Proofs.YtljadejgdbemoaaDoorW.PrintMore Go.Proofs.YtljadejgdbemoaaDoorX
attribute [local go_sem] max2_int min2_int max_two min_two max_three min_three max_four min_four
set_option linter.unusedVariables false
set_option linter.unusedSimpArgs false

end Go.Proofs.YtljadejgdbemoaaDoor.B
