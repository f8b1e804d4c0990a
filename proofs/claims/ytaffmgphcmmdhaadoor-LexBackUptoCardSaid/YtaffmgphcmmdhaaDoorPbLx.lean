-- Written by wip/xprint.py of this session's own repo (a patched run of the kit's printer). Not trusted: Lean checks it.
import Derived.Test.YtaffmgphcmmdhaaDoorPbLx0
import Derived.Test.YtaffmgphcmmdhaaDoorPbLx1
import Derived.Test.YtaffmgphcmmdhaaDoorPbLx2
import Derived.Test.YtaffmgphcmmdhaaDoorPbLx3
import Derived.Test.YtaffmgphcmmdhaaDoorPbLx4
import Derived.Test.YtaffmgphcmmdhaaDoorPbLx5
import Derived.Test.YtaffmgphcmmdhaaDoorPbLx6
import Derived.Test.YtaffmgphcmmdhaaDoorPbLx7
namespace Go.Proofs.YtaffmgphcmmdhaaDoor.L
open Go.RowKit Go.Proofs.YtaffmgphcmmdhaaDoorW.PrintWords Go.Proofs.YtaffmgphcmmdhaaDoorW.PrintLast Go.Proofs.YtaffmgphcmmdhaaDoorW.PrintMore Go.Proofs.YtaffmgphcmmdhaaDoorX
attribute [local go_sem] max2_int min2_int max_two min_two max_three min_three max_four min_four
set_option linter.unusedVariables false
set_option linter.unusedSimpArgs false

end Go.Proofs.YtaffmgphcmmdhaaDoor.L
