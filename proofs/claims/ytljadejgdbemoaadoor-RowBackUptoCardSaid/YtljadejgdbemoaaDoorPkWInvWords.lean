-- PRINTED BY print.sh 35421559b90ae4d0a3588c463048766b98c2df88dd9212a6774a882060cdf62d: not written by this session
import Derived.Test.YtljadejgdbemoaaDoorPkWInv
import Derived.Test.YtljadejgdbemoaaDoorPkWFootNe
namespace Go.Proofs.YtljadejgdbemoaaDoorW.PrintWords
open Go.RowKit
end Go.Proofs.YtljadejgdbemoaaDoorW.PrintWords
namespace Go.Proofs.YtljadejgdbemoaaDoorW.PrintLast
end Go.Proofs.YtljadejgdbemoaaDoorW.PrintLast
