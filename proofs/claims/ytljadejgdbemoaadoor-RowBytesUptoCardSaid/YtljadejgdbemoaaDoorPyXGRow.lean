/- The premise on the world that the rows' walks carry: package errors' errorType as laid. -/
import Derived.Test.YtljadejgdbemoaaDoorPyXWords
import Derived.Test.YtljadejgdbemoaaDoorPyXErrAs
namespace Go.Proofs.YtljadejgdbemoaaDoorX
open Go.RowKit
/-- What the package-level variables hold that the walked code reads: errors.errorType. -/
structure GW (w : World) : Prop where
  e : w.cell? ⟨0, 0, none⟩ = some (.iface 142 (.agg #[.pointer (some ⟨10, 28, none⟩)]))
theorem GW_below {w W : World} (h : GW w) (hb : Below w.heap.size w W) : GW W := ⟨(hb.cell (World.block_lt_of_cell? w _ h.e)).trans h.e⟩
end Go.Proofs.YtljadejgdbemoaaDoorX
