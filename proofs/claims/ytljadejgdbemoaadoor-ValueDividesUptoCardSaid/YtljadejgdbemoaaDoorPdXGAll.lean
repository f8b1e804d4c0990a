/- The premise on the world that walks carry which both print values and ask errors for their numbers. -/
import Derived.Test.YtljadejgdbemoaaDoorPdXWords
import Derived.Test.YtljadejgdbemoaaDoorPdXErrAs
import Derived.Test.YtljadejgdbemoaaDoorPdShelf
import Derived.Lib.AppendIntMem
namespace Go.Proofs.YtljadejgdbemoaaDoorX
open Go.RowKit
/-- What the package-level variables hold that the walked code reads. -/
structure GW (w : World) : Prop where
  e : w.cell? ⟨0, 0, none⟩ = some (.iface 142 (.agg #[.pointer (some ⟨10, 28, none⟩)]))
  t : Lib.TabIs Tryd.prog w "internal/strconv.uint64pow10" .u64 Lib.pow10Tab
  m : ∃ m : Int, w.cell? ⟨1, 0, none⟩ = some (.int .i64 m)
theorem GW_below {w W : World} (h : GW w) (hb : Below w.heap.size w W) : GW W := by
  obtain ⟨m, hm⟩ := h.m
  exact ⟨(hb.cell (World.block_lt_of_cell? w _ h.e)).trans h.e, Lib.tabBelow_of_tabIs h.t W hb, m, (hb.cell (World.block_lt_of_cell? w _ hm)).trans hm⟩
end Go.Proofs.YtljadejgdbemoaaDoorX
