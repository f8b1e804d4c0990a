/- The premise on the world that walks carry which print values, read literals, and ask errors for their numbers. -/
import Derived.Test.YtaffmgphcmmdhaaGreatDoorPyXWords
import Derived.Test.YtaffmgphcmmdhaaGreatDoorPyXErrAs
import Derived.Test.YtaffmgphcmmdhaaGreatDoorPyShelf
import Derived.Lib.AppendIntMem
namespace Go.Proofs.YtaffmgphcmmdhaaGreatDoorX
open Go.RowKit
/-- What the package-level variables hold that the walked code reads. -/
structure GW (w : World) : Prop where
  e : w.cell? ⟨0, 0, none⟩ = some (.iface 102 (.agg #[.pointer (some ⟨10, 24, none⟩)]))
  t : Lib.TabIs Tryz.prog w "internal/strconv.uint64pow10" .u64 Lib.pow10Tab
  m : ∃ m : Int, w.cell? ⟨1, 0, none⟩ = some (.int .i64 m)
  s : ∃ te pe, w.cell? ⟨3, 0, none⟩ = some (.iface te pe)
  r : ∃ te pe, w.cell? ⟨4, 0, none⟩ = some (.iface te pe)
theorem GW_below {w W : World} (h : GW w) (hb : Below w.heap.size w W) : GW W := by
  obtain ⟨m, hm⟩ := h.m
  obtain ⟨a, b, hs⟩ := h.s
  obtain ⟨c, d, hr⟩ := h.r
  exact ⟨(hb.cell (World.block_lt_of_cell? w _ h.e)).trans h.e, Lib.tabBelow_of_tabIs h.t W hb, ⟨m, (hb.cell (World.block_lt_of_cell? w _ hm)).trans hm⟩, ⟨a, b, (hb.cell (World.block_lt_of_cell? w _ hs)).trans hs⟩, ⟨c, d, (hb.cell (World.block_lt_of_cell? w _ hr)).trans hr⟩⟩
end Go.Proofs.YtaffmgphcmmdhaaGreatDoorX
