/- The premise on the world that walks carry which print values and read literals: the table of powers of ten as laid, some number in MaxLen, errors in strconv's two variables. -/
import Derived.Test.YtaffmgphcmmdhaaDoorPbXWords
import Derived.Test.YtaffmgphcmmdhaaDoorPbShelf
import Derived.Lib.AppendIntMem
namespace Go.Proofs.YtaffmgphcmmdhaaDoorX
open Go.RowKit
/-- What the package-level variables hold that the walked code reads. -/
structure GW (w : World) : Prop where
  t : Lib.TabIs Tryd.prog w "internal/strconv.uint64pow10" .u64 Lib.pow10Tab
  m : ∃ m : Int, w.cell? ⟨0, 0, none⟩ = some (.int .i64 m)
  s : ∃ te pe, w.cell? ⟨2, 0, none⟩ = some (.iface te pe)
  r : ∃ te pe, w.cell? ⟨3, 0, none⟩ = some (.iface te pe)
theorem GW_below {w W : World} (h : GW w) (hb : Below w.heap.size w W) : GW W := by
  obtain ⟨m, hm⟩ := h.m
  obtain ⟨a, b, hs⟩ := h.s
  obtain ⟨c, d, hr⟩ := h.r
  exact ⟨Lib.tabBelow_of_tabIs h.t W hb, ⟨m, (hb.cell (World.block_lt_of_cell? w _ hm)).trans hm⟩, ⟨a, b, (hb.cell (World.block_lt_of_cell? w _ hs)).trans hs⟩, ⟨c, d, (hb.cell (World.block_lt_of_cell? w _ hr)).trans hr⟩⟩
end Go.Proofs.YtaffmgphcmmdhaaDoorX
