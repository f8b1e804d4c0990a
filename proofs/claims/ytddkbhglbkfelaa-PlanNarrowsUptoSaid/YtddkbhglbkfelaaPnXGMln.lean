/- The premise on the world that the walks carry: that MaxLen holds some number. -/
import Derived.Test.YtddkbhglbkfelaaPnXWords
import Derived.Test.YtddkbhglbkfelaaPnShelf
namespace Go.Proofs.YtddkbhglbkfelaaX
open Go.RowKit
/-- What the package-level variables hold that the walked code reads. -/
structure GW (w : World) : Prop where
  m : ∃ m : Int, w.cell? ⟨0, 0, none⟩ = some (.int .i64 m)
theorem GW_below {w W : World} (h : GW w) (hb : Below w.heap.size w W) : GW W := by
  obtain ⟨m, hm⟩ := h.m
  exact ⟨m, (hb.cell (World.block_lt_of_cell? w _ hm)).trans hm⟩
end Go.Proofs.YtddkbhglbkfelaaX
