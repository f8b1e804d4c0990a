/- The premise on the world that walks carry which both look for texts and ask errors for their numbers. -/
import Derived.Test.YtddkbhglbkfelaaGreatDoorPkXWords
import Derived.Test.YtddkbhglbkfelaaGreatDoorPkXErrAs
import Derived.Test.YtddkbhglbkfelaaGreatDoorPkShelf
namespace Go.Proofs.YtddkbhglbkfelaaGreatDoorX
open Go.RowKit
/-- What the package-level variables hold that the walked code reads. -/
structure GW (w : World) : Prop where
  e : w.cell? ⟨0, 0, none⟩ = some (.iface 158 (.agg #[.pointer (some ⟨2, 32, none⟩)]))
  m : ∃ m : Int, w.cell? ⟨1, 0, none⟩ = some (.int .i64 m)
theorem GW_below {w W : World} (h : GW w) (hb : Below w.heap.size w W) : GW W := by
  obtain ⟨m, hm⟩ := h.m
  exact ⟨(hb.cell (World.block_lt_of_cell? w _ h.e)).trans h.e, m, (hb.cell (World.block_lt_of_cell? w _ hm)).trans hm⟩
end Go.Proofs.YtddkbhglbkfelaaGreatDoorX
