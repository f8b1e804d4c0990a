-- Written by wip/xprint.py of this session's own repo (a patched run of the kit's printer). Not trusted: Lean checks it.
import Derived.Test.YtljadejgdbemoaaDoorPdBx0
import Derived.Test.YtljadejgdbemoaaDoorPdBx1
import Derived.Test.YtljadejgdbemoaaDoorPdBx2
import Derived.Test.YtljadejgdbemoaaDoorPdBx4
import Derived.Test.YtljadejgdbemoaaDoorPdBx5
import Derived.Test.YtljadejgdbemoaaDoorPdBx6
namespace Go.Proofs.YtljadejgdbemoaaDoor.B
open Go.RowKit Go.Proofs.YtljadejgdbemoaaDoorW.PrintWords Go.Proofs.YtljadejgdbemoaaDoorW.PrintLast Go.Proofs.YtljadejgdbemoaaDoorW.PrintMore Go.Proofs.YtljadejgdbemoaaDoorX
attribute [local go_sem] max2_int min2_int max_two min_two max_three min_three max_four min_four
set_option linter.unusedVariables false
set_option linter.unusedSimpArgs false

attribute [local go_sem high] eqA38
/-! ### barbicanlaw05_ValueNulls: function 7 -/

/-! ### EXT barbicanlaw05_num: function 29 -/
def barbicanlaw05_num.f (a0 : Option Int) : Option Int := some (a0.getD 0)
theorem barbicanlaw05_num.calls (a0 : Option Int) (r : Int) (w : World) (hG : GW w) (h : barbicanlaw05_num.f a0 = some r) :
    Calls Tryd.prog 29 #[errW a0] w fun e w' => e = .returned (.int .i64 r) ∧ Below w.heap.size w w' := by
  obtain rfl := Option.some.inj h
  have hu := Tryd.underlying72
  have hu2 := Tryd.underlying28
  cases a0 with
  | none =>
    simp only [errW_none]
    go_enter Tryd.func29, Tryd.ntmps29
    go_wp2
    go_ret
    exact ⟨rfl, below_alloc (Below.refl _ _) _⟩
  | some c =>
    simp only [errW_some]
    have hg : (w.alloc (.cells #[.int .i64 0] 72)).cell? ⟨0, 0, none⟩ = some (.iface 142 (.agg #[.pointer (some ⟨10, 28, none⟩)])) := by
      rw [World.cell?_alloc_lt _ _ ⟨0, 0, none⟩ (World.block_lt_of_cell? w _ hG.e)]; exact hG.e
    have C := fun ht hf => as_hit c ⟨w.heap.size, 0, none⟩ (.int .i64 0) (w.alloc (.cells #[.int .i64 0] 72)) hg ht hf
    go_enter Tryd.func29, Tryd.ntmps29
    go_wp2_with (go_at_call 46; refine (C (by simp) (by simp)).mono ?_; rintro e w' ⟨rfl, rfl⟩)
    go_ret
    refine ⟨rfl, ?_⟩
    repeat (first | exact Below.refl _ _ | apply below_alloc | refine Below.setCell ?_ (Nat.le_refl _) _)

end Go.Proofs.YtljadejgdbemoaaDoor.B
