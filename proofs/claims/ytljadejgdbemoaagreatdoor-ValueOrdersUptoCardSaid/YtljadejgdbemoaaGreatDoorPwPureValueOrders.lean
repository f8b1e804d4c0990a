/- The law ValueOrders, told plainly. -/
import Derived.Test.YtljadejgdbemoaaGreatDoorPwSaidValueOrders
import Derived.Test.YtljadejgdbemoaaGreatDoorPwXZTr
set_option linter.unusedVariables false
set_option linter.unusedSimpArgs false
namespace Go.Proofs.YtljadejgdbemoaaGreatDoor.A
open Go.RowKit Go.Proofs.YtljadejgdbemoaaGreatDoorW.PrintWords Go.Proofs.YtljadejgdbemoaaGreatDoorW.PrintLast Go.Proofs.YtljadejgdbemoaaGreatDoorX

theorem barbicanlaw05_ValueOrders_pure : barbicanlaw05_ValueOrders_Pure := by
  intro a0 a1 a2 a3 b0 b1 b2 b3 _ _ _ _ _ _ _ _ _
  have e1 : Ev (fun k => value_Equal.f k a0 a1 a2 a3 b0 b1 b2 b3) _ := ev_at 3 fun k => equal_eq k ⟨a0, a1, a2, a3⟩ ⟨b0, b1, b2, b3⟩
  have e2 : Ev (fun k => barbicanref05_Order.f k a0 a1 a2 a3 b0 b1 b2 b3 0) _ := ev_at 3 fun k => refOrder_eq k 0 ⟨a0, a1, a2, a3⟩ ⟨b0, b1, b2, b3⟩
  have e3 : Ev (fun k => value_Less.f k a0 a1 a2 a3 b0 b1 b2 b3) _ := ev_at 3 fun k => less_eq k ⟨a0, a1, a2, a3⟩ ⟨b0, b1, b2, b3⟩
  have e4 : Ev (fun k => barbicanref05_Order.f k a0 a1 a2 a3 b0 b1 b2 b3 (-1)) _ := ev_at 3 fun k => refOrder_eq k (-1) ⟨a0, a1, a2, a3⟩ ⟨b0, b1, b2, b3⟩
  have e5 : Ev (fun _ : Nat => value_Compare.f a0 a1 a2 a3 b0 b1 b2 b3) _ := ev_at 0 fun k => compare_eq ⟨a0, a1, a2, a3⟩ ⟨b0, b1, b2, b3⟩
  have e6 : Ev (fun k => barbicanref05_Compare.f k a0 a1 a2 a3 b0 b1 b2 b3) _ := ev_at 1 fun k => refCompare_eq k ⟨a0, a1, a2, a3⟩ ⟨b0, b1, b2, b3⟩
  generalize ordR (fun c => c == 0) ⟨a0, a1, a2, a3⟩ ⟨b0, b1, b2, b3⟩ = r at *
  generalize ordR (fun c => c == -1) ⟨a0, a1, a2, a3⟩ ⟨b0, b1, b2, b3⟩ = s at *
  refine ev_exists (g := fun k => barbicanlaw05_ValueOrders.f k a0 a1 a2 a3 b0 b1 b2 b3) ?_
  unfold barbicanlaw05_ValueOrders.f
  refine ev_bind e1 (ev_bind e2 (ev_bind e3 (ev_bind e4 (ev_bind e5 (ev_bind e6 (ev_if_pos rfl ?_))))))
  refine ev_if_pos (by simp [flat]) (ev_bind (num_ev _) (ev_if_pos rfl ?_))
  refine ev_if_pos (by simp [flat]) (ev_bind (num_ev _) (ev_if_pos rfl ?_))
  exact ev_bind sure_ev (ev_some _)
end Go.Proofs.YtljadejgdbemoaaGreatDoor.A
