/- The law ValueTruths, told plainly. -/
import Derived.Test.YtljadejgdbemoaaGreatDoorPtSaidValueTruths
import Derived.Test.YtljadejgdbemoaaGreatDoorPtXZTr
set_option linter.unusedVariables false
set_option linter.unusedSimpArgs false
namespace Go.Proofs.YtljadejgdbemoaaGreatDoor.A
open Go.RowKit Go.Proofs.YtljadejgdbemoaaGreatDoorW.PrintWords Go.Proofs.YtljadejgdbemoaaGreatDoorW.PrintLast Go.Proofs.YtljadejgdbemoaaGreatDoorX

theorem and_eq (k : Nat) (a b : S23) : value_And.f (k + 4) a.f0 a.f1 a.f2 a.f3 b.f0 b.f1 b.f2 b.f3 = some (flat (eiR false a b).1 (eiR false a b).2) := by
  unfold value_And.f; rw [either_eq]; rfl
theorem or_eq (k : Nat) (a b : S23) : value_Or.f (k + 4) a.f0 a.f1 a.f2 a.f3 b.f0 b.f1 b.f2 b.f3 = some (flat (eiR true a b).1 (eiR true a b).2) := by
  unfold value_Or.f; rw [either_eq]; rfl
theorem barbicanlaw05_ValueTruths_pure : barbicanlaw05_ValueTruths_Pure := by
  intro a0 a1 a2 a3 b0 b1 b2 b3 _ _ _ _ _ _ _ _ _
  have e1 : Ev (fun k => value_And.f k a0 a1 a2 a3 b0 b1 b2 b3) _ := ev_at 4 fun k => and_eq k ⟨a0, a1, a2, a3⟩ ⟨b0, b1, b2, b3⟩
  have e2 : Ev (fun k => barbicanref05_And.f k a0 a1 a2 a3 b0 b1 b2 b3) _ := ev_at 2 fun k => refAnd_eq k ⟨a0, a1, a2, a3⟩ ⟨b0, b1, b2, b3⟩
  have e3 : Ev (fun k => value_Or.f k a0 a1 a2 a3 b0 b1 b2 b3) _ := ev_at 4 fun k => or_eq k ⟨a0, a1, a2, a3⟩ ⟨b0, b1, b2, b3⟩
  have e4 : Ev (fun k => barbicanref05_Or.f k a0 a1 a2 a3 b0 b1 b2 b3) _ := ev_at 2 fun k => refOr_eq k ⟨a0, a1, a2, a3⟩ ⟨b0, b1, b2, b3⟩
  have e5 : Ev (fun k => value_Not.f k a0 a1 a2 a3) _ := ev_at 2 fun k => not_eq k ⟨a0, a1, a2, a3⟩
  have e6 : Ev (fun k => barbicanref05_Not.f k a0 a1 a2 a3) _ := ev_at 1 fun k => refNot_eq k ⟨a0, a1, a2, a3⟩
  generalize eiR false ⟨a0, a1, a2, a3⟩ ⟨b0, b1, b2, b3⟩ = r at *
  generalize eiR true ⟨a0, a1, a2, a3⟩ ⟨b0, b1, b2, b3⟩ = s at *
  generalize notR ⟨a0, a1, a2, a3⟩ = t at *
  refine ev_exists (g := fun k => barbicanlaw05_ValueTruths.f k a0 a1 a2 a3 b0 b1 b2 b3) ?_
  unfold barbicanlaw05_ValueTruths.f
  refine ev_bind e1 (ev_bind e2 (ev_bind e3 (ev_bind e4 (ev_bind e5 (ev_bind e6 ?_)))))
  refine ev_if_pos (by simp [flat]) (ev_bind (num_ev _) (ev_if_pos rfl ?_))
  refine ev_if_pos (by simp [flat]) (ev_bind (num_ev _) (ev_if_pos rfl ?_))
  refine ev_if_pos (by simp [flat]) (ev_bind (num_ev _) (ev_if_pos rfl ?_))
  exact ev_bind sure_ev (ev_some _)
end Go.Proofs.YtljadejgdbemoaaGreatDoor.A
