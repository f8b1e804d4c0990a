/- The law PlanNarrows, about trees and texts alone: true, where the trees' names are together no longer than 1048576. -/
import Derived.Test.YtddkbhglbkfelaaPnXPrP
set_option linter.unusedVariables false
set_option linter.unusedSimpArgs false
namespace Go.Proofs.Ytddkbhglbkfelaa.P
open Go.RowKit Go.Proofs.YtddkbhglbkfelaaW.PrintWords Go.Proofs.YtddkbhglbkfelaaW.PrintLast Go.Proofs.YtddkbhglbkfelaaX
theorem eta26 (y : S26) : (⟨y.f0, y.f1, y.f2, (⟨y.f3.f0, y.f3.f1, y.f3.f2, y.f3.f3⟩ : S24), y.f4⟩ : S26) = y := by cases y; rfl
theorem M26L_one (y : S26) : M26L [y] = M26 y := by rw [M26L, M26L]; omega
theorem gvL_append (a b : List S26) : gvL (a ++ b) = gvL a ++ gvL b := by rw [gvL_map, gvL_map, gvL_map, List.map_append]
theorem has_now (r : R6) (a2 : ByteArray) : Ev (fun _ : Nat => cursor_Has.f r.1 r.2.1 r.2.2.1 r.2.2.2.1 r.2.2.2.2.1 r.2.2.2.2.2 a2) (hasB r a2) := ev_now fun _ => has_eq r a2
theorem planNarrows_ev (l0 : List S26) (y : S26) (a2 : ByteArray) (hb : M26L l0 + M26 y ≤ 1048576) :
    Ev (fun k => barbicanlaw22_PlanNarrows.f k l0 y.f0 y.f1 y.f2 y.f3.f0 y.f3.f1 y.f3.f2 y.f3.f3 y.f4 a2) true := by
  have n0 := M26_len l0
  have hy1 := M26L_one y
  have hA : M26L (l0 ++ [y]) = M26L l0 + M26 y := by rw [M26L_append, hy1]
  have hB : M26L ([y] ++ l0) = M26L l0 + M26 y := by rw [M26L_append, hy1]; omega
  have sure' : Ev (fun k => (barbicanlaw22_sure.f k).bind fun t => some t) true := ev_bind sure_ev (ev_some _)
  have hj : ∀ b : Bool, Ev (fun k => barbicanlaw22_PlanNarrows.j0 k l0 a2 b y.f0 y.f1 y.f2 y.f3.f0 y.f3.f1 y.f3.f2 y.f3.f3 y.f4) true := by
    intro b
    cases b with
    | true => exact ev_step (fun _ => barbicanlaw22_PlanNarrows.j0.eq_2 ..) (ev_if_pos rfl sure')
    | false =>
      refine ev_step (fun _ => barbicanlaw22_PlanNarrows.j0.eq_2 ..) (ev_if_neg (by decide) ?_)
      rw [eta26]
      have e1 : ([] : List S26) ++ l0 = l0 := rfl
      have e2 : ([] : List S26) ++ [y] = [y] := rfl
      have z1 : ([y] : List S26).length = 1 := rfl
      have z0 : ([] : List S26).length = 0 := rfl
      refine ev_bind_some (ev_if_pos (by omega) (ev_bind_some (ev_bind_some (ev_if_pos (by rw [e1]; omega) (ev_bind_some (ev_if_pos (by omega) (ev_bind_some (ev_if_pos (by rw [e2]; omega) ?_))))))))
      rw [e1, e2]
      have g1 := gives_ev l0 (by omega)
      have g2 := gives_ev (l0 ++ [y]) (by omega)
      have g3 := gives_ev ([y] ++ l0) (by omega)
      have r1 := Range_ev (gvL l0) (by rw [M43_gvL]; omega)
      have r2 := Range_ev (gvL (l0 ++ [y])) (by rw [M43_gvL]; omega)
      have r3 := Range_ev (gvL ([y] ++ l0)) (by rw [M43_gvL]; omega)
      have h1 := has_now (rng (gvL l0)) a2
      have h2 := has_now (rng (gvL (l0 ++ [y]))) a2
      have h3 := has_now (rng (gvL ([y] ++ l0))) a2
      have q2 : hasB (rng (gvL (l0 ++ [y]))) a2 = (hasB (rng (gvL l0)) a2 && hasB (rng (gvL [y])) a2) := by rw [has_rng, has_rng, has_rng, gvL_append, partsL_append, List.all_append]
      have q3 : hasB (rng (gvL ([y] ++ l0))) a2 = (hasB (rng (gvL [y])) a2 && hasB (rng (gvL l0)) a2) := by rw [has_rng, has_rng, has_rng, gvL_append, partsL_append, List.all_append]
      refine ev_bind g1 (ev_bind r1 (ev_bind g2 (ev_bind r2 (ev_bind g3 (ev_bind r3 (ev_bind h2 ?_))))))
      cases c2 : hasB (rng (gvL (l0 ++ [y]))) a2 with
      | true =>
        have c1 : hasB (rng (gvL l0)) a2 = true := by rw [q2, Bool.and_eq_true] at c2; exact c2.1
        have c3 : hasB (rng (gvL ([y] ++ l0))) a2 = true := by rw [q2, Bool.and_eq_true] at c2; rw [q3, c2.1, c2.2]; rfl
        rw [c1] at h1
        rw [c2] at h2
        rw [c3] at h3
        exact ev_if_pos rfl (ev_bind h1 (ev_if_pos rfl (ev_bind h2 (ev_bind h3 (ev_if_pos rfl sure')))))
      | false =>
        have c3 : hasB (rng (gvL ([y] ++ l0))) a2 = false := by rw [q3, Bool.and_comm, ← q2, c2]
        rw [c2] at h2
        rw [c3] at h3
        exact ev_if_neg (by decide) (ev_bind h2 (ev_bind h3 (ev_if_pos rfl sure')))
  obtain ⟨b0, hb0⟩ := light_ev l0 (by omega)
  obtain ⟨b1, hb1⟩ := light_ev [y] (by omega)
  unfold barbicanlaw22_PlanNarrows.f
  rw [eta26]
  refine ev_bind hb0 ?_
  cases b0 with
  | true => exact ev_if_pos rfl (ev_bind hb1 (hj _))
  | false => exact ev_if_neg (by decide) (hj _)
end Go.Proofs.Ytddkbhglbkfelaa.P
