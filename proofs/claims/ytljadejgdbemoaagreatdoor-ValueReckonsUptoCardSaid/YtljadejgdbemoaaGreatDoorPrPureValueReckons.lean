/- The law ValueReckons, told plainly. -/
import Derived.Test.YtljadejgdbemoaaGreatDoorPrSaidValueReckons
import Derived.Test.YtljadejgdbemoaaGreatDoorPrXZVal
set_option linter.unusedVariables false
set_option linter.unusedSimpArgs false
namespace Go.Proofs.YtljadejgdbemoaaGreatDoor.A
open Go.RowKit Go.Proofs.YtljadejgdbemoaaGreatDoorW.PrintWords Go.Proofs.YtljadejgdbemoaaGreatDoorW.PrintLast Go.Proofs.YtljadejgdbemoaaGreatDoorX

theorem wf_u8 {n : Int} (h : (Lit.int .u8 n).wf = true) : 0 ≤ n ∧ n ≤ 255 := by
  simp [Lit.wf, IntKind.min, IntKind.max, IntKind.bits, IntKind.signed] at h
  omega
theorem barbicanlaw05_ValueReckons_pure : barbicanlaw05_ValueReckons_Pure := by
  intro op a0 a1 a2 a3 b0 b1 b2 b3 hop _ ha1 _ _ _ hb1 _ _ hs
  have hop := wf_u8 hop
  have ha : fitsI a1 := wf_i64 ha1
  have hb : fitsI b1 := wf_i64 hb1
  have e1 : Ev (fun k => value_Reckon.f k op a0 a1 a2 a3 b0 b1 b2 b3) _ := ev_at 3 fun k => reckon_eq k ⟨a0, a1, a2, a3⟩ ⟨b0, b1, b2, b3⟩ hop.1 hop.2 ha hb
  have e2 := refReckon_ev (op := op) ⟨a0, a1, a2, a3⟩ ⟨b0, b1, b2, b3⟩ ha hb
  have e3 : Ev (fun k => value_Join.f k a0 a1 a2 a3 b0 b1 b2 b3) _ := ev_at 3 fun k => join_eq k ⟨a0, a1, a2, a3⟩ ⟨b0, b1, b2, b3⟩ (by simp only; omega)
  have e4 := refJoin_ev ⟨a0, a1, a2, a3⟩ ⟨b0, b1, b2, b3⟩ (by simp only; omega)
  generalize reckR op ⟨a0, a1, a2, a3⟩ ⟨b0, b1, b2, b3⟩ = r at *
  generalize joinR ⟨a0, a1, a2, a3⟩ ⟨b0, b1, b2, b3⟩ = s at *
  refine ev_exists (g := fun k => barbicanlaw05_ValueReckons.f k op a0 a1 a2 a3 b0 b1 b2 b3) ?_
  unfold barbicanlaw05_ValueReckons.f
  refine ev_bind e1 (ev_bind e2 (ev_bind e3 (ev_bind e4 ?_)))
  refine ev_if_pos (by simp [flat]) (ev_bind (num_ev _) (ev_if_pos rfl ?_))
  refine ev_if_pos (by simp [flat]) (ev_bind (num_ev _) (ev_if_pos rfl ?_))
  exact ev_bind sure_ev (ev_some _)
end Go.Proofs.YtljadejgdbemoaaGreatDoor.A
