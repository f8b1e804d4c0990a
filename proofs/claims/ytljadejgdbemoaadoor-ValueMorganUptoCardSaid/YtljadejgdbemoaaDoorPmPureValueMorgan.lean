/- The law ValueMorgan, told plainly. -/
import Derived.Test.YtljadejgdbemoaaDoorPmSaidValueMorgan
import Derived.Test.YtljadejgdbemoaaDoorPmXMEiM
import Derived.Test.YtljadejgdbemoaaDoorPmXMPaM
set_option linter.unusedVariables false
set_option linter.unusedSimpArgs false
namespace Go.Proofs.YtljadejgdbemoaaDoor.M
open Go.RowKit Go.Proofs.YtljadejgdbemoaaDoorW.PrintWords Go.Proofs.YtljadejgdbemoaaDoorW.PrintLast Go.Proofs.YtljadejgdbemoaaDoorX

/-- Not of and is or of nots. -/
theorem morgan (A B : S38) :
    ((eiR false A B).2 = none → (notR (eiR false A B).1).2 = none ∧ (notR A).2 = none ∧ (notR B).2 = none ∧ (eiR true (notR A).1 (notR B).1).2 = none ∧ (notR (eiR false A B).1).1 = (eiR true (notR A).1 (notR B).1).1) ∧
    ((eiR false A B).2 ≠ none → (notR A).2 ≠ none ∨ (notR B).2 ≠ none) := by
  obtain ⟨a0, a1, a2, a3⟩ := A
  obtain ⟨b0, b1, b2, b3⟩ := B
  by_cases ha : a0 = 0 <;> by_cases ha3 : a0 = 3 <;> by_cases hb : b0 = 0 <;> by_cases hb3 : b0 = 3 <;> cases a3 <;> cases b3 <;> first | (exfalso; omega) | simp [eiR, notR, okK, ha, ha3, hb, hb3, z_flat]
theorem barbicanlaw05_ValueMorgan_pure : barbicanlaw05_ValueMorgan_Pure := by
  intro a0 a1 a2 a3 b0 b1 b2 b3 c0 c1 c2 c3 _ _ _ _ _ _ _ _ _ hc1 _ _ hs
  have hv : OKv (⟨c0, c1, c2, c3⟩ : S38) := ⟨wf_i64 hc1, by show c2.size ≤ _; omega⟩
  have e1 : Ev (fun k => value_And.f k a0 a1 a2 a3 b0 b1 b2 b3) _ := ev_at 4 fun k => and_eq k ⟨a0, a1, a2, a3⟩ ⟨b0, b1, b2, b3⟩
  have e3 : Ev (fun k => value_Not.f k a0 a1 a2 a3) _ := ev_at 2 fun k => not_eq k ⟨a0, a1, a2, a3⟩
  have e4 : Ev (fun k => value_Not.f k b0 b1 b2 b3) _ := ev_at 2 fun k => not_eq k ⟨b0, b1, b2, b3⟩
  obtain ⟨m1, m2⟩ := morgan ⟨a0, a1, a2, a3⟩ ⟨b0, b1, b2, b3⟩
  generalize eiR false ⟨a0, a1, a2, a3⟩ ⟨b0, b1, b2, b3⟩ = x at *
  generalize notR ⟨a0, a1, a2, a3⟩ = m at *
  generalize notR ⟨b0, b1, b2, b3⟩ = n at *
  have e2 : Ev (fun k => value_Not.f k x.1.f0 x.1.f1 x.1.f2 x.1.f3) _ := ev_at 2 fun k => not_eq k x.1
  have e5 : Ev (fun k => value_Or.f k m.1.f0 m.1.f1 m.1.f2 m.1.f3 n.1.f0 n.1.f1 n.1.f2 n.1.f3) _ := ev_at 4 fun k => or_eq k m.1 n.1
  -- the literal's part
  have tail : Ev (fun k => barbicanlaw05_ValueMorgan.j0 k false c0 c1 c2 c3) true := by
    refine ev_step (fun _ => barbicanlaw05_ValueMorgan.j0.eq_2 ..) (ev_if_neg (by decide) ?_)
    refine ev_bind (ev_at 2 fun k => print_eq k hv) ?_
    unfold prR
    cases h : vErr c0 c1 c2 c3 with
    | some e =>
      refine ev_if_neg (by simp) (ev_if_pos (by rw [toList_data]) ?_)
      exact ev_bind sure_ev (ev_some _)
    | none =>
      refine ev_if_pos rfl (ev_bind (parse_lit hv h) (ev_if_pos rfl (ev_if_pos (by simp [flat]) ?_)))
      exact ev_bind sure_ev (ev_some _)
  refine ev_exists (g := fun k => barbicanlaw05_ValueMorgan.f k a0 a1 a2 a3 b0 b1 b2 b3 c0 c1 c2 c3) ?_
  unfold barbicanlaw05_ValueMorgan.f
  refine ev_bind e1 (ev_bind e2 (ev_bind e3 (ev_bind e4 (ev_bind e5 ?_))))
  by_cases hx : x.2 = none
  · obtain ⟨g1, g2, g3, g4, g5⟩ := m1 hx
    have iN : ∀ o : Option Int, o = none → o.isNone = true := fun o h => by rw [h]; rfl
    refine ev_if_pos (iN _ hx) (ev_if_pos (iN _ g1) (ev_if_pos (iN _ g2) (ev_if_pos (iN _ g3) (ev_if_pos (iN _ g4) (ev_if_neg ?_ tail)))))
    rw [g5]; simp [flat]
  · have iS : ∀ o : Option Int, o ≠ none → ¬ o.isNone = true := fun o h e => h (Option.isNone_iff_eq_none.1 e)
    refine ev_if_neg (iS _ hx) ?_
    by_cases hm : m.2 = none
    · have hn := (m2 hx).resolve_left (fun h => h hm)
      exact ev_if_pos (by rw [show (flat m.1 m.2).2.2.2.2 = m.2 from rfl, hm]; rfl) (ev_if_neg (iS _ hn) tail)
    · exact ev_if_neg (iS _ hm) tail
end Go.Proofs.YtljadejgdbemoaaDoor.M
