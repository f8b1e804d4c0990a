/- The law ValueOrder, told plainly: to compare is an order of all values. -/
import Derived.Test.YtljadejgdbemoaaDoorPoSaidValueOrder
import Derived.Test.YtljadejgdbemoaaDoorPoXValA
set_option linter.unusedVariables false
set_option linter.unusedSimpArgs false
namespace Go.Proofs.YtljadejgdbemoaaDoor.V
open Go.RowKit Go.Proofs.YtljadejgdbemoaaDoorW.PrintWords Go.Proofs.YtljadejgdbemoaaDoorW.PrintLast Go.Proofs.YtljadejgdbemoaaDoorX

theorem barbicanlaw05_ValueOrder_pure : barbicanlaw05_ValueOrder_Pure := by
  intro a0 a1 a2 a3 b0 b1 b2 b3 c0 c1 c2 c3 _ _ _ _ _ _ _ _ _ _ _ _ _
  obtain ⟨x, hx, hx2⟩ := compare_is ⟨a0, a1, a2, a3⟩ ⟨b0, b1, b2, b3⟩
  obtain ⟨y, hy, hy2⟩ := compare_is ⟨b0, b1, b2, b3⟩ ⟨c0, c1, c2, c3⟩
  obtain ⟨z, hz, hz2⟩ := compare_is ⟨a0, a1, a2, a3⟩ ⟨c0, c1, c2, c3⟩
  obtain ⟨s, hs, hs2⟩ := compare_is ⟨a0, a1, a2, a3⟩ ⟨a0, a1, a2, a3⟩
  obtain ⟨t, ht, ht2⟩ := compare_is ⟨b0, b1, b2, b3⟩ ⟨a0, a1, a2, a3⟩
  simp only at hx hy hz hs ht
  generalize hA : (⟨a0, a1, a2, a3⟩ : S38) = A at *
  generalize hB : (⟨b0, b1, b2, b3⟩ : S38) = B at *
  generalize hC : (⟨c0, c1, c2, c3⟩ : S38) = C at *
  have es : s = 0 := by
    rcases hs2 with ⟨_, h⟩ | ⟨_, h⟩ | ⟨h, _⟩
    · exact absurd h (ltV_asym h)
    · exact absurd h (ltV_asym h)
    · exact h
  have et : x = -t := by
    rcases hx2 with ⟨h, g⟩ | ⟨h, g⟩ | ⟨h, g, g'⟩ <;> rcases ht2 with ⟨k, l⟩ | ⟨k, l⟩ | ⟨k, l, l'⟩ <;> first | omega | exact absurd l (ltV_asym g) | exact absurd g (ltV_asym l) | exact absurd g l | exact absurd g l' | exact absurd l g | exact absurd l g'
  have ex : -1 ≤ x ∧ x ≤ 1 := by rcases hx2 with ⟨h, _⟩ | ⟨h, _⟩ | ⟨h, _⟩ <;> omega
  have j1 : x ≠ 0 ∨ x = 0 → Ev (fun k => barbicanlaw05_ValueOrder.j1 k x false a0 a1 a2 a3 b0 b1 b2 b3) true := by
    intro _
    refine ev_step (fun _ => barbicanlaw05_ValueOrder.j1.eq_2 ..) (ev_if_neg (by decide) ?_)
    have hsure : Ev (fun k => (barbicanlaw05_sure.f k).bind fun t => some t) true := ev_bind sure_ev (ev_some _)
    by_cases h0 : x = 0
    · refine ev_if_pos h0 (ev_bind (valid_ev a0 a1 a2 a3) ?_)
      by_cases g1 : (vErr a0 a1 a2 a3).isNone = true
      · refine ev_if_pos g1 (ev_bind (valid_ev b0 b1 b2 b3) ?_)
        by_cases g2 : (vErr b0 b1 b2 b3).isNone = true
        · refine ev_if_pos g2 (ev_if_pos ?_ hsure)
          have hn : ¬ ltV A B ∧ ¬ ltV B A := by rcases hx2 with ⟨h, _⟩ | ⟨h, _⟩ | ⟨_, h⟩; omega; omega; exact h
          have := same_of (v := ⟨a0, a1, a2, a3⟩) (w := ⟨b0, b1, b2, b3⟩) (Option.isNone_iff_eq_none.1 g1) (Option.isNone_iff_eq_none.1 g2) (by rw [hA, hB]; exact hn.1) (by rw [hA, hB]; exact hn.2)
          injection this with q0 q1 q2 q3
          subst q0 q1 q2 q3
          simp
        · exact ev_if_neg g2 hsure
      · exact ev_if_neg g1 hsure
    · exact ev_if_neg h0 hsure
  have j0 : Ev (fun k => barbicanlaw05_ValueOrder.j0 k x y false a0 a1 a2 a3 b0 b1 b2 b3 c0 c1 c2 c3) true := by
    refine ev_step (fun _ => barbicanlaw05_ValueOrder.j0.eq_2 ..) (ev_if_neg (by decide) ?_)
    have hlast := j1 (by omega)
    have strict : x ≤ 0 → y < 0 → z < 0 := by
      intro h1 h2
      have g2 : ltV B C := by rcases hy2 with ⟨h, g⟩ | ⟨h, _⟩ | ⟨h, _⟩; exact g; omega; omega
      have g1 : ¬ ltV B A := by
        rcases hx2 with ⟨h, g⟩ | ⟨h, _⟩ | ⟨_, _, g⟩
        · exact ltV_asym g
        · omega
        · exact g
      have g3 : ltV A C := (ltV_split A g2).resolve_left g1
      rcases hz2 with ⟨h, _⟩ | ⟨_, g⟩ | ⟨_, g, _⟩
      · omega
      · exact absurd g (ltV_asym g3)
      · exact absurd g3 g
    have weak : x ≤ 0 → y ≤ 0 → z ≤ 0 := by
      intro h1 h2
      have g1 : ¬ ltV B A := by
        rcases hx2 with ⟨h, g⟩ | ⟨h, _⟩ | ⟨_, _, g⟩
        · exact ltV_asym g
        · omega
        · exact g
      have g2 : ¬ ltV C B := by
        rcases hy2 with ⟨h, g⟩ | ⟨h, _⟩ | ⟨_, _, g⟩
        · exact ltV_asym g
        · omega
        · exact g
      rcases hz2 with ⟨h, _⟩ | ⟨_, g⟩ | ⟨h, _, _⟩
      · omega
      · rcases ltV_split B g with g | g
        · exact absurd g g2
        · exact absurd g g1
      · omega
    have hdec : y < 0 → x ≤ 0 → decide (z ≥ 0) = false := fun h2 h1 => by
      have := strict h1 h2
      simp; omega
    by_cases h1 : x ≤ 0
    · refine ev_if_pos h1 ?_
      by_cases h2 : y ≤ 0
      · refine ev_if_pos h2 ?_
        rw [hz]
        simp only [Option.bind_some]
        refine ev_if_neg (by have := weak h1 h2; omega) ?_
        by_cases h3 : y < 0
        · refine ev_if_pos h3 ?_
          rw [hdec h3 h1]; exact hlast
        · exact ev_if_neg h3 hlast
      · exact ev_if_neg h2 (ev_if_neg (by omega) hlast)
    · exact ev_if_neg h1 hlast
  refine ev_exists (g := fun k => barbicanlaw05_ValueOrder.f k a0 a1 a2 a3 b0 b1 b2 b3 c0 c1 c2 c3) ?_
  unfold barbicanlaw05_ValueOrder.f
  rw [hx, hy, hs, ht]
  simp only [Option.bind_some]
  refine ev_if_pos es (ev_if_pos (by unfold wrap64; omega) (ev_if_neg (by omega) ?_))
  rw [show decide (x > 1) = false by simp; omega]
  exact j0
end Go.Proofs.YtljadejgdbemoaaDoor.V
