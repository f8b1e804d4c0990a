/- What the walk of lex.Same computes, told plainly. -/
import Derived.Test.YtaffmgphcmmdhaaGreatDoorPyXLxQ
set_option linter.unusedVariables false
set_option linter.unusedSimpArgs false
namespace Go.Proofs.YtaffmgphcmmdhaaGreatDoor.Q
open Go.RowKit Go.Proofs.YtaffmgphcmmdhaaGreatDoorW.PrintWords Go.Proofs.YtaffmgphcmmdhaaGreatDoorW.PrintLast Go.Proofs.YtaffmgphcmmdhaaGreatDoorX
open Go.Proofs.YtaffmgphcmmdhaaGreatDoorX.Lx
theorem Same_go (A B : List TK) (hl : A.length = B.length) (hz : A.length ≤ 1048576) : ∀ (a : List TK) (i : Nat) (b : List TK), A.drop i = a → B.drop i = b →
    Ev (fun k => lex_Token_of_Same_1.l0 k B A ((A.length : Nat) : Int) (i : Int)) (decide (a.map core = b.map core))
  | [], i, b, ha, hb => by
    have h1 := drop_nil ha
    have hb' : b = [] := by rw [← hb]; exact List.drop_eq_nil_of_le (by omega)
    subst hb'
    exact ev_step (fun _ => lex_Token_of_Same_1.l0.eq_2 ..) (ev_if_neg (by omega) (ev_some _))
  | x :: a, i, b, ha, hb => by
    obtain ⟨h1, h2, h3⟩ := drop_cons ha
    cases b with
    | nil => have := drop_nil hb; omega
    | cons y b =>
      obtain ⟨g1, g2, g3⟩ := drop_cons hb
      refine ev_step (fun _ => lex_Token_of_Same_1.l0.eq_2 ..) (ev_if_pos (by omega) (ev_if_pos (by omega) (ev_if_pos (by omega) (ev_if_pos (by omega) ?_))))
      rw [rdT_at h1, rdT_at g1]
      have e : lex_Same_1.f x.f0 x.f1 x.f2 x.f3 y.f0 y.f1 y.f2 y.f3 = some (decide (core x = core y)) := by
        unfold lex_Same_1.f lex_Token_bare.f
        simp only [Option.bind_some, Option.some.injEq]
        rw [Bool.eq_iff_iff]
        simp only [Bool.and_eq_true, beq_iff_eq, decide_eq_true_eq, core, Prod.mk.injEq, toList_data, and_true]
      rw [e]
      refine ev_bind_some ?_
      by_cases hc : core x = core y
      · refine ev_if_pos (by rw [decide_eq_true_eq]; exact hc) ?_
        rw [wsucc (by omega)]
        have := Same_go A B hl hz a (i + 1) b h3 g3
        rw [show decide ((x :: a).map core = (y :: b).map core) = decide (a.map core = b.map core) by
          have : ((x :: a).map core = (y :: b).map core) ↔ (a.map core = b.map core) := by
            rw [List.map_cons, List.map_cons, hc, List.cons.injEq]
            exact ⟨fun h => h.2, fun h => ⟨rfl, h⟩⟩
          rw [Bool.eq_iff_iff, decide_eq_true_eq, decide_eq_true_eq]; exact this]
        exact this
      · refine ev_if_neg (by rw [decide_eq_true_eq]; exact hc) ?_
        rw [show decide ((x :: a).map core = (y :: b).map core) = false by
          rw [decide_eq_false_iff_not, List.map_cons, List.map_cons, List.cons.injEq]; exact fun h => hc h.1]
        exact ev_some _
theorem Same_ev (A B : List TK) (hz : A.length ≤ 1048576) (hb : B.length ≤ 1048576) : Ev (fun k => lex_Same.f k A B) (decide (A.map core = B.map core)) := by
  unfold lex_Same.f lex_Token_of_Same_1.f
  by_cases hl : A.length = B.length
  · exact ev_bind (ev_if_pos (by omega) (Same_go A B hl hz A 0 B rfl rfl)) (ev_some _)
  · have e : decide (A.map core = B.map core) = false := by
      rw [decide_eq_false_iff_not]
      intro h
      have := congrArg List.length h
      rw [List.length_map, List.length_map] at this
      exact hl this
    rw [e]
    exact ev_bind (ev_if_neg (by omega) (ev_some _)) (ev_some _)
end Go.Proofs.YtaffmgphcmmdhaaGreatDoor.Q
