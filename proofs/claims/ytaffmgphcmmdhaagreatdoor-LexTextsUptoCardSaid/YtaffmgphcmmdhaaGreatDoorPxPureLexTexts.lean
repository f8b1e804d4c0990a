/- LexTexts: the program's tokens are the reference's. -/
import Derived.Test.YtaffmgphcmmdhaaGreatDoorPxSaidLexTexts
import Derived.Test.YtaffmgphcmmdhaaGreatDoorPxXLrL
set_option linter.unusedVariables false
set_option linter.unusedSimpArgs false
namespace Go.Proofs.YtaffmgphcmmdhaaGreatDoor.L
open Go.RowKit Go.Proofs.YtaffmgphcmmdhaaGreatDoorW.PrintWords Go.Proofs.YtaffmgphcmmdhaaGreatDoorW.PrintLast Go.Proofs.YtaffmgphcmmdhaaGreatDoorX
open Go.Proofs.YtaffmgphcmmdhaaGreatDoorX.Lx
theorem rdR_at {xs : List RK} {j : Nat} {x : RK} (h : xs[j]? = some x) : rd_T50 xs (j : Int) = x := by
  unfold rd_T50
  rw [Int.toNat_natCast]
  first | (rw [List.getD_eq_getElem?_getD, h]; rfl) | simp [h]
theorem tokens_go (zs : List (Tok × Nat)) (hz : zs.length ≤ 1048576) : ∀ (l : List (Tok × Nat)) (i : Nat), zs.drop i = l → Ev (fun k => barbicanlaw18_tokens.l0 k (zs.map tk) (zs.map rk) (i : Int)) true
  | [], i, h => by
    have h1 := drop_nil h
    exact ev_step (fun _ => barbicanlaw18_tokens.l0.eq_2 ..) (ev_if_neg (by rw [List.length_map]; omega) (ev_some _))
  | z :: l, i, h => by
    obtain ⟨h1, h2, h3⟩ := drop_cons h
    refine ev_step (fun _ => barbicanlaw18_tokens.l0.eq_2 ..) (ev_if_pos (by rw [List.length_map]; omega) (ev_if_pos (by omega) (ev_if_pos (by rw [List.length_map]; omega) ?_)))
    rw [rdT_at (x := tk z) (by rw [List.getElem?_map, h1]; rfl), rdR_at (x := rk z) (by rw [List.getElem?_map, h1]; rfl)]
    refine ev_if_neg (by simp [tk, rk]) ?_
    rw [wsucc (by omega)]
    exact tokens_go zs hz l (i + 1) h3
theorem tokens_ev (zs : List (Tok × Nat)) (hz : zs.length ≤ 1048576) : Ev (fun k => barbicanlaw18_tokens.f k (zs.map tk) (zs.map rk)) true := by
  unfold barbicanlaw18_tokens.f
  exact ev_if_pos (by rw [List.length_map, List.length_map]) (tokens_go zs hz zs 0 rfl)
theorem barbicanlaw18_LexTexts_pure : barbicanlaw18_LexTexts_Pure := by
  intro a0 hm hb
  refine ev_exists ?_
  unfold barbicanlaw18_LexTexts.f
  refine ev_bind (Lex_ev a0) (ev_bind (rLex_ev a0) ?_)
  have hn := lexR_count a0
  by_cases hz : (lexR a0).2.2 = 0
  · unfold lexP lexQ
    rw [if_pos hz, if_pos hz]
    refine ev_bind (tokens_ev (lexR a0).1 (by omega)) (ev_if_pos rfl (ev_if_pos rfl (ev_bind_some (ev_if_pos rfl (ev_bind sure_ev (ev_some _))))))
  · unfold lexP lexQ
    rw [if_neg hz, if_neg hz]
    refine ev_bind (tokens_ev [] (by decide)) (ev_if_pos rfl (ev_if_pos rfl (ev_bind_some (ev_if_pos rfl (ev_bind sure_ev (ev_some _))))))
end Go.Proofs.YtaffmgphcmmdhaaGreatDoor.L
