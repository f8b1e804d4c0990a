/- LexCases: great and small letters say the same, but within quotes. -/
import Derived.Test.YtaffmgphcmmdhaaGreatDoorPzSaidLexCases
import Derived.Test.YtaffmgphcmmdhaaGreatDoorPzXLmC
set_option linter.unusedVariables false
set_option linter.unusedSimpArgs false
namespace Go.Proofs.YtaffmgphcmmdhaaGreatDoor.C
open Go.RowKit Go.Proofs.YtaffmgphcmmdhaaGreatDoorW.PrintWords Go.Proofs.YtaffmgphcmmdhaaGreatDoorW.PrintLast Go.Proofs.YtaffmgphcmmdhaaGreatDoorX
open Go.Proofs.YtaffmgphcmmdhaaGreatDoorX.Lx
theorem upc_nat : ∀ c : UInt8, 97 ≤ c.toNat ∧ c.toNat ≤ 122 → ((c.toNat : Int) - 32) % 256 = ((upc c).toNat : Int) := all_u8 (by decide +kernel)
theorem upc_id : ∀ c : UInt8, ¬ (97 ≤ c.toNat ∧ c.toNat ≤ 122) → upc c = c := all_u8 (by decide +kernel)
theorem is39 {c : UInt8} : (c.toNat : Int) = 39 ↔ c = 39 := ⟨fun h => UInt8.toNat_inj.1 (by have : ((39 : UInt8).toNat : Int) = 39 := rfl; omega), fun h => by rw [h]; rfl⟩
theorem cases_go (s : ByteArray) (hz : s.size ≤ 1048576) (X : List TK) (M : Int) (E : Option Int)
    (fin : Ev (fun k => (lex_Lex.f k ⟨(Lx.up false s.data.toList).toArray⟩).bind fun bt264 => ((barbicanlaw18_num.f E).bind fun t269 => ((barbicanlaw18_num.f bt264.2.2).bind fun t270 => (if t269 = t270 then (if M = bt264.2.1 then ((lex_Same.f k X bt264.1).bind fun t271 => (if t271 = true then ((barbicanlaw18_sure.f k).bind fun t272 => (some t272)) else (none))) else (none)) else (none))))) true) :
    ∀ (l : List UInt8) (i : Nat) (x : List UInt8) (q : Bool), s.data.toList.drop i = l → x.length ≤ i → x ++ Lx.up q l = Lx.up false s.data.toList →
    Ev (fun k => barbicanlaw18_LexCases.l0 k s X M E (numsB x) q (i : Int)) true
  | [], i, x, q, h, hx, hu => by
    have h1 := drop_nil h
    rw [size_data] at h1
    refine ev_step (fun _ => barbicanlaw18_LexCases.l0.eq_2 ..) (ev_if_neg (by omega) ?_)
    rw [str_nums]
    have : x = Lx.up false s.data.toList := by rw [← hu]; cases q <;> simp [Lx.up]
    rw [this]
    exact fin
  | c :: l, i, x, q, h, hx, hu => by
    obtain ⟨_, h2, h3⟩ := drop_cons h
    rw [size_data] at h2
    have hlen : (numsB x).length < 140737488355328 := by rw [numsB_length]; omega
    have ih : ∀ (y : UInt8) (q' : Bool), x ++ [y] ++ Lx.up q' l = Lx.up false s.data.toList → Ev (fun k => barbicanlaw18_LexCases.l0 k s X M E (numsB x ++ [(y.toNat : Int)]) q' (wrap64 ((i : Int) + 1))) true := by
      intro y q' hy
      rw [wsucc (by omega)]
      have := cases_go s hz X M E fin l (i + 1) (x ++ [y]) q' h3 (by rw [List.length_append]; simp only [List.length_cons, List.length_nil]; omega) hy
      rw [numsB_app] at this
      exact this
    refine ev_step (fun _ => barbicanlaw18_LexCases.l0.eq_2 ..) (ev_if_pos (by omega) (ev_if_pos (by omega) ?_))
    rw [bt_at h]
    by_cases h39 : c = 39
    · subst h39
      refine ev_if_pos (by decide) ?_
      cases q with
      | true =>
        refine ev_if_pos rfl (ev_if_neg (by decide) (ev_if_pos hlen (ih 39 false ?_)))
        rw [← hu, up_qt]; simp
      | false =>
        refine ev_if_neg (by decide) (ev_if_pos hlen (ih 39 true ?_))
        rw [← hu, up_q]; simp
    · refine ev_if_neg (fun h => h39 (is39.1 h)) ?_
      cases q with
      | true =>
        refine ev_if_pos rfl (ev_if_pos hlen (ih c true ?_))
        rw [← hu, up_ct h39]; simp
      | false =>
        refine ev_if_neg (by decide) ?_
        have hup : x ++ [upc c] ++ Lx.up false l = Lx.up false s.data.toList := by rw [← hu, up_c h39]; simp
        by_cases h97 : (c.toNat : Int) ≥ 97
        · refine ev_if_pos h97 ?_
          by_cases h122 : (c.toNat : Int) ≤ 122
          · refine ev_if_pos h122 (ev_if_pos hlen ?_)
            rw [upc_nat c ⟨by omega, by omega⟩]
            exact ih (upc c) false hup
          · refine ev_if_neg h122 (ev_if_pos hlen ?_)
            rw [upc_id c (fun hh => h122 (by omega))] at hup
            exact ih c false hup
        · refine ev_if_neg h97 (ev_if_pos hlen ?_)
          rw [upc_id c (fun hh => h97 (by omega))] at hup
          exact ih c false hup
theorem barbicanlaw18_LexCases_pure : barbicanlaw18_LexCases_Pure := by
  intro a0 hm hb
  refine ev_exists ?_
  unfold barbicanlaw18_LexCases.f
  refine ev_bind (Lex_ev a0) ?_
  refine cases_go a0 (by omega) _ _ _ ?_ a0.data.toList 0 [] false rfl (Nat.le_refl _) rfl
  have hl := Lex_ev ⟨(Lx.up false a0.data.toList).toArray⟩
  have e : lexR ⟨(Lx.up false a0.data.toList).toArray⟩ = lexR a0 := by
    unfold lexR
    rw [mk_size, up_len, size_data, mk_list, up_lexL]
  rw [e] at hl
  have hn := lexR_count a0
  have hlen : (lexP [] (lexR a0)).1.length ≤ 1048576 := by
    unfold lexP
    split
    · simp only [List.nil_append, List.length_map]; omega
    · exact Nat.zero_le _
  have hsame := Same_ev (lexP [] (lexR a0)).1 (lexP [] (lexR a0)).1 hlen hlen
  rw [decide_eq_true rfl] at hsame
  refine ev_bind hl (ev_bind_some (ev_bind_some (ev_if_pos rfl (ev_if_pos rfl (ev_bind hsame (ev_if_pos rfl (ev_bind sure_ev (ev_some _))))))))
end Go.Proofs.YtaffmgphcmmdhaaGreatDoor.C
