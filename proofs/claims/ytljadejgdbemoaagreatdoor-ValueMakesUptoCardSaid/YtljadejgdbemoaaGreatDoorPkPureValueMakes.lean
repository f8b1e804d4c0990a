/- The law ValueMakes, told plainly. -/
import Derived.Test.YtljadejgdbemoaaGreatDoorPkSaidValueMakes
import Derived.Test.YtljadejgdbemoaaGreatDoorPkXMMkK
set_option linter.unusedVariables false
set_option linter.unusedSimpArgs false
namespace Go.Proofs.YtljadejgdbemoaaGreatDoor.K
open Go.RowKit Go.Proofs.YtljadejgdbemoaaGreatDoorW.PrintWords Go.Proofs.YtljadejgdbemoaaGreatDoorW.PrintLast Go.Proofs.YtljadejgdbemoaaGreatDoorX

theorem num_ev (x : Option Int) : Ev (fun _ : Nat => barbicanlaw05_num.f x) (x.getD 0) := ⟨0, fun _ _ => rfl⟩
theorem barbicanlaw05_ValueMakes_pure : barbicanlaw05_ValueMakes_Pure := by
  intro a0 a1 a2 a3 s n _ ha1 _ _ _ _ hz
  have hv : OKv (⟨a0, a1, a2, a3⟩ : S23) := ⟨wf_i64 ha1, by show a2.size ≤ _; omega⟩
  obtain ⟨w, e, p1, p2⟩ := parse_both s (by omega)
  have j2 : ∀ nm : ByteArray, (∃ kn, value_Kind.f n = some kn ∧ kn.toList = nm.toList) → Ev (fun k => barbicanlaw05_ValueMakes.j2 k n (prR ⟨a0, a1, a2, a3⟩).1 (prR ⟨a0, a1, a2, a3⟩).2 (prR ⟨a0, a1, a2, a3⟩).1 ((prR ⟨a0, a1, a2, a3⟩).2.getD 0) e (e.getD 0) nm true a0 a1 a2 a3 w.f0 w.f1 w.f2 w.f3 w.f0 w.f1 w.f2 w.f3) true := by
    rintro nm ⟨kn, hk, hk2⟩
    refine ev_step (fun _ => barbicanlaw05_ValueMakes.j2.eq_2 ..) (ev_if_pos rfl ?_)
    refine ev_bind (valid_ev a0 a1 a2 a3) (ev_bind (num_ev _) (ev_bind (ref_valid_ev a0 a1 a2 a3 (by omega)) (ev_if_pos rfl (ev_if_pos rfl ?_))))
    refine ev_bind (num_ev _) (ev_if_pos rfl (ev_if_pos (by simp) (ev_bind (num_ev _) (ev_if_pos rfl ?_))))
    rw [hk]
    exact ev_bind_some (ev_if_pos hk2 (ev_bind sure_ev (ev_some _)))
  have j1 : ∀ nm : ByteArray, (∃ kn, value_Kind.f n = some kn ∧ kn.toList = nm.toList) → Ev (fun k => barbicanlaw05_ValueMakes.j1 k s n (prR ⟨a0, a1, a2, a3⟩).1 (prR ⟨a0, a1, a2, a3⟩).2 (prR ⟨a0, a1, a2, a3⟩).1 ((prR ⟨a0, a1, a2, a3⟩).2.getD 0) e (e.getD 0) nm a0 a1 a2 a3 w.f0 w.f1 w.f2 w.f3 w.f0 w.f1 w.f2 w.f3) true := by
    intro nm hnm
    refine ev_step (fun _ => barbicanlaw05_ValueMakes.j1.eq_2 ..) ?_
    refine ev_bind (a := (0, 0, ⟨#[]⟩, false)) ⟨0, fun _ _ => rfl⟩ (ev_if_pos (by rw [toList_data]; decide) ?_)
    refine ev_bind (a := (1, n, ⟨#[]⟩, false)) ⟨0, fun _ _ => rfl⟩ (ev_bind (a := (1, n, ⟨#[]⟩, false)) ⟨0, fun _ _ => rfl⟩ (ev_if_pos (by simp) ?_))
    refine ev_bind (a := (2, 0, s, false)) ⟨0, fun _ _ => rfl⟩ (ev_bind (a := (2, 0, s, false)) ⟨0, fun _ _ => rfl⟩ (ev_if_pos (by simp) ?_))
    refine ev_bind (a := (3, 0, ⟨#[]⟩, _)) ⟨0, fun _ _ => rfl⟩ (ev_bind (a := (3, 0, ⟨#[]⟩, _)) ⟨0, fun _ _ => rfl⟩ ?_)
    have hb : ((3 : Int) == 3 && ((0 : Int) == 0 && ((⟨#[]⟩ : ByteArray).toList == (⟨#[]⟩ : ByteArray).toList && (decide (n > 0) == decide (n > 0))))) = true := by simp
    simp only [hb]
    exact j2 nm hnm
  have j0 : ∀ b : Bool, (b = true ↔ 0 ≤ n ∧ n < 4) → Ev (fun k => barbicanlaw05_ValueMakes.j0 k s n (prR ⟨a0, a1, a2, a3⟩).1 (prR ⟨a0, a1, a2, a3⟩).2 (prR ⟨a0, a1, a2, a3⟩).1 ((prR ⟨a0, a1, a2, a3⟩).2.getD 0) e (e.getD 0) ⟨#[]⟩ b a0 a1 a2 a3 w.f0 w.f1 w.f2 w.f3 w.f0 w.f1 w.f2 w.f3) true := by
    intro b hb
    refine ev_step (fun _ => barbicanlaw05_ValueMakes.j0.eq_2 ..) ?_
    by_cases h : 0 ≤ n ∧ n < 4
    · refine ev_if_pos (hb.2 h) (ev_bind_some (ev_if_pos h.1 (ev_if_pos (by simpa using h.2) (j1 _ ?_))))
      have h4 : n = 0 ∨ n = 1 ∨ n = 2 ∨ n = 3 := by omega
      rcases h4 with rfl | rfl | rfl | rfl
      · exact ⟨_, rfl, rfl⟩
      · exact ⟨_, rfl, rfl⟩
      · exact ⟨_, rfl, rfl⟩
      · exact ⟨_, rfl, rfl⟩
    · refine ev_if_neg (fun hh => h (hb.1 hh)) (j1 _ ?_)
      refine ⟨⟨#[]⟩, ?_, rfl⟩
      unfold value_Kind.f
      rw [if_neg (by omega), if_neg (by omega), if_neg (by omega), if_neg (by omega)]
  refine ev_exists (g := fun k => barbicanlaw05_ValueMakes.f k a0 a1 a2 a3 s n) ?_
  unfold barbicanlaw05_ValueMakes.f
  refine ev_bind (ev_at 2 fun k => print_eq k hv) (ev_bind (refprint_ev hv) (ev_bind p1 (ev_bind p2 ?_)))
  by_cases h0 : n ≥ 0
  · refine ev_if_pos h0 (j0 _ ?_)
    rw [decide_eq_true_eq]; omega
  · refine ev_if_neg h0 (j0 _ ?_)
    simp only [Bool.false_eq_true, false_iff]; omega
end Go.Proofs.YtljadejgdbemoaaGreatDoor.K
