/- The law ValueNulls, told plainly. -/
import Derived.Test.YtljadejgdbemoaaDoorPnSaidValueNulls
import Derived.Test.YtljadejgdbemoaaDoorPnXZTaU
import Derived.Test.YtljadejgdbemoaaDoorPnXZVldU
set_option linter.unusedVariables false
set_option linter.unusedSimpArgs false
namespace Go.Proofs.YtljadejgdbemoaaDoor.U
open Go.RowKit Go.Proofs.YtljadejgdbemoaaDoorW.PrintWords Go.Proofs.YtljadejgdbemoaaDoorW.PrintLast Go.Proofs.YtljadejgdbemoaaDoorX

theorem barbicanlaw05_ValueNulls_pure : barbicanlaw05_ValueNulls_Pure := by
  intro a0 a1 a2 a3 op _ ha1 _ _ hop hs
  have hop : 0 ≤ op ∧ op ≤ 255 := by
    simp [Lit.wf, IntKind.min, IntKind.max, IntKind.bits, IntKind.signed] at hop
    omega
  have ha : fitsI a1 := wf_i64 ha1
  have h00 : fitsI 0 := by unfold fitsI; omega
  refine ev_exists (g := fun k => barbicanlaw05_ValueNulls.f k a0 a1 a2 a3 op) ?_
  unfold barbicanlaw05_ValueNulls.f
  refine ev_bind (valid_ev a0 a1 a2 a3) ?_
  by_cases hv : (vErr a0 a1 a2 a3).isNone = true
  rotate_left
  · exact ev_if_neg hv (ev_bind sure_ev (ev_some _))
  obtain ⟨hk, _⟩ := vErr_none (Option.isNone_iff_eq_none.1 hv)
  have hk2 : 0 ≤ a0 ∧ a0 ≤ 3 := by omega
  refine ev_if_pos hv ?_
  have e0 : Ev (fun _ : Nat => value_Null.f) (0, 0, ⟨#[]⟩, false) := ⟨0, fun _ _ => rfl⟩
  refine ev_bind e0 ?_
  have e1 : Ev (fun k => value_Equal.f k a0 a1 a2 a3 0 0 ⟨#[]⟩ false) (0, 0, ⟨#[]⟩, false, none) := ev_at 3 fun k => by
    refine (equal_eq k ⟨a0, a1, a2, a3⟩ ⟨0, 0, ⟨#[]⟩, false⟩).trans ?_
    unfold ordR
    have c : ¬ ¬ ((0 ≤ a0 ∧ a0 ≤ 3) ∧ ((0 : Int) ≤ 0 ∧ (0 : Int) ≤ 3) ∧ (a0 = 0 ∨ (0 : Int) = 0 ∨ a0 = 0)) := fun h => h ⟨hk2, ⟨by decide, by decide⟩, Or.inr (Or.inl rfl)⟩
    rw [if_neg c, if_pos (Or.inr rfl)]; rfl
  have e2 : Ev (fun k => value_Less.f k 0 0 ⟨#[]⟩ false a0 a1 a2 a3) (0, 0, ⟨#[]⟩, false, none) := ev_at 3 fun k => by
    refine (less_eq k ⟨0, 0, ⟨#[]⟩, false⟩ ⟨a0, a1, a2, a3⟩).trans ?_
    unfold ordR
    have c : ¬ ¬ (((0 : Int) ≤ 0 ∧ (0 : Int) ≤ 3) ∧ (0 ≤ a0 ∧ a0 ≤ 3) ∧ ((0 : Int) = 0 ∨ a0 = 0 ∨ (0 : Int) = a0)) := fun h => h ⟨⟨by decide, by decide⟩, hk2, Or.inl rfl⟩
    rw [if_neg c, if_pos (Or.inl rfl)]; rfl
  refine ev_bind e1 (ev_bind e2 (ev_if_neg (by simp) (ev_if_neg (by simp) (ev_if_pos rfl (ev_if_pos rfl ?_)))))
  refine ev_step (fun _ => barbicanlaw05_ValueNulls.j0.eq_2 ..) (ev_if_neg (by decide) ?_)
  by_cases h1 : a0 = 1
  · subst h1
    have hw : wrap64 op = op := by unfold wrap64; omega
    have hm : Int.tmod op 5 = op % 5 := Int.tmod_eq_emod_of_nonneg hop.1
    refine ev_if_pos rfl ?_
    rw [hw, hm]
    have hc : ∃ c, bt (⟨#[43, 45, 42, 47, 37]⟩ : ByteArray) (op % 5) = c ∧ (c = 43 ∨ c = 45 ∨ c = 42 ∨ c = 47 ∨ c = 37) := by
      have h5 : op % 5 = 0 ∨ op % 5 = 1 ∨ op % 5 = 2 ∨ op % 5 = 3 ∨ op % 5 = 4 := by omega
      rcases h5 with h | h | h | h | h <;> rw [h]
      · exact ⟨43, rfl, by omega⟩
      · exact ⟨45, rfl, by omega⟩
      · exact ⟨42, rfl, by omega⟩
      · exact ⟨47, rfl, by omega⟩
      · exact ⟨37, rfl, by omega⟩
    obtain ⟨c, hc1, hc2⟩ := hc
    rw [hc1]
    have c2 : ¬ ¬ (c = 43 ∨ c = 45 ∨ c = 42 ∨ c = 47 ∨ c = 37) := fun hh => hh hc2
    have e3 : Ev (fun k => value_Reckon.f k c 1 a1 a2 a3 0 0 ⟨#[]⟩ false) (0, 0, ⟨#[]⟩, false, none) := ev_at 3 fun k => by
      refine (reckon_eq k ⟨1, a1, a2, a3⟩ ⟨0, 0, ⟨#[]⟩, false⟩ (by omega) (by omega) ha h00).trans ?_
      unfold reckR
      rw [if_neg c2, if_neg (by simp [okK]), if_pos (Or.inr rfl)]; rfl
    have e4 : Ev (fun k => value_Reckon.f k c 0 0 ⟨#[]⟩ false 1 a1 a2 a3) (0, 0, ⟨#[]⟩, false, none) := ev_at 3 fun k => by
      refine (reckon_eq k ⟨0, 0, ⟨#[]⟩, false⟩ ⟨1, a1, a2, a3⟩ (by omega) (by omega) h00 ha).trans ?_
      unfold reckR
      rw [if_neg c2, if_neg (by simp [okK]), if_pos (Or.inl rfl)]; rfl
    refine ev_if_pos (by omega) (ev_if_pos (by omega) (ev_bind e3 (ev_bind e4 (ev_if_pos (by simp) (ev_if_pos (by simp) (ev_if_pos rfl (ev_if_pos rfl ?_)))))))
    exact ev_bind sure_ev (ev_some _)
  refine ev_if_neg h1 ?_
  by_cases h2 : a0 = 2
  · subst h2
    have e3 : Ev (fun k => value_Join.f k 2 a1 a2 a3 0 0 ⟨#[]⟩ false) (0, 0, ⟨#[]⟩, false, none) := ev_at 3 fun k => by
      refine (join_eq k ⟨2, a1, a2, a3⟩ ⟨0, 0, ⟨#[]⟩, false⟩ (by simp only; show a2.size + 0 ≤ _; omega)).trans ?_
      unfold joinR
      rw [if_neg (by simp [okK]), if_pos (Or.inr rfl)]; rfl
    have e4 : Ev (fun k => value_Join.f k 0 0 ⟨#[]⟩ false 2 a1 a2 a3) (0, 0, ⟨#[]⟩, false, none) := ev_at 3 fun k => by
      refine (join_eq k ⟨0, 0, ⟨#[]⟩, false⟩ ⟨2, a1, a2, a3⟩ (by simp only; show 0 + a2.size ≤ _; omega)).trans ?_
      unfold joinR
      rw [if_neg (by simp [okK]), if_pos (Or.inl rfl)]; rfl
    refine ev_if_pos rfl (ev_bind e3 (ev_bind e4 (ev_if_pos (by simp) (ev_if_pos (by simp) (ev_if_pos rfl (ev_if_pos rfl ?_))))))
    exact ev_bind sure_ev (ev_some _)
  refine ev_if_neg h2 ?_
  exact ev_bind sure_ev (ev_some _)
end Go.Proofs.YtljadejgdbemoaaDoor.U
