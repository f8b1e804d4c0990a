/- The law RowChecks, told plainly. -/
import Derived.Test.YtljadejgdbemoaaGreatDoorPqSaidRowChecks
import Derived.Test.YtljadejgdbemoaaGreatDoorPqXCUC
set_option linter.unusedVariables false
set_option linter.unusedSimpArgs false
namespace Go.Proofs.YtljadejgdbemoaaGreatDoor.C
open Go.RowKit Go.Proofs.YtljadejgdbemoaaGreatDoorW.PrintWords Go.Proofs.YtljadejgdbemoaaGreatDoorW.PrintLast Go.Proofs.YtljadejgdbemoaaGreatDoorX

theorem ok_of {V : List S23} (hw : ∀ v ∈ V, W23 v) (ht : (V.map fun e_ => T23 e_).sum ≤ 1048576) : (∀ v ∈ V, OKv v) ∧ V.length ≤ 1048576 ∧ bulk V ≤ 12 * 1048576 := by
  have hs : ∀ (V : List S23), V.length ≤ (V.map fun e_ => T23 e_).sum ∧ bulk V ≤ 12 * (V.map fun e_ => T23 e_).sum ∧ ∀ v ∈ V, v.f2.size ≤ (V.map fun e_ => T23 e_).sum := by
    intro V
    induction V with
    | nil => simp [bulk]
    | cons v vs ih =>
      simp only [List.map_cons, List.sum_cons, List.length_cons, bulk, List.mem_cons]
      have : T23 v = 5 + v.f2.size := by unfold T23; omega
      refine ⟨by omega, by omega, ?_⟩
      rintro x (rfl | hx)
      · omega
      · have := ih.2.2 x hx; omega
  obtain ⟨h1, h2, h3⟩ := hs V
  exact ⟨fun v hv => ⟨wf_i64 (hw v hv).2.1, by have := h3 v hv; omega⟩, by omega, by omega⟩
theorem cols_of {C : List S86} : C.length ≤ (C.map fun e_ => T86 e_).sum := by
  induction C with
  | nil => simp
  | cons c cs ih =>
    simp only [List.map_cons, List.sum_cons, List.length_cons]
    have : T86 c = 5 + c.f0.size := by unfold T86; omega
    omega
theorem barbicanlaw14_RowChecks_pure : barbicanlaw14_RowChecks_Pure := by
  intro n C V _ _ hw ht
  obtain ⟨oV, hlV, hbk⟩ := ok_of hw (by omega)
  have hlC := cols_of (C := C)
  have hkl := keyPos_length C 0
  have tw : Ev (fun _ : Nat => barbicanlaw14_twin.f V) V := ⟨0, fun _ _ => twin_eq (by omega)⟩
  refine ev_exists (g := fun k => barbicanlaw14_RowChecks.f k n C V) ?_
  unfold barbicanlaw14_RowChecks.f
  refine ev_bind tw (ev_bind (key_ev n C V (by omega) oV (by omega) (by omega)) (ev_bind (ref_key_ev n C V (by omega) oV (by omega) (by omega)) ?_))
  refine ev_bind tw (ev_bind (kof_ev n C V (by omega) oV (by omega) (by omega)) (ev_bind (ref_kof_ev n C V (by omega) oV (by omega) (by omega)) ?_))
  refine ev_bind tw (ev_bind (text_ev V oV (by omega)) (ev_bind (ref_text_ev V oV (by omega)) ?_))
  refine ev_bind tw (ev_bind (check_ev n C V (by omega)) (ev_bind (num_ev _) (ev_bind (ref_check_ev n C V (by omega) oV) ?_)))
  refine ev_if_pos rfl (ev_if_pos rfl (ev_bind (num_ev _) (ev_if_pos rfl ?_)))
  refine ev_if_pos rfl (ev_bind (num_ev _) (ev_if_pos rfl ?_))
  refine ev_if_pos rfl (ev_bind (num_ev _) (ev_if_pos rfl ?_))
  refine ev_bind (keys_ev n C (by omega)) (ev_bind (ref_keys_ev n C (by omega)) (ev_bind (ints_ev _ (by omega)) (ev_if_pos rfl ?_)))
  exact ev_bind sure_ev (ev_some _)
end Go.Proofs.YtljadejgdbemoaaGreatDoor.C
