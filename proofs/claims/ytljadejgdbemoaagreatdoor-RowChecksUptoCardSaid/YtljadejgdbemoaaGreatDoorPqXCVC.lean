/- The laws' helpers of layer 14, told plainly. -/
import Derived.Test.YtljadejgdbemoaaGreatDoorPqXCRC
set_option linter.unusedVariables false
set_option linter.unusedSimpArgs false
namespace Go.Proofs.YtljadejgdbemoaaGreatDoor.C
open Go.RowKit Go.Proofs.YtljadejgdbemoaaGreatDoorW.PrintWords Go.Proofs.YtljadejgdbemoaaGreatDoorW.PrintLast Go.Proofs.YtljadejgdbemoaaGreatDoorX
theorem vErr_none {a b : Int} {s : ByteArray} {t : Bool} (h : vErr a b s t = none) : (a = 0 ∨ a = 1 ∨ a = 2 ∨ a = 3) ∧ (a ≠ 1 → b = 0) ∧ (a ≠ 2 → s.toList = []) ∧ (a ≠ 3 → t = false) ∧ s.size ≤ 4096 ∧ plainT s = true := by
  unfold vErr at h
  split at h
  · cases h
  · rename_i h1
    split at h
    · cases h
    · rename_i h2
      split at h
      · cases h
      · rename_i h3
        refine ⟨Classical.byContradiction fun hn => h1 (Or.inl hn), fun hn => Classical.byContradiction fun hb => h1 (Or.inr (Or.inl ⟨hn, hb⟩)), fun hn => Classical.byContradiction fun hb => h1 (Or.inr (Or.inr (Or.inl ⟨hn, hb⟩))), fun hn => ?_, by omega, by simpa using h3⟩
        rw [← Bool.not_eq_true]
        exact fun hb => h1 (Or.inr (Or.inr (Or.inr ⟨hn, hb⟩)))
theorem twin_eq {l : List S23} (h : l.length < 3518437208883) : barbicanlaw14_twin.f l = some l := by
  unfold barbicanlaw14_twin.f
  rw [if_pos (by simpa using h), List.nil_append]
theorem sure_ev : Ev (fun k => barbicanlaw14_sure.f k) true := by
  refine Ev.of (fun k => barbicanlaw14_sure.mono k) (k := 12) ?_
  kernel_rfl
theorem num_ev (x : Option Int) : Ev (fun _ : Nat => barbicanlaw14_num.f x) (x.getD 0) := ⟨0, fun _ _ => rfl⟩
end Go.Proofs.YtljadejgdbemoaaGreatDoor.C
