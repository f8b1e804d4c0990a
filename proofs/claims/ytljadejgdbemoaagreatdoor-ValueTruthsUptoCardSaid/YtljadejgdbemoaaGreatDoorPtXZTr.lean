/- What the walks of the reference of values compute (truths, order), told plainly. -/
import Derived.Test.YtljadejgdbemoaaGreatDoorPtXZTa
set_option linter.unusedVariables false
set_option linter.unusedSimpArgs false
namespace Go.Proofs.YtljadejgdbemoaaGreatDoor.A
open Go.RowKit Go.Proofs.YtljadejgdbemoaaGreatDoorW.PrintWords Go.Proofs.YtljadejgdbemoaaGreatDoorW.PrintLast Go.Proofs.YtljadejgdbemoaaGreatDoorX
def truR (v : S23) : Int := if v.f0 = 0 then 1 else if v.f0 = 3 then (if v.f3 = true then 2 else 0) else -1
theorem truth_eq (k : Nat) (v : S23) : barbicanref05_truth.f (k + 1) v.f0 v.f1 v.f2 v.f3 = some (truR v) := by
  obtain ⟨a0, a1, a2, a3⟩ := v
  simp only [barbicanref05_truth.f, barbicanref05_truth.j0, truR]
  by_cases ha : a0 = 0 <;> by_cases ha3 : a0 = 3 <;> cases a3 <;> first | (exfalso; omega) | simp [ha, ha3]
theorem refAnd_eq (k : Nat) (a b : S23) : barbicanref05_And.f (k + 2) a.f0 a.f1 a.f2 a.f3 b.f0 b.f1 b.f2 b.f3 = some (flat (eiR false a b).1 ((eiR false a b).2.getD 0)) := by
  simp only [barbicanref05_And.f, barbicanref05_And.j0, truth_eq, barbicanref05_of.f, barbicanref05_Bool.f, Option.bind_some, eiR, okK]
  obtain ⟨a0, a1, a2, a3⟩ := a
  obtain ⟨b0, b1, b2, b3⟩ := b
  by_cases ha : a0 = 0 <;> by_cases ha3 : a0 = 3 <;> by_cases hb : b0 = 0 <;> by_cases hb3 : b0 = 3 <;> cases a3 <;> cases b3 <;> first | (exfalso; omega) | simp [ha, ha3, hb, hb3, flat, z_flat, truR, mn]
theorem refOr_eq (k : Nat) (a b : S23) : barbicanref05_Or.f (k + 2) a.f0 a.f1 a.f2 a.f3 b.f0 b.f1 b.f2 b.f3 = some (flat (eiR true a b).1 ((eiR true a b).2.getD 0)) := by
  simp only [barbicanref05_Or.f, barbicanref05_Or.j0, truth_eq, barbicanref05_of.f, barbicanref05_Bool.f, Option.bind_some, eiR, okK]
  obtain ⟨a0, a1, a2, a3⟩ := a
  obtain ⟨b0, b1, b2, b3⟩ := b
  by_cases ha : a0 = 0 <;> by_cases ha3 : a0 = 3 <;> by_cases hb : b0 = 0 <;> by_cases hb3 : b0 = 3 <;> cases a3 <;> cases b3 <;> first | (exfalso; omega) | simp [ha, ha3, hb, hb3, flat, z_flat, truR, mx]
theorem refNot_eq (k : Nat) (a : S23) : barbicanref05_Not.f (k + 1) a.f0 a.f1 a.f2 a.f3 = some (flat (notR a).1 ((notR a).2.getD 0)) := by
  simp only [barbicanref05_Not.f, truth_eq, barbicanref05_of.f, barbicanref05_Bool.f, Option.bind_some, notR, okK]
  obtain ⟨a0, a1, a2, a3⟩ := a
  by_cases ha : a0 = 0 <;> by_cases ha3 : a0 = 3 <;> cases a3 <;> first | (exfalso; omega) | simp [ha, ha3, flat, z_flat, truR, wrap64]
end Go.Proofs.YtljadejgdbemoaaGreatDoor.A
