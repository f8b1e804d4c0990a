/- What the walks of the layer of values compute (truths, order), told plainly. -/
import Derived.Test.YtljadejgdbemoaaGreatDoorPtXZVa
set_option linter.unusedVariables false
set_option linter.unusedSimpArgs false
namespace Go.Proofs.YtljadejgdbemoaaGreatDoor.A
open Go.RowKit Go.Proofs.YtljadejgdbemoaaGreatDoorW.PrintWords Go.Proofs.YtljadejgdbemoaaGreatDoorW.PrintLast Go.Proofs.YtljadejgdbemoaaGreatDoorX
/-! ### truths -/
def eiR (e : Bool) (a b : S23) : S23 × Option Int :=
  if ¬ (okK 3 a.f0 && okK 3 b.f0) = true then (z23, some 7)
  else if (a.f0 = 3 ∧ a.f3 = e) ∨ (b.f0 = 3 ∧ b.f3 = e) then (⟨3, 0, ⟨#[]⟩, e⟩, none)
  else if a.f0 = 0 ∨ b.f0 = 0 then (z23, none) else (⟨3, 0, ⟨#[]⟩, !e⟩, none)
theorem z_flat : z23 = ⟨0, 0, ⟨#[]⟩, false⟩ := rfl
theorem either_eq (k : Nat) (e : Bool) (a b : S23) : value_either.f (k + 4) a.f0 0 ⟨#[]⟩ a.f3 b.f0 0 ⟨#[]⟩ b.f3 e = some (flat (eiR e a b).1 (eiR e a b).2) := by
  obtain ⟨a0, a1, a2, a3⟩ := a
  obtain ⟨b0, b1, b2, b3⟩ := b
  simp only [value_either.f, value_either.j0, is_two, null_two, value_Bool.f, value_Null.f, Option.bind_some, eiR, okK]
  by_cases ha : a0 = 0 <;> by_cases ha3 : a0 = 3 <;> by_cases hb : b0 = 0 <;> by_cases hb3 : b0 = 3 <;> cases a3 <;> cases b3 <;> cases e <;> first | (exfalso; omega) | simp [ha, ha3, hb, hb3, flat, z_flat]
def notR (a : S23) : S23 × Option Int :=
  if ¬ okK 3 a.f0 = true then (z23, some 7) else if a.f0 = 0 then (z23, none) else (⟨3, 0, ⟨#[]⟩, !a.f3⟩, none)
theorem not_eq (k : Nat) (a : S23) : value_Not.f (k + 2) a.f0 a.f1 a.f2 a.f3 = some (flat (notR a).1 (notR a).2) := by
  obtain ⟨a0, a1, a2, a3⟩ := a
  simp only [value_Not.f, is_one, null_one, value_Bool.f, value_Null.f, Option.bind_some, notR, okK]
  by_cases ha : a0 = 0 <;> by_cases ha3 : a0 = 3 <;> first | (exfalso; omega) | simp [ha, ha3, flat, z_flat]
/-! ### order -/
end Go.Proofs.YtljadejgdbemoaaGreatDoor.A
