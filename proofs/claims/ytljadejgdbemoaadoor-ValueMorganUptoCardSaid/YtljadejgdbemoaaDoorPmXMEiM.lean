/- What the walks of value.And, Or, Not compute, told plainly. -/
import Derived.Test.YtljadejgdbemoaaDoorPmXMSmM
set_option linter.unusedVariables false
set_option linter.unusedSimpArgs false
namespace Go.Proofs.YtljadejgdbemoaaDoor.M
open Go.RowKit Go.Proofs.YtljadejgdbemoaaDoorW.PrintWords Go.Proofs.YtljadejgdbemoaaDoorW.PrintLast Go.Proofs.YtljadejgdbemoaaDoorX
def eiR (e : Bool) (a b : S38) : S38 × Option Int :=
  if ¬ (okK 3 a.f0 && okK 3 b.f0) = true then (z38, some 7)
  else if (a.f0 = 3 ∧ a.f3 = e) ∨ (b.f0 = 3 ∧ b.f3 = e) then (⟨3, 0, ⟨#[]⟩, e⟩, none)
  else if a.f0 = 0 ∨ b.f0 = 0 then (z38, none) else (⟨3, 0, ⟨#[]⟩, !e⟩, none)
theorem z_flat : z38 = ⟨0, 0, ⟨#[]⟩, false⟩ := rfl
theorem either_eq (k : Nat) (e : Bool) (a b : S38) : value_either.f (k + 4) a.f0 0 ⟨#[]⟩ a.f3 b.f0 0 ⟨#[]⟩ b.f3 e = some (flat (eiR e a b).1 (eiR e a b).2) := by
  obtain ⟨a0, a1, a2, a3⟩ := a
  obtain ⟨b0, b1, b2, b3⟩ := b
  simp only [value_either.f, value_either.j0, is_two, null_two, value_Bool.f, value_Null.f, Option.bind_some, eiR, okK]
  by_cases ha : a0 = 0 <;> by_cases ha3 : a0 = 3 <;> by_cases hb : b0 = 0 <;> by_cases hb3 : b0 = 3 <;> cases a3 <;> cases b3 <;> cases e <;> first | (exfalso; omega) | simp [ha, ha3, hb, hb3, flat, z_flat]
def notR (a : S38) : S38 × Option Int :=
  if ¬ okK 3 a.f0 = true then (z38, some 7) else if a.f0 = 0 then (z38, none) else (⟨3, 0, ⟨#[]⟩, !a.f3⟩, none)
theorem not_eq (k : Nat) (a : S38) : value_Not.f (k + 2) a.f0 a.f1 a.f2 a.f3 = some (flat (notR a).1 (notR a).2) := by
  obtain ⟨a0, a1, a2, a3⟩ := a
  simp only [value_Not.f, is_one, null_one, value_Bool.f, value_Null.f, Option.bind_some, notR, okK]
  by_cases ha : a0 = 0 <;> by_cases ha3 : a0 = 3 <;> first | (exfalso; omega) | simp [ha, ha3, flat, z_flat]
theorem and_eq (k : Nat) (a b : S38) : value_And.f (k + 4) a.f0 a.f1 a.f2 a.f3 b.f0 b.f1 b.f2 b.f3 = some (flat (eiR false a b).1 (eiR false a b).2) := by
  unfold value_And.f; rw [either_eq]; rfl
theorem or_eq (k : Nat) (a b : S38) : value_Or.f (k + 4) a.f0 a.f1 a.f2 a.f3 b.f0 b.f1 b.f2 b.f3 = some (flat (eiR true a b).1 (eiR true a b).2) := by
  unfold value_Or.f; rw [either_eq]; rfl
end Go.Proofs.YtljadejgdbemoaaDoor.M
