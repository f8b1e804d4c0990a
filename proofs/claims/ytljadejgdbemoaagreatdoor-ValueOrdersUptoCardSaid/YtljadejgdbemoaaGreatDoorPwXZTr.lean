/- What the walks of the reference of values compute (truths, order), told plainly. -/
import Derived.Test.YtljadejgdbemoaaGreatDoorPwXZTa
set_option linter.unusedVariables false
set_option linter.unusedSimpArgs false
namespace Go.Proofs.YtljadejgdbemoaaGreatDoor.A
open Go.RowKit Go.Proofs.YtljadejgdbemoaaGreatDoorW.PrintWords Go.Proofs.YtljadejgdbemoaaGreatDoorW.PrintLast Go.Proofs.YtljadejgdbemoaaGreatDoorX
theorem refCompare_eq (k : Nat) (a b : S23) : barbicanref05_Compare.f (k + 1) a.f0 a.f1 a.f2 a.f3 b.f0 b.f1 b.f2 b.f3 = some (cmpR a b) := by
  simp only [barbicanref05_Compare.f, barbicanref05_Compare.j0, cmpR]
  by_cases h : a.f0 = b.f0
  · rw [if_pos h, if_pos h]
    by_cases h1 : a.f0 = 1
    · rw [if_pos h1, if_pos h1]
      unfold cmpI
      simp only [decide_eq_true_eq]
      repeat' split
      all_goals rfl
    rw [if_neg h1, if_neg h1]
    by_cases h2 : a.f0 = 2
    · rw [if_pos h2, if_pos h2]
      unfold cmpT
      repeat' split
      all_goals rfl
    rw [if_neg h2, if_neg h2]
    by_cases h3 : a.f0 = 3
    · rw [if_pos h3, if_pos h3]
      cases a.f3 <;> cases b.f3 <;> rfl
    · rw [if_neg h3, if_neg h3]; rfl
  · rw [if_neg h, if_neg h]
    unfold cmpI
    simp only [decide_eq_true_eq]
    repeat' split
    all_goals rfl
theorem refOrder_eq (k : Nat) (w : Int) (a b : S23) : barbicanref05_Order.f (k + 3) a.f0 a.f1 a.f2 a.f3 b.f0 b.f1 b.f2 b.f3 w = some (flat (ordR (fun c => c == w) a b).1 ((ordR (fun c => c == w) a b).2.getD 0)) := by
  have j1 : ∀ p : Bool, (p = true ↔ (a.f0 = 0 ∨ b.f0 = 0)) → barbicanref05_Order.j1 (k + 2) w p a.f0 a.f1 a.f2 a.f3 b.f0 b.f1 b.f2 b.f3 = some (if a.f0 = 0 ∨ b.f0 = 0 then (0, 0, ⟨#[]⟩, false, 0) else (3, 0, ⟨#[]⟩, (cmpR a b == w), 0)) := by
    intro p hp
    simp only [barbicanref05_Order.j1, refCompare_eq, barbicanref05_Bool.f, Option.bind_some, hp]
    by_cases hz : a.f0 = 0 ∨ b.f0 = 0
    · rw [if_pos hz, if_pos hz]
    · rw [if_neg hz, if_neg hz]
  have j0 : ∀ p : Bool, barbicanref05_Order.j0 (k + 3) w p a.f0 a.f1 a.f2 a.f3 b.f0 b.f1 b.f2 b.f3 = some (if p = true then (0, 0, ⟨#[]⟩, false, 7) else if a.f0 = 0 ∨ b.f0 = 0 then (0, 0, ⟨#[]⟩, false, 0) else (3, 0, ⟨#[]⟩, (cmpR a b == w), 0)) := by
    intro p
    simp only [barbicanref05_Order.j0]
    by_cases h : p = true
    · rw [if_pos h, if_pos h]
    rw [if_neg h, if_neg h]
    by_cases h0 : a.f0 = 0
    · rw [if_pos h0, j1 true (by simp [h0])]
    · rw [if_neg h0, j1 (b.f0 == 0) (by simp [h0])]
  simp only [barbicanref05_Order.f, j0, ordR]
  by_cases h : ((0 ≤ a.f0 ∧ a.f0 ≤ 3) ∧ (0 ≤ b.f0 ∧ b.f0 ≤ 3) ∧ (a.f0 = 0 ∨ b.f0 = 0 ∨ a.f0 = b.f0))
  · have c2 : ¬ ¬ ((0 ≤ a.f0 ∧ a.f0 ≤ 3) ∧ (0 ≤ b.f0 ∧ b.f0 ≤ 3) ∧ (a.f0 = 0 ∨ b.f0 = 0 ∨ a.f0 = b.f0)) := fun hh => hh h
    rw [if_neg c2, if_neg (by omega), if_neg (by omega), if_neg (by omega), if_neg (by omega)]
    by_cases h0 : a.f0 = 0
    · rw [if_pos h0]; simp [h0, flat, z_flat]
    rw [if_neg h0]
    by_cases h1 : b.f0 = 0
    · rw [if_pos h1]; simp [h1, flat, z_flat]
    rw [if_neg h1]
    have he : a.f0 = b.f0 := by omega
    simp [h0, h1, he, flat]
  · rw [if_pos h]
    by_cases g1 : a.f0 < 0
    · rw [if_pos g1]; simp [flat, z_flat]
    rw [if_neg g1]
    by_cases g2 : a.f0 > 3
    · rw [if_pos g2]; simp [flat, z_flat]
    rw [if_neg g2]
    by_cases g3 : b.f0 < 0
    · rw [if_pos g3]; simp [flat, z_flat]
    rw [if_neg g3]
    by_cases g4 : b.f0 > 3
    · rw [if_pos g4]; simp [flat, z_flat]
    rw [if_neg g4]
    rw [if_neg (by omega), if_neg (by omega)]
    have he : ¬ a.f0 = b.f0 := by omega
    simp [he, flat, z_flat]
end Go.Proofs.YtljadejgdbemoaaGreatDoor.A
