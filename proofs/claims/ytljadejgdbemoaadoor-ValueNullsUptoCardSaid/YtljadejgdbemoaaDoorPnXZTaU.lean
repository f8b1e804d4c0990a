/- What the walks of the layer of values compute (truths, order), told plainly. -/
import Derived.Test.YtljadejgdbemoaaDoorPnXZVaU
set_option linter.unusedVariables false
set_option linter.unusedSimpArgs false
namespace Go.Proofs.YtljadejgdbemoaaDoor.U
open Go.RowKit Go.Proofs.YtljadejgdbemoaaDoorW.PrintWords Go.Proofs.YtljadejgdbemoaaDoorW.PrintLast Go.Proofs.YtljadejgdbemoaaDoorX
/-! ### truths -/
/-! ### order -/
def cmpI (x y : Int) : Int := if x < y then -1 else if x > y then 1 else 0
def cmpT (s t : ByteArray) : Int := if Op.bytesLess s.toList t.toList = true then -1 else if Op.bytesLess t.toList s.toList = true then 1 else 0
def cmpR (a b : S38) : Int :=
  if a.f0 = b.f0 then (if a.f0 = 1 then cmpI a.f1 b.f1 else if a.f0 = 2 then cmpT a.f2 b.f2 else if a.f0 = 3 then (if a.f3 = b.f3 then 0 else if a.f3 = true then 1 else -1) else 0) else cmpI a.f0 b.f0
theorem cmpInt_eq (x y : Int) : cmp_Compare_int.f x y = some (cmpI x y) := by
  unfold cmp_Compare_int.f cmp_isNaN_int.f cmpI
  simp only [bne_self_eq_false, Option.bind_some, Bool.false_eq_true, if_false]
  repeat' split
  all_goals rfl
theorem cmpStr_eq (x y : ByteArray) : cmp_Compare_string.f x y = some (cmpT x y) := by
  unfold cmp_Compare_string.f cmp_isNaN_string.f cmpT
  simp only [bne_self_eq_false, Option.bind_some, Bool.false_eq_true, if_false]
  repeat' split
  all_goals first | rfl | contradiction
theorem cmpI_zero {x y : Int} : cmpI x y = 0 ↔ x = y := by unfold cmpI; repeat' split
                                                           all_goals omega
theorem compare_eq (a b : S38) : value_Compare.f a.f0 a.f1 a.f2 a.f3 b.f0 b.f1 b.f2 b.f3 = some (cmpR a b) := by
  unfold value_Compare.f cmpR
  rw [cmpInt_eq, cmpInt_eq, cmpStr_eq]
  simp only [Option.bind_some, cmpI_zero]
  by_cases h : a.f0 = b.f0
  · rw [if_pos h, if_pos h]
    by_cases h1 : a.f0 = 1
    · rw [if_pos h1, if_pos h1]
    rw [if_neg h1, if_neg h1]
    by_cases h2 : a.f0 = 2
    · rw [if_pos h2, if_pos h2]
    rw [if_neg h2, if_neg h2]
    by_cases h3 : a.f0 = 3
    · rw [if_pos h3, if_pos h3]
      cases a.f3 <;> cases b.f3 <;> rfl
    · rw [if_neg h3, if_neg h3]
  · rw [if_neg h, if_neg h]
theorem cmpR_three (a b : S38) : cmpR a b = -1 ∨ cmpR a b = 0 ∨ cmpR a b = 1 := by
  unfold cmpR cmpI cmpT
  repeat' split
  all_goals simp
def ordR (p : Int → Bool) (a b : S38) : S38 × Option Int :=
  if ¬ ((0 ≤ a.f0 ∧ a.f0 ≤ 3) ∧ (0 ≤ b.f0 ∧ b.f0 ≤ 3) ∧ (a.f0 = 0 ∨ b.f0 = 0 ∨ a.f0 = b.f0)) then (z38, some 7)
  else if a.f0 = 0 ∨ b.f0 = 0 then (z38, none) else (⟨3, 0, ⟨#[]⟩, p (cmpR a b)⟩, none)
theorem kindName (x : Int) : ∃ nm, value_Kind.f x = some nm ∧ (nm.toList = [] ↔ ¬ (0 ≤ x ∧ x ≤ 3)) := by
  unfold value_Kind.f
  by_cases h0 : x = 0
  · subst h0; exact ⟨_, rfl, by rw [toList_data]; decide⟩
  by_cases h1 : x = 1
  · subst h1; exact ⟨_, rfl, by rw [toList_data]; decide⟩
  by_cases h2 : x = 2
  · subst h2; exact ⟨_, rfl, by rw [toList_data]; decide⟩
  by_cases h3 : x = 3
  · subst h3; exact ⟨_, rfl, by rw [toList_data]; decide⟩
  simp only [h0, h1, h2, h3, if_false]
  refine ⟨_, rfl, ?_⟩
  rw [toList_data]
  simp only [true_iff]
  omega
theorem known_eq (k : Nat) (a b : S38) : value_known.f (k + 3) a.f0 a.f1 a.f2 a.f3 b.f0 b.f1 b.f2 b.f3 = some (decide ((0 ≤ a.f0 ∧ a.f0 ≤ 3) ∧ (0 ≤ b.f0 ∧ b.f0 ≤ 3) ∧ (a.f0 = 0 ∨ b.f0 = 0 ∨ a.f0 = b.f0))) := by
  unfold value_known.f
  obtain ⟨n, hn, hn2⟩ := kindName a.f0
  obtain ⟨m, hm, hm2⟩ := kindName b.f0
  rw [hn, hm, null_two]
  simp only [Option.bind_some, hn2, hm2]
  by_cases ha : 0 ≤ a.f0 ∧ a.f0 ≤ 3 <;> by_cases hb : 0 ≤ b.f0 ∧ b.f0 ≤ 3 <;> simp only [ha, hb, not_true_eq_false, not_false_eq_true, if_true, if_false, true_and, false_and, decide_false, and_self, and_false]
  by_cases h0 : a.f0 = 0 <;> by_cases h1 : b.f0 = 0 <;> by_cases h2 : a.f0 = b.f0 <;> simp [h0, h1, h2]
theorem equal_eq (k : Nat) (a b : S38) : value_Equal.f (k + 3) a.f0 a.f1 a.f2 a.f3 b.f0 b.f1 b.f2 b.f3 = some (flat (ordR (fun c => c == 0) a b).1 (ordR (fun c => c == 0) a b).2) := by
  unfold value_Equal.f value_compared_of_Equal_1.f
  rw [known_eq, null_two, compare_eq]
  simp only [Option.bind_some, decide_eq_true_eq, value_Equal_1.f, value_Bool.f, value_Null.f, ordR]
  by_cases h : ((0 ≤ a.f0 ∧ a.f0 ≤ 3) ∧ (0 ≤ b.f0 ∧ b.f0 ≤ 3) ∧ (a.f0 = 0 ∨ b.f0 = 0 ∨ a.f0 = b.f0))
  · have c2 : ¬ ¬ ((0 ≤ a.f0 ∧ a.f0 ≤ 3) ∧ (0 ≤ b.f0 ∧ b.f0 ≤ 3) ∧ (a.f0 = 0 ∨ b.f0 = 0 ∨ a.f0 = b.f0)) := fun hh => hh h
    rw [if_pos h, if_neg c2]
    by_cases hz : a.f0 = 0 ∨ b.f0 = 0
    · have c4 : (decide (a.f0 = 0) || decide (b.f0 = 0)) = true := by simp only [Bool.or_eq_true, decide_eq_true_eq]; exact hz
      rw [if_pos c4, if_pos hz]; rfl
    · have c4 : ¬ (decide (a.f0 = 0) || decide (b.f0 = 0)) = true := by simp only [Bool.or_eq_true, decide_eq_true_eq]; exact hz
      rw [if_neg c4, if_neg hz]; rfl
  · rw [if_neg h, if_pos h]; rfl
theorem less_eq (k : Nat) (a b : S38) : value_Less.f (k + 3) a.f0 a.f1 a.f2 a.f3 b.f0 b.f1 b.f2 b.f3 = some (flat (ordR (fun c => c == -1) a b).1 (ordR (fun c => c == -1) a b).2) := by
  have hl : decide (cmpR a b < 0) = (cmpR a b == -1) := by
    rcases cmpR_three a b with h | h | h <;> rw [h] <;> rfl
  unfold value_Less.f value_compared_of_Less_1.f
  rw [known_eq, null_two, compare_eq]
  simp only [Option.bind_some, decide_eq_true_eq, value_Less_1.f, value_Bool.f, value_Null.f, ordR, hl]
  by_cases h : ((0 ≤ a.f0 ∧ a.f0 ≤ 3) ∧ (0 ≤ b.f0 ∧ b.f0 ≤ 3) ∧ (a.f0 = 0 ∨ b.f0 = 0 ∨ a.f0 = b.f0))
  · have c2 : ¬ ¬ ((0 ≤ a.f0 ∧ a.f0 ≤ 3) ∧ (0 ≤ b.f0 ∧ b.f0 ≤ 3) ∧ (a.f0 = 0 ∨ b.f0 = 0 ∨ a.f0 = b.f0)) := fun hh => hh h
    rw [if_pos h, if_neg c2]
    by_cases hz : a.f0 = 0 ∨ b.f0 = 0
    · have c4 : (decide (a.f0 = 0) || decide (b.f0 = 0)) = true := by simp only [Bool.or_eq_true, decide_eq_true_eq]; exact hz
      rw [if_pos c4, if_pos hz]; rfl
    · have c4 : ¬ (decide (a.f0 = 0) || decide (b.f0 = 0)) = true := by simp only [Bool.or_eq_true, decide_eq_true_eq]; exact hz
      rw [if_neg c4, if_neg hz]; rfl
  · rw [if_neg h, if_pos h]; rfl
end Go.Proofs.YtljadejgdbemoaaDoor.U
