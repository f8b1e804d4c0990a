/- Words of this session's own for the printed texts: make([]T, 0, m); the premise GW on the world. -/
import Derived.Test.YtaffmgphcmmdhaaGreatDoorProg
import Derived.Test.YtaffmgphcmmdhaaGreatDoorPyWMore
import Derived.Test.YtaffmgphcmmdhaaGreatDoorPyWApart
import Derived.Test.YtaffmgphcmmdhaaGreatDoorPyWN
import Derived.LaidEql
import Derived.RowKitTokens
set_option linter.unusedVariables false
namespace Go.Proofs.YtaffmgphcmmdhaaGreatDoorW.PrintWords
open Go.RowKit
end Go.Proofs.YtaffmgphcmmdhaaGreatDoorW.PrintWords
namespace Go
theorem bytesLess_anti : ∀ x y : List UInt8, (!(Op.bytesLess x y || x == y)) = Op.bytesLess y x
  | [], [] => by simp [Op.bytesLess]
  | [], b :: y => by simp [Op.bytesLess]
  | a :: x, [] => by simp [Op.bytesLess]
  | a :: x, b :: y => by
    have ih := bytesLess_anti x y
    simp only [Op.bytesLess]
    by_cases hab : a = b
    · subst hab
      have h1 : ¬ a < a := by simp
      simp only [h1, decide_false, Bool.false_or, beq_self_eq_true, Bool.true_and, ← ih]
      congr 2
      rw [Bool.eq_iff_iff]; simp
    · by_cases hlt : a < b
      · have h2 : ¬ b < a := by simp only [UInt8.lt_iff_toNat_lt] at *; omega
        have h3 : ¬ b = a := fun h => hab h.symm
        simp [hlt, h2, h3]
      · have h2 : b < a := by
          have h4 : ¬ a.toNat = b.toNat := fun h => hab (UInt8.toNat_inj.1 h)
          simp only [UInt8.lt_iff_toNat_lt] at *; omega
        simp [hlt, h2, hab]
/-- '>' and '<=' on strings, by '<'. -/
theorem binOp_string_gtr_x (t : TypeId) (a b : ByteArray) : binOp .gtr t (.string a) (.string b) = pure (.bool (Op.bytesLess b.toList a.toList)) := by
  have h : binOp .gtr t (.string a) (.string b) = pure (.bool !(Op.bytesLess a.toList b.toList || a.toList == b.toList)) := by simp [binOp, Op.stringOp]
  rw [h, bytesLess_anti]
theorem binOp_string_leq_x (t : TypeId) (a b : ByteArray) : binOp .leq t (.string a) (.string b) = pure (.bool !(Op.bytesLess b.toList a.toList)) := by
  have h : binOp .leq t (.string a) (.string b) = pure (.bool (Op.bytesLess a.toList b.toList || a.toList == b.toList)) := by simp [binOp, Op.stringOp]
  rw [h, ← bytesLess_anti a.toList b.toList, Bool.not_not]
attribute [go_sem high] binOp_string_gtr_x binOp_string_leq_x
/-- A cell that is stored twice on end. -/
theorem Proofs.cell_twice_ (w : World) (a : Addr) (u v : Value) (h : (w.cell? a).isSome = true) : ((w.setCell a u).setCell a v).cell? a = some v := World.cell?_setCell_same' _ _ _ (by rw [World.cell?_setCell_same' _ _ _ h]; rfl)
attribute [go_sem high] Proofs.cell_twice_
end Go
