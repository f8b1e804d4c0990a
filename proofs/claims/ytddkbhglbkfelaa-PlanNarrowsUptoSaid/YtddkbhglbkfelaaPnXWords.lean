/- Words of this session's own for the printed texts: make([]T, 0, m); the premise GW on the world. -/
import Derived.Test.YtddkbhglbkfelaaProg
import Derived.Test.YtddkbhglbkfelaaPnWMore
import Derived.Test.YtddkbhglbkfelaaPnWApart
import Derived.Test.YtddkbhglbkfelaaPnWNEv
import Derived.LaidEql
import Derived.RowKitTokens
set_option linter.unusedVariables false
namespace Go.Proofs.YtddkbhglbkfelaaW.PrintWords
open Go.RowKit
end Go.Proofs.YtddkbhglbkfelaaW.PrintWords
namespace Go
theorem bytesLess_anti : ∀ x y : List UInt8, (!(Op.bytesLess x y || x == y)) = Op.bytesLess y x
  | [], [] => by simp [Op.bytesLess]
  | [], b :: y => by simp [Op.bytesLess]
  | a :: x, [] => by simp [Op.bytesLess]
  | a :: x, b :: y => by
    have ih := bytesLess_anti x y
    simp only [Op.bytesLess]
    by_cases hab : a = b
    · subst hab
      have h1 : ¬ a < a := by simp
      simp only [h1, decide_false, Bool.false_or, beq_self_eq_true, Bool.true_and, ← ih]
      congr 2
      rw [Bool.eq_iff_iff]; simp
    · by_cases hlt : a < b
      · have h2 : ¬ b < a := by simp only [UInt8.lt_iff_toNat_lt] at *; omega
        have h3 : ¬ b = a := fun h => hab h.symm
        simp [hlt, h2, h3]
      · have h2 : b < a := by
          have h4 : ¬ a.toNat = b.toNat := fun h => hab (UInt8.toNat_inj.1 h)
          simp only [UInt8.lt_iff_toNat_lt] at *; omega
        simp [hlt, h2, hab]
/-- '>' and '<=' on strings, by '<'. -/
theorem binOp_string_gtr_x (t : TypeId) (a b : ByteArray) : binOp .gtr t (.string a) (.string b) = pure (.bool (Op.bytesLess b.toList a.toList)) := by
  have h : binOp .gtr t (.string a) (.string b) = pure (.bool !(Op.bytesLess a.toList b.toList || a.toList == b.toList)) := by simp [binOp, Op.stringOp]
  rw [h, bytesLess_anti]
theorem binOp_string_leq_x (t : TypeId) (a b : ByteArray) : binOp .leq t (.string a) (.string b) = pure (.bool !(Op.bytesLess b.toList a.toList)) := by
  have h : binOp .leq t (.string a) (.string b) = pure (.bool (Op.bytesLess a.toList b.toList || a.toList == b.toList)) := by simp [binOp, Op.stringOp]
  rw [h, ← bytesLess_anti a.toList b.toList, Bool.not_not]
attribute [go_sem high] binOp_string_gtr_x binOp_string_leq_x
/-- A cell that is stored twice on end. -/
theorem Proofs.cell_twice_ (w : World) (a : Addr) (u v : Value) (h : (w.cell? a).isSome = true) : ((w.setCell a u).setCell a v).cell? a = some v := World.cell?_setCell_same' _ _ _ (by rw [World.cell?_setCell_same' _ _ _ h]; rfl)
attribute [go_sem high] Proofs.cell_twice_
end Go
namespace Go.Proofs.YtddkbhglbkfelaaW.PrintWords
open Go.RowKit
/-- What was below, and is still, when memory is made, draws are taken and variables of one's own are written. -/
def BwTo_ (n : Nat) (W W' : World) : Prop := ∀ w : World, w.heap.size = n → Below w.heap.size w W → Below w.heap.size w W'
theorem bw_r (n : Nat) (W : World) : BwTo_ n W W := fun _ _ h => h
theorem bw_a {n : Nat} {W W' : World} (h : BwTo_ n W W') (o : Obj) : BwTo_ n W (W'.alloc o) := fun w e k => Go.Proofs.YtddkbhglbkfelaaW.PrintWords.below_alloc (h w e k) o
theorem bw_N {n : Nat} {W W' : World} (h : BwTo_ n W W') (m : Nat) : BwTo_ n W (W'.drewN m) := fun w e k => Go.Proofs.YtddkbhglbkfelaaW.PrintWords.pw_below_drewN (h w e k) m
theorem bw_1 {n : Nat} {W W' : World} (h : BwTo_ n W W') : BwTo_ n W W'.drew := fun w e k => (h w e k).drew
theorem bw_s {n : Nat} {W W' : World} {g j : Nat} {v : Value} (h : BwTo_ n W W') (hg : n ≤ g) : BwTo_ n W (W'.setCell ⟨g, j, none⟩ v) := fun w e k => (h w e k).setCell (by rw [e]; exact hg) _
theorem bw_ {w W W' : World} (h : Below w.heap.size w W) (t : BwTo_ w.heap.size W W' := by ((with_reducible repeat (first | apply Go.Proofs.YtddkbhglbkfelaaW.PrintWords.bw_a | apply Go.Proofs.YtddkbhglbkfelaaW.PrintWords.bw_N | apply Go.Proofs.YtddkbhglbkfelaaW.PrintWords.bw_1 | refine Go.Proofs.YtddkbhglbkfelaaW.PrintWords.bw_s ?_ (Go.Proofs.YtddkbhglbkfelaaW.PrintWords.Aside0.out (by assumption)))); exact Go.Proofs.YtddkbhglbkfelaaW.PrintWords.bw_r _ _)) : Below w.heap.size w W' := t w rfl h
theorem bl_ {w W : World} {g : Nat} {o : Obj} (h : w.heap[g]? = some o) (t : BwTo_ w.heap.size w W := by ((with_reducible repeat (first | apply Go.Proofs.YtddkbhglbkfelaaW.PrintWords.bw_a | apply Go.Proofs.YtddkbhglbkfelaaW.PrintWords.bw_N | apply Go.Proofs.YtddkbhglbkfelaaW.PrintWords.bw_1)); exact Go.Proofs.YtddkbhglbkfelaaW.PrintWords.bw_r _ _)) : W.heap[g]? = some o := ((t w rfl (Below.refl _ _)).block g (Array.getElem?_eq_some_iff.1 h).1).trans h

theorem kN_ {α : Type} {d : Go.Proofs.YtddkbhglbkfelaaW.PrintWords.Kd α} {e base : Nat} {w W : World} {ok : Nat → Prop} {v : Value} {xs : List α} (h : d.N e w base ok v xs) (t : BwTo_ w.heap.size w W := by ((with_reducible repeat (first | apply Go.Proofs.YtddkbhglbkfelaaW.PrintWords.bw_a | apply Go.Proofs.YtddkbhglbkfelaaW.PrintWords.bw_N | apply Go.Proofs.YtddkbhglbkfelaaW.PrintWords.bw_1)); exact Go.Proofs.YtddkbhglbkfelaaW.PrintWords.bw_r _ _)) : d.N e W base ok v xs := Go.Proofs.YtddkbhglbkfelaaW.PrintWords.Kd.N_below h (t w rfl (Below.refl _ _))
theorem kV_ {α : Type} {d : Go.Proofs.YtddkbhglbkfelaaW.PrintWords.Kd α} {e base : Nat} {w W : World} {ok : Nat → Prop} {v : Value} {xs : List α} (h : d.V e w base ok v xs) (t : BwTo_ w.heap.size w W := by ((with_reducible repeat (first | apply Go.Proofs.YtddkbhglbkfelaaW.PrintWords.bw_a | apply Go.Proofs.YtddkbhglbkfelaaW.PrintWords.bw_N | apply Go.Proofs.YtddkbhglbkfelaaW.PrintWords.bw_1)); exact Go.Proofs.YtddkbhglbkfelaaW.PrintWords.bw_r _ _)) : d.V e W base ok v xs := Go.Proofs.YtddkbhglbkfelaaW.PrintWords.Kd.V_below h (t w rfl (Below.refl _ _))
theorem kR_ {α : Type} {d : Go.Proofs.YtddkbhglbkfelaaW.PrintWords.Kd α} {e base : Nat} {w W : World} {ok : Nat → Prop} {v : Value} {xs : List α} (h : d.R e w base ok v xs) (t : BwTo_ w.heap.size w W := by ((with_reducible repeat (first | apply Go.Proofs.YtddkbhglbkfelaaW.PrintWords.bw_a | apply Go.Proofs.YtddkbhglbkfelaaW.PrintWords.bw_N | apply Go.Proofs.YtddkbhglbkfelaaW.PrintWords.bw_1)); exact Go.Proofs.YtddkbhglbkfelaaW.PrintWords.bw_r _ _)) : d.R e W base ok v xs := Go.Proofs.YtddkbhglbkfelaaW.PrintWords.Kd.R_below h (t w rfl (Below.refl _ _))
end Go.Proofs.YtddkbhglbkfelaaW.PrintWords
