/- Words of this session's own for the printed texts: make([]T, 0, m); the premise GW on the world. -/
import Derived.Test.YtddkbhglbkfelaaGreatDoorProg
import Derived.Test.YtddkbhglbkfelaaGreatDoorPkWMore
import Derived.Test.YtddkbhglbkfelaaGreatDoorPkWApart
import Derived.Test.YtddkbhglbkfelaaGreatDoorPkWNEv
import Derived.LaidEql
import Derived.RowKitTokens
set_option linter.unusedVariables false
namespace Go.Proofs.YtddkbhglbkfelaaGreatDoorW.PrintWords
open Go.RowKit
namespace Kd
variable {P : Program} {ops : Array Oper} {rest : List Oper} {o : Oper} {a : Act} {Q : Exit → Act → World → Prop}
/-- make([]T, 0, m): an empty row with room. -/
theorem R_make0 {α : Type} (d : Kd α) {w0 W : World} (base e : Nat) (hgd : o.guard = none) {N : Tmp} (_hd : o.dst = some N) (t : TypeId) (x y : Operand) (ho : o.op = .makeSlice t x y) (m : Int) (hx : a.eval x = .int .i64 0) (hy : a.eval y = .int .i64 m)
    (ht : P.underlying t = some (.slice e)) (z : Value) (bytes : Nat) (hinfo : (P.info? e).map (fun i => (i.zero, i.size, i.bytes)) = some (some z, d.sz, bytes)) (hz : z.cells.size = d.sz) (hs0 : 0 < d.sz) (hb0 : 0 < bytes)
    {ok : Nat → Prop} (hfresh : ok W.heap.size) (h0 : 0 ≤ m) (hl : m.toNat * bytes ≤ 281474976710656) (HB : Below base w0 W) (hbase : base ≤ W.heap.size)
    (h : ∀ v1 w1, d.R e w1 base ok v1 [] → Below base w0 w1 → W.grownBy w1 none → (∃ b, v1.ownBlock = some b ∧ W.heap.size ≤ b) → wpList P ops Q rest (a.put o.dst v1) w1) : wpList P ops Q (o :: rest) a W := by
  obtain ⟨c, rfl⟩ := Int.eq_ofNat_of_zero_le h0
  simp only [Int.toNat_natCast] at hl
  obtain ⟨i0, hi, hzz⟩ := Option.map_eq_some_iff.1 hinfo
  simp only [Prod.mk.injEq] at hzz
  obtain ⟨hz0, hz1, hz2⟩ := hzz
  have hm : c ≤ 281474976710656 := Nat.le_trans (Nat.le_mul_of_pos_right _ hb0) hl
  have hr := run_make (P := P) W t e i0 z ht hi hz0 .i64 .i64 0 (c : Int) (by omega) (by omega)
    (by
      have h3 : ((i0.bytes * c : Nat) : Int) ≤ 281474976710656 := by rw [hz2, Nat.mul_comm]; omega
      rwa [Int.natCast_mul] at h3) (by omega)
  simp only [Int.toNat_natCast, Int.toNat_zero] at hr
  rw [hz1] at hr
  have hrun : (execOp a.eval o).run P W = .ok (.value (.slice (some ⟨W.heap.size, 0, none⟩) 0 c)) (W.alloc (.cells (madeCells z.cells (c * d.sz)) e)) := by simp [execOp, ho, hx, hy, hr]
  refine event_run hgd hrun (h _ _ ⟨fun k hk => ?_, [], ?_, ?_⟩ (HB.alloc hbase _) (World.grownBy_alloc W _ none) ⟨W.heap.size, by simp [Value.ownBlock], Nat.le_refl _⟩)
  · have : W.heap.size = k := by simpa [Value.ownBlock] using hk
    subst this
    exact hfresh
  · refine ⟨by simp, .inr ⟨W.heap.size, c, madeCells z.cells (c * d.sz), rfl, hbase, ?_, Nat.zero_le _, by simp only [maxLen]; omega, by simp [size_madeCells], by simp⟩⟩
    simpa using heap_alloc_new W (.cells (madeCells z.cells (c * d.sz)) e)
  · exact ⟨by simp, fun j p hj => by simp at hj⟩
end Kd
end Go.Proofs.YtddkbhglbkfelaaGreatDoorW.PrintWords
namespace Go
theorem bytesLess_anti : ∀ x y : List UInt8, (!(Op.bytesLess x y || x == y)) = Op.bytesLess y x
  | [], [] => by simp [Op.bytesLess]
  | [], b :: y => by simp [Op.bytesLess]
  | a :: x, [] => by simp [Op.bytesLess]
  | a :: x, b :: y => by
    have ih := bytesLess_anti x y
    simp only [Op.bytesLess]
    by_cases hab : a = b
    · subst hab
      have h1 : ¬ a < a := by simp
      simp only [h1, decide_false, Bool.false_or, beq_self_eq_true, Bool.true_and, ← ih]
      congr 2
      rw [Bool.eq_iff_iff]; simp
    · by_cases hlt : a < b
      · have h2 : ¬ b < a := by simp only [UInt8.lt_iff_toNat_lt] at *; omega
        have h3 : ¬ b = a := fun h => hab h.symm
        simp [hlt, h2, h3]
      · have h2 : b < a := by
          have h4 : ¬ a.toNat = b.toNat := fun h => hab (UInt8.toNat_inj.1 h)
          simp only [UInt8.lt_iff_toNat_lt] at *; omega
        simp [hlt, h2, hab]
/-- '>' and '<=' on strings, by '<'. -/
theorem binOp_string_gtr_x (t : TypeId) (a b : ByteArray) : binOp .gtr t (.string a) (.string b) = pure (.bool (Op.bytesLess b.toList a.toList)) := by
  have h : binOp .gtr t (.string a) (.string b) = pure (.bool !(Op.bytesLess a.toList b.toList || a.toList == b.toList)) := by simp [binOp, Op.stringOp]
  rw [h, bytesLess_anti]
theorem binOp_string_leq_x (t : TypeId) (a b : ByteArray) : binOp .leq t (.string a) (.string b) = pure (.bool !(Op.bytesLess b.toList a.toList)) := by
  have h : binOp .leq t (.string a) (.string b) = pure (.bool (Op.bytesLess a.toList b.toList || a.toList == b.toList)) := by simp [binOp, Op.stringOp]
  rw [h, ← bytesLess_anti a.toList b.toList, Bool.not_not]
attribute [go_sem high] binOp_string_gtr_x binOp_string_leq_x
/-- A cell that is stored twice on end. -/
theorem Proofs.cell_twice_ (w : World) (a : Addr) (u v : Value) (h : (w.cell? a).isSome = true) : ((w.setCell a u).setCell a v).cell? a = some v := World.cell?_setCell_same' _ _ _ (by rw [World.cell?_setCell_same' _ _ _ h]; rfl)
attribute [go_sem high] Proofs.cell_twice_
end Go
namespace Go.Proofs.YtddkbhglbkfelaaGreatDoorW.PrintWords
open Go.RowKit
/-- What was below, and is still, when memory is made, draws are taken and variables of one's own are written. -/
def BwTo_ (n : Nat) (W W' : World) : Prop := ∀ w : World, w.heap.size = n → Below w.heap.size w W → Below w.heap.size w W'
theorem bw_r (n : Nat) (W : World) : BwTo_ n W W := fun _ _ h => h
theorem bw_a {n : Nat} {W W' : World} (h : BwTo_ n W W') (o : Obj) : BwTo_ n W (W'.alloc o) := fun w e k => Go.Proofs.YtddkbhglbkfelaaGreatDoorW.PrintWords.below_alloc (h w e k) o
theorem bw_N {n : Nat} {W W' : World} (h : BwTo_ n W W') (m : Nat) : BwTo_ n W (W'.drewN m) := fun w e k => Go.Proofs.YtddkbhglbkfelaaGreatDoorW.PrintWords.qbN (h w e k) m
theorem bw_1 {n : Nat} {W W' : World} (h : BwTo_ n W W') : BwTo_ n W W'.drew := fun w e k => (h w e k).drew
theorem bw_s {n : Nat} {W W' : World} {g j : Nat} {v : Value} (h : BwTo_ n W W') (hg : n ≤ g) : BwTo_ n W (W'.setCell ⟨g, j, none⟩ v) := fun w e k => (h w e k).setCell (by rw [e]; exact hg) _
theorem bw_ {w W W' : World} (h : Below w.heap.size w W) (t : BwTo_ w.heap.size W W' := by ((with_reducible repeat (first | apply Go.Proofs.YtddkbhglbkfelaaGreatDoorW.PrintWords.bw_a | apply Go.Proofs.YtddkbhglbkfelaaGreatDoorW.PrintWords.bw_N | apply Go.Proofs.YtddkbhglbkfelaaGreatDoorW.PrintWords.bw_1 | refine Go.Proofs.YtddkbhglbkfelaaGreatDoorW.PrintWords.bw_s ?_ (Go.Proofs.YtddkbhglbkfelaaGreatDoorW.PrintWords.Aside0.out (by assumption)))); exact Go.Proofs.YtddkbhglbkfelaaGreatDoorW.PrintWords.bw_r _ _)) : Below w.heap.size w W' := t w rfl h
theorem bl_ {w W : World} {g : Nat} {o : Obj} (h : w.heap[g]? = some o) (t : BwTo_ w.heap.size w W := by ((with_reducible repeat (first | apply Go.Proofs.YtddkbhglbkfelaaGreatDoorW.PrintWords.bw_a | apply Go.Proofs.YtddkbhglbkfelaaGreatDoorW.PrintWords.bw_N | apply Go.Proofs.YtddkbhglbkfelaaGreatDoorW.PrintWords.bw_1)); exact Go.Proofs.YtddkbhglbkfelaaGreatDoorW.PrintWords.bw_r _ _)) : W.heap[g]? = some o := ((t w rfl (Below.refl _ _)).block g (Array.getElem?_eq_some_iff.1 h).1).trans h

theorem kN_ {α : Type} {d : Go.Proofs.YtddkbhglbkfelaaGreatDoorW.PrintWords.Kd α} {e base : Nat} {w W : World} {ok : Nat → Prop} {v : Value} {xs : List α} (h : d.N e w base ok v xs) (t : BwTo_ w.heap.size w W := by ((with_reducible repeat (first | apply Go.Proofs.YtddkbhglbkfelaaGreatDoorW.PrintWords.bw_a | apply Go.Proofs.YtddkbhglbkfelaaGreatDoorW.PrintWords.bw_N | apply Go.Proofs.YtddkbhglbkfelaaGreatDoorW.PrintWords.bw_1)); exact Go.Proofs.YtddkbhglbkfelaaGreatDoorW.PrintWords.bw_r _ _)) : d.N e W base ok v xs := Go.Proofs.YtddkbhglbkfelaaGreatDoorW.PrintWords.Kd.N_below h (t w rfl (Below.refl _ _))
theorem kV_ {α : Type} {d : Go.Proofs.YtddkbhglbkfelaaGreatDoorW.PrintWords.Kd α} {e base : Nat} {w W : World} {ok : Nat → Prop} {v : Value} {xs : List α} (h : d.V e w base ok v xs) (t : BwTo_ w.heap.size w W := by ((with_reducible repeat (first | apply Go.Proofs.YtddkbhglbkfelaaGreatDoorW.PrintWords.bw_a | apply Go.Proofs.YtddkbhglbkfelaaGreatDoorW.PrintWords.bw_N | apply Go.Proofs.YtddkbhglbkfelaaGreatDoorW.PrintWords.bw_1)); exact Go.Proofs.YtddkbhglbkfelaaGreatDoorW.PrintWords.bw_r _ _)) : d.V e W base ok v xs := Go.Proofs.YtddkbhglbkfelaaGreatDoorW.PrintWords.Kd.V_below h (t w rfl (Below.refl _ _))
theorem kR_ {α : Type} {d : Go.Proofs.YtddkbhglbkfelaaGreatDoorW.PrintWords.Kd α} {e base : Nat} {w W : World} {ok : Nat → Prop} {v : Value} {xs : List α} (h : d.R e w base ok v xs) (t : BwTo_ w.heap.size w W := by ((with_reducible repeat (first | apply Go.Proofs.YtddkbhglbkfelaaGreatDoorW.PrintWords.bw_a | apply Go.Proofs.YtddkbhglbkfelaaGreatDoorW.PrintWords.bw_N | apply Go.Proofs.YtddkbhglbkfelaaGreatDoorW.PrintWords.bw_1)); exact Go.Proofs.YtddkbhglbkfelaaGreatDoorW.PrintWords.bw_r _ _)) : d.R e W base ok v xs := Go.Proofs.YtddkbhglbkfelaaGreatDoorW.PrintWords.Kd.R_below h (t w rfl (Below.refl _ _))
/-- A decided fact that stands in the context. -/
theorem ode_ {p : Prop} [Decidable p] (h : decide p = true := by first | (with_reducible assumption) | assumption) : p := of_decide_eq_true h
end Go.Proofs.YtddkbhglbkfelaaGreatDoorW.PrintWords
