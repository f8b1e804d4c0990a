/- Words of this session's own for the printed texts: make([]T, 0, m); the premise GW on the world. -/
import Derived.Test.YtljadejgdbemoaaGreatDoorProg
import Derived.Test.YtljadejgdbemoaaGreatDoorPqWMore
import Derived.Test.YtljadejgdbemoaaGreatDoorPqWApart
import Derived.Test.YtljadejgdbemoaaGreatDoorPqWN
import Derived.LaidEql
import Derived.RowKitTokens
set_option linter.unusedVariables false
namespace Go.Proofs.YtljadejgdbemoaaGreatDoorW.PrintWords
open Go.RowKit
namespace Kd
variable {P : Program} {ops : Array Oper} {rest : List Oper} {o : Oper} {a : Act} {Q : Exit → Act → World → Prop}
/-- make([]T, 0, m): an empty row with room. -/
theorem R_make0 {α : Type} (d : Kd α) {w0 W : World} (base e : Nat) (hgd : o.guard = none) {N : Tmp} (_hd : o.dst = some N) (t : TypeId) (x y : Operand) (ho : o.op = .makeSlice t x y) (m : Int) (hx : a.eval x = .int .i64 0) (hy : a.eval y = .int .i64 m)
    (ht : P.underlying t = some (.slice e)) (z : Value) (bytes : Nat) (hinfo : (P.info? e).map (fun i => (i.zero, i.size, i.bytes)) = some (some z, d.sz, bytes)) (hz : z.cells.size = d.sz) (hs0 : 0 < d.sz) (hb0 : 0 < bytes)
    {ok : Nat → Prop} (hfresh : ok W.heap.size) (h0 : 0 ≤ m) (hl : m.toNat * bytes ≤ 281474976710656) (HB : Below base w0 W) (hbase : base ≤ W.heap.size)
    (h : ∀ v1 w1, d.R e w1 base ok v1 [] → Below base w0 w1 → W.grownBy w1 none → (∃ b, v1.ownBlock = some b ∧ W.heap.size ≤ b) → wpList P ops Q rest (a.put o.dst v1) w1) : wpList P ops Q (o :: rest) a W := by
  obtain ⟨c, rfl⟩ := Int.eq_ofNat_of_zero_le h0
  simp only [Int.toNat_natCast] at hl
  obtain ⟨i0, hi, hzz⟩ := Option.map_eq_some_iff.1 hinfo
  simp only [Prod.mk.injEq] at hzz
  obtain ⟨hz0, hz1, hz2⟩ := hzz
  have hm : c ≤ 281474976710656 := Nat.le_trans (Nat.le_mul_of_pos_right _ hb0) hl
  have hr := run_make (P := P) W t e i0 z ht hi hz0 .i64 .i64 0 (c : Int) (by omega) (by omega)
    (by
      have h3 : ((i0.bytes * c : Nat) : Int) ≤ 281474976710656 := by rw [hz2, Nat.mul_comm]; omega
      rwa [Int.natCast_mul] at h3) (by omega)
  simp only [Int.toNat_natCast, Int.toNat_zero] at hr
  rw [hz1] at hr
  have hrun : (execOp a.eval o).run P W = .ok (.value (.slice (some ⟨W.heap.size, 0, none⟩) 0 c)) (W.alloc (.cells (madeCells z.cells (c * d.sz)) e)) := by simp [execOp, ho, hx, hy, hr]
  refine event_run hgd hrun (h _ _ ⟨fun k hk => ?_, [], ?_, ?_⟩ (HB.alloc hbase _) (World.grownBy_alloc W _ none) ⟨W.heap.size, by simp [Value.ownBlock], Nat.le_refl _⟩)
  · have : W.heap.size = k := by simpa [Value.ownBlock] using hk
    subst this
    exact hfresh
  · refine ⟨by simp, .inr ⟨W.heap.size, c, madeCells z.cells (c * d.sz), rfl, hbase, ?_, Nat.zero_le _, by simp only [maxLen]; omega, by simp [size_madeCells], by simp⟩⟩
    simpa using heap_alloc_new W (.cells (madeCells z.cells (c * d.sz)) e)
  · exact ⟨by simp, fun j p hj => by simp at hj⟩
end Kd
end Go.Proofs.YtljadejgdbemoaaGreatDoorW.PrintWords
namespace Go
theorem bytesLess_anti : ∀ x y : List UInt8, (!(Op.bytesLess x y || x == y)) = Op.bytesLess y x
  | [], [] => by simp [Op.bytesLess]
  | [], b :: y => by simp [Op.bytesLess]
  | a :: x, [] => by simp [Op.bytesLess]
  | a :: x, b :: y => by
    have ih := bytesLess_anti x y
    simp only [Op.bytesLess]
    by_cases hab : a = b
    · subst hab
      have h1 : ¬ a < a := by simp
      simp only [h1, decide_false, Bool.false_or, beq_self_eq_true, Bool.true_and, ← ih]
      congr 2
      rw [Bool.eq_iff_iff]; simp
    · by_cases hlt : a < b
      · have h2 : ¬ b < a := by simp only [UInt8.lt_iff_toNat_lt] at *; omega
        have h3 : ¬ b = a := fun h => hab h.symm
        simp [hlt, h2, h3]
      · have h2 : b < a := by
          have h4 : ¬ a.toNat = b.toNat := fun h => hab (UInt8.toNat_inj.1 h)
          simp only [UInt8.lt_iff_toNat_lt] at *; omega
        simp [hlt, h2, hab]
/-- '>' and '<=' on strings, by '<'. -/
theorem binOp_string_gtr_x (t : TypeId) (a b : ByteArray) : binOp .gtr t (.string a) (.string b) = pure (.bool (Op.bytesLess b.toList a.toList)) := by
  have h : binOp .gtr t (.string a) (.string b) = pure (.bool !(Op.bytesLess a.toList b.toList || a.toList == b.toList)) := by simp [binOp, Op.stringOp]
  rw [h, bytesLess_anti]
theorem binOp_string_leq_x (t : TypeId) (a b : ByteArray) : binOp .leq t (.string a) (.string b) = pure (.bool !(Op.bytesLess b.toList a.toList)) := by
  have h : binOp .leq t (.string a) (.string b) = pure (.bool (Op.bytesLess a.toList b.toList || a.toList == b.toList)) := by simp [binOp, Op.stringOp]
  rw [h, ← bytesLess_anti a.toList b.toList, Bool.not_not]
attribute [go_sem high] binOp_string_gtr_x binOp_string_leq_x
end Go
