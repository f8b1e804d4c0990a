/- Plain lemmas, without the program: products of 64 bits. -/
import Derived.Test.YtljadejgdbemoaaDoorPdXBits
set_option linter.unusedVariables false
set_option linter.unusedSimpArgs false
namespace Go.Proofs.YtljadejgdbemoaaDoorX
open Go.RowKit Go.Proofs.YtljadejgdbemoaaDoorW.PrintWords
/-! ### products -/
def fitsI (n : Int) : Prop := -9223372036854775808 ≤ n ∧ n ≤ 9223372036854775807
instance (n : Int) : Decidable (fitsI n) := inferInstanceAs (Decidable (_ ∧ _))
theorem bits_and32 {x : Int} (h0 : 0 ≤ x) (h1 : x < 18446744073709551616) : Go.bits .and .u64 x 4294967295 = x % 4294967296 := by
  have hx := ofInt_toNat64 h0 h1
  have e : (BitVec.ofInt 64 4294967295).toNat = 2 ^ 32 - 1 := by decide
  show IntKind.u64.wrap (((BitVec.ofInt 64 x &&& BitVec.ofInt 64 4294967295).toNat : Nat) : Int) = _
  rw [u64_wrap_id (by omega) (by have := (BitVec.ofInt 64 x &&& BitVec.ofInt 64 4294967295).isLt; omega), BitVec.toNat_and, e, Nat.and_two_pow_sub_one_eq_mod]
  omega
/-- bits.Mul64, as the walk tells it. -/
def mulHi (a0 a1 : Int) : Int := (IntKind.u64.wrap ((IntKind.u64.wrap ((IntKind.u64.wrap ((a0 / 4294967296) * (a1 / 4294967296))) + ((IntKind.u64.wrap ((IntKind.u64.wrap ((a0 / 4294967296) * (Go.bits .and .u64 a1 4294967295))) + ((IntKind.u64.wrap ((Go.bits .and .u64 a0 4294967295) * (Go.bits .and .u64 a1 4294967295))) / 4294967296))) / 4294967296))) + ((IntKind.u64.wrap ((Go.bits .and .u64 (IntKind.u64.wrap ((IntKind.u64.wrap ((a0 / 4294967296) * (Go.bits .and .u64 a1 4294967295))) + ((IntKind.u64.wrap ((Go.bits .and .u64 a0 4294967295) * (Go.bits .and .u64 a1 4294967295))) / 4294967296))) 4294967295) + (IntKind.u64.wrap ((Go.bits .and .u64 a0 4294967295) * (a1 / 4294967296))))) / 4294967296)))
theorem mul_bd {a b A B : Int} (ha : 0 ≤ a) (hb : 0 ≤ b) (hA : a ≤ A) (hB : b ≤ B) : 0 ≤ a * b ∧ a * b ≤ A * B :=
  ⟨Int.mul_nonneg ha hb, Int.mul_le_mul hA hB hb (by omega)⟩
theorem mulHi_eq {a b : Int} (ha : 0 ≤ a) (ha1 : a < 18446744073709551616) (hb : 0 ≤ b) (hb1 : b < 18446744073709551616) :
    mulHi a b = a * b / 18446744073709551616 := by
  unfold mulHi
  rw [bits_and32 ha ha1, bits_and32 hb hb1]
  obtain ⟨x1, hx1⟩ : ∃ x, a / 4294967296 = x := ⟨_, rfl⟩
  obtain ⟨x0, hx0⟩ : ∃ x, a % 4294967296 = x := ⟨_, rfl⟩
  obtain ⟨y1, hy1⟩ : ∃ x, b / 4294967296 = x := ⟨_, rfl⟩
  obtain ⟨y0, hy0⟩ : ∃ x, b % 4294967296 = x := ⟨_, rfl⟩
  have ea : a = x1 * 4294967296 + x0 := by omega
  have eb : b = y1 * 4294967296 + y0 := by omega
  rw [hx1, hx0, hy1, hy0]
  have b00 := mul_bd (a := x0) (b := y0) (A := 4294967295) (B := 4294967295) (by omega) (by omega) (by omega) (by omega)
  have b01 := mul_bd (a := x0) (b := y1) (A := 4294967295) (B := 4294967295) (by omega) (by omega) (by omega) (by omega)
  have b10 := mul_bd (a := x1) (b := y0) (A := 4294967295) (B := 4294967295) (by omega) (by omega) (by omega) (by omega)
  have b11 := mul_bd (a := x1) (b := y1) (A := 4294967295) (B := 4294967295) (by omega) (by omega) (by omega) (by omega)
  have eab : a * b = x1 * y1 * 18446744073709551616 + (x1 * y0 + x0 * y1) * 4294967296 + x0 * y0 := by
    rw [ea, eb, Int.add_mul, Int.mul_add, Int.mul_add]
    have h1 : x1 * 4294967296 * (y1 * 4294967296) = x1 * y1 * 18446744073709551616 := by
      rw [Int.mul_assoc, Int.mul_left_comm 4294967296, ← Int.mul_assoc]; rfl
    have h2 : x1 * 4294967296 * y0 = x1 * y0 * 4294967296 := by rw [Int.mul_assoc, Int.mul_comm 4294967296, ← Int.mul_assoc]
    have h3 : x0 * (y1 * 4294967296) = x0 * y1 * 4294967296 := by rw [← Int.mul_assoc]
    rw [h1, h2, h3]; omega
  generalize x0 * y0 = p00 at *
  generalize x0 * y1 = p01 at *
  generalize x1 * y0 = p10 at *
  generalize x1 * y1 = p11 at *
  clear ea eb hx1 hx0 hy1 hy0
  rw [eab]
  have hc : (4294967295 : Int) * 4294967295 = 18446744065119617025 := by decide
  rw [hc] at b00 b01 b10 b11
  rw [u64_wrap_id (x := p00) (by omega) (by omega), u64_wrap_id (x := p10) (by omega) (by omega), u64_wrap_id (x := p11) (by omega) (by omega), u64_wrap_id (x := p01) (by omega) (by omega)]
  rw [u64_wrap_id (x := p10 + p00 / 4294967296) (by omega) (by omega), bits_and32 (by omega) (by omega)]
  rw [u64_wrap, u64_wrap, u64_wrap]
  omega
end Go.Proofs.YtljadejgdbemoaaDoorX
