/- Plain lemmas, without the program: bits of whole numbers, and numbers of seven bits a byte. -/
import Derived.Test.YtljadejgdbemoaaDoorPyXPlain
set_option linter.unusedVariables false
set_option linter.unusedSimpArgs false
namespace Go.Proofs.YtljadejgdbemoaaDoorX
open Go.RowKit Go.Proofs.YtljadejgdbemoaaDoorW.PrintWords

theorem u8or128 {m : Int} (h0 : 0 ≤ m) (h1 : m < 256) : Go.bits .or .u8 m 128 = m % 128 + 128 := by
  have h : ∀ i : Fin 256, Go.bits .or .u8 (i.val : Int) 128 = (i.val : Int) % 128 + 128 := by decide +kernel
  have := h ⟨m.toNat, by omega⟩
  simpa [Int.toNat_of_nonneg h0] using this
theorem u64_wrap_id {x : Int} (h0 : 0 ≤ x) (h1 : x < 18446744073709551616) : IntKind.u64.wrap x = x := by
  simp [IntKind.wrap, IntKind.bits, IntKind.signed]; omega
theorem u64_wrap (x : Int) : IntKind.u64.wrap x = x % 18446744073709551616 := by
  simp [IntKind.wrap, IntKind.bits, IntKind.signed]
theorem ofInt_toNat64 {x : Int} (h0 : 0 ≤ x) (h1 : x < 18446744073709551616) : ((BitVec.ofInt 64 x).toNat : Int) = x := by
  rw [BitVec.toNat_ofInt]; omega
theorem u64_xor (x y : Int) : Go.bits .xor .u64 x y = (((BitVec.ofInt 64 x).toNat ^^^ (BitVec.ofInt 64 y).toNat : Nat) : Int) := by
  show IntKind.u64.wrap (((BitVec.ofInt 64 x ^^^ BitVec.ofInt 64 y).toNat : Nat) : Int) = _
  rw [u64_wrap_id (by omega) (by have := (BitVec.ofInt 64 x ^^^ BitVec.ofInt 64 y).isLt; omega), BitVec.toNat_xor]
theorem u64_xor_zero {x : Int} (h0 : 0 ≤ x) (h1 : x < 18446744073709551616) : Go.bits .xor .u64 x 0 = x := by
  rw [u64_xor]
  have : (BitVec.ofInt 64 0).toNat = 0 := by decide
  rw [this, Nat.xor_zero]; exact ofInt_toNat64 h0 h1
theorem u64_xor_ones {x : Int} (h0 : 0 ≤ x) (h1 : x < 18446744073709551616) : Go.bits .xor .u64 x 18446744073709551615 = 18446744073709551615 - x := by
  have e : (BitVec.ofInt 64 18446744073709551615) = BitVec.allOnes 64 := by decide
  have h := ofInt_toNat64 h0 h1
  rw [u64_xor, e, ← BitVec.toNat_xor, BitVec.xor_allOnes, BitVec.toNat_not]
  have := (BitVec.ofInt 64 x).isLt
  omega
/-- A whole number's zigzag. -/
def zz (a : Int) : Nat := if 0 ≤ a then (2 * a).toNat else (-2 * a - 1).toNat
theorem zz_lt {a : Int} (h0 : -9223372036854775808 ≤ a) (h1 : a ≤ 9223372036854775807) : zz a < 18446744073709551616 := by
  unfold zz; split <;> omega
theorem zz_bits {a : Int} (h0 : -9223372036854775808 ≤ a) (h1 : a ≤ 9223372036854775807) : Go.bits .xor .u64 (IntKind.u64.wrap ((IntKind.u64.wrap a) * 2)) (IntKind.u64.wrap (a / 9223372036854775808)) = (zz a : Int) := by
  rw [u64_wrap, u64_wrap, u64_wrap]
  unfold zz
  by_cases h : 0 ≤ a
  · have e : a / 9223372036854775808 % 18446744073709551616 = 0 := by omega
    rw [if_pos h, e, u64_xor_zero (by omega) (by omega)]; omega
  · have e : a / 9223372036854775808 % 18446744073709551616 = 18446744073709551615 := by omega
    rw [if_neg h, e, u64_xor_ones (by omega) (by omega)]; omega
/-- Seven bits a byte. -/
def uvar (n : Nat) : List Int := if h : n < 128 then [(n : Int)] else (((n % 128 + 128 : Nat) : Int)) :: uvar (n / 128)
termination_by n
decreasing_by omega
theorem uvar_small {n : Nat} (h : n < 128) : uvar n = [(n : Int)] := by rw [uvar]; simp [h]
theorem uvar_big {n : Nat} (h : ¬ n < 128) : uvar n = ((n % 128 + 128 : Nat) : Int) :: uvar (n / 128) := by
  rw [uvar.eq_1 n, dif_neg h]
theorem uvar_range (n : Nat) : ∀ x ∈ uvar n, 0 ≤ x ∧ x ≤ 255 := by
  induction n using Nat.strongRecOn with
  | ind n ih =>
    by_cases h : n < 128
    · rw [uvar_small h]; intro x hx; simp at hx; omega
    · rw [uvar_big h]; intro x hx
      rcases List.mem_cons.1 hx with rfl | hx
      · omega
      · exact ih (n / 128) (by omega) x hx
theorem uvar_length (b : Nat) : ∀ n, n < 128 ^ b → (uvar n).length ≤ max b 1 := by
  induction b with
  | zero => intro n h; rw [uvar_small (by omega)]; simp
  | succ b ih =>
    intro n h
    by_cases hn : n < 128
    · rw [uvar_small hn]; simp only [List.length_cons, List.length_nil]; omega
    · rw [uvar_big hn]
      have := ih (n / 128) (by rw [Nat.pow_succ] at h; omega)
      simp only [List.length_cons]
      rcases Nat.eq_zero_or_pos b with rfl | hb
      · simp at h; omega
      · omega
theorem uvar_len64 {n : Nat} (h : n < 18446744073709551616) : (uvar n).length ≤ 10 := by
  have h2 : (128:Nat) ^ 10 = 1180591620717411303424 := by decide
  exact uvar_length 10 n (by omega)
end Go.Proofs.YtljadejgdbemoaaDoorX
