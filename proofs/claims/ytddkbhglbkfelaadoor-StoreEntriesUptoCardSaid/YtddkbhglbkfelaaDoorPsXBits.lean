/- Plain lemmas, without the program: bits of whole numbers, and numbers of seven bits a byte. -/
import Derived.Test.YtddkbhglbkfelaaDoorPsXPlain
set_option linter.unusedVariables false
set_option linter.unusedSimpArgs false
namespace Go.Proofs.YtddkbhglbkfelaaDoorX
open Go.RowKit Go.Proofs.YtddkbhglbkfelaaDoorW.PrintWords

theorem u8or128 {m : Int} (h0 : 0 ≤ m) (h1 : m < 256) : Go.bits .or .u8 m 128 = m % 128 + 128 := by
  have h : ∀ i : Fin 256, Go.bits .or .u8 (i.val : Int) 128 = (i.val : Int) % 128 + 128 := by decide +kernel
  have := h ⟨m.toNat, by omega⟩
  simpa [Int.toNat_of_nonneg h0] using this
theorem u64_wrap_id {x : Int} (h0 : 0 ≤ x) (h1 : x < 18446744073709551616) : IntKind.u64.wrap x = x := by
  simp [IntKind.wrap, IntKind.bits, IntKind.signed]; omega
theorem u64_wrap (x : Int) : IntKind.u64.wrap x = x % 18446744073709551616 := by
  simp [IntKind.wrap, IntKind.bits, IntKind.signed]
theorem ofInt_toNat64 {x : Int} (h0 : 0 ≤ x) (h1 : x < 18446744073709551616) : ((BitVec.ofInt 64 x).toNat : Int) = x := by
  rw [BitVec.toNat_ofInt]; omega
theorem u64_xor (x y : Int) : Go.bits .xor .u64 x y = (((BitVec.ofInt 64 x).toNat ^^^ (BitVec.ofInt 64 y).toNat : Nat) : Int) := by
  show IntKind.u64.wrap (((BitVec.ofInt 64 x ^^^ BitVec.ofInt 64 y).toNat : Nat) : Int) = _
  rw [u64_wrap_id (by omega) (by have := (BitVec.ofInt 64 x ^^^ BitVec.ofInt 64 y).isLt; omega), BitVec.toNat_xor]
theorem nat_xor_top {x : Nat} (h : x < 2 ^ 63) : x ^^^ 2 ^ 63 = 2 ^ 63 + x := by
  apply Nat.eq_of_testBit_eq
  intro i
  rw [Nat.testBit_xor, Nat.testBit_two_pow]
  by_cases hi : i = 63
  · subst hi
    rw [Nat.testBit_two_pow_add_eq]; simp
  · have hne : ¬ 63 = i := fun h => hi h.symm
    simp only [hne, decide_false, Bool.xor_false]
    rcases Nat.lt_or_ge i 63 with hlt | hge
    · rw [Nat.testBit_two_pow_add_gt hlt]
    · have hgt : 64 ≤ i := by omega
      have h2 : 2 ^ 64 ≤ 2 ^ i := Nat.pow_le_pow_right (by decide) hgt
      have h3 : (2:Nat) ^ 64 = 2 ^ 63 + 2 ^ 63 := by decide
      rw [Nat.testBit_lt_two_pow (by omega), Nat.testBit_lt_two_pow (by omega)]
theorem u64_xor_top {a : Int} (h0 : -9223372036854775808 ≤ a) (h1 : a ≤ 9223372036854775807) : Go.bits .xor .u64 (IntKind.u64.wrap a) 9223372036854775808 = a + 9223372036854775808 := by
  have ht : (BitVec.ofInt 64 9223372036854775808).toNat = 2 ^ 63 := by decide
  have hp : (2:Nat) ^ 63 = 9223372036854775808 := by decide
  rw [u64_wrap, u64_xor, ht]
  have hx : ((BitVec.ofInt 64 (a % 18446744073709551616)).toNat : Int) = a % 18446744073709551616 := ofInt_toNat64 (by omega) (by omega)
  generalize (BitVec.ofInt 64 (a % 18446744073709551616)).toNat = x at hx
  by_cases hs : x < 2 ^ 63
  · rw [nat_xor_top hs]
    omega
  · obtain ⟨y, rfl⟩ : ∃ y, x = 2 ^ 63 + y := ⟨x - 2 ^ 63, by omega⟩
    have hy : y < 2 ^ 63 := by omega
    rw [← nat_xor_top hy, Nat.xor_assoc, Nat.xor_self, Nat.xor_zero]
    omega
/-- Seven bits a byte. -/
def uvar (n : Nat) : List Int := if h : n < 128 then [(n : Int)] else (((n % 128 + 128 : Nat) : Int)) :: uvar (n / 128)
termination_by n
decreasing_by omega
theorem uvar_small {n : Nat} (h : n < 128) : uvar n = [(n : Int)] := by rw [uvar]; simp [h]
theorem uvar_big {n : Nat} (h : ¬ n < 128) : uvar n = ((n % 128 + 128 : Nat) : Int) :: uvar (n / 128) := by
  rw [uvar.eq_1 n, dif_neg h]
theorem uvar_range (n : Nat) : ∀ x ∈ uvar n, 0 ≤ x ∧ x ≤ 255 := by
  induction n using Nat.strongRecOn with
  | ind n ih =>
    by_cases h : n < 128
    · rw [uvar_small h]; intro x hx; simp at hx; omega
    · rw [uvar_big h]; intro x hx
      rcases List.mem_cons.1 hx with rfl | hx
      · omega
      · exact ih (n / 128) (by omega) x hx
theorem uvar_length (b : Nat) : ∀ n, n < 128 ^ b → (uvar n).length ≤ max b 1 := by
  induction b with
  | zero => intro n h; rw [uvar_small (by omega)]; simp
  | succ b ih =>
    intro n h
    by_cases hn : n < 128
    · rw [uvar_small hn]; simp only [List.length_cons, List.length_nil]; omega
    · rw [uvar_big hn]
      have := ih (n / 128) (by rw [Nat.pow_succ] at h; omega)
      simp only [List.length_cons]
      rcases Nat.eq_zero_or_pos b with rfl | hb
      · simp at h; omega
      · omega
theorem uvar_len64 {n : Nat} (h : n < 18446744073709551616) : (uvar n).length ≤ 10 := by
  have h2 : (128:Nat) ^ 10 = 1180591620717411303424 := by decide
  exact uvar_length 10 n (by omega)
end Go.Proofs.YtddkbhglbkfelaaDoorX
