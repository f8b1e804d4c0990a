/- Plain lemmas, without the program: texts of plain letters; bytes as numbers; loops by their rounds. -/
import Derived.Shelf.GgClosure.StringsIndexFunc
import Derived.Test.YtddkbhglbkfelaaGreatDoorPkWWords
set_option linter.unusedVariables false
set_option linter.unusedSimpArgs false
namespace Go.Proofs.YtddkbhglbkfelaaGreatDoorX
open Go.RowKit Go.Proofs.YtddkbhglbkfelaaGreatDoorW.PrintWords

theorem toList_data (s : ByteArray) : s.toList = s.data.toList := ByteArray.toList_eq s
theorem size_data (s : ByteArray) : s.data.toList.length = s.size := by rw [Array.length_toList]; rfl

/-! ### rounds -/
theorem ev_step {α : Type} {g f : Nat → Option α} {r : α} (h : ∀ k, g (k + 1) = f k) (hf : Ev f r) : Ev g r := Ev.step h hf
theorem ev_bind {α β : Type} {g : Nat → Option α} {f : Nat → α → Option β} {a : α} {r : β} (h : Ev g a) (k : Ev (fun n => f n a) r) : Ev (fun n => (g n).bind (f n)) r := Ev.bind h k
theorem ev_if_pos {α : Type} {c : Prop} [Decidable c] {f g : Nat → Option α} {r : α} (hc : c) (h : Ev f r) : Ev (fun k => if c then f k else g k) r := by simpa [hc] using h
theorem ev_if_neg {α : Type} {c : Prop} [Decidable c] {f g : Nat → Option α} {r : α} (hc : ¬ c) (h : Ev g r) : Ev (fun k => if c then f k else g k) r := by simpa [hc] using h
theorem ev_some {α : Type} (r : α) : Ev (fun _ => some r) r := ⟨0, fun _ _ => rfl⟩
theorem ev_bind_some {α β : Type} {f : Nat → α → Option β} {a : α} {r : β} (k : Ev (fun n => f n a) r) : Ev (fun n => (some a).bind (f n)) r := k

/-! ### numbers -/
theorem wrap_succ {j : Nat} (h : j < 9223372036854775807) : wrap64 ((j : Int) + 1) = ((j + 1 : Nat) : Int) := by unfold wrap64; omega
theorem wf_i64 {n : Int} (h : (Lit.int .i64 n).wf = true) : -9223372036854775808 ≤ n ∧ n ≤ 9223372036854775807 := by
  simp [Lit.wf, IntKind.min, IntKind.max, IntKind.bits, IntKind.signed] at h
  omega

/-! ### texts of plain letters -/
def np (r : Nat) : Bool := decide (r < 32) || decide (126 < r)
def plainC (c : UInt8) : Bool := decide (32 ≤ c.toNat) && decide (c.toNat ≤ 126)
def plainT (s : ByteArray) : Bool := s.data.toList.all plainC
theorem get_bang (s : ByteArray) (i : Nat) (h : i < s.size) : s.get! i = s.data.toList[i]'(by rw [size_data]; exact h) := by
  have h2 : i < s.data.size := h
  have : s.get! i = s.data[i]! := by cases s; rfl
  rw [this, getElem!_pos s.data i h2]
  simp
theorem decode_low (s : ByteArray) (i : Nat) (h : (s.get! i).toNat < 128) : Utf8.decode s i = ((s.get! i).toNat, 1) := by
  unfold Utf8.decode
  simp only [Nat.add_zero]
  rw [if_pos h]
theorem decode_high (s : ByteArray) (i : Nat) (h : ¬ (s.get! i).toNat < 128) : 128 ≤ (Utf8.decode s i).1 := by
  unfold Utf8.decode
  simp only [Nat.add_zero]
  rw [if_neg h]
  repeat' split
  all_goals first | omega | (rename_i hlast; simp only [Bool.and_eq_true, decide_eq_true_eq] at hlast; omega) | simp [Utf8.runeError]
theorem idxFrom_plain (s : ByteArray) : ∀ (f pos : Nat), s.size ≤ pos + f → (Lib.idxFuncFrom np true s f pos = -1 ↔ ((s.data.toList.drop pos).all plainC = true))
  | 0, pos, h => by
    simp only [Lib.idxFuncFrom, true_iff]
    rw [List.drop_eq_nil_of_le (by rw [size_data]; omega)]
    rfl
  | f + 1, pos, h => by
    unfold Lib.idxFuncFrom
    by_cases hp : pos < s.size
    · rw [if_pos hp]
      have hl : pos < s.data.toList.length := by rw [size_data]; exact hp
      have hd : s.data.toList.drop pos = s.data.toList[pos] :: s.data.toList.drop (pos + 1) := List.drop_eq_getElem_cons hl
      have hg := get_bang s pos hp
      rw [hd, List.all_cons]
      by_cases hb : (s.get! pos).toNat < 128
      · rw [decode_low s pos hb]
        by_cases hn : np (s.get! pos).toNat = true
        · simp only
          rw [if_pos hn]
          have : plainC s.data.toList[pos] = false := by
            rw [← hg]
            unfold np at hn
            unfold plainC
            simp only [Bool.or_eq_true, decide_eq_true_eq] at hn
            simp only [Bool.and_eq_false_iff, decide_eq_false_iff_not]
            omega
          rw [this]
          simp only [Bool.false_and, Bool.false_eq_true, iff_false]
          omega
        · simp only
          rw [if_neg hn]
          have : plainC s.data.toList[pos] = true := by
            rw [← hg]
            unfold np at hn
            unfold plainC
            simp only [Bool.or_eq_true, decide_eq_true_eq, not_or] at hn
            simp only [Bool.and_eq_true, decide_eq_true_eq]
            omega
          rw [this, Bool.true_and]
          exact idxFrom_plain s f (pos + 1) (by omega)
      · have h128 := decode_high s pos hb
        have hn : np (Utf8.decode s pos).1 = true := by
          unfold np
          simp only [Bool.or_eq_true, decide_eq_true_eq]
          omega
        rw [if_pos hn]
        have : plainC s.data.toList[pos] = false := by
          rw [← hg]
          unfold plainC
          simp only [Bool.and_eq_false_iff, decide_eq_false_iff_not]
          omega
        rw [this]
        simp only [Bool.false_and, Bool.false_eq_true, iff_false]
        omega
    · rw [if_neg hp, List.drop_eq_nil_of_le (by rw [size_data]; omega)]
      simp
/-- strings.IndexFunc over 'no plain letter': -1 just where all are plain. -/
theorem idx_plain (s : ByteArray) : 0 ≤ Lib.idxFunc np true s ↔ plainT s = false := by
  have h := idxFrom_plain s s.size 0 (by omega)
  rw [List.drop_zero] at h
  have hr := Lib.idxFunc_range np true s
  have e : Lib.idxFunc np true s = Lib.idxFuncFrom np true s s.size 0 := rfl
  unfold plainT
  constructor
  · intro h0
    rw [← Bool.not_eq_true]
    intro h1
    have := h.2 h1
    omega
  · intro h0
    rcases hr with h1 | h1
    · rw [e] at h1
      have := h.1 h1
      rw [this] at h0; cases h0
    · exact h1.1

/-! ### bytes as numbers -/
theorem bytesOf_range (s : ByteArray) : ∀ x ∈ bytesOf s, 0 ≤ x ∧ x ≤ 255 := by
  intro x hx
  unfold bytesOf at hx
  obtain ⟨b, _, rfl⟩ := List.mem_map.1 hx
  have := b.toNat_lt
  omega
theorem plain_range {s : ByteArray} (h : plainT s = true) : ∀ x ∈ bytesOf s, 32 ≤ x ∧ x ≤ 126 := by
  intro x hx
  unfold bytesOf at hx
  obtain ⟨b, hb, rfl⟩ := List.mem_map.1 hx
  unfold plainT at h
  have := List.all_eq_true.1 h b hb
  unfold plainC at this
  simp only [Bool.and_eq_true, decide_eq_true_eq] at this
  omega
end Go.Proofs.YtddkbhglbkfelaaGreatDoorX
/- Plain lemmas, without the program: bits of whole numbers, and numbers of seven bits a byte. -/
set_option linter.unusedVariables false
set_option linter.unusedSimpArgs false
namespace Go.Proofs.YtddkbhglbkfelaaGreatDoorX
open Go.RowKit Go.Proofs.YtddkbhglbkfelaaGreatDoorW.PrintWords

theorem u8or128 {m : Int} (h0 : 0 ≤ m) (h1 : m < 256) : Go.bits .or .u8 m 128 = m % 128 + 128 := by
  have h : ∀ i : Fin 256, Go.bits .or .u8 (i.val : Int) 128 = (i.val : Int) % 128 + 128 := by decide +kernel
  have := h ⟨m.toNat, by omega⟩
  simpa [Int.toNat_of_nonneg h0] using this
theorem u64_wrap_id {x : Int} (h0 : 0 ≤ x) (h1 : x < 18446744073709551616) : IntKind.u64.wrap x = x := by
  simp [IntKind.wrap, IntKind.bits, IntKind.signed]; omega
theorem u64_wrap (x : Int) : IntKind.u64.wrap x = x % 18446744073709551616 := by
  simp [IntKind.wrap, IntKind.bits, IntKind.signed]
theorem ofInt_toNat64 {x : Int} (h0 : 0 ≤ x) (h1 : x < 18446744073709551616) : ((BitVec.ofInt 64 x).toNat : Int) = x := by
  rw [BitVec.toNat_ofInt]; omega
theorem u64_xor (x y : Int) : Go.bits .xor .u64 x y = (((BitVec.ofInt 64 x).toNat ^^^ (BitVec.ofInt 64 y).toNat : Nat) : Int) := by
  show IntKind.u64.wrap (((BitVec.ofInt 64 x ^^^ BitVec.ofInt 64 y).toNat : Nat) : Int) = _
  rw [u64_wrap_id (by omega) (by have := (BitVec.ofInt 64 x ^^^ BitVec.ofInt 64 y).isLt; omega), BitVec.toNat_xor]
theorem u64_xor_zero {x : Int} (h0 : 0 ≤ x) (h1 : x < 18446744073709551616) : Go.bits .xor .u64 x 0 = x := by
  rw [u64_xor]
  have : (BitVec.ofInt 64 0).toNat = 0 := by decide
  rw [this, Nat.xor_zero]; exact ofInt_toNat64 h0 h1
theorem u64_xor_ones {x : Int} (h0 : 0 ≤ x) (h1 : x < 18446744073709551616) : Go.bits .xor .u64 x 18446744073709551615 = 18446744073709551615 - x := by
  have e : (BitVec.ofInt 64 18446744073709551615) = BitVec.allOnes 64 := by decide
  have h := ofInt_toNat64 h0 h1
  rw [u64_xor, e, ← BitVec.toNat_xor, BitVec.xor_allOnes, BitVec.toNat_not]
  have := (BitVec.ofInt 64 x).isLt
  omega
theorem nat_xor_top {x : Nat} (h : x < 2 ^ 63) : x ^^^ 2 ^ 63 = 2 ^ 63 + x := by
  apply Nat.eq_of_testBit_eq
  intro i
  rw [Nat.testBit_xor, Nat.testBit_two_pow]
  by_cases hi : i = 63
  · subst hi
    rw [Nat.testBit_two_pow_add_eq]; simp
  · have hne : ¬ 63 = i := fun h => hi h.symm
    simp only [hne, decide_false, Bool.xor_false]
    rcases Nat.lt_or_ge i 63 with hlt | hge
    · rw [Nat.testBit_two_pow_add_gt hlt]
    · have hgt : 64 ≤ i := by omega
      have h2 : 2 ^ 64 ≤ 2 ^ i := Nat.pow_le_pow_right (by decide) hgt
      have h3 : (2:Nat) ^ 64 = 2 ^ 63 + 2 ^ 63 := by decide
      rw [Nat.testBit_lt_two_pow (by omega), Nat.testBit_lt_two_pow (by omega)]
theorem u64_xor_top {a : Int} (h0 : -9223372036854775808 ≤ a) (h1 : a ≤ 9223372036854775807) : Go.bits .xor .u64 (IntKind.u64.wrap a) 9223372036854775808 = a + 9223372036854775808 := by
  have ht : (BitVec.ofInt 64 9223372036854775808).toNat = 2 ^ 63 := by decide
  have hp : (2:Nat) ^ 63 = 9223372036854775808 := by decide
  rw [u64_wrap, u64_xor, ht]
  have hx : ((BitVec.ofInt 64 (a % 18446744073709551616)).toNat : Int) = a % 18446744073709551616 := ofInt_toNat64 (by omega) (by omega)
  generalize (BitVec.ofInt 64 (a % 18446744073709551616)).toNat = x at hx
  by_cases hs : x < 2 ^ 63
  · rw [nat_xor_top hs]
    omega
  · obtain ⟨y, rfl⟩ : ∃ y, x = 2 ^ 63 + y := ⟨x - 2 ^ 63, by omega⟩
    have hy : y < 2 ^ 63 := by omega
    rw [← nat_xor_top hy, Nat.xor_assoc, Nat.xor_self, Nat.xor_zero]
    omega
/-- A whole number's zigzag. -/
def zz (a : Int) : Nat := if 0 ≤ a then (2 * a).toNat else (-2 * a - 1).toNat
theorem zz_lt {a : Int} (h0 : -9223372036854775808 ≤ a) (h1 : a ≤ 9223372036854775807) : zz a < 18446744073709551616 := by
  unfold zz; split <;> omega
theorem zz_bits {a : Int} (h0 : -9223372036854775808 ≤ a) (h1 : a ≤ 9223372036854775807) : Go.bits .xor .u64 (IntKind.u64.wrap ((IntKind.u64.wrap a) * 2)) (IntKind.u64.wrap (a / 9223372036854775808)) = (zz a : Int) := by
  rw [u64_wrap, u64_wrap, u64_wrap]
  unfold zz
  by_cases h : 0 ≤ a
  · have e : a / 9223372036854775808 % 18446744073709551616 = 0 := by omega
    rw [if_pos h, e, u64_xor_zero (by omega) (by omega)]; omega
  · have e : a / 9223372036854775808 % 18446744073709551616 = 18446744073709551615 := by omega
    rw [if_neg h, e, u64_xor_ones (by omega) (by omega)]; omega
/-- Seven bits a byte. -/
def uvar (n : Nat) : List Int := if h : n < 128 then [(n : Int)] else (((n % 128 + 128 : Nat) : Int)) :: uvar (n / 128)
termination_by n
decreasing_by omega
theorem uvar_small {n : Nat} (h : n < 128) : uvar n = [(n : Int)] := by rw [uvar]; simp [h]
theorem uvar_big {n : Nat} (h : ¬ n < 128) : uvar n = ((n % 128 + 128 : Nat) : Int) :: uvar (n / 128) := by
  rw [uvar.eq_1 n, dif_neg h]
theorem uvar_range (n : Nat) : ∀ x ∈ uvar n, 0 ≤ x ∧ x ≤ 255 := by
  induction n using Nat.strongRecOn with
  | ind n ih =>
    by_cases h : n < 128
    · rw [uvar_small h]; intro x hx; simp at hx; omega
    · rw [uvar_big h]; intro x hx
      rcases List.mem_cons.1 hx with rfl | hx
      · omega
      · exact ih (n / 128) (by omega) x hx
theorem uvar_length (b : Nat) : ∀ n, n < 128 ^ b → (uvar n).length ≤ max b 1 := by
  induction b with
  | zero => intro n h; rw [uvar_small (by omega)]; simp
  | succ b ih =>
    intro n h
    by_cases hn : n < 128
    · rw [uvar_small hn]; simp only [List.length_cons, List.length_nil]; omega
    · rw [uvar_big hn]
      have := ih (n / 128) (by rw [Nat.pow_succ] at h; omega)
      simp only [List.length_cons]
      rcases Nat.eq_zero_or_pos b with rfl | hb
      · simp at h; omega
      · omega
theorem uvar_len64 {n : Nat} (h : n < 18446744073709551616) : (uvar n).length ≤ 10 := by
  have h2 : (128:Nat) ^ 10 = 1180591620717411303424 := by decide
  exact uvar_length 10 n (by omega)
end Go.Proofs.YtddkbhglbkfelaaGreatDoorX
