/- What the walks of pack.Uint, pack.Int, pack.Text, row.Decode compute, told plainly. -/
import Derived.Test.YtljadejgdbemoaaDoorPyRx12
import Derived.Test.YtljadejgdbemoaaDoorPyXRowV
set_option linter.unusedVariables false
set_option linter.unusedSimpArgs false
namespace Go.Proofs.YtljadejgdbemoaaDoor.R
open Go.RowKit Go.Proofs.YtljadejgdbemoaaDoorW.PrintWords Go.Proofs.YtljadejgdbemoaaDoorW.PrintLast Go.Proofs.YtljadejgdbemoaaDoorX

/-! ### bits -/
theorem u8_low7 {m : Int} (h0 : 0 ≤ m) (h1 : m < 256) : Go.bits .andNot .u8 m 128 = m % 128 := by
  have h : ∀ i : Fin 256, Go.bits .andNot .u8 (i.val : Int) 128 = (i.val : Int) % 128 := by decide +kernel
  have := h ⟨m.toNat, by omega⟩
  simpa [Int.toNat_of_nonneg h0] using this
theorem u64_or (x y : Int) : Go.bits .or .u64 x y = (((BitVec.ofInt 64 x).toNat ||| (BitVec.ofInt 64 y).toNat : Nat) : Int) := by
  show IntKind.u64.wrap (((BitVec.ofInt 64 x ||| BitVec.ofInt 64 y).toNat : Nat) : Int) = _
  rw [u64_wrap_id (by omega) (by have := (BitVec.ofInt 64 x ||| BitVec.ofInt 64 y).isLt; omega), BitVec.toNat_or]
theorem ofInt_nat64 {x : Nat} (h1 : x < 18446744073709551616) : (BitVec.ofInt 64 (x : Int)).toNat = x := by
  rw [BitVec.toNat_ofInt]; omega
theorem pow_128 (i : Nat) : (2 : Nat) ^ (7 * i) = 128 ^ i := by rw [Nat.pow_mul]
/-- One byte more of a number. -/
theorem or_step {v i m : Nat} (hv : v < 128 ^ i) (hm : m * 128 ^ i < 18446744073709551616) (hi : i ≤ 9) : Go.bits .or .u64 (v : Int) (shl .u64 (IntKind.u64.wrap (m : Int)) (IntKind.u64.wrap (wrap64 (7 * (i : Int))))) = ((v + m * 128 ^ i : Nat) : Int) := by
  have hw : wrap64 (7 * (i : Int)) = ((7 * i : Nat) : Int) := by unfold wrap64; omega
  have h1 : 1 ≤ 128 ^ i := Nat.pow_le_pow_right (n := 128) (by decide) (Nat.zero_le i)
  have hm2 : m < 18446744073709551616 := by
    have := Nat.le_mul_of_pos_right m h1
    omega
  have hv2 : v < 18446744073709551616 := by
    have h9 : 128 ^ i ≤ 128 ^ 9 := Nat.pow_le_pow_right (by decide) hi
    have e9 : (128 : Nat) ^ 9 = 9223372036854775808 := by decide
    omega
  have hmin : min (7 * i) 64 = 7 * i := by omega
  rw [hw, u64_wrap_id (x := ((7 * i : Nat) : Int)) (by omega) (by omega), u64_wrap_id (x := (m : Int)) (by omega) (by omega)]
  unfold shl
  rw [Int.toNat_natCast, show IntKind.u64.bits = 64 from rfl, hmin]
  have hp : ((m : Int) * 2 ^ (7 * i)) = ((m * 128 ^ i : Nat) : Int) := by rw [← pow_128 i, Int.natCast_mul, Int.natCast_pow]; rfl
  rw [hp, u64_wrap_id (by omega) (by omega), u64_or, ofInt_nat64 hv2, ofInt_nat64 hm]
  congr 1
  have := Nat.two_pow_add_eq_or_of_lt (i := 7 * i) (b := v) (by rw [pow_128]; exact hv) m
  rw [pow_128, Nat.mul_comm] at this
  rw [Nat.or_comm, ← this, Nat.add_comm]

/-! ### pack.Uint -/
theorem mem_drop_range {x : List Int} (hx : ∀ b ∈ x, 0 ≤ b ∧ b ≤ 255) {i : Nat} {b : Int} {bs : List Int} (h : x.drop i = b :: bs) : 0 ≤ b ∧ b ≤ 255 := hx b (List.mem_of_getElem? (drop_cons h).1)
/-- One round, at a byte that is there. -/
theorem uint_round (x : List Int) (hx : ∀ b ∈ x, 0 ≤ b ∧ b ≤ 255) (i : Nat) (b : Int) (bs : List Int) (hd : x.drop i = b :: bs) (hi : i ≤ 9) (v : Nat) (hv : v < 128 ^ i) (r : Int × Int × Option Int)
    (h1 : i = 9 → 1 < b → r = (0, 0, some 3)) (h2 : b = 0 → 0 < i → r = (0, 0, some 3)) (h3 : (i = 9 → b ≤ 1) → ¬ (b = 0 ∧ 0 < i) → b < 128 → r = (((v + b.toNat * 128 ^ i : Nat) : Int), ((i + 1 : Nat) : Int), none))
    (h4 : (i = 9 → b ≤ 1) → 128 ≤ b → Ev (fun k => pack_Uint.l0 k x ((v + (b.toNat - 128) * 128 ^ i : Nat) : Int) ((i + 1 : Nat) : Int)) r) : Ev (fun k => pack_Uint.l0 k x (v : Int) (i : Int)) r := by
  obtain ⟨x1, x2, x3⟩ := drop_cons hd
  have hb := mem_drop_range hx hd
  refine ev_step (fun _ => pack_Uint.l0.eq_2 ..) ?_
  simp only [show (i : Int) < 10 by omega, show ¬ ((i : Int) = (x.length : Int)) by omega, show 0 ≤ (i : Int) by omega, show (i : Int) < (x.length : Int) by omega, if_true, if_false, rdn_at x1]
  have hj : ∀ f : Bool, (f = true ↔ (i = 9 ∧ 1 < b)) → Ev (fun k => pack_Uint.j1 k x (v : Int) (i : Int) b (i : Int) f) r := by
    intro f hf
    refine ev_step (fun _ => pack_Uint.j1.eq_2 ..) ?_
    by_cases h : f = true
    · obtain ⟨a, c⟩ := hf.1 h
      rw [h1 a c]
      simp only [h, if_true]; exact ev_some _
    · have h9 : i = 9 → b ≤ 1 := fun a => by
        have : ¬ (1 < b) := fun c => h (hf.2 ⟨a, c⟩)
        omega
      have hw : 0 ≤ IntKind.u64.wrap (wrap64 (7 * (i : Int))) := by rw [u64_wrap]; omega
      have e8 : (128 : Nat) ^ 8 = 72057594037927936 := by decide
      have e9 : (128 : Nat) ^ 9 = 9223372036854775808 := by decide
      have hlow : (b % 128).toNat * 128 ^ i < 18446744073709551616 := by
        by_cases hi9 : i = 9
        · subst hi9
          have : (b % 128).toNat ≤ 1 := by have := h9 rfl; omega
          have := Nat.mul_le_mul_right (128 ^ 9) this
          omega
        · have a1 : 128 ^ i ≤ 128 ^ 8 := Nat.pow_le_pow_right (by decide) (by omega)
          have a2 : (b % 128).toNat ≤ 127 := by omega
          have := Nat.mul_le_mul a2 a1
          omega
      have hor : Go.bits .or .u64 (v : Int) (shl .u64 (IntKind.u64.wrap (Go.bits .andNot .u8 b 128)) (IntKind.u64.wrap (wrap64 (7 * (i : Int))))) = ((v + (b % 128).toNat * 128 ^ i : Nat) : Int) := by
        rw [u8_low7 hb.1 (by omega), show b % 128 = (((b % 128).toNat : Nat) : Int) by omega]
        exact or_step hv hlow hi
      simp only [h, hw, if_true, hor, wrap_succ (j := i) (by omega), Bool.false_eq_true, if_false]
      by_cases hb1 : b < 128
      · have e : (b % 128).toNat = b.toNat := by omega
        simp only [hb1, if_true, e]
        by_cases hz : b = 0
        · simp only [hz, if_true]
          by_cases hi0 : (i : Int) > 0
          · rw [h2 hz (by omega)]; exact ev_if_pos hi0 (ev_some _)
          · refine ev_if_neg hi0 ?_
            rw [h3 h9 (by omega) hb1, hz]; exact ev_some _
        · rw [h3 h9 (by omega) hb1]
          exact ev_if_neg hz (ev_some _)
      · have e : (b % 128).toNat = b.toNat - 128 := by omega
        simp only [hb1, if_false, e]
        exact h4 h9 (by omega)
  by_cases h9 : (i : Int) = 9
  · exact ev_if_pos h9 (hj _ (by simp; omega))
  · exact ev_if_neg h9 (hj false (by simp; omega))
/-- What stands there as a number, read. -/
theorem uint_read (x rest : List Int) (hx : ∀ b ∈ x, 0 ≤ b ∧ b ≤ 255) : ∀ (m i v : Nat), x.drop i = uvar m ++ rest → v < 128 ^ i → v + m * 128 ^ i < 18446744073709551616 → (i = 0 ∨ 0 < m) → Ev (fun k => pack_Uint.l0 k x (v : Int) (i : Int)) (((v + m * 128 ^ i : Nat) : Int), ((i + (uvar m).length : Nat) : Int), none) := by
  intro m
  induction m using Nat.strongRecOn with
  | ind m ih =>
    intro i v hd hv hm hz
    have hi : i ≤ 9 := by
      refine Classical.byContradiction fun hn => ?_
      have a1 : 128 ^ 10 ≤ 128 ^ i := Nat.pow_le_pow_right (by decide) (by omega)
      have a2 : 1 * 128 ^ i ≤ m * 128 ^ i := Nat.mul_le_mul_right _ (by omega)
      have e10 : (128 : Nat) ^ 10 = 1180591620717411303424 := by decide
      omega
    have e9 : (128 : Nat) ^ 9 = 9223372036854775808 := by decide
    have hm9 : i = 9 → m ≤ 1 := by
      rintro rfl
      refine Classical.byContradiction fun hn => ?_
      have := Nat.mul_le_mul_right (128 ^ 9) (show 2 ≤ m by omega)
      omega
    by_cases h : m < 128
    · rw [uvar_small h] at hd ⊢
      refine uint_round x hx i (m : Int) rest hd hi v hv _ (fun a c => ?_) (fun a c => ?_) (fun _ _ _ => ?_) (fun _ c => ?_)
      · have := hm9 a; omega
      · omega
      · rw [Int.toNat_natCast]; rfl
      · omega
    · rw [uvar_big h] at hd ⊢
      have hi8 : i ≤ 8 := by
        refine Classical.byContradiction fun hn => ?_
        have := hm9 (by omega); omega
      refine uint_round x hx i ((m % 128 + 128 : Nat) : Int) (uvar (m / 128) ++ rest) hd hi v hv _ (fun a c => by omega) (fun a c => by omega) (fun _ _ c => by omega) (fun _ c => ?_)
      have e : ((m % 128 + 128 : Nat) : Int).toNat - 128 = m % 128 := by omega
      rw [e]
      have hp : 128 ^ (i + 1) = 128 ^ i * 128 := Nat.pow_succ ..
      have hsum : v + m % 128 * 128 ^ i + m / 128 * 128 ^ (i + 1) = v + m * 128 ^ i := by
        rw [hp]
        have : m * 128 ^ i = (m % 128 + m / 128 * 128) * 128 ^ i := by rw [Nat.mod_add_div']
        rw [this, Nat.add_mul, Nat.mul_assoc, Nat.mul_comm 128 (128 ^ i)]
        omega
      have hv' : v + m % 128 * 128 ^ i < 128 ^ (i + 1) := by
        have : m % 128 * 128 ^ i ≤ 127 * 128 ^ i := Nat.mul_le_mul_right _ (by omega)
        omega
      have := ih (m / 128) (by omega) (i + 1) (v + m % 128 * 128 ^ i) (drop_cons hd).2.2 hv' (by rw [hsum]; exact hm) (Or.inr (by omega))
      rw [hsum] at this
      rw [List.length_cons, show i + ((uvar (m / 128)).length + 1) = i + 1 + (uvar (m / 128)).length by omega]
      exact this
theorem uint_dec (n : Nat) (rest : List Int) (hn : n < 18446744073709551616) (hr : ∀ b ∈ rest, 0 ≤ b ∧ b ≤ 255) : Ev (fun k => pack_Uint.f k (uvar n ++ rest)) ((n : Int), ((uvar n).length : Int), none) := by
  have := uint_read (uvar n ++ rest) rest (fun b hb => (List.mem_append.1 hb).elim (uvar_range n b) (hr b)) n 0 0 rfl (by decide) (by simpa using hn) (Or.inl rfl)
  simp only [Nat.pow_zero, Nat.mul_one, Nat.zero_add] at this
  exact this
/-- Whatever stands there: an error, or a number that is written just so. -/
theorem uint_any (x : List Int) (hx : ∀ b ∈ x, 0 ≤ b ∧ b ≤ 255) : ∀ (bs : List Int) (i v : Nat), x.drop i = bs → i ≤ 10 → i ≤ x.length → v < 128 ^ i → ∃ r, Ev (fun k => pack_Uint.l0 k x (v : Int) (i : Int)) r ∧ ((r.1 = 0 ∧ r.2.1 = 0 ∧ r.2.2 ≠ none) ∨ ∃ (m : Nat) (rest : List Int), bs = uvar m ++ rest ∧ r = (((v + m * 128 ^ i : Nat) : Int), ((i + (uvar m).length : Nat) : Int), none) ∧ v + m * 128 ^ i < 18446744073709551616 ∧ (i = 0 ∨ 0 < m))
  | [], i, v, hd, hi, hil, hv => by
    have hl := drop_nil hd
    by_cases h10 : (i : Int) < 10
    · by_cases he : i = x.length
      · refine ⟨(0, 0, some 12), ev_step (fun _ => pack_Uint.l0.eq_2 ..) ?_, Or.inl ⟨rfl, rfl, by simp⟩⟩
        simp only [h10, show (i : Int) = (x.length : Int) by omega, if_true]
        simp only [show (x.length : Int) < 10 by omega, if_true]
        exact ev_some _
      · exact absurd (show i = x.length by omega) he
    · refine ⟨(0, 0, some 3), ev_step (fun _ => pack_Uint.l0.eq_2 ..) ?_, Or.inl ⟨rfl, rfl, by simp⟩⟩
      simp only [h10, if_false]; exact ev_some _
  | b :: bs, i, v, hd, hi, hil, hv => by
    have hb := mem_drop_range hx hd
    by_cases h10 : i = 10
    · refine ⟨(0, 0, some 3), ev_step (fun _ => pack_Uint.l0.eq_2 ..) ?_, Or.inl ⟨rfl, rfl, by simp⟩⟩
      simp only [show ¬ ((i : Int) < 10) by omega, if_false]; exact ev_some _
    · have e9 : (128 : Nat) ^ 9 = 9223372036854775808 := by decide
      have hp : 128 ^ (i + 1) = 128 ^ i * 128 := Nat.pow_succ ..
      by_cases hA : i = 9 ∧ 1 < b
      · exact ⟨(0, 0, some 3), uint_round x hx i b bs hd (by omega) v hv _ (fun _ _ => rfl) (fun _ _ => rfl) (fun a _ _ => by have := a hA.1; omega) (fun a _ => by have := a hA.1; omega), Or.inl ⟨rfl, rfl, by simp⟩⟩
      · have h9 : i = 9 → b ≤ 1 := fun a => by
          have : ¬ 1 < b := fun c => hA ⟨a, c⟩
          omega
        by_cases hB : b = 0 ∧ 0 < i
        · exact ⟨(0, 0, some 3), uint_round x hx i b bs hd (by omega) v hv _ (fun _ _ => rfl) (fun _ _ => rfl) (fun _ a _ => absurd hB a) (fun _ a => by omega), Or.inl ⟨rfl, rfl, by simp⟩⟩
        · by_cases hC : b < 128
          · refine ⟨_, uint_round x hx i b bs hd (by omega) v hv (((v + b.toNat * 128 ^ i : Nat) : Int), ((i + 1 : Nat) : Int), none) (fun a c => absurd ⟨a, c⟩ hA) (fun a c => absurd ⟨a, c⟩ hB) (fun _ _ _ => rfl) (fun _ a => by omega), Or.inr ⟨b.toNat, bs, ?_, ?_, ?_, by omega⟩⟩
            · rw [uvar_small (by omega), show ((b.toNat : Nat) : Int) = b by omega]; rfl
            · rw [uvar_small (by omega)]; rfl
            · by_cases hi9 : i = 9
              · subst hi9
                have := h9 rfl
                have := Nat.mul_le_mul_right (128 ^ 9) (show b.toNat ≤ 1 by omega)
                omega
              · have a1 : 128 ^ i ≤ 128 ^ 8 := Nat.pow_le_pow_right (by decide) (by omega)
                have e8 : (128 : Nat) ^ 8 = 72057594037927936 := by decide
                have := Nat.mul_le_mul (show b.toNat ≤ 127 by omega) a1
                omega
          · have hv' : v + (b.toNat - 128) * 128 ^ i < 128 ^ (i + 1) := by
              have : (b.toNat - 128) * 128 ^ i ≤ 127 * 128 ^ i := Nat.mul_le_mul_right _ (by omega)
              omega
            obtain ⟨r, hr1, hr2⟩ := uint_any x hx bs (i + 1) (v + (b.toNat - 128) * 128 ^ i) (drop_cons hd).2.2 (by omega) (by have := (drop_cons hd).2.1; omega) hv'
            refine ⟨r, uint_round x hx i b bs hd (by omega) v hv r (fun a c => absurd ⟨a, c⟩ hA) (fun a c => absurd ⟨a, c⟩ hB) (fun _ _ a => absurd a hC) (fun _ _ => hr1), hr2.imp id ?_⟩
            rintro ⟨m, rest, rfl, rfl, h3, h4⟩
            have hm : 0 < m := by omega
            have hsum : v + (b.toNat - 128) * 128 ^ i + m * 128 ^ (i + 1) = v + (b.toNat - 128 + m * 128) * 128 ^ i := by
              rw [hp, Nat.add_mul, Nat.mul_assoc, Nat.mul_comm 128 (128 ^ i)]; omega
            refine ⟨b.toNat - 128 + m * 128, rest, ?_, ?_, by rw [← hsum]; exact h3, by omega⟩
            · rw [uvar_big (n := b.toNat - 128 + m * 128) (by omega), show (b.toNat - 128 + m * 128) / 128 = m by omega, show (((b.toNat - 128 + m * 128) % 128 + 128 : Nat) : Int) = b by omega]; rfl
            · rw [hsum, uvar_big (n := b.toNat - 128 + m * 128) (by omega), show (b.toNat - 128 + m * 128) / 128 = m by omega, List.length_cons, show i + ((uvar m).length + 1) = i + 1 + (uvar m).length by omega]
end Go.Proofs.YtljadejgdbemoaaDoor.R
