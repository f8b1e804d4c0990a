/- What the walks of pack.Uint and pack.Text compute, told plainly. -/
import Derived.Test.YtddkbhglbkfelaaGreatDoorPkXTaT
set_option linter.unusedVariables false
set_option linter.unusedSimpArgs false
namespace Go.Proofs.YtddkbhglbkfelaaGreatDoor.T
open Go.RowKit Go.Proofs.YtddkbhglbkfelaaGreatDoorW.PrintWords Go.Proofs.YtddkbhglbkfelaaGreatDoorW.PrintLast Go.Proofs.YtddkbhglbkfelaaGreatDoorX
theorem u8_low7 {m : Int} (h0 : 0 ≤ m) (h1 : m < 256) : Go.bits .andNot .u8 m 128 = m % 128 := by
  have h : ∀ i : Fin 256, Go.bits .andNot .u8 (i.val : Int) 128 = (i.val : Int) % 128 := by decide +kernel
  have := h ⟨m.toNat, by omega⟩
  simpa [Int.toNat_of_nonneg h0] using this
theorem u64_or (x y : Int) : Go.bits .or .u64 x y = (((BitVec.ofInt 64 x).toNat ||| (BitVec.ofInt 64 y).toNat : Nat) : Int) := by
  show IntKind.u64.wrap (((BitVec.ofInt 64 x ||| BitVec.ofInt 64 y).toNat : Nat) : Int) = _
  rw [u64_wrap_id (by omega) (by have := (BitVec.ofInt 64 x ||| BitVec.ofInt 64 y).isLt; omega), BitVec.toNat_or]
theorem ofInt_nat64 {x : Nat} (h1 : x < 18446744073709551616) : (BitVec.ofInt 64 (x : Int)).toNat = x := by
  rw [BitVec.toNat_ofInt]; omega
theorem pow_128 (i : Nat) : (2 : Nat) ^ (7 * i) = 128 ^ i := by rw [Nat.pow_mul]
/-- One byte more of a number. -/
theorem or_step {v i m : Nat} (hv : v < 128 ^ i) (hm : m * 128 ^ i < 18446744073709551616) (hi : i ≤ 9) : Go.bits .or .u64 (v : Int) (shl .u64 (IntKind.u64.wrap (m : Int)) (IntKind.u64.wrap (wrap64 (7 * (i : Int))))) = ((v + m * 128 ^ i : Nat) : Int) := by
  have hw : wrap64 (7 * (i : Int)) = ((7 * i : Nat) : Int) := by unfold wrap64; omega
  have h1 : 1 ≤ 128 ^ i := Nat.pow_le_pow_right (n := 128) (by decide) (Nat.zero_le i)
  have hm2 : m < 18446744073709551616 := by
    have := Nat.le_mul_of_pos_right m h1
    omega
  have hv2 : v < 18446744073709551616 := by
    have h9 : 128 ^ i ≤ 128 ^ 9 := Nat.pow_le_pow_right (by decide) hi
    have e9 : (128 : Nat) ^ 9 = 9223372036854775808 := by decide
    omega
  have hmin : min (7 * i) 64 = 7 * i := by omega
  rw [hw, u64_wrap_id (x := ((7 * i : Nat) : Int)) (by omega) (by omega), u64_wrap_id (x := (m : Int)) (by omega) (by omega)]
  unfold shl
  rw [Int.toNat_natCast, show IntKind.u64.bits = 64 from rfl, hmin]
  have hp : ((m : Int) * 2 ^ (7 * i)) = ((m * 128 ^ i : Nat) : Int) := by rw [← pow_128 i, Int.natCast_mul, Int.natCast_pow]; rfl
  rw [hp, u64_wrap_id (by omega) (by omega), u64_or, ofInt_nat64 hv2, ofInt_nat64 hm]
  congr 1
  have := Nat.two_pow_add_eq_or_of_lt (i := 7 * i) (b := v) (by rw [pow_128]; exact hv) m
  rw [pow_128, Nat.mul_comm] at this
  rw [Nat.or_comm, ← this, Nat.add_comm]
theorem mem_drop_range {x : List Int} (hx : ∀ b ∈ x, 0 ≤ b ∧ b ≤ 255) {i : Nat} {b : Int} {bs : List Int} (h : x.drop i = b :: bs) : 0 ≤ b ∧ b ≤ 255 := hx b (List.mem_of_getElem? (drop_cons h).1)
/-- One round, at a byte that is there. -/
theorem uint_round (x : List Int) (hx : ∀ b ∈ x, 0 ≤ b ∧ b ≤ 255) (i : Nat) (b : Int) (bs : List Int) (hd : x.drop i = b :: bs) (hi : i ≤ 9) (v : Nat) (hv : v < 128 ^ i) (r : Int × Int × Option Int)
    (h1 : i = 9 → 1 < b → r = (0, 0, some 3)) (h2 : b = 0 → 0 < i → r = (0, 0, some 3)) (h3 : (i = 9 → b ≤ 1) → ¬ (b = 0 ∧ 0 < i) → b < 128 → r = (((v + b.toNat * 128 ^ i : Nat) : Int), ((i + 1 : Nat) : Int), none))
    (h4 : (i = 9 → b ≤ 1) → 128 ≤ b → Ev (fun k => pack_Uint.l0 k x ((v + (b.toNat - 128) * 128 ^ i : Nat) : Int) ((i + 1 : Nat) : Int)) r) : Ev (fun k => pack_Uint.l0 k x (v : Int) (i : Int)) r := by
  obtain ⟨x1, x2, x3⟩ := drop_cons hd
  have hb := mem_drop_range hx hd
  refine ev_step (fun _ => pack_Uint.l0.eq_2 ..) ?_
  simp only [show (i : Int) < 10 by omega, show ¬ ((i : Int) = (x.length : Int)) by omega, show 0 ≤ (i : Int) by omega, show (i : Int) < (x.length : Int) by omega, if_true, if_false, rdn_at x1]
  have hj : ∀ f : Bool, (f = true ↔ (i = 9 ∧ 1 < b)) → Ev (fun k => pack_Uint.j1 k x (v : Int) (i : Int) b (i : Int) f) r := by
    intro f hf
    refine ev_step (fun _ => pack_Uint.j1.eq_2 ..) ?_
    by_cases h : f = true
    · obtain ⟨a, c⟩ := hf.1 h
      rw [h1 a c]
      simp only [h, if_true]; exact ev_some _
    · have h9 : i = 9 → b ≤ 1 := fun a => by
        have : ¬ (1 < b) := fun c => h (hf.2 ⟨a, c⟩)
        omega
      have hw : 0 ≤ IntKind.u64.wrap (wrap64 (7 * (i : Int))) := by rw [u64_wrap]; omega
      have e8 : (128 : Nat) ^ 8 = 72057594037927936 := by decide
      have e9 : (128 : Nat) ^ 9 = 9223372036854775808 := by decide
      have hlow : (b % 128).toNat * 128 ^ i < 18446744073709551616 := by
        by_cases hi9 : i = 9
        · subst hi9
          have : (b % 128).toNat ≤ 1 := by have := h9 rfl; omega
          have := Nat.mul_le_mul_right (128 ^ 9) this
          omega
        · have a1 : 128 ^ i ≤ 128 ^ 8 := Nat.pow_le_pow_right (by decide) (by omega)
          have a2 : (b % 128).toNat ≤ 127 := by omega
          have := Nat.mul_le_mul a2 a1
          omega
      have hor : Go.bits .or .u64 (v : Int) (shl .u64 (IntKind.u64.wrap (Go.bits .andNot .u8 b 128)) (IntKind.u64.wrap (wrap64 (7 * (i : Int))))) = ((v + (b % 128).toNat * 128 ^ i : Nat) : Int) := by
        rw [u8_low7 hb.1 (by omega), show b % 128 = (((b % 128).toNat : Nat) : Int) by omega]
        exact or_step hv hlow hi
      simp only [h, hw, if_true, hor, wrap_succ (j := i) (by omega), Bool.false_eq_true, if_false]
      by_cases hb1 : b < 128
      · have e : (b % 128).toNat = b.toNat := by omega
        simp only [hb1, if_true, e]
        by_cases hz : b = 0
        · simp only [hz, if_true]
          by_cases hi0 : (i : Int) > 0
          · rw [h2 hz (by omega)]; exact ev_if_pos hi0 (ev_some _)
          · refine ev_if_neg hi0 ?_
            rw [h3 h9 (by omega) hb1, hz]; exact ev_some _
        · rw [h3 h9 (by omega) hb1]
          exact ev_if_neg hz (ev_some _)
      · have e : (b % 128).toNat = b.toNat - 128 := by omega
        simp only [hb1, if_false, e]
        exact h4 h9 (by omega)
  by_cases h9 : (i : Int) = 9
  · exact ev_if_pos h9 (hj _ (by simp; omega))
  · exact ev_if_neg h9 (hj false (by simp; omega))
/-- What stands there as a number, read. -/
theorem uint_read (x rest : List Int) (hx : ∀ b ∈ x, 0 ≤ b ∧ b ≤ 255) : ∀ (m i v : Nat), x.drop i = uvar m ++ rest → v < 128 ^ i → v + m * 128 ^ i < 18446744073709551616 → (i = 0 ∨ 0 < m) → Ev (fun k => pack_Uint.l0 k x (v : Int) (i : Int)) (((v + m * 128 ^ i : Nat) : Int), ((i + (uvar m).length : Nat) : Int), none) := by
  intro m
  induction m using Nat.strongRecOn with
  | ind m ih =>
    intro i v hd hv hm hz
    have hi : i ≤ 9 := by
      refine Classical.byContradiction fun hn => ?_
      have a1 : 128 ^ 10 ≤ 128 ^ i := Nat.pow_le_pow_right (by decide) (by omega)
      have a2 : 1 * 128 ^ i ≤ m * 128 ^ i := Nat.mul_le_mul_right _ (by omega)
      have e10 : (128 : Nat) ^ 10 = 1180591620717411303424 := by decide
      omega
    have e9 : (128 : Nat) ^ 9 = 9223372036854775808 := by decide
    have hm9 : i = 9 → m ≤ 1 := by
      rintro rfl
      refine Classical.byContradiction fun hn => ?_
      have := Nat.mul_le_mul_right (128 ^ 9) (show 2 ≤ m by omega)
      omega
    by_cases h : m < 128
    · rw [uvar_small h] at hd ⊢
      refine uint_round x hx i (m : Int) rest hd hi v hv _ (fun a c => ?_) (fun a c => ?_) (fun _ _ _ => ?_) (fun _ c => ?_)
      · have := hm9 a; omega
      · omega
      · rw [Int.toNat_natCast]; rfl
      · omega
    · rw [uvar_big h] at hd ⊢
      have hi8 : i ≤ 8 := by
        refine Classical.byContradiction fun hn => ?_
        have := hm9 (by omega); omega
      refine uint_round x hx i ((m % 128 + 128 : Nat) : Int) (uvar (m / 128) ++ rest) hd hi v hv _ (fun a c => by omega) (fun a c => by omega) (fun _ _ c => by omega) (fun _ c => ?_)
      have e : ((m % 128 + 128 : Nat) : Int).toNat - 128 = m % 128 := by omega
      rw [e]
      have hp : 128 ^ (i + 1) = 128 ^ i * 128 := Nat.pow_succ ..
      have hsum : v + m % 128 * 128 ^ i + m / 128 * 128 ^ (i + 1) = v + m * 128 ^ i := by
        rw [hp]
        have : m * 128 ^ i = (m % 128 + m / 128 * 128) * 128 ^ i := by rw [Nat.mod_add_div']
        rw [this, Nat.add_mul, Nat.mul_assoc, Nat.mul_comm 128 (128 ^ i)]
        omega
      have hv' : v + m % 128 * 128 ^ i < 128 ^ (i + 1) := by
        have : m % 128 * 128 ^ i ≤ 127 * 128 ^ i := Nat.mul_le_mul_right _ (by omega)
        omega
      have := ih (m / 128) (by omega) (i + 1) (v + m % 128 * 128 ^ i) (drop_cons hd).2.2 hv' (by rw [hsum]; exact hm) (Or.inr (by omega))
      rw [hsum] at this
      rw [List.length_cons, show i + ((uvar (m / 128)).length + 1) = i + 1 + (uvar (m / 128)).length by omega]
      exact this
theorem uint_dec (n : Nat) (rest : List Int) (hn : n < 18446744073709551616) (hr : ∀ b ∈ rest, 0 ≤ b ∧ b ≤ 255) : Ev (fun k => pack_Uint.f k (uvar n ++ rest)) ((n : Int), ((uvar n).length : Int), none) := by
  have := uint_read (uvar n ++ rest) rest (fun b hb => (List.mem_append.1 hb).elim (uvar_range n b) (hr b)) n 0 0 rfl (by decide) (by simpa using hn) (Or.inl rfl)
  simp only [Nat.pow_zero, Nat.mul_one, Nat.zero_add] at this
  exact this
/-- Whatever stands there: an error, or a number that is written just so. -/
theorem uint_any (x : List Int) (hx : ∀ b ∈ x, 0 ≤ b ∧ b ≤ 255) : ∀ (bs : List Int) (i v : Nat), x.drop i = bs → i ≤ 10 → i ≤ x.length → v < 128 ^ i → ∃ r, Ev (fun k => pack_Uint.l0 k x (v : Int) (i : Int)) r ∧ ((r.1 = 0 ∧ r.2.1 = 0 ∧ r.2.2 ≠ none) ∨ ∃ (m : Nat) (rest : List Int), bs = uvar m ++ rest ∧ r = (((v + m * 128 ^ i : Nat) : Int), ((i + (uvar m).length : Nat) : Int), none) ∧ v + m * 128 ^ i < 18446744073709551616 ∧ (i = 0 ∨ 0 < m))
  | [], i, v, hd, hi, hil, hv => by
    have hl := drop_nil hd
    by_cases h10 : (i : Int) < 10
    · by_cases he : i = x.length
      · refine ⟨(0, 0, some 12), ev_step (fun _ => pack_Uint.l0.eq_2 ..) ?_, Or.inl ⟨rfl, rfl, by simp⟩⟩
        simp only [h10, show (i : Int) = (x.length : Int) by omega, if_true]
        simp only [show (x.length : Int) < 10 by omega, if_true]
        exact ev_some _
      · exact absurd (show i = x.length by omega) he
    · refine ⟨(0, 0, some 3), ev_step (fun _ => pack_Uint.l0.eq_2 ..) ?_, Or.inl ⟨rfl, rfl, by simp⟩⟩
      simp only [h10, if_false]; exact ev_some _
  | b :: bs, i, v, hd, hi, hil, hv => by
    have hb := mem_drop_range hx hd
    by_cases h10 : i = 10
    · refine ⟨(0, 0, some 3), ev_step (fun _ => pack_Uint.l0.eq_2 ..) ?_, Or.inl ⟨rfl, rfl, by simp⟩⟩
      simp only [show ¬ ((i : Int) < 10) by omega, if_false]; exact ev_some _
    · have e9 : (128 : Nat) ^ 9 = 9223372036854775808 := by decide
      have hp : 128 ^ (i + 1) = 128 ^ i * 128 := Nat.pow_succ ..
      by_cases hA : i = 9 ∧ 1 < b
      · exact ⟨(0, 0, some 3), uint_round x hx i b bs hd (by omega) v hv _ (fun _ _ => rfl) (fun _ _ => rfl) (fun a _ _ => by have := a hA.1; omega) (fun a _ => by have := a hA.1; omega), Or.inl ⟨rfl, rfl, by simp⟩⟩
      · have h9 : i = 9 → b ≤ 1 := fun a => by
          have : ¬ 1 < b := fun c => hA ⟨a, c⟩
          omega
        by_cases hB : b = 0 ∧ 0 < i
        · exact ⟨(0, 0, some 3), uint_round x hx i b bs hd (by omega) v hv _ (fun _ _ => rfl) (fun _ _ => rfl) (fun _ a _ => absurd hB a) (fun _ a => by omega), Or.inl ⟨rfl, rfl, by simp⟩⟩
        · by_cases hC : b < 128
          · refine ⟨_, uint_round x hx i b bs hd (by omega) v hv (((v + b.toNat * 128 ^ i : Nat) : Int), ((i + 1 : Nat) : Int), none) (fun a c => absurd ⟨a, c⟩ hA) (fun a c => absurd ⟨a, c⟩ hB) (fun _ _ _ => rfl) (fun _ a => by omega), Or.inr ⟨b.toNat, bs, ?_, ?_, ?_, by omega⟩⟩
            · rw [uvar_small (by omega), show ((b.toNat : Nat) : Int) = b by omega]; rfl
            · rw [uvar_small (by omega)]; rfl
            · by_cases hi9 : i = 9
              · subst hi9
                have := h9 rfl
                have := Nat.mul_le_mul_right (128 ^ 9) (show b.toNat ≤ 1 by omega)
                omega
              · have a1 : 128 ^ i ≤ 128 ^ 8 := Nat.pow_le_pow_right (by decide) (by omega)
                have e8 : (128 : Nat) ^ 8 = 72057594037927936 := by decide
                have := Nat.mul_le_mul (show b.toNat ≤ 127 by omega) a1
                omega
          · have hv' : v + (b.toNat - 128) * 128 ^ i < 128 ^ (i + 1) := by
              have : (b.toNat - 128) * 128 ^ i ≤ 127 * 128 ^ i := Nat.mul_le_mul_right _ (by omega)
              omega
            obtain ⟨r, hr1, hr2⟩ := uint_any x hx bs (i + 1) (v + (b.toNat - 128) * 128 ^ i) (drop_cons hd).2.2 (by omega) (by have := (drop_cons hd).2.1; omega) hv'
            refine ⟨r, uint_round x hx i b bs hd (by omega) v hv r (fun a c => absurd ⟨a, c⟩ hA) (fun a c => absurd ⟨a, c⟩ hB) (fun _ _ a => absurd a hC) (fun _ _ => hr1), hr2.imp id ?_⟩
            rintro ⟨m, rest, rfl, rfl, h3, h4⟩
            have hm : 0 < m := by omega
            have hsum : v + (b.toNat - 128) * 128 ^ i + m * 128 ^ (i + 1) = v + (b.toNat - 128 + m * 128) * 128 ^ i := by
              rw [hp, Nat.add_mul, Nat.mul_assoc, Nat.mul_comm 128 (128 ^ i)]; omega
            refine ⟨b.toNat - 128 + m * 128, rest, ?_, ?_, by rw [← hsum]; exact h3, by omega⟩
            · rw [uvar_big (n := b.toNat - 128 + m * 128) (by omega), show (b.toNat - 128 + m * 128) / 128 = m by omega, show (((b.toNat - 128 + m * 128) % 128 + 128 : Nat) : Int) = b by omega]; rfl
            · rw [hsum, uvar_big (n := b.toNat - 128 + m * 128) (by omega), show (b.toNat - 128 + m * 128) / 128 = m by omega, List.length_cons, show i + ((uvar m).length + 1) = i + 1 + (uvar m).length by omega]
theorem ba_eq {a b : ByteArray} (h : a.toList = b.toList) : a = b := by
  rw [toList_data, toList_data] at h
  cases a; cases b
  congr 1
  exact Array.ext' h
theorem strOfNums_toList (xs : List Int) : (strOfNums xs).toList = xs.map (fun n => UInt8.ofNat n.toNat) := by
  rw [toList_data]; unfold strOfNums; simp
theorem fit_none {c : S118} {v : S63} (h : fitErr c v = none) : vErr v.f0 v.f1 v.f2 v.f3 = none ∧ (v.f0 = 0 ∧ c.f2 = false ∧ c.f3 = true ∨ v.f0 ≠ 0 ∧ v.f0 = c.f1) := by
  unfold fitErr at h
  split at h
  · cases h
  · rename_i h1
    refine ⟨h1, ?_⟩
    split at h
    · rename_i h2
      split at h
      · cases h
      · rename_i h3
        split at h
        · rename_i h4
          exact Or.inl ⟨h2, by simpa using h3, h4⟩
        · cases h
    · rename_i h2
      split at h
      · rename_i h3; exact Or.inr ⟨h2, h3⟩
      · cases h
theorem i64_xor (x y : Int) : Go.bits .xor .i64 x y = IntKind.i64.wrap (((BitVec.ofInt 64 x).toNat ^^^ (BitVec.ofInt 64 y).toNat : Nat) : Int) := by
  show IntKind.i64.wrap (((BitVec.ofInt 64 x ^^^ BitVec.ofInt 64 y).toNat : Nat) : Int) = _
  rw [BitVec.toNat_xor]
theorem i64_wrap (x : Int) : IntKind.i64.wrap x = wrap64 x := by
  simp [IntKind.wrap, IntKind.bits, IntKind.signed, wrap64]
  split <;> omega
theorem u64_and_one {v : Nat} (h : v < 18446744073709551616) : Go.bits .and .u64 (v : Int) 1 = ((v % 2 : Nat) : Int) := by
  have h1 : (BitVec.ofInt 64 1).toNat = 1 := by decide
  show IntKind.u64.wrap (((BitVec.ofInt 64 (v : Int) &&& BitVec.ofInt 64 1).toNat : Nat) : Int) = _
  rw [BitVec.toNat_and, ofInt_nat64 h, h1, Nat.and_one_is_mod, u64_wrap_id (by omega) (by omega)]
/-- A zigzag's number. -/
def unzz (v : Nat) : Int := if v % 2 = 0 then ((v / 2 : Nat) : Int) else -((v / 2 : Nat) : Int) - 1
theorem unzz_zz {a : Int} : unzz (zz a) = a := by
  unfold unzz zz; split <;> split <;> omega
theorem unzz_bits {v : Nat} (h : v < 18446744073709551616) : Go.bits .xor .i64 (wrap64 ((v : Int) / 2)) (wrap64 (-(wrap64 (Go.bits .and .u64 (v : Int) 1)))) = unzz v := by
  have e1 : wrap64 ((v : Int) / 2) = ((v / 2 : Nat) : Int) := by unfold wrap64; omega
  rw [u64_and_one h, e1, i64_xor, i64_wrap, ofInt_nat64 (by omega)]
  unfold unzz
  by_cases hv : v % 2 = 0
  · have e2 : wrap64 (-(wrap64 ((v % 2 : Nat) : Int))) = 0 := by rw [hv]; unfold wrap64; omega
    have e3 : (BitVec.ofInt 64 0).toNat = 0 := by decide
    rw [e2, e3, Nat.xor_zero, if_pos hv]
    unfold wrap64; omega
  · have e2 : wrap64 (-(wrap64 ((v % 2 : Nat) : Int))) = -1 := by rw [show v % 2 = 1 by omega]; unfold wrap64; omega
    have e3 : BitVec.ofInt 64 (-1) = BitVec.allOnes 64 := by decide
    have e4 : (v / 2) ^^^ (BitVec.allOnes 64).toNat = 18446744073709551615 - v / 2 := by
      have := ofInt_nat64 (x := v / 2) (by omega)
      conv => lhs; rw [← this]
      rw [← BitVec.toNat_xor, BitVec.xor_allOnes, BitVec.toNat_not, this]
    rw [e2, e3, e4, if_neg hv]
    unfold wrap64; omega
/-- The errors of what is read: all that matters of them. -/
theorem int_dec (a : Int) (rest : List Int) (ha : -9223372036854775808 ≤ a ∧ a ≤ 9223372036854775807) (hr : ∀ b ∈ rest, 0 ≤ b ∧ b ≤ 255) : Ev (fun k => pack_Int.f k (uvar (zz a) ++ rest)) (a, ((uvar (zz a)).length : Int), none) := by
  unfold pack_Int.f
  refine ev_bind (uint_dec (zz a) rest (zz_lt ha.1 ha.2) hr) ?_
  simp only [unzz_bits (zz_lt ha.1 ha.2), unzz_zz]
  exact ev_some _
theorem uint_any0 (x : List Int) (hx : ∀ b ∈ x, 0 ≤ b ∧ b ≤ 255) : ∃ r, Ev (fun k => pack_Uint.f k x) r ∧ ((r.1 = 0 ∧ r.2.1 = 0 ∧ r.2.2 ≠ none) ∨ ∃ (m : Nat) (rest : List Int), x = uvar m ++ rest ∧ r = ((m : Int), ((uvar m).length : Int), none) ∧ m < 18446744073709551616) := by
  obtain ⟨r, h1, h2⟩ := uint_any x hx x 0 0 rfl (by omega) (by omega) (by decide)
  refine ⟨r, h1, h2.imp id ?_⟩
  rintro ⟨m, rest, a, b, c, _⟩
  simp only [Nat.pow_zero, Nat.mul_one, Nat.zero_add] at b c
  exact ⟨m, rest, a, b, c⟩
theorem str_bytes (s : ByteArray) : strOfNums (bytesOf s) = s := by
  apply ba_eq
  rw [strOfNums_toList, toList_data]
  unfold bytesOf
  rw [List.map_map]
  conv => rhs; rw [← List.map_id s.data.toList]
  apply List.map_congr_left
  intro b _
  simp
theorem bytes_str {xs : List Int} (h : ∀ x ∈ xs, 0 ≤ x ∧ x ≤ 255) : bytesOf (strOfNums xs) = xs := by
  unfold bytesOf
  rw [← toList_data, strOfNums_toList, List.map_map]
  conv => rhs; rw [← List.map_id xs]
  apply List.map_congr_left
  intro b hb
  have := h b hb
  simp only [Function.comp_apply, UInt8.toNat_ofNat', id]
  omega
theorem str_size (xs : List Int) : (strOfNums xs).size = xs.length := by
  rw [← size_data, ← toList_data, strOfNums_toList, List.length_map]
/-- A text that is there, at its length. -/
theorem text_at (m : Nat) (body rest : List Int) (hb : body.length = m) (hm : m ≤ 4096) (hl : (uvar m ++ (body ++ rest)).length < 9223372036854775807) (hr : ∀ b ∈ body ++ rest, 0 ≤ b ∧ b ≤ 255) :
    Ev (fun k => pack_Text.f k (uvar m ++ (body ++ rest)) 4096) (strOfNums body, (((uvar m).length + m : Nat) : Int), none) := by
  unfold pack_Text.f
  refine ev_if_neg (by decide) ?_
  refine ev_bind (uint_dec m (body ++ rest) (by omega) hr) ?_
  have h10 := uvar_len64 (n := m) (by omega)
  have e1 : IntKind.u64.wrap (4096 : Int) = 4096 := by decide
  have hlen : ((uvar m ++ (body ++ rest)).length : Int) = (uvar m).length + (m + rest.length) := by simp only [List.length_append, hb]; omega
  have hlen' := hlen
  have e2 : wrap64 (((uvar m ++ (body ++ rest)).length : Int) - ((uvar m).length : Int)) = ((m + rest.length : Nat) : Int) := by unfold wrap64; omega
  have e3 : IntKind.u64.wrap ((m + rest.length : Nat) : Int) = ((m + rest.length : Nat) : Int) := u64_wrap_id (by omega) (by omega)
  have e4 : wrap64 (m : Int) = (m : Int) := by unfold wrap64; omega
  have e5 : wrap64 (((uvar m).length : Int) + (m : Int)) = (((uvar m).length + m : Nat) : Int) := by unfold wrap64; omega
  simp only [Option.isNone_none, if_true, e1, e2, e3, e4, e5, show ¬ ((m : Int) > 4096) by omega, show ¬ ((m : Int) > ((m + rest.length : Nat) : Int)) by omega, if_false, show (0 : Int) ≤ ((uvar m).length : Int) by omega, show ((uvar m).length : Int) ≤ (((uvar m).length + m : Nat) : Int) by omega, Int.toNat_natCast]
  rw [if_pos (show (((uvar m).length + m : Nat) : Int) ≤ ((uvar m ++ (body ++ rest)).length : Int) by rw [hlen]; omega)]
  have e6 : ((uvar m ++ (body ++ rest)).take ((uvar m).length + m)).drop (uvar m).length = body := by
    rw [List.take_length_add_append, List.drop_left' rfl, List.take_append_of_le_length (by omega), List.take_of_length_le (by omega)]
  rw [e6]
  exact ev_some _
theorem text_dec (s : ByteArray) (rest : List Int) (hs : s.size ≤ 4096) (hr : ∀ b ∈ rest, 0 ≤ b ∧ b ≤ 255) (hl : rest.length ≤ 1099511627776) : Ev (fun k => pack_Text.f k (uvar s.size ++ (bytesOf s ++ rest)) 4096) (s, (((uvar s.size).length + s.size : Nat) : Int), none) := by
  have h10 := uvar_len64 (n := s.size) (by omega)
  have := text_at s.size (bytesOf s) rest (bytesOf_length s) hs (by simp only [List.length_append, bytesOf_length]; omega) (fun b hb => (List.mem_append.1 hb).elim (bytesOf_range s b) (hr b))
  rwa [str_bytes] at this
/-- What one reads at a value that fits. -/
theorem one_dec (c : S118) (v : S63) (ov : OKv v) (hv : fitErr c v = none) (h0 : v.f0 ≠ 0) (rest : List Int) (hr : ∀ b ∈ rest, 0 ≤ b ∧ b ≤ 255) (hl : rest.length ≤ 1099511627776) : ∃ (e : List Int), encV v = 1 :: e ∧ Ev (fun k => row_one.f k c.f1 (e ++ rest)) (v.f0, v.f1, v.f2, v.f3, (e.length : Int), none) := by
  obtain ⟨ev, kv⟩ := fit_none hv
  obtain ⟨av, bv, cv, dv, sv, _⟩ := vErr_none ev
  have hk : v.f0 = c.f1 := by rcases kv with kv | kv; exact absurd kv.1 h0; exact kv.2
  have hnil : (⟨#[]⟩ : ByteArray).toList = [] := by rw [toList_data]
  unfold encV row_one.f
  rw [if_neg h0, ← hk]
  by_cases h1 : v.f0 = 1
  · rw [if_pos h1]
    refine ⟨_, rfl, ev_if_pos h1 ?_⟩
    refine ev_bind (int_dec v.f1 rest ov.1 hr) ?_
    simp only [value_Int.f, Option.bind_some]
    have e2 : v.f2 = ⟨#[]⟩ := ba_eq (by rw [cv (by omega), hnil])
    rw [h1, e2, dv (by omega)]
    exact ev_some _
  · by_cases h2 : v.f0 = 2
    · rw [if_neg h1, if_pos h2]
      refine ⟨_, rfl, ev_if_neg h1 (ev_if_pos h2 ?_)⟩
      rw [List.append_assoc]
      refine ev_bind (text_dec v.f2 rest sv hr hl) ?_
      simp only [value_Text.f, Option.bind_some, List.length_append, bytesOf_length]
      rw [h2, bv (by omega), dv (by omega)]
      exact ev_some _
    · have h3 : v.f0 = 3 := by omega
      rw [if_neg h1, if_neg h2]
      have e2 : v.f2 = ⟨#[]⟩ := ba_eq (by rw [cv (by omega), hnil])
      refine ⟨_, rfl, ev_if_neg h1 (ev_if_neg h2 ?_)⟩
      rw [h3, e2, bv (by omega)]
      have go : ∀ (b : Int) (t : Bool), (b = 0 ∨ b = 1) → (b == 1) = t → Ev (fun k => if (([b] ++ rest).length : Int) = 0 then row_one.j0 k ([b] ++ rest) true else if 0 < (([b] ++ rest).length : Int) then row_one.j0 k ([b] ++ rest) (decide ((rd ([b] ++ rest) 0) > 1)) else none) (3, 0, ⟨#[]⟩, t, (([b] : List Int).length : Int), none) := by
        intro b t hb ht
        have er : rd ([b] ++ rest) 0 = b := rfl
        have el : (([b] ++ rest).length : Int) > 0 := by simp only [List.length_append, List.length_cons]; omega
        rw [er]
        refine ev_if_neg (by omega) (ev_if_pos el ?_)
        have hd : decide (b > 1) = false := by simp; omega
        rw [hd]
        refine ev_step (fun _ => row_one.j0.eq_2 ..) ?_
        simp only [Bool.false_eq_true, if_false, el, if_true, er, value_Bool.f, Option.bind_some, ht, show (0 : Int) < (([b] ++ rest).length : Int) from el]
        exact ev_some _
      cases h4 : v.f3 with
      | true => exact go 1 true (Or.inr rfl) rfl
      | false => exact go 0 false (Or.inl rfl) rfl
end Go.Proofs.YtddkbhglbkfelaaGreatDoor.T
