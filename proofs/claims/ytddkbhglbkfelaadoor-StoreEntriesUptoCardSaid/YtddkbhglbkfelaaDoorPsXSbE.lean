/- What the walks of pack.Uint, pack.Text and of the reference's like compute, told plainly. -/
import Derived.Test.YtddkbhglbkfelaaDoorPsXSaE
set_option linter.unusedVariables false
set_option linter.unusedSimpArgs false
namespace Go.Proofs.YtddkbhglbkfelaaDoor.E
open Go.RowKit Go.Proofs.YtddkbhglbkfelaaDoorW.PrintWords Go.Proofs.YtddkbhglbkfelaaDoorW.PrintLast Go.Proofs.YtddkbhglbkfelaaDoorX
theorem u8_low7 {m : Int} (h0 : 0 ≤ m) (h1 : m < 256) : Go.bits .andNot .u8 m 128 = m % 128 := by
  have h : ∀ i : Fin 256, Go.bits .andNot .u8 (i.val : Int) 128 = (i.val : Int) % 128 := by decide +kernel
  have := h ⟨m.toNat, by omega⟩
  simpa [Int.toNat_of_nonneg h0] using this
theorem u64_or (x y : Int) : Go.bits .or .u64 x y = (((BitVec.ofInt 64 x).toNat ||| (BitVec.ofInt 64 y).toNat : Nat) : Int) := by
  show IntKind.u64.wrap (((BitVec.ofInt 64 x ||| BitVec.ofInt 64 y).toNat : Nat) : Int) = _
  rw [u64_wrap_id (by omega) (by have := (BitVec.ofInt 64 x ||| BitVec.ofInt 64 y).isLt; omega), BitVec.toNat_or]
theorem ofInt_nat64 {x : Nat} (h1 : x < 18446744073709551616) : (BitVec.ofInt 64 (x : Int)).toNat = x := by
  rw [BitVec.toNat_ofInt]; omega
theorem pow_128 (i : Nat) : (2 : Nat) ^ (7 * i) = 128 ^ i := by rw [Nat.pow_mul]
/-- One byte more of a number. -/
theorem or_step {v i m : Nat} (hv : v < 128 ^ i) (hm : m * 128 ^ i < 18446744073709551616) (hi : i ≤ 9) : Go.bits .or .u64 (v : Int) (shl .u64 (IntKind.u64.wrap (m : Int)) (IntKind.u64.wrap (wrap64 (7 * (i : Int))))) = ((v + m * 128 ^ i : Nat) : Int) := by
  have hw : wrap64 (7 * (i : Int)) = ((7 * i : Nat) : Int) := by unfold wrap64; omega
  have h1 : 1 ≤ 128 ^ i := Nat.pow_le_pow_right (n := 128) (by decide) (Nat.zero_le i)
  have hm2 : m < 18446744073709551616 := by
    have := Nat.le_mul_of_pos_right m h1
    omega
  have hv2 : v < 18446744073709551616 := by
    have h9 : 128 ^ i ≤ 128 ^ 9 := Nat.pow_le_pow_right (by decide) hi
    have e9 : (128 : Nat) ^ 9 = 9223372036854775808 := by decide
    omega
  have hmin : min (7 * i) 64 = 7 * i := by omega
  rw [hw, u64_wrap_id (x := ((7 * i : Nat) : Int)) (by omega) (by omega), u64_wrap_id (x := (m : Int)) (by omega) (by omega)]
  unfold shl
  rw [Int.toNat_natCast, show IntKind.u64.bits = 64 from rfl, hmin]
  have hp : ((m : Int) * 2 ^ (7 * i)) = ((m * 128 ^ i : Nat) : Int) := by rw [← pow_128 i, Int.natCast_mul, Int.natCast_pow]; rfl
  rw [hp, u64_wrap_id (by omega) (by omega), u64_or, ofInt_nat64 hv2, ofInt_nat64 hm]
  congr 1
  have := Nat.two_pow_add_eq_or_of_lt (i := 7 * i) (b := v) (by rw [pow_128]; exact hv) m
  rw [pow_128, Nat.mul_comm] at this
  rw [Nat.or_comm, ← this, Nat.add_comm]
theorem mem_drop_range {x : List Int} (hx : ∀ b ∈ x, 0 ≤ b ∧ b ≤ 255) {i : Nat} {b : Int} {bs : List Int} (h : x.drop i = b :: bs) : 0 ≤ b ∧ b ≤ 255 := hx b (List.mem_of_getElem? (drop_cons h).1)
/-- One round, at a byte that is there. -/
theorem uint_round (x : List Int) (hx : ∀ b ∈ x, 0 ≤ b ∧ b ≤ 255) (i : Nat) (b : Int) (bs : List Int) (hd : x.drop i = b :: bs) (hi : i ≤ 9) (v : Nat) (hv : v < 128 ^ i) (r : Int × Int × Option Int)
    (h1 : i = 9 → 1 < b → r = (0, 0, some 3)) (h2 : b = 0 → 0 < i → r = (0, 0, some 3)) (h3 : (i = 9 → b ≤ 1) → ¬ (b = 0 ∧ 0 < i) → b < 128 → r = (((v + b.toNat * 128 ^ i : Nat) : Int), ((i + 1 : Nat) : Int), none))
    (h4 : (i = 9 → b ≤ 1) → 128 ≤ b → Ev (fun k => pack_Uint.l0 k x ((v + (b.toNat - 128) * 128 ^ i : Nat) : Int) ((i + 1 : Nat) : Int)) r) : Ev (fun k => pack_Uint.l0 k x (v : Int) (i : Int)) r := by
  obtain ⟨x1, x2, x3⟩ := drop_cons hd
  have hb := mem_drop_range hx hd
  refine ev_step (fun _ => pack_Uint.l0.eq_2 ..) ?_
  simp only [show (i : Int) < 10 by omega, show ¬ ((i : Int) = (x.length : Int)) by omega, show 0 ≤ (i : Int) by omega, show (i : Int) < (x.length : Int) by omega, if_true, if_false, rdn_at x1]
  have hj : ∀ f : Bool, (f = true ↔ (i = 9 ∧ 1 < b)) → Ev (fun k => pack_Uint.j1 k x (v : Int) (i : Int) b (i : Int) f) r := by
    intro f hf
    refine ev_step (fun _ => pack_Uint.j1.eq_2 ..) ?_
    by_cases h : f = true
    · obtain ⟨a, c⟩ := hf.1 h
      rw [h1 a c]
      simp only [h, if_true]; exact ev_some _
    · have h9 : i = 9 → b ≤ 1 := fun a => by
        have : ¬ (1 < b) := fun c => h (hf.2 ⟨a, c⟩)
        omega
      have hw : 0 ≤ IntKind.u64.wrap (wrap64 (7 * (i : Int))) := by rw [u64_wrap]; omega
      have e8 : (128 : Nat) ^ 8 = 72057594037927936 := by decide
      have e9 : (128 : Nat) ^ 9 = 9223372036854775808 := by decide
      have hlow : (b % 128).toNat * 128 ^ i < 18446744073709551616 := by
        by_cases hi9 : i = 9
        · subst hi9
          have : (b % 128).toNat ≤ 1 := by have := h9 rfl; omega
          have := Nat.mul_le_mul_right (128 ^ 9) this
          omega
        · have a1 : 128 ^ i ≤ 128 ^ 8 := Nat.pow_le_pow_right (by decide) (by omega)
          have a2 : (b % 128).toNat ≤ 127 := by omega
          have := Nat.mul_le_mul a2 a1
          omega
      have hor : Go.bits .or .u64 (v : Int) (shl .u64 (IntKind.u64.wrap (Go.bits .andNot .u8 b 128)) (IntKind.u64.wrap (wrap64 (7 * (i : Int))))) = ((v + (b % 128).toNat * 128 ^ i : Nat) : Int) := by
        rw [u8_low7 hb.1 (by omega), show b % 128 = (((b % 128).toNat : Nat) : Int) by omega]
        exact or_step hv hlow hi
      simp only [h, hw, if_true, hor, wrap_succ (j := i) (by omega), Bool.false_eq_true, if_false]
      by_cases hb1 : b < 128
      · have e : (b % 128).toNat = b.toNat := by omega
        simp only [hb1, if_true, e]
        by_cases hz : b = 0
        · simp only [hz, if_true]
          by_cases hi0 : (i : Int) > 0
          · rw [h2 hz (by omega)]; exact ev_if_pos hi0 (ev_some _)
          · refine ev_if_neg hi0 ?_
            rw [h3 h9 (by omega) hb1, hz]; exact ev_some _
        · rw [h3 h9 (by omega) hb1]
          exact ev_if_neg hz (ev_some _)
      · have e : (b % 128).toNat = b.toNat - 128 := by omega
        simp only [hb1, if_false, e]
        exact h4 h9 (by omega)
  by_cases h9 : (i : Int) = 9
  · exact ev_if_pos h9 (hj _ (by simp; omega))
  · exact ev_if_neg h9 (hj false (by simp; omega))
/-- What stands there as a number, read. -/
theorem uint_read (x rest : List Int) (hx : ∀ b ∈ x, 0 ≤ b ∧ b ≤ 255) : ∀ (m i v : Nat), x.drop i = uvar m ++ rest → v < 128 ^ i → v + m * 128 ^ i < 18446744073709551616 → (i = 0 ∨ 0 < m) → Ev (fun k => pack_Uint.l0 k x (v : Int) (i : Int)) (((v + m * 128 ^ i : Nat) : Int), ((i + (uvar m).length : Nat) : Int), none) := by
  intro m
  induction m using Nat.strongRecOn with
  | ind m ih =>
    intro i v hd hv hm hz
    have hi : i ≤ 9 := by
      refine Classical.byContradiction fun hn => ?_
      have a1 : 128 ^ 10 ≤ 128 ^ i := Nat.pow_le_pow_right (by decide) (by omega)
      have a2 : 1 * 128 ^ i ≤ m * 128 ^ i := Nat.mul_le_mul_right _ (by omega)
      have e10 : (128 : Nat) ^ 10 = 1180591620717411303424 := by decide
      omega
    have e9 : (128 : Nat) ^ 9 = 9223372036854775808 := by decide
    have hm9 : i = 9 → m ≤ 1 := by
      rintro rfl
      refine Classical.byContradiction fun hn => ?_
      have := Nat.mul_le_mul_right (128 ^ 9) (show 2 ≤ m by omega)
      omega
    by_cases h : m < 128
    · rw [uvar_small h] at hd ⊢
      refine uint_round x hx i (m : Int) rest hd hi v hv _ (fun a c => ?_) (fun a c => ?_) (fun _ _ _ => ?_) (fun _ c => ?_)
      · have := hm9 a; omega
      · omega
      · rw [Int.toNat_natCast]; rfl
      · omega
    · rw [uvar_big h] at hd ⊢
      have hi8 : i ≤ 8 := by
        refine Classical.byContradiction fun hn => ?_
        have := hm9 (by omega); omega
      refine uint_round x hx i ((m % 128 + 128 : Nat) : Int) (uvar (m / 128) ++ rest) hd hi v hv _ (fun a c => by omega) (fun a c => by omega) (fun _ _ c => by omega) (fun _ c => ?_)
      have e : ((m % 128 + 128 : Nat) : Int).toNat - 128 = m % 128 := by omega
      rw [e]
      have hp : 128 ^ (i + 1) = 128 ^ i * 128 := Nat.pow_succ ..
      have hsum : v + m % 128 * 128 ^ i + m / 128 * 128 ^ (i + 1) = v + m * 128 ^ i := by
        rw [hp]
        have : m * 128 ^ i = (m % 128 + m / 128 * 128) * 128 ^ i := by rw [Nat.mod_add_div']
        rw [this, Nat.add_mul, Nat.mul_assoc, Nat.mul_comm 128 (128 ^ i)]
        omega
      have hv' : v + m % 128 * 128 ^ i < 128 ^ (i + 1) := by
        have : m % 128 * 128 ^ i ≤ 127 * 128 ^ i := Nat.mul_le_mul_right _ (by omega)
        omega
      have := ih (m / 128) (by omega) (i + 1) (v + m % 128 * 128 ^ i) (drop_cons hd).2.2 hv' (by rw [hsum]; exact hm) (Or.inr (by omega))
      rw [hsum] at this
      rw [List.length_cons, show i + ((uvar (m / 128)).length + 1) = i + 1 + (uvar (m / 128)).length by omega]
      exact this
theorem uint_dec (n : Nat) (rest : List Int) (hn : n < 18446744073709551616) (hr : ∀ b ∈ rest, 0 ≤ b ∧ b ≤ 255) : Ev (fun k => pack_Uint.f k (uvar n ++ rest)) ((n : Int), ((uvar n).length : Int), none) := by
  have := uint_read (uvar n ++ rest) rest (fun b hb => (List.mem_append.1 hb).elim (uvar_range n b) (hr b)) n 0 0 rfl (by decide) (by simpa using hn) (Or.inl rfl)
  simp only [Nat.pow_zero, Nat.mul_one, Nat.zero_add] at this
  exact this
/-- Whatever stands there: an error, or a number that is written just so. -/
theorem uint_any (x : List Int) (hx : ∀ b ∈ x, 0 ≤ b ∧ b ≤ 255) : ∀ (bs : List Int) (i v : Nat), x.drop i = bs → i ≤ 10 → i ≤ x.length → v < 128 ^ i → ∃ r, Ev (fun k => pack_Uint.l0 k x (v : Int) (i : Int)) r ∧ ((r.1 = 0 ∧ r.2.1 = 0 ∧ r.2.2 ≠ none) ∨ ∃ (m : Nat) (rest : List Int), bs = uvar m ++ rest ∧ r = (((v + m * 128 ^ i : Nat) : Int), ((i + (uvar m).length : Nat) : Int), none) ∧ v + m * 128 ^ i < 18446744073709551616 ∧ (i = 0 ∨ 0 < m))
  | [], i, v, hd, hi, hil, hv => by
    have hl := drop_nil hd
    by_cases h10 : (i : Int) < 10
    · by_cases he : i = x.length
      · refine ⟨(0, 0, some 12), ev_step (fun _ => pack_Uint.l0.eq_2 ..) ?_, Or.inl ⟨rfl, rfl, by simp⟩⟩
        simp only [h10, show (i : Int) = (x.length : Int) by omega, if_true]
        simp only [show (x.length : Int) < 10 by omega, if_true]
        exact ev_some _
      · exact absurd (show i = x.length by omega) he
    · refine ⟨(0, 0, some 3), ev_step (fun _ => pack_Uint.l0.eq_2 ..) ?_, Or.inl ⟨rfl, rfl, by simp⟩⟩
      simp only [h10, if_false]; exact ev_some _
  | b :: bs, i, v, hd, hi, hil, hv => by
    have hb := mem_drop_range hx hd
    by_cases h10 : i = 10
    · refine ⟨(0, 0, some 3), ev_step (fun _ => pack_Uint.l0.eq_2 ..) ?_, Or.inl ⟨rfl, rfl, by simp⟩⟩
      simp only [show ¬ ((i : Int) < 10) by omega, if_false]; exact ev_some _
    · have e9 : (128 : Nat) ^ 9 = 9223372036854775808 := by decide
      have hp : 128 ^ (i + 1) = 128 ^ i * 128 := Nat.pow_succ ..
      by_cases hA : i = 9 ∧ 1 < b
      · exact ⟨(0, 0, some 3), uint_round x hx i b bs hd (by omega) v hv _ (fun _ _ => rfl) (fun _ _ => rfl) (fun a _ _ => by have := a hA.1; omega) (fun a _ => by have := a hA.1; omega), Or.inl ⟨rfl, rfl, by simp⟩⟩
      · have h9 : i = 9 → b ≤ 1 := fun a => by
          have : ¬ 1 < b := fun c => hA ⟨a, c⟩
          omega
        by_cases hB : b = 0 ∧ 0 < i
        · exact ⟨(0, 0, some 3), uint_round x hx i b bs hd (by omega) v hv _ (fun _ _ => rfl) (fun _ _ => rfl) (fun _ a _ => absurd hB a) (fun _ a => by omega), Or.inl ⟨rfl, rfl, by simp⟩⟩
        · by_cases hC : b < 128
          · refine ⟨_, uint_round x hx i b bs hd (by omega) v hv (((v + b.toNat * 128 ^ i : Nat) : Int), ((i + 1 : Nat) : Int), none) (fun a c => absurd ⟨a, c⟩ hA) (fun a c => absurd ⟨a, c⟩ hB) (fun _ _ _ => rfl) (fun _ a => by omega), Or.inr ⟨b.toNat, bs, ?_, ?_, ?_, by omega⟩⟩
            · rw [uvar_small (by omega), show ((b.toNat : Nat) : Int) = b by omega]; rfl
            · rw [uvar_small (by omega)]; rfl
            · by_cases hi9 : i = 9
              · subst hi9
                have := h9 rfl
                have := Nat.mul_le_mul_right (128 ^ 9) (show b.toNat ≤ 1 by omega)
                omega
              · have a1 : 128 ^ i ≤ 128 ^ 8 := Nat.pow_le_pow_right (by decide) (by omega)
                have e8 : (128 : Nat) ^ 8 = 72057594037927936 := by decide
                have := Nat.mul_le_mul (show b.toNat ≤ 127 by omega) a1
                omega
          · have hv' : v + (b.toNat - 128) * 128 ^ i < 128 ^ (i + 1) := by
              have : (b.toNat - 128) * 128 ^ i ≤ 127 * 128 ^ i := Nat.mul_le_mul_right _ (by omega)
              omega
            obtain ⟨r, hr1, hr2⟩ := uint_any x hx bs (i + 1) (v + (b.toNat - 128) * 128 ^ i) (drop_cons hd).2.2 (by omega) (by have := (drop_cons hd).2.1; omega) hv'
            refine ⟨r, uint_round x hx i b bs hd (by omega) v hv r (fun a c => absurd ⟨a, c⟩ hA) (fun a c => absurd ⟨a, c⟩ hB) (fun _ _ a => absurd a hC) (fun _ _ => hr1), hr2.imp id ?_⟩
            rintro ⟨m, rest, rfl, rfl, h3, h4⟩
            have hm : 0 < m := by omega
            have hsum : v + (b.toNat - 128) * 128 ^ i + m * 128 ^ (i + 1) = v + (b.toNat - 128 + m * 128) * 128 ^ i := by
              rw [hp, Nat.add_mul, Nat.mul_assoc, Nat.mul_comm 128 (128 ^ i)]; omega
            refine ⟨b.toNat - 128 + m * 128, rest, ?_, ?_, by rw [← hsum]; exact h3, by omega⟩
            · rw [uvar_big (n := b.toNat - 128 + m * 128) (by omega), show (b.toNat - 128 + m * 128) / 128 = m by omega, show (((b.toNat - 128 + m * 128) % 128 + 128 : Nat) : Int) = b by omega]; rfl
            · rw [hsum, uvar_big (n := b.toNat - 128 + m * 128) (by omega), show (b.toNat - 128 + m * 128) / 128 = m by omega, List.length_cons, show i + ((uvar m).length + 1) = i + 1 + (uvar m).length by omega]
theorem ba_eq {a b : ByteArray} (h : a.toList = b.toList) : a = b := by
  rw [toList_data, toList_data] at h
  cases a; cases b
  congr 1
  exact Array.ext' h
theorem nums_inj : ∀ (xs ys : List Int), (∀ x ∈ xs, 0 ≤ x ∧ x ≤ 255) → (∀ y ∈ ys, 0 ≤ y ∧ y ≤ 255) → xs.map (fun n => UInt8.ofNat n.toNat) = ys.map (fun n => UInt8.ofNat n.toNat) → xs = ys
  | [], [], _, _, _ => rfl
  | [], _ :: _, _, _, h => by cases h
  | _ :: _, [], _, _, h => by cases h
  | x :: xs, y :: ys, hx, hy, h => by
    simp only [List.map_cons, List.cons.injEq] at h
    have a := hx x List.mem_cons_self
    have b := hy y List.mem_cons_self
    have hxy : x = y := by
      have h1 := congrArg UInt8.toNat h.1
      simp only [UInt8.toNat_ofNat'] at h1
      omega
    rw [hxy, nums_inj xs ys (fun z hz => hx z (List.mem_cons_of_mem _ hz)) (fun z hz => hy z (List.mem_cons_of_mem _ hz)) h.2]
theorem strOfNums_toList (xs : List Int) : (strOfNums xs).toList = xs.map (fun n => UInt8.ofNat n.toNat) := by
  rw [toList_data]; unfold strOfNums; simp
theorem strOfNums_inj {xs ys : List Int} (hx : ∀ x ∈ xs, 0 ≤ x ∧ x ≤ 255) (hy : ∀ y ∈ ys, 0 ≤ y ∧ y ≤ 255) (h : (strOfNums xs).toList = (strOfNums ys).toList) : xs = ys := by
  rw [strOfNums_toList, strOfNums_toList] at h
  exact nums_inj xs ys hx hy h
theorem uint_any0 (x : List Int) (hx : ∀ b ∈ x, 0 ≤ b ∧ b ≤ 255) : ∃ r, Ev (fun k => pack_Uint.f k x) r ∧ ((r.1 = 0 ∧ r.2.1 = 0 ∧ r.2.2 ≠ none) ∨ ∃ (m : Nat) (rest : List Int), x = uvar m ++ rest ∧ r = ((m : Int), ((uvar m).length : Int), none) ∧ m < 18446744073709551616) := by
  obtain ⟨r, h1, h2⟩ := uint_any x hx x 0 0 rfl (by omega) (by omega) (by decide)
  refine ⟨r, h1, h2.imp id ?_⟩
  rintro ⟨m, rest, a, b, c, _⟩
  simp only [Nat.pow_zero, Nat.mul_one, Nat.zero_add] at b c
  exact ⟨m, rest, a, b, c⟩
theorem str_bytes (s : ByteArray) : strOfNums (bytesOf s) = s := by
  apply ba_eq
  rw [strOfNums_toList, toList_data]
  unfold bytesOf
  rw [List.map_map]
  conv => rhs; rw [← List.map_id s.data.toList]
  apply List.map_congr_left
  intro b _
  simp
theorem bytes_str {xs : List Int} (h : ∀ x ∈ xs, 0 ≤ x ∧ x ≤ 255) : bytesOf (strOfNums xs) = xs := by
  unfold bytesOf
  rw [← toList_data, strOfNums_toList, List.map_map]
  conv => rhs; rw [← List.map_id xs]
  apply List.map_congr_left
  intro b hb
  have := h b hb
  simp only [Function.comp_apply, UInt8.toNat_ofNat', id]
  omega
theorem str_size (xs : List Int) : (strOfNums xs).size = xs.length := by
  rw [← size_data, ← toList_data, strOfNums_toList, List.length_map]
theorem ru_step (k : Nat) (x : List Int) (hx : ∀ b ∈ x, 0 ≤ b ∧ b ≤ 255) (x5 x6 : Int) (p : Nat) (hp : p < x.length) (hl : x.length < 9223372036854775807) (b : Int) (hb : x[p]? = some b) : barbicanref03_Uint.l1 (k + 1) x x5 x6 (p : Int) = barbicanref03_Uint.l1 k x x5 ((x6 * 128 + b % 128) % 18446744073709551616) ((p : Int) - 1) := by
  have hbr := hx b (List.mem_of_getElem? hb)
  rw [barbicanref03_Uint.l1.eq_2]
  have e1 : Int.tmod b 128 = b % 128 := Int.tmod_eq_emod_of_nonneg hbr.1
  have e2 : wrap64 ((p : Int) - 1) = (p : Int) - 1 := by unfold wrap64; omega
  simp only [show (p : Int) ≥ 0 by omega, show 0 ≤ (p : Int) by omega, show (p : Int) < (x.length : Int) by omega, if_true, rdn_at hb, e1, e2]
  congr 1
  rw [u64_wrap, u64_wrap, u64_wrap]
  omega
theorem ru_read (x : List Int) (hx : ∀ b ∈ x, 0 ≤ b ∧ b ≤ 255) (x5 m : Nat) (hl : x.length < 9223372036854775807) (h5 : x5 < x.length) (hm : m < 18446744073709551616) : ∀ (p : Nat), p ≤ x.length → (∀ i, i < p → ∀ b, x[i]? = some b → b % 128 = ((m / 128 ^ i % 128 : Nat) : Int)) → Ev (fun k => barbicanref03_Uint.l1 k x (x5 : Int) ((m / 128 ^ p : Nat) : Int) ((p : Int) - 1)) ((m : Int), ((x5 + 1 : Nat) : Int), 0)
  | 0, hp, h => by
    refine ev_step (fun _ => barbicanref03_Uint.l1.eq_2 ..) ?_
    rw [wrap_succ (j := x5) (by omega), Nat.pow_zero, Nat.div_one]
    exact ev_if_neg (by omega) (ev_some _)
  | p + 1, hp, h => by
    obtain ⟨b, hb⟩ : ∃ b, x[p]? = some b := ⟨x[p], List.getElem?_eq_getElem (by omega)⟩
    have hbm := h p (by omega) b hb
    have ih := ru_read x hx x5 m hl h5 hm p (by omega) (fun i hi => h i (by omega))
    rw [show (((p + 1 : Nat) : Int) - 1) = (p : Int) by omega]
    refine ev_step (fun k => ru_step k x hx x5 _ p (by omega) hl b hb) ?_
    have e : ((((m / 128 ^ (p + 1) : Nat) : Int) * 128 + b % 128) % 18446744073709551616) = ((m / 128 ^ p : Nat) : Int) := by
      have e1 : m / 128 ^ (p + 1) = m / 128 ^ p / 128 := by rw [Nat.pow_succ, Nat.div_div_eq_div_mul]
      have e2 : m / 128 ^ p ≤ m := Nat.div_le_self ..
      rw [hbm, e1]
      generalize m / 128 ^ p = d at e2 ⊢
      omega
    rw [e]
    exact ih
theorem uvar_at : ∀ (m i : Nat) (rest : List Int), i < (uvar m).length → ∃ b, (uvar m ++ rest)[i]? = some b ∧ b % 128 = ((m / 128 ^ i % 128 : Nat) : Int) ∧ (i + 1 < (uvar m).length → 128 ≤ b) ∧ (i + 1 = (uvar m).length → b < 128 ∧ b = ((m / 128 ^ i : Nat) : Int) ∧ (0 < i → b ≠ 0)) := by
  intro m
  induction m using Nat.strongRecOn with
  | ind m ih =>
    intro i rest hi
    by_cases h : m < 128
    · rw [uvar_small h] at hi ⊢
      simp only [List.length_cons, List.length_nil] at hi ⊢
      have : i = 0 := by omega
      subst this
      exact ⟨m, rfl, by rw [Nat.pow_zero, Nat.div_one]; omega, fun h => by omega, fun _ => ⟨by omega, by rw [Nat.pow_zero, Nat.div_one], fun h => by omega⟩⟩
    · rw [uvar_big h] at hi ⊢
      simp only [List.length_cons] at hi ⊢
      have hpos : 0 < (uvar (m / 128)).length := by
        by_cases h2 : m / 128 < 128
        · rw [uvar_small h2]; exact Nat.zero_lt_one
        · rw [uvar_big h2]; exact Nat.succ_pos _
      cases i with
      | zero => exact ⟨_, rfl, by rw [Nat.pow_zero, Nat.div_one]; omega, fun _ => by omega, fun h => by omega⟩
      | succ i =>
        obtain ⟨b, h1, h2, h3, h4⟩ := ih (m / 128) (by omega) i rest (by omega)
        have e : m / 128 ^ (i + 1) = m / 128 / 128 ^ i := by rw [Nat.pow_succ, Nat.mul_comm, Nat.div_div_eq_div_mul]
        refine ⟨b, h1, by rw [e]; exact h2, fun h => h3 (by omega), fun h => ?_⟩
        obtain ⟨a1, a2, a3⟩ := h4 (by omega)
        refine ⟨a1, by rw [e]; exact a2, fun _ => ?_⟩
        by_cases hi0 : 0 < i
        · exact a3 hi0
        · have : i = 0 := by omega
          subst this
          rw [Nat.pow_zero, Nat.div_one] at a2
          omega
/-- A number that is there. -/
theorem ru_uint_read (m : Nat) (rest : List Int) (hm : m < 18446744073709551616) (hr : ∀ b ∈ rest, 0 ≤ b ∧ b ≤ 255) (hl : rest.length ≤ 1099511627776) : Ev (fun k => barbicanref03_Uint.f k (uvar m ++ rest)) ((m : Int), ((uvar m).length : Int), 0) := by
  have hx : ∀ b ∈ uvar m ++ rest, 0 ≤ b ∧ b ≤ 255 := fun b hb => (List.mem_append.1 hb).elim (uvar_range m b) (hr b)
  have h10 := uvar_len64 hm
  have hlen : (uvar m ++ rest).length = (uvar m).length + rest.length := List.length_append
  have hpos : 0 < (uvar m).length := by
    by_cases h2 : m < 128
    · rw [uvar_small h2]; exact Nat.zero_lt_one
    · rw [uvar_big h2]; exact Nat.succ_pos _
  have scan : ∀ (d p : Nat), p + d + 1 = (uvar m).length → Ev (fun k => barbicanref03_Uint.l0 k (uvar m ++ rest) (p : Int)) ((m : Int), ((uvar m).length : Int), 0) := by
    intro d
    induction d with
    | zero =>
      intro p hp
      obtain ⟨b, b1, b2, b3, b4⟩ := uvar_at m p rest (by omega)
      obtain ⟨c1, c2, c3⟩ := b4 (by omega)
      have hd : m / 128 ^ (p + 1) = 0 := by
        rw [Nat.pow_succ, ← Nat.div_div_eq_div_mul]
        generalize m / 128 ^ p = d at c2 ⊢
        omega
      have hread := ru_read (uvar m ++ rest) hx p m (by omega) (by omega) hm (p + 1) (by omega) (fun i hi b' hb' => by
        obtain ⟨b'', q1, q2, _, _⟩ := uvar_at m i rest (by omega)
        rw [q1] at hb'
        rw [← Option.some.inj hb']; exact q2)
      rw [hd, show (((p + 1 : Nat) : Int) - 1) = (p : Int) by omega, show p + 1 = (uvar m).length by omega] at hread
      have hj2 : Ev (fun k => barbicanref03_Uint.j2 k (uvar m ++ rest) (p : Int)) ((m : Int), ((uvar m).length : Int), 0) := ev_step (fun _ => barbicanref03_Uint.j2.eq_2 ..) hread
      refine ev_step (fun _ => barbicanref03_Uint.l0.eq_2 ..) ?_
      refine ev_if_pos (by omega) (ev_if_pos (by omega) (ev_if_pos (by omega) ?_))
      rw [rdn_at b1]
      refine ev_if_neg (by omega) ?_
      refine ev_step (fun _ => barbicanref03_Uint.j1.eq_2 ..) ?_
      refine ev_if_neg (by omega) (ev_if_neg (by omega) ?_)
      rw [rdn_at b1]
      have two : Ev (fun k => if (p : Int) > 0 then (if b = 0 then (some (0, 0, 3)) else (barbicanref03_Uint.j2 k (uvar m ++ rest) (p : Int))) else (barbicanref03_Uint.j2 k (uvar m ++ rest) (p : Int))) ((m : Int), ((uvar m).length : Int), 0) := by
        by_cases a3 : (p : Int) > 0
        · exact ev_if_pos a3 (ev_if_neg (c3 (by omega)) hj2)
        · exact ev_if_neg a3 hj2
      by_cases a5 : (p : Int) = 9
      · have : ¬ (b > 1) := by
          have e9 : (128 : Nat) ^ 9 = 9223372036854775808 := by decide
          have : p = 9 := by omega
          subst this
          rw [c2, e9]
          omega
        exact ev_if_pos a5 (ev_if_pos (by omega) (ev_if_pos (by omega) (ev_if_neg this two)))
      · refine ev_if_neg a5 ?_
        simp only [show 0 ≤ (p : Int) by omega, show (p : Int) < ((uvar m ++ rest).length : Int) by omega, if_true]
        exact two
    | succ d ih =>
      intro p hp
      obtain ⟨b, b1, b2, b3, b4⟩ := uvar_at m p rest (by omega)
      refine ev_step (fun _ => barbicanref03_Uint.l0.eq_2 ..) ?_
      refine ev_if_pos (by omega) (ev_if_pos (by omega) (ev_if_pos (by omega) ?_))
      rw [rdn_at b1, wrap_succ (j := p) (by omega)]
      exact ev_if_pos (b3 (by omega)) (ih (p + 1) (by omega))
  exact scan ((uvar m).length - 1) 0 (by omega)
/-! ### the two agree -/
theorem varform : ∀ (hi : List Int) (b : Int), (∀ c ∈ hi, 128 ≤ c ∧ c ≤ 255) → 0 ≤ b → b < 128 → (hi ≠ [] → b ≠ 0) → ∃ m : Nat, uvar m = hi ++ [b] ∧ (hi ≠ [] → 0 < m) ∧ m < (b.toNat + 1) * 128 ^ hi.length
  | [], b, _, h0, h1, _ => ⟨b.toNat, by rw [uvar_small (by omega), List.nil_append, show ((b.toNat : Nat) : Int) = b by omega], fun h => absurd rfl h, by simp⟩
  | c :: hi, b, hc, h0, h1, hb => by
    have hc0 := hc c List.mem_cons_self
    obtain ⟨m, e1, e2, e3⟩ := varform hi b (fun d hd => hc d (List.mem_cons_of_mem _ hd)) h0 h1 (fun _ => hb (by simp))
    have hm : 0 < m := by
      by_cases hn : hi = []
      · subst hn
        rw [List.nil_append] at e1
        rcases Nat.eq_zero_or_pos m with h | h
        · subst h
          rw [uvar_small (by omega)] at e1
          have : ((0 : Nat) : Int) = b := by injection e1
          exact absurd this.symm (hb (by simp))
        · exact h
      · exact e2 hn
    refine ⟨(c.toNat - 128) + 128 * m, ?_, fun _ => by omega, ?_⟩
    · rw [uvar_big (by omega), show ((c.toNat - 128 + 128 * m) / 128) = m by omega, e1, show (((c.toNat - 128 + 128 * m) % 128 + 128 : Nat) : Int) = c by omega, List.cons_append]
    · rw [List.length_cons, Nat.pow_succ, ← Nat.mul_assoc]
      omega
theorem ru_strict (x : List Int) (hx : ∀ b ∈ x, 0 ≤ b ∧ b ≤ 255) (hl : x.length ≤ 1099511627776) : (∃ e, Ev (fun k => barbicanref03_Uint.f k x) (0, 0, e) ∧ e ≠ 0) ∨ ∃ (m : Nat) (rest : List Int), x = uvar m ++ rest ∧ m < 18446744073709551616 := by
  have scan : ∀ (bs : List Int) (p : Nat), x.drop p = bs → p ≤ 10 → p ≤ x.length → (∀ c ∈ x.take p, 128 ≤ c ∧ c ≤ 255) → (∃ e, Ev (fun k => barbicanref03_Uint.l0 k x (p : Int)) (0, 0, e) ∧ e ≠ 0) ∨ ∃ (m : Nat) (rest : List Int), x = uvar m ++ rest ∧ m < 18446744073709551616 := by
    intro bs
    induction bs with
    | nil =>
      intro p hd h10 hp _
      have := drop_nil hd
      left
      by_cases a1 : p = 10
      · exact ⟨3, ev_step (fun _ => barbicanref03_Uint.l0.eq_2 ..) (ev_if_neg (by omega) (ev_step (fun _ => barbicanref03_Uint.j1.eq_2 ..) (ev_if_pos (by omega) (ev_some _)))), by decide⟩
      · exact ⟨12, ev_step (fun _ => barbicanref03_Uint.l0.eq_2 ..) (ev_if_neg (by omega) (ev_step (fun _ => barbicanref03_Uint.j1.eq_2 ..) (ev_if_neg (by omega) (ev_if_pos (by omega) (ev_some _))))), by decide⟩
    | cons b bs ih =>
      intro p hd h10 hp hhi
      obtain ⟨d1, d2, d3⟩ := drop_cons hd
      have hb := hx b (List.mem_of_getElem? d1)
      by_cases a1 : p = 10
      · left
        exact ⟨3, ev_step (fun _ => barbicanref03_Uint.l0.eq_2 ..) (ev_if_pos (by omega) (ev_if_neg (by omega) (ev_step (fun _ => barbicanref03_Uint.j1.eq_2 ..) (ev_if_pos (by omega) (ev_some _))))), by decide⟩
      have htk : x.take (p + 1) = x.take p ++ [b] := by rw [List.take_add_one, d1]; rfl
      by_cases a2 : b ≥ 128
      · refine (ih (p + 1) d3 (by omega) (by omega) ?_).imp ?_ id
        · rw [htk]
          intro c hc
          rcases List.mem_append.1 hc with h | h
          · exact hhi c h
          · rw [List.mem_singleton.1 h]; exact ⟨a2, hb.2⟩
        · rintro ⟨e, g1, g2⟩
          refine ⟨e, ev_step (fun _ => barbicanref03_Uint.l0.eq_2 ..) (ev_if_pos (by omega) (ev_if_pos (by omega) (ev_if_pos (by omega) ?_))), g2⟩
          rw [rdn_at d1, wrap_succ (j := p) (by omega)]
          exact ev_if_pos a2 g1
      · by_cases a3 : p = 9 ∧ b > 1
        · left
          refine ⟨3, ev_step (fun _ => barbicanref03_Uint.l0.eq_2 ..) (ev_if_pos (by omega) (ev_if_pos (by omega) (ev_if_pos (by omega) ?_))), by decide⟩
          rw [rdn_at d1]
          refine ev_if_neg a2 (ev_step (fun _ => barbicanref03_Uint.j1.eq_2 ..) (ev_if_neg (by omega) (ev_if_neg (by omega) (ev_if_pos (by omega) (ev_if_pos (by omega) (ev_if_pos (by omega) ?_))))))
          rw [rdn_at d1]
          exact ev_if_pos a3.2 (ev_some _)
        · by_cases a4 : 0 < p ∧ b = 0
          · left
            refine ⟨3, ev_step (fun _ => barbicanref03_Uint.l0.eq_2 ..) (ev_if_pos (by omega) (ev_if_pos (by omega) (ev_if_pos (by omega) ?_))), by decide⟩
            rw [rdn_at d1]
            refine ev_if_neg a2 (ev_step (fun _ => barbicanref03_Uint.j1.eq_2 ..) (ev_if_neg (by omega) (ev_if_neg (by omega) ?_)))
            by_cases a5 : (p : Int) = 9
            · refine ev_if_pos a5 (ev_if_pos (by omega) (ev_if_pos (by omega) ?_))
              rw [rdn_at d1]
              exact ev_if_neg (by omega) (ev_if_pos (by omega) (ev_if_pos a4.2 (ev_some _)))
            · refine ev_if_neg a5 (ev_if_pos (by omega) (ev_if_pos (by omega) (ev_if_pos (by omega) ?_)))
              rw [rdn_at d1]
              exact ev_if_pos a4.2 (ev_some _)
          · right
            obtain ⟨m, e1, _, e3⟩ := varform (x.take p) b hhi hb.1 (by omega) (fun hn hb0 => a4 ⟨by
              rcases Nat.eq_zero_or_pos p with h | h
              · subst h; exact absurd rfl hn
              · exact h, hb0⟩)
            refine ⟨m, bs, ?_, ?_⟩
            · rw [e1, List.append_assoc, List.singleton_append, ← hd, List.take_append_drop]
            · rw [List.length_take, Nat.min_eq_left (by omega)] at e3
              have e9 : (128 : Nat) ^ 9 = 9223372036854775808 := by decide
              have e8 : (128 : Nat) ^ 8 = 72057594037927936 := by decide
              by_cases h9 : p = 9
              · subst h9
                have : ¬ b > 1 := fun h => a3 ⟨rfl, h⟩
                have := Nat.mul_le_mul_right (128 ^ 9) (show b.toNat + 1 ≤ 2 by omega)
                omega
              · have a1' : 128 ^ p ≤ 128 ^ 8 := Nat.pow_le_pow_right (by decide) (by omega)
                have := Nat.mul_le_mul (show b.toNat + 1 ≤ 128 by omega) a1'
                omega
  exact scan x 0 rfl (by omega) (by omega) (by simp)
/-- What stands at the head of bytes, for both: no number, or one that is written just so. -/
theorem uint_both (x : List Int) (hx : ∀ b ∈ x, 0 ≤ b ∧ b ≤ 255) (hl : x.length ≤ 1099511627776) :
    (∃ q e, Ev (fun k => pack_Uint.f k x) (0, 0, some q) ∧ Ev (fun k => barbicanref03_Uint.f k x) (0, 0, e) ∧ e ≠ 0) ∨
    ∃ (m : Nat) (rest : List Int), x = uvar m ++ rest ∧ m < 18446744073709551616 ∧ Ev (fun k => pack_Uint.f k x) ((m : Int), ((uvar m).length : Int), none) ∧ Ev (fun k => barbicanref03_Uint.f k x) ((m : Int), ((uvar m).length : Int), 0) := by
  obtain ⟨⟨r1, r2, r3⟩, h1, h2⟩ := uint_any0 x hx
  rcases ru_strict x hx hl with ⟨e, g1, g2⟩ | ⟨m, rest, rfl, hm⟩
  · rcases h2 with ⟨rfl, rfl, h3⟩ | ⟨m, rest, rfl, h4, hm⟩
    · cases r3 with
      | none => exact absurd rfl h3
      | some q => exact Or.inl ⟨q, e, h1, g1, g2⟩
    · have hr : ∀ b ∈ rest, 0 ≤ b ∧ b ≤ 255 := fun b hb => hx b (List.mem_append_right _ hb)
      have := ev_uniq g1 (ru_uint_read m rest hm hr (by rw [List.length_append] at hl; omega))
      injection this with _ t
      injection t with _ t
      exact absurd t g2
  · have hr : ∀ b ∈ rest, 0 ≤ b ∧ b ≤ 255 := fun b hb => hx b (List.mem_append_right _ hb)
    exact Or.inr ⟨m, rest, rfl, hm, uint_dec m rest hm hr, ru_uint_read m rest hm hr (by rw [List.length_append] at hl; omega)⟩
/-- .. and a text that may be as long as all there is. -/
theorem text_both (x : List Int) (hx : ∀ b ∈ x, 0 ≤ b ∧ b ≤ 255) (hl : x.length ≤ 1099511627776) :
    (∃ q e, Ev (fun k => pack_Text.f k x (x.length : Int)) ((⟨#[]⟩ : ByteArray), 0, some q) ∧ Ev (fun k => barbicanref03_Text.f k x (x.length : Int)) ((⟨#[]⟩ : ByteArray), 0, e) ∧ e ≠ 0) ∨
    ∃ (s : ByteArray) (rest : List Int), x = uvar s.size ++ (bytesOf s ++ rest) ∧ Ev (fun k => pack_Text.f k x (x.length : Int)) (s, (((uvar s.size).length + s.size : Nat) : Int), none) ∧ Ev (fun k => barbicanref03_Text.f k x (x.length : Int)) (s, (((uvar s.size).length + s.size : Nat) : Int), 0) := by
  have e1 : IntKind.u64.wrap (x.length : Int) = (x.length : Int) := u64_wrap_id (by omega) (by omega)
  have h0 : ¬ (x.length : Int) < 0 := by omega
  unfold pack_Text.f barbicanref03_Text.f
  rcases uint_both x hx hl with ⟨q, e, g1, g2, g3⟩ | ⟨m, rest, hxe, hm, g1, g2⟩
  · exact Or.inl ⟨q, e, ev_if_neg h0 (ev_bind g1 (ev_if_neg (by simp) (ev_some _))), ev_if_neg h0 (ev_bind g2 (ev_if_neg g3 (ev_some _))), g3⟩
  · have hlen : x.length = (uvar m).length + rest.length := by rw [hxe, List.length_append]
    have e2 : wrap64 ((x.length : Int) - ((uvar m).length : Int)) = ((rest.length : Nat) : Int) := by unfold wrap64; omega
    have e3 : IntKind.u64.wrap ((rest.length : Nat) : Int) = ((rest.length : Nat) : Int) := u64_wrap_id (by omega) (by omega)
    by_cases a1 : (m : Int) > (x.length : Int)
    · exact Or.inl ⟨2, 2, ev_if_neg h0 (ev_bind g1 (ev_if_pos rfl (ev_if_pos (by rw [e1]; exact a1) (ev_some _)))), ev_if_neg h0 (ev_bind g2 (ev_if_pos rfl (ev_if_pos (by rw [e1]; exact a1) (ev_some _)))), by decide⟩
    · by_cases a2 : (m : Int) > ((rest.length : Nat) : Int)
      · exact Or.inl ⟨12, 12, ev_if_neg h0 (ev_bind g1 (ev_if_pos rfl (ev_if_neg (by rw [e1]; exact a1) (ev_if_pos (by simp only [e2, e3]; exact a2) (ev_some _))))), ev_if_neg h0 (ev_bind g2 (ev_if_pos rfl (ev_if_neg (by rw [e1]; exact a1) (ev_if_pos (by simp only [e2, e3]; exact a2) (ev_some _))))), by decide⟩
      · have e4 : wrap64 (m : Int) = (m : Int) := by unfold wrap64; omega
        have e5 : wrap64 (((uvar m).length : Int) + (m : Int)) = (((uvar m).length + m : Nat) : Int) := by unfold wrap64; omega
        have hr : ∀ b ∈ rest.take m, 0 ≤ b ∧ b ≤ 255 := fun b hb => hx b (by rw [hxe]; exact List.mem_append_right _ (List.mem_of_mem_take hb))
        have e6 : (x.take ((uvar m).length + m)).drop (uvar m).length = rest.take m := by rw [hxe, List.take_length_add_append, List.drop_left' rfl]
        have hs : (strOfNums (rest.take m)).size = m := by rw [str_size, List.length_take]; omega
        refine Or.inr ⟨strOfNums (rest.take m), rest.drop m, ?_, ?_, ?_⟩
        · rw [hs, bytes_str hr, List.take_append_drop]; exact hxe
        · rw [hs]
          refine ev_if_neg h0 (ev_bind g1 (ev_if_pos rfl (ev_if_neg (by rw [e1]; exact a1) (ev_if_neg (by simp only [e2, e3]; exact a2) ?_))))
          simp only [e4, e5, show (0 : Int) ≤ ((uvar m).length : Int) by omega, show ((uvar m).length : Int) ≤ (((uvar m).length + m : Nat) : Int) by omega, show (((uvar m).length + m : Nat) : Int) ≤ (x.length : Int) by omega, if_true, Int.toNat_natCast, e6]
          exact ev_some _
        · rw [hs]
          refine ev_if_neg h0 (ev_bind g2 (ev_if_pos rfl (ev_if_neg (by rw [e1]; exact a1) (ev_if_neg (by simp only [e2, e3]; exact a2) ?_))))
          simp only [e4, e5, show (0 : Int) ≤ ((uvar m).length : Int) by omega, show ((uvar m).length : Int) ≤ (((uvar m).length + m : Nat) : Int) by omega, show (((uvar m).length + m : Nat) : Int) ≤ (x.length : Int) by omega, if_true, Int.toNat_natCast, e6]
          exact ev_some _
end Go.Proofs.YtddkbhglbkfelaaDoor.E
