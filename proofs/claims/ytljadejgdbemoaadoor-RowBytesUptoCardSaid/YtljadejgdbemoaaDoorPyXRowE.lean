/- What the walks of pack.Int, pack.Text, row.Decode compute, told plainly. -/
import Derived.Test.YtljadejgdbemoaaDoorPyXRowD
set_option linter.unusedVariables false
set_option linter.unusedSimpArgs false
namespace Go.Proofs.YtljadejgdbemoaaDoor.R
open Go.RowKit Go.Proofs.YtljadejgdbemoaaDoorW.PrintWords Go.Proofs.YtljadejgdbemoaaDoorW.PrintLast Go.Proofs.YtljadejgdbemoaaDoorX

theorem i64_xor (x y : Int) : Go.bits .xor .i64 x y = IntKind.i64.wrap (((BitVec.ofInt 64 x).toNat ^^^ (BitVec.ofInt 64 y).toNat : Nat) : Int) := by
  show IntKind.i64.wrap (((BitVec.ofInt 64 x ^^^ BitVec.ofInt 64 y).toNat : Nat) : Int) = _
  rw [BitVec.toNat_xor]
theorem i64_wrap (x : Int) : IntKind.i64.wrap x = wrap64 x := by
  simp [IntKind.wrap, IntKind.bits, IntKind.signed, wrap64]
  split <;> omega
theorem u64_and_one {v : Nat} (h : v < 18446744073709551616) : Go.bits .and .u64 (v : Int) 1 = ((v % 2 : Nat) : Int) := by
  have h1 : (BitVec.ofInt 64 1).toNat = 1 := by decide
  show IntKind.u64.wrap (((BitVec.ofInt 64 (v : Int) &&& BitVec.ofInt 64 1).toNat : Nat) : Int) = _
  rw [BitVec.toNat_and, ofInt_nat64 h, h1, Nat.and_one_is_mod, u64_wrap_id (by omega) (by omega)]
/-- A zigzag's number. -/
def unzz (v : Nat) : Int := if v % 2 = 0 then ((v / 2 : Nat) : Int) else -((v / 2 : Nat) : Int) - 1
theorem unzz_zz {a : Int} : unzz (zz a) = a := by
  unfold unzz zz; split <;> split <;> omega
theorem zz_unzz (v : Nat) : zz (unzz v) = v := by
  unfold unzz zz; split <;> split <;> omega
theorem unzz_range {v : Nat} (h : v < 18446744073709551616) : -9223372036854775808 ≤ unzz v ∧ unzz v ≤ 9223372036854775807 := by
  unfold unzz; split <;> omega
theorem unzz_bits {v : Nat} (h : v < 18446744073709551616) : Go.bits .xor .i64 (wrap64 ((v : Int) / 2)) (wrap64 (-(wrap64 (Go.bits .and .u64 (v : Int) 1)))) = unzz v := by
  have e1 : wrap64 ((v : Int) / 2) = ((v / 2 : Nat) : Int) := by unfold wrap64; omega
  rw [u64_and_one h, e1, i64_xor, i64_wrap, ofInt_nat64 (by omega)]
  unfold unzz
  by_cases hv : v % 2 = 0
  · have e2 : wrap64 (-(wrap64 ((v % 2 : Nat) : Int))) = 0 := by rw [hv]; unfold wrap64; omega
    have e3 : (BitVec.ofInt 64 0).toNat = 0 := by decide
    rw [e2, e3, Nat.xor_zero, if_pos hv]
    unfold wrap64; omega
  · have e2 : wrap64 (-(wrap64 ((v % 2 : Nat) : Int))) = -1 := by rw [show v % 2 = 1 by omega]; unfold wrap64; omega
    have e3 : BitVec.ofInt 64 (-1) = BitVec.allOnes 64 := by decide
    have e4 : (v / 2) ^^^ (BitVec.allOnes 64).toNat = 18446744073709551615 - v / 2 := by
      have := ofInt_nat64 (x := v / 2) (by omega)
      conv => lhs; rw [← this]
      rw [← BitVec.toNat_xor, BitVec.xor_allOnes, BitVec.toNat_not, this]
    rw [e2, e3, e4, if_neg hv]
    unfold wrap64; omega
/-- The errors of what is read: all that matters of them. -/
theorem int_dec (a : Int) (rest : List Int) (ha : -9223372036854775808 ≤ a ∧ a ≤ 9223372036854775807) (hr : ∀ b ∈ rest, 0 ≤ b ∧ b ≤ 255) : Ev (fun k => pack_Int.f k (uvar (zz a) ++ rest)) (a, ((uvar (zz a)).length : Int), none) := by
  unfold pack_Int.f
  refine ev_bind (uint_dec (zz a) rest (zz_lt ha.1 ha.2) hr) ?_
  simp only [unzz_bits (zz_lt ha.1 ha.2), unzz_zz]
  exact ev_some _
theorem uint_any0 (x : List Int) (hx : ∀ b ∈ x, 0 ≤ b ∧ b ≤ 255) : ∃ r, Ev (fun k => pack_Uint.f k x) r ∧ ((r.1 = 0 ∧ r.2.1 = 0 ∧ r.2.2 ≠ none) ∨ ∃ (m : Nat) (rest : List Int), x = uvar m ++ rest ∧ r = ((m : Int), ((uvar m).length : Int), none) ∧ m < 18446744073709551616) := by
  obtain ⟨r, h1, h2⟩ := uint_any x hx x 0 0 rfl (by omega) (by omega) (by decide)
  refine ⟨r, h1, h2.imp id ?_⟩
  rintro ⟨m, rest, a, b, c, _⟩
  simp only [Nat.pow_zero, Nat.mul_one, Nat.zero_add] at b c
  exact ⟨m, rest, a, b, c⟩
theorem int_any (x : List Int) (hx : ∀ b ∈ x, 0 ≤ b ∧ b ≤ 255) : ∃ r, Ev (fun k => pack_Int.f k x) r ∧ (r.2.2 ≠ none ∨ ∃ (a : Int) (rest : List Int), x = uvar (zz a) ++ rest ∧ r = (a, ((uvar (zz a)).length : Int), none) ∧ -9223372036854775808 ≤ a ∧ a ≤ 9223372036854775807) := by
  obtain ⟨r, h1, h2⟩ := uint_any0 x hx
  refine ⟨_, ev_bind h1 (ev_some _), ?_⟩
  rcases h2 with ⟨_, _, h⟩ | ⟨m, rest, rfl, rfl, h⟩
  · exact Or.inl h
  · refine Or.inr ⟨unzz m, rest, by rw [zz_unzz], ?_, (unzz_range h).1, (unzz_range h).2⟩
    rw [zz_unzz, unzz_bits h]
theorem str_bytes (s : ByteArray) : strOfNums (bytesOf s) = s := by
  apply ba_eq
  rw [strOfNums_toList, toList_data]
  unfold bytesOf
  rw [List.map_map]
  conv => rhs; rw [← List.map_id s.data.toList]
  apply List.map_congr_left
  intro b _
  simp
theorem bytes_str {xs : List Int} (h : ∀ x ∈ xs, 0 ≤ x ∧ x ≤ 255) : bytesOf (strOfNums xs) = xs := by
  unfold bytesOf
  rw [← toList_data, strOfNums_toList, List.map_map]
  conv => rhs; rw [← List.map_id xs]
  apply List.map_congr_left
  intro b hb
  have := h b hb
  simp only [Function.comp_apply, UInt8.toNat_ofNat', id]
  omega
theorem str_size (xs : List Int) : (strOfNums xs).size = xs.length := by
  rw [← size_data, ← toList_data, strOfNums_toList, List.length_map]
/-- A text that is there, at its length. -/
theorem text_at (m : Nat) (body rest : List Int) (hb : body.length = m) (hm : m ≤ 4096) (hl : (uvar m ++ (body ++ rest)).length < 9223372036854775807) (hr : ∀ b ∈ body ++ rest, 0 ≤ b ∧ b ≤ 255) :
    Ev (fun k => pack_Text.f k (uvar m ++ (body ++ rest)) 4096) (strOfNums body, (((uvar m).length + m : Nat) : Int), none) := by
  unfold pack_Text.f
  refine ev_if_neg (by decide) ?_
  refine ev_bind (uint_dec m (body ++ rest) (by omega) hr) ?_
  have h10 := uvar_len64 (n := m) (by omega)
  have e1 : IntKind.u64.wrap (4096 : Int) = 4096 := by decide
  have hlen : ((uvar m ++ (body ++ rest)).length : Int) = (uvar m).length + (m + rest.length) := by simp only [List.length_append, hb]; omega
  have hlen' := hlen
  have e2 : wrap64 (((uvar m ++ (body ++ rest)).length : Int) - ((uvar m).length : Int)) = ((m + rest.length : Nat) : Int) := by unfold wrap64; omega
  have e3 : IntKind.u64.wrap ((m + rest.length : Nat) : Int) = ((m + rest.length : Nat) : Int) := u64_wrap_id (by omega) (by omega)
  have e4 : wrap64 (m : Int) = (m : Int) := by unfold wrap64; omega
  have e5 : wrap64 (((uvar m).length : Int) + (m : Int)) = (((uvar m).length + m : Nat) : Int) := by unfold wrap64; omega
  simp only [Option.isNone_none, if_true, e1, e2, e3, e4, e5, show ¬ ((m : Int) > 4096) by omega, show ¬ ((m : Int) > ((m + rest.length : Nat) : Int)) by omega, if_false, show (0 : Int) ≤ ((uvar m).length : Int) by omega, show ((uvar m).length : Int) ≤ (((uvar m).length + m : Nat) : Int) by omega, Int.toNat_natCast]
  rw [if_pos (show (((uvar m).length + m : Nat) : Int) ≤ ((uvar m ++ (body ++ rest)).length : Int) by rw [hlen]; omega)]
  have e6 : ((uvar m ++ (body ++ rest)).take ((uvar m).length + m)).drop (uvar m).length = body := by
    rw [List.take_length_add_append, List.drop_left' rfl, List.take_append_of_le_length (by omega), List.take_of_length_le (by omega)]
  rw [e6]
  exact ev_some _
theorem text_dec (s : ByteArray) (rest : List Int) (hs : s.size ≤ 4096) (hr : ∀ b ∈ rest, 0 ≤ b ∧ b ≤ 255) (hl : rest.length ≤ 1099511627776) : Ev (fun k => pack_Text.f k (uvar s.size ++ (bytesOf s ++ rest)) 4096) (s, (((uvar s.size).length + s.size : Nat) : Int), none) := by
  have h10 := uvar_len64 (n := s.size) (by omega)
  have := text_at s.size (bytesOf s) rest (bytesOf_length s) hs (by simp only [List.length_append, bytesOf_length]; omega) (fun b hb => (List.mem_append.1 hb).elim (bytesOf_range s b) (hr b))
  rwa [str_bytes] at this
theorem text_any (x : List Int) (hx : ∀ b ∈ x, 0 ≤ b ∧ b ≤ 255) (hl : x.length ≤ 1099511627776) : ∃ r, Ev (fun k => pack_Text.f k x 4096) r ∧ (r.2.2 ≠ none ∨ ∃ (s : ByteArray) (rest : List Int), x = uvar s.size ++ (bytesOf s ++ rest) ∧ r = (s, (((uvar s.size).length + s.size : Nat) : Int), none) ∧ s.size ≤ 4096) := by
  obtain ⟨r, h1, h2⟩ := uint_any0 x hx
  rcases h2 with ⟨_, _, h⟩ | ⟨m, rest, rfl, rfl, h⟩
  · refine ⟨(⟨#[]⟩, 0, some (r.2.2.getD 0)), ?_, Or.inl (by simp)⟩
    unfold pack_Text.f
    refine ev_if_neg (by decide) ?_
    refine ev_bind h1 ?_
    have : ¬ (r.2.2.isNone = true) := by cases e : r.2.2 <;> simp_all
    simp only [this, if_false]
    exact ev_some _
  · by_cases hA : m ≤ 4096 ∧ m ≤ rest.length
    · have ht := text_at m (rest.take m) (rest.drop m) (by rw [List.length_take]; omega) hA.1 (by rw [List.take_append_drop]; omega) (by rw [List.take_append_drop]; exact fun b hb => hx b (List.mem_append.2 (Or.inr hb)))
      have hs : (strOfNums (rest.take m)).size = m := by rw [str_size, List.length_take]; omega
      rw [List.take_append_drop] at ht
      refine ⟨_, ht, Or.inr ⟨strOfNums (rest.take m), rest.drop m, ?_, ?_, by omega⟩⟩
      · rw [hs, bytes_str (fun b hb => hx b (List.mem_append.2 (Or.inr (List.mem_of_mem_take hb)))), List.take_append_drop]
      · rw [hs]
    · have h10 := uvar_len64 (n := m) h
      have hll : ((uvar m ++ rest).length : Int) = (uvar m).length + rest.length := by simp only [List.length_append]; omega
      simp only [List.length_append] at hl
      have e1 : IntKind.u64.wrap (4096 : Int) = 4096 := by decide
      have e2 : wrap64 (((uvar m ++ rest).length : Int) - ((uvar m).length : Int)) = (rest.length : Int) := by unfold wrap64; omega
      have e3 : IntKind.u64.wrap (rest.length : Int) = (rest.length : Int) := u64_wrap_id (by omega) (by omega)
      by_cases hB : m ≤ 4096
      · refine ⟨(⟨#[]⟩, 0, some 12), ?_, Or.inl (by simp)⟩
        unfold pack_Text.f
        refine ev_if_neg (by decide) ?_
        refine ev_bind h1 ?_
        simp only [Option.isNone_none, if_true, e1, e2, e3, show ¬ ((m : Int) > 4096) by omega, if_false, show ((m : Int) > (rest.length : Int)) by omega]
        exact ev_some _
      · refine ⟨(⟨#[]⟩, 0, some 2), ?_, Or.inl (by simp)⟩
        unfold pack_Text.f
        refine ev_if_neg (by decide) ?_
        refine ev_bind h1 ?_
        simp only [Option.isNone_none, if_true, e1, show ((m : Int) > 4096) by omega]
        exact ev_some _

/-! ### row.Decode -/
/-- What one reads at a value that fits. -/
theorem one_dec (c : S36) (v : S38) (ov : OKv v) (hv : fitErr c v = none) (h0 : v.f0 ≠ 0) (rest : List Int) (hr : ∀ b ∈ rest, 0 ≤ b ∧ b ≤ 255) (hl : rest.length ≤ 1099511627776) : ∃ (e : List Int), encV v = 1 :: e ∧ Ev (fun k => row_one.f k c.f1 (e ++ rest)) (v.f0, v.f1, v.f2, v.f3, (e.length : Int), none) := by
  obtain ⟨ev, kv⟩ := fit_none hv
  obtain ⟨av, bv, cv, dv, sv, _⟩ := vErr_none ev
  have hk : v.f0 = c.f1 := by rcases kv with kv | kv; exact absurd kv.1 h0; exact kv.2
  have hnil : (⟨#[]⟩ : ByteArray).toList = [] := by rw [toList_data]
  unfold encV row_one.f
  rw [if_neg h0, ← hk]
  by_cases h1 : v.f0 = 1
  · rw [if_pos h1]
    refine ⟨_, rfl, ev_if_pos h1 ?_⟩
    refine ev_bind (int_dec v.f1 rest ov.1 hr) ?_
    simp only [value_Int.f, Option.bind_some]
    have e2 : v.f2 = ⟨#[]⟩ := ba_eq (by rw [cv (by omega), hnil])
    rw [h1, e2, dv (by omega)]
    exact ev_some _
  · by_cases h2 : v.f0 = 2
    · rw [if_neg h1, if_pos h2]
      refine ⟨_, rfl, ev_if_neg h1 (ev_if_pos h2 ?_)⟩
      rw [List.append_assoc]
      refine ev_bind (text_dec v.f2 rest sv hr hl) ?_
      simp only [value_Text.f, Option.bind_some, List.length_append, bytesOf_length]
      rw [h2, bv (by omega), dv (by omega)]
      exact ev_some _
    · have h3 : v.f0 = 3 := by omega
      rw [if_neg h1, if_neg h2]
      have e2 : v.f2 = ⟨#[]⟩ := ba_eq (by rw [cv (by omega), hnil])
      refine ⟨_, rfl, ev_if_neg h1 (ev_if_neg h2 ?_)⟩
      rw [h3, e2, bv (by omega)]
      have go : ∀ (b : Int) (t : Bool), (b = 0 ∨ b = 1) → (b == 1) = t → Ev (fun k => if (([b] ++ rest).length : Int) = 0 then row_one.j0 k ([b] ++ rest) true else if 0 < (([b] ++ rest).length : Int) then row_one.j0 k ([b] ++ rest) (decide ((rd ([b] ++ rest) 0) > 1)) else none) (3, 0, ⟨#[]⟩, t, (([b] : List Int).length : Int), none) := by
        intro b t hb ht
        have er : rd ([b] ++ rest) 0 = b := rfl
        have el : (([b] ++ rest).length : Int) > 0 := by simp only [List.length_append, List.length_cons]; omega
        rw [er]
        refine ev_if_neg (by omega) (ev_if_pos el ?_)
        have hd : decide (b > 1) = false := by simp; omega
        rw [hd]
        refine ev_step (fun _ => row_one.j0.eq_2 ..) ?_
        simp only [Bool.false_eq_true, if_false, el, if_true, er, value_Bool.f, Option.bind_some, ht, show (0 : Int) < (([b] ++ rest).length : Int) from el]
        exact ev_some _
      cases h4 : v.f3 with
      | true => exact go 1 true (Or.inr rfl) rfl
      | false => exact go 0 false (Or.inl rfl) rfl
/-- What one reads, whatever stands there. -/
theorem one_any (kind : Int) (x : List Int) (hx : ∀ b ∈ x, 0 ≤ b ∧ b ≤ 255) (hl : x.length ≤ 1099511627776) : ∃ (v : S38) (n : Int) (e : Option Int), Ev (fun k => row_one.f k kind x) (v.f0, v.f1, v.f2, v.f3, n, e) ∧ (e ≠ none ∨ (e = none ∧ OKv v ∧ ∃ (c rest : List Int), x = c ++ rest ∧ encV v = 1 :: c ∧ n = (c.length : Int))) := by
  unfold row_one.f
  by_cases h1 : kind = 1
  · simp only [h1, if_true]
    obtain ⟨r, hr, h⟩ := int_any x hx
    refine ⟨⟨1, r.1, ⟨#[]⟩, false⟩, r.2.1, r.2.2, ev_bind hr (ev_some _), h.imp id ?_⟩
    rintro ⟨a, rest, rfl, rfl, ha⟩
    exact ⟨rfl, ⟨ha, by show (0 : Nat) ≤ _; omega⟩, uvar (zz a), rest, rfl, rfl, rfl⟩
  · simp only [h1, if_false]
    by_cases h2 : kind = 2
    · simp only [h2, if_true]
      obtain ⟨r, hr, h⟩ := text_any x hx hl
      refine ⟨⟨2, 0, r.1, false⟩, r.2.1, r.2.2, ev_bind hr (ev_some _), h.imp id ?_⟩
      rintro ⟨s, rest, rfl, rfl, hs⟩
      refine ⟨rfl, ⟨⟨by show (-9223372036854775808 : Int) ≤ 0; omega, by show (0 : Int) ≤ 9223372036854775807; omega⟩, by show s.size ≤ _; omega⟩, uvar s.size ++ bytesOf s, rest, by rw [List.append_assoc], rfl, by simp only [List.length_append, bytesOf_length]⟩
    · simp only [h2, if_false]
      have hbad : Ev (fun k => row_one.j0 k x true) ((⟨0, 0, ⟨#[]⟩, false⟩ : S38).f0, (⟨0, 0, ⟨#[]⟩, false⟩ : S38).f1, (⟨0, 0, ⟨#[]⟩, false⟩ : S38).f2, (⟨0, 0, ⟨#[]⟩, false⟩ : S38).f3, 0, some 3) := by
        refine ev_step (fun _ => row_one.j0.eq_2 ..) ?_
        simp only [if_true, value_Null.f, Option.bind_some]; exact ev_some _
      cases x with
      | nil => exact ⟨⟨0, 0, ⟨#[]⟩, false⟩, 0, some 3, ev_if_pos rfl hbad, Or.inl (by simp)⟩
      | cons b rest =>
        have hb := hx b List.mem_cons_self
        have el : ((b :: rest).length : Int) > 0 := by simp only [List.length_cons]; omega
        have er : rd (b :: rest) 0 = b := rfl
        by_cases hb1 : b > 1
        · refine ⟨⟨0, 0, ⟨#[]⟩, false⟩, 0, some 3, ev_if_neg (by omega) (ev_if_pos el ?_), Or.inl (by simp)⟩
          rw [er, show decide (b > 1) = true by simpa using hb1]; exact hbad
        · refine ⟨⟨3, 0, ⟨#[]⟩, (b == 1)⟩, 1, none, ev_if_neg (by omega) (ev_if_pos el ?_), Or.inr ⟨rfl, ⟨⟨by show (-9223372036854775808 : Int) ≤ 0; omega, by show (0 : Int) ≤ 9223372036854775807; omega⟩, by show (0 : Nat) ≤ _; omega⟩, [b], rest, rfl, ?_, rfl⟩⟩
          · rw [er, show decide (b > 1) = false by simpa using hb1]
            refine ev_step (fun _ => row_one.j0.eq_2 ..) ?_
            simp only [Bool.false_eq_true, if_false, er, value_Bool.f, Option.bind_some, show (0 : Int) < ((b :: rest).length : Int) from el, if_true]
            exact ev_some _
          · unfold encV
            simp only [show ¬ ((3 : Int) = 0) by decide, show ¬ ((3 : Int) = 1) by decide, show ¬ ((3 : Int) = 2) by decide, if_false]
            by_cases e : b = 1
            · subst e; rfl
            · have : b = 0 := by omega
              subst this; rfl
end Go.Proofs.YtljadejgdbemoaaDoor.R
