/- Plain lemmas, without the program: quotes doubled; decimal digits; rows of bytes as texts. -/
import Derived.Test.YtljadejgdbemoaaGreatDoorPkXBits
import Derived.Lib.Replace
import Derived.Lib.SplitLaws
import Derived.Lib.ItoaNum
import Derived.Lib.AtoiAllCases
import Derived.Lib.CountLaws
set_option linter.unusedVariables false
set_option linter.unusedSimpArgs false
namespace Go.Proofs.YtljadejgdbemoaaGreatDoorX
open Go.RowKit Go.Proofs.YtljadejgdbemoaaGreatDoorW.PrintWords
/-! ### quotes -/
/-- Each quote doubled. -/
def dbl : List UInt8 → List UInt8
  | [] => []
  | c :: l => if c = 39 then 39 :: 39 :: dbl l else c :: dbl l
theorem index_q_none : ∀ l : List UInt8, (39 : UInt8) ∉ l → Lib.index l [39] = -1
  | [], _ => rfl
  | b :: l, h => by
    have hb : ¬ (39 : UInt8) = b := fun e => h (by rw [e]; exact List.mem_cons_self)
    have := index_q_none l (fun hh => h (List.mem_cons_of_mem _ hh))
    unfold Lib.index
    rw [this]
    simp [List.isPrefixOf, hb]
theorem index_q_some : ∀ (p q : List UInt8), (39 : UInt8) ∉ p → Lib.index (p ++ 39 :: q) [39] = p.length
  | [], q, _ => by simp [Lib.index, List.isPrefixOf]
  | b :: p, q, h => by
    have hb : ¬ (39 : UInt8) = b := fun e => h (by rw [e]; exact List.mem_cons_self)
    have := index_q_some p q (fun hh => h (List.mem_cons_of_mem _ hh))
    rw [List.cons_append]
    unfold Lib.index
    rw [this]
    simp [List.isPrefixOf, hb]
theorem dbl_none : ∀ l : List UInt8, (39 : UInt8) ∉ l → dbl l = l
  | [], _ => rfl
  | b :: l, h => by
    have hb : ¬ b = 39 := fun e => h (by rw [e]; exact List.mem_cons_self)
    rw [dbl, if_neg hb, dbl_none l (fun hh => h (List.mem_cons_of_mem _ hh))]
theorem dbl_append : ∀ p q : List UInt8, dbl (p ++ q) = dbl p ++ dbl q
  | [], q => rfl
  | b :: p, q => by
    rw [List.cons_append, dbl, dbl, dbl_append p q]
    split <;> rfl
theorem replK : ∀ (k : Nat) (l : List UInt8), l.count 39 ≤ k → Lib.replaceK [39] [39, 39] k l = dbl l
  | 0, l, h => by
    rw [Lib.replaceK, dbl_none l (List.count_eq_zero.1 (by omega))]
  | k + 1, l, h => by
    by_cases hm : (39 : UInt8) ∈ l
    · obtain ⟨p, q, rfl, hp⟩ := List.eq_append_cons_of_mem hm
      rw [Lib.replaceK_hit _ _ _ _ p.length (index_q_some p q hp), List.take_left, dbl_append, dbl_none p hp]
      have e : (p ++ 39 :: q).drop (p.length + [(39 : UInt8)].length) = q := by
        rw [List.drop_append]; simp
      rw [e, replK k q (by rw [List.count_append, List.count_eq_zero.2 hp, List.count_cons_self] at h; omega)]
      rw [dbl, if_pos rfl]; simp
    · rw [Lib.replaceK, index_q_none l hm, dbl_none l hm]; rfl
theorem repl_quote (l : List UInt8) : Lib.replaceAll l [39] [39, 39] = dbl l := by
  unfold Lib.replaceAll Lib.replace Lib.replaceNum
  rw [if_neg (by decide), if_pos (by left; decide), Lib.count_one]
  exact replK _ l (Nat.le_refl _)
theorem dbl_len : ∀ l : List UInt8, (dbl l).length ≤ 2 * l.length
  | [] => Nat.le_refl _
  | c :: l => by
    have := dbl_len l
    rw [dbl]
    split <;> simp only [List.length_cons] <;> omega
/-! ### texts -/
theorem ba_ext {a b : ByteArray} (h : a.data.toList = b.data.toList) : a = b := by
  cases a; cases b
  congr 1
  exact Array.ext' h
theorem mk_list (l : List UInt8) : (⟨l.toArray⟩ : ByteArray).data.toList = l := rfl
theorem mk_size (l : List UInt8) : (⟨l.toArray⟩ : ByteArray).size = l.length := by rw [← size_data]
theorem app_mk (a b : List UInt8) : (⟨a.toArray⟩ : ByteArray) ++ (⟨b.toArray⟩ : ByteArray) = ⟨(a ++ b).toArray⟩ := ba_ext (by simp [ByteArray.data_append])
/-- Bytes as whole numbers. -/
def numsB (l : List UInt8) : List Int := l.map fun b => (b.toNat : Int)
theorem numsB_length (l : List UInt8) : (numsB l).length = l.length := List.length_map _
theorem numsB_app (a b : List UInt8) : numsB (a ++ b) = numsB a ++ numsB b := List.map_append
theorem str_nums (l : List UInt8) : strOfNums (numsB l) = ⟨l.toArray⟩ := by
  have h : ∀ l : List UInt8, (numsB l).map (fun n => UInt8.ofNat n.toNat) = l := by
    intro l
    unfold numsB
    rw [List.map_map]
    conv => rhs; rw [← List.map_id l]
    apply List.map_congr_left
    intro b _
    simp
  unfold strOfNums
  first
  | (rw [h])
  | (congr 1; exact congrArg List.toArray (h l))
/-! ### decimal digits -/
theorem digit_cut : ∀ i : Fin 10, (⟨#[48, 49, 50, 51, 52, 53, 54, 55, 56, 57]⟩ : ByteArray).extract i.val (i.val + 1) = ⟨[UInt8.ofNat (48 + i.val)].toArray⟩ := by decide +kernel
theorem dec_small {u : Nat} (h : u < 10) : Lib.decDigits u = [UInt8.ofNat (48 + u)] := by rw [Lib.decDigits, dif_pos h]
theorem dec_big {u : Nat} (h : ¬ u < 10) : Lib.decDigits u = Lib.decDigits (u / 10) ++ [UInt8.ofNat (48 + u % 10)] := by rw [Lib.decDigits.eq_1 u, dif_neg h]
theorem dec_len : ∀ (d u : Nat), u < 10 ^ d → 1 ≤ d → (Lib.decDigits u).length ≤ d
  | 0, u, _, h => by omega
  | d + 1, u, h, _ => by
    by_cases hu : u < 10
    · rw [dec_small hu]; simp
    · rw [dec_big hu, List.length_append]
      have hd : 1 ≤ d := by
        rcases d with _ | d
        · simp at h; omega
        · omega
      have := dec_len d (u / 10) (by rw [Nat.pow_succ] at h; omega) hd
      simp only [List.length_cons, List.length_nil]; omega
theorem itoa_len {n : Int} (h0 : -9223372036854775808 ≤ n) (h1 : n ≤ 9223372036854775807) : (Lib.itoa n).length ≤ 21 := by
  have hp : (10 : Nat) ^ 20 = 100000000000000000000 := by decide
  unfold Lib.itoa
  split
  · have := dec_len 20 n.natAbs (by omega) (by omega)
    simp only [List.length_cons]; omega
  · have := dec_len 20 n.toNat (by omega) (by omega)
    omega
/-! ### numbers, read again -/
theorem u8_digit (d : Nat) (h : d < 10) : (UInt8.ofNat (48 + d)).toNat = 48 + d := by rw [UInt8.toNat_ofNat']; omega
theorem parse_dec : ∀ (n u : Nat) (l : List UInt8), u ≤ n → u < 18446744073709551616 → Lib.parseUint10 0 (Lib.decDigits u ++ l) = Lib.parseUint10 u l
  | n, u, l, hn, h => by
    by_cases hu : u < 10
    · rw [dec_small hu, List.cons_append, List.nil_append, Lib.parseUint10, u8_digit u hu]
      rw [if_pos (by omega), if_neg (by omega), if_neg (by omega)]
      congr 1; omega
    · rw [dec_big hu, List.append_assoc]
      match n, hn with
      | 0, hn => omega
      | n + 1, hn =>
        rw [parse_dec n (u / 10) _ (by omega) (by omega), List.cons_append, List.nil_append, Lib.parseUint10, u8_digit (u % 10) (by omega)]
        rw [if_pos (by omega), if_neg (by omega), if_neg (by omega)]
        congr 1; omega
theorem dec_head : ∀ (n u : Nat), u ≤ n → ∃ d r, d < 10 ∧ Lib.decDigits u = UInt8.ofNat (48 + d) :: r
  | n, u, hn => by
    by_cases hu : u < 10
    · exact ⟨u, [], hu, dec_small hu⟩
    · match n, hn with
      | 0, hn => omega
      | n + 1, hn =>
        obtain ⟨d, r, h1, h2⟩ := dec_head n (u / 10) (by omega)
        exact ⟨d, r ++ [UInt8.ofNat (48 + u % 10)], h1, by rw [dec_big hu, h2]; rfl⟩
theorem parse_mag {u : Nat} (h : u < 18446744073709551616) : Lib.parseMag (Lib.decDigits u) = .ok u := by
  obtain ⟨d, r, _, hd⟩ := dec_head u u (Nat.le_refl _)
  unfold Lib.parseMag
  rw [if_neg (by rw [hd]; simp)]
  have := parse_dec u u [] (Nat.le_refl _) h
  rw [List.append_nil] at this
  rw [this, Lib.parseUint10]
/-- A number's literal is read as it. -/
theorem atoi_itoa {n : Int} (h0 : -9223372036854775808 ≤ n) (h1 : n ≤ 9223372036854775807) : Lib.atoiAll (Lib.itoa n) = .ok n := by
  unfold Lib.itoa
  by_cases hn : n < 0
  · rw [if_pos hn, Lib.atoiAll_minus, parse_mag (by omega)]
    show (if 9223372036854775808 < n.natAbs then Lib.NumEnd.range else Lib.NumEnd.ok (-(n.natAbs : Int))) = _
    rw [if_neg (by omega)]
    congr 1; omega
  · rw [if_neg hn]
    obtain ⟨d, r, hd, he⟩ := dec_head n.toNat n.toNat (Nat.le_refl _)
    have hz := u8_digit d hd
    have hp := parse_mag (u := n.toNat) (by omega)
    rw [he] at hp ⊢
    rw [Lib.atoiAll_plain _ _ (by omega) (by omega), hp]
    show (if 9223372036854775808 ≤ n.toNat then Lib.NumEnd.range else Lib.NumEnd.ok (n.toNat : Int)) = _
    rw [if_neg (by omega)]
    congr 1; omega
/-- A number's literal begins with '-' or a digit. -/
theorem itoa_head (n : Int) : ∃ c r, Lib.itoa n = c :: r ∧ (c.toNat = 45 ∨ 48 ≤ c.toNat ∧ c.toNat ≤ 57) := by
  unfold Lib.itoa
  split
  · exact ⟨45, _, rfl, Or.inl rfl⟩
  · obtain ⟨d, r, hd, he⟩ := dec_head n.toNat n.toNat (Nat.le_refl _)
    have := u8_digit d hd
    exact ⟨_, r, he, by omega⟩
/-! ### quotes, halved again -/
theorem index_qq_none : ∀ l : List UInt8, (39 : UInt8) ∉ l → Lib.index l [39, 39] = -1
  | [], _ => rfl
  | b :: l, h => by
    have hb : ¬ (39 : UInt8) = b := fun e => h (by rw [e]; exact List.mem_cons_self)
    have := index_qq_none l (fun hh => h (List.mem_cons_of_mem _ hh))
    unfold Lib.index
    rw [this]
    simp [List.isPrefixOf, hb]
theorem index_qq_some : ∀ (p q : List UInt8), (39 : UInt8) ∉ p → Lib.index (p ++ 39 :: 39 :: q) [39, 39] = p.length
  | [], q, _ => by simp [Lib.index, List.isPrefixOf]
  | b :: p, q, h => by
    have hb : ¬ (39 : UInt8) = b := fun e => h (by rw [e]; exact List.mem_cons_self)
    have := index_qq_some p q (fun hh => h (List.mem_cons_of_mem _ hh))
    rw [List.cons_append]
    unfold Lib.index
    rw [this]
    simp [List.isPrefixOf, hb]
theorem dbl_split {p q : List UInt8} (hp : (39 : UInt8) ∉ p) : dbl (p ++ 39 :: q) = p ++ 39 :: 39 :: dbl q := by
  rw [dbl_append, dbl_none p hp, dbl, if_pos rfl]
theorem drop_two (p x : List UInt8) : (p ++ 39 :: 39 :: x).drop (p.length + [(39 : UInt8), 39].length) = x := by
  rw [List.drop_append]; simp
theorem halfK : ∀ (k : Nat) (t : List UInt8), t.count 39 ≤ k → Lib.replaceK [39, 39] [39] k (dbl t) = t
  | 0, t, h => by
    rw [Lib.replaceK, dbl_none t (List.count_eq_zero.1 (by omega))]
  | k + 1, t, h => by
    by_cases hm : (39 : UInt8) ∈ t
    · obtain ⟨p, q, rfl, hp⟩ := List.eq_append_cons_of_mem hm
      rw [dbl_split hp, Lib.replaceK_hit _ _ _ _ p.length (index_qq_some p _ hp), List.take_left, drop_two, halfK k q (by rw [List.count_append, List.count_eq_zero.2 hp, List.count_cons_self] at h; omega)]
      simp
    · rw [Lib.replaceK, dbl_none t hm, index_qq_none t hm]; rfl
theorem count_qq : ∀ (n : Nat) (t : List UInt8), t.count 39 ≤ n → Lib.count (dbl t) [39, 39] = t.count 39
  | n, t, h => by
    by_cases hm : (39 : UInt8) ∈ t
    · obtain ⟨p, q, rfl, hp⟩ := List.eq_append_cons_of_mem hm
      have hc : (p ++ 39 :: q).count 39 = q.count 39 + 1 := by rw [List.count_append, List.count_eq_zero.2 hp, List.count_cons_self]; omega
      match n, h with
      | 0, h => omega
      | n + 1, h =>
        rw [dbl_split hp, Lib.count_hit (by simp) (index_qq_some p _ hp), drop_two, count_qq n q (by omega), hc]; omega
    · rw [dbl_none t hm, Lib.count_miss (index_qq_none t hm), List.count_eq_zero.2 hm]
theorem repl_half (t : List UInt8) : Lib.replaceAll (dbl t) [39, 39] [39] = t := by
  unfold Lib.replaceAll Lib.replace Lib.replaceNum
  rw [if_neg (by decide), if_pos (by left; decide), count_qq _ t (Nat.le_refl _)]
  exact halfK _ t (Nat.le_refl _)
end Go.Proofs.YtljadejgdbemoaaGreatDoorX
