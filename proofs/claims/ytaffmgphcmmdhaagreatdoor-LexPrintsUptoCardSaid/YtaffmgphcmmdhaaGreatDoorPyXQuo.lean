/- Plain lemmas, without the program: quotes doubled; decimal digits; rows of bytes as texts. -/
import Derived.Test.YtaffmgphcmmdhaaGreatDoorPyXBits
import Derived.Lib.Replace
import Derived.Lib.SplitLaws
import Derived.Lib.ItoaNum
import Derived.Lib.AtoiAllCases
import Derived.Lib.CountLaws
set_option linter.unusedVariables false
set_option linter.unusedSimpArgs false
namespace Go.Proofs.YtaffmgphcmmdhaaGreatDoorX
open Go.RowKit Go.Proofs.YtaffmgphcmmdhaaGreatDoorW.PrintWords
/-! ### quotes -/
/-- Each quote doubled. -/
def dbl : List UInt8 → List UInt8
  | [] => []
  | c :: l => if c = 39 then 39 :: 39 :: dbl l else c :: dbl l
theorem index_q_none : ∀ l : List UInt8, (39 : UInt8) ∉ l → Lib.index l [39] = -1
  | [], _ => rfl
  | b :: l, h => by
    have hb : ¬ (39 : UInt8) = b := fun e => h (by rw [e]; exact List.mem_cons_self)
    have := index_q_none l (fun hh => h (List.mem_cons_of_mem _ hh))
    unfold Lib.index
    rw [this]
    simp [List.isPrefixOf, hb]
theorem index_q_some : ∀ (p q : List UInt8), (39 : UInt8) ∉ p → Lib.index (p ++ 39 :: q) [39] = p.length
  | [], q, _ => by simp [Lib.index, List.isPrefixOf]
  | b :: p, q, h => by
    have hb : ¬ (39 : UInt8) = b := fun e => h (by rw [e]; exact List.mem_cons_self)
    have := index_q_some p q (fun hh => h (List.mem_cons_of_mem _ hh))
    rw [List.cons_append]
    unfold Lib.index
    rw [this]
    simp [List.isPrefixOf, hb]
theorem dbl_none : ∀ l : List UInt8, (39 : UInt8) ∉ l → dbl l = l
  | [], _ => rfl
  | b :: l, h => by
    have hb : ¬ b = 39 := fun e => h (by rw [e]; exact List.mem_cons_self)
    rw [dbl, if_neg hb, dbl_none l (fun hh => h (List.mem_cons_of_mem _ hh))]
theorem dbl_append : ∀ p q : List UInt8, dbl (p ++ q) = dbl p ++ dbl q
  | [], q => rfl
  | b :: p, q => by
    rw [List.cons_append, dbl, dbl, dbl_append p q]
    split <;> rfl
theorem replK : ∀ (k : Nat) (l : List UInt8), l.count 39 ≤ k → Lib.replaceK [39] [39, 39] k l = dbl l
  | 0, l, h => by
    rw [Lib.replaceK, dbl_none l (List.count_eq_zero.1 (by omega))]
  | k + 1, l, h => by
    by_cases hm : (39 : UInt8) ∈ l
    · obtain ⟨p, q, rfl, hp⟩ := List.eq_append_cons_of_mem hm
      rw [Lib.replaceK_hit _ _ _ _ p.length (index_q_some p q hp), List.take_left, dbl_append, dbl_none p hp]
      have e : (p ++ 39 :: q).drop (p.length + [(39 : UInt8)].length) = q := by
        rw [List.drop_append]; simp
      rw [e, replK k q (by rw [List.count_append, List.count_eq_zero.2 hp, List.count_cons_self] at h; omega)]
      rw [dbl, if_pos rfl]; simp
    · rw [Lib.replaceK, index_q_none l hm, dbl_none l hm]; rfl
theorem repl_quote (l : List UInt8) : Lib.replaceAll l [39] [39, 39] = dbl l := by
  unfold Lib.replaceAll Lib.replace Lib.replaceNum
  rw [if_neg (by decide), if_pos (by left; decide), Lib.count_one]
  exact replK _ l (Nat.le_refl _)
theorem dbl_len : ∀ l : List UInt8, (dbl l).length ≤ 2 * l.length
  | [] => Nat.le_refl _
  | c :: l => by
    have := dbl_len l
    rw [dbl]
    split <;> simp only [List.length_cons] <;> omega
/-! ### texts -/
theorem ba_ext {a b : ByteArray} (h : a.data.toList = b.data.toList) : a = b := by
  cases a; cases b
  congr 1
  exact Array.ext' h
theorem mk_list (l : List UInt8) : (⟨l.toArray⟩ : ByteArray).data.toList = l := rfl
theorem mk_size (l : List UInt8) : (⟨l.toArray⟩ : ByteArray).size = l.length := by rw [← size_data]
theorem size_app (a b : ByteArray) : (a ++ b).size = a.size + b.size := ByteArray.size_append
theorem app_mk (a b : List UInt8) : (⟨a.toArray⟩ : ByteArray) ++ (⟨b.toArray⟩ : ByteArray) = ⟨(a ++ b).toArray⟩ := ba_ext (by simp [ByteArray.data_append])
/-- Bytes as whole numbers. -/
def numsB (l : List UInt8) : List Int := l.map fun b => (b.toNat : Int)
theorem numsB_length (l : List UInt8) : (numsB l).length = l.length := List.length_map _
theorem numsB_app (a b : List UInt8) : numsB (a ++ b) = numsB a ++ numsB b := List.map_append
theorem str_nums (l : List UInt8) : strOfNums (numsB l) = ⟨l.toArray⟩ := by
  have h : ∀ l : List UInt8, (numsB l).map (fun n => UInt8.ofNat n.toNat) = l := by
    intro l
    unfold numsB
    rw [List.map_map]
    conv => rhs; rw [← List.map_id l]
    apply List.map_congr_left
    intro b _
    simp
  unfold strOfNums
  first
  | (rw [h])
  | (congr 1; exact congrArg List.toArray (h l))
/-! ### decimal digits -/
theorem digit_cut : ∀ i : Fin 10, (⟨#[48, 49, 50, 51, 52, 53, 54, 55, 56, 57]⟩ : ByteArray).extract i.val (i.val + 1) = ⟨[UInt8.ofNat (48 + i.val)].toArray⟩ := by decide +kernel
theorem dec_small {u : Nat} (h : u < 10) : Lib.decDigits u = [UInt8.ofNat (48 + u)] := by rw [Lib.decDigits, dif_pos h]
theorem dec_big {u : Nat} (h : ¬ u < 10) : Lib.decDigits u = Lib.decDigits (u / 10) ++ [UInt8.ofNat (48 + u % 10)] := by rw [Lib.decDigits.eq_1 u, dif_neg h]
theorem dec_len : ∀ (d u : Nat), u < 10 ^ d → 1 ≤ d → (Lib.decDigits u).length ≤ d
  | 0, u, _, h => by omega
  | d + 1, u, h, _ => by
    by_cases hu : u < 10
    · rw [dec_small hu]; simp
    · rw [dec_big hu, List.length_append]
      have hd : 1 ≤ d := by
        rcases d with _ | d
        · simp at h; omega
        · omega
      have := dec_len d (u / 10) (by rw [Nat.pow_succ] at h; omega) hd
      simp only [List.length_cons, List.length_nil]; omega
theorem itoa_len {n : Int} (h0 : -9223372036854775808 ≤ n) (h1 : n ≤ 9223372036854775807) : (Lib.itoa n).length ≤ 21 := by
  have hp : (10 : Nat) ^ 20 = 100000000000000000000 := by decide
  unfold Lib.itoa
  split
  · have := dec_len 20 n.natAbs (by omega) (by omega)
    simp only [List.length_cons]; omega
  · have := dec_len 20 n.toNat (by omega) (by omega)
    omega
/-! ### numbers, read again -/
/-! ### quotes, halved again -/
end Go.Proofs.YtaffmgphcmmdhaaGreatDoorX
