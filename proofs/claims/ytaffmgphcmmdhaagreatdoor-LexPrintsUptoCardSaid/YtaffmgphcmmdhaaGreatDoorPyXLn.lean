/- A number's digits: strconv.ParseUint of them without the zeros ahead, and the reference's own loop: plain lists. -/
import Derived.Test.YtaffmgphcmmdhaaGreatDoorPyXLs
import Derived.Lib.ParseIntB
import Derived.Lib.TrimByte
set_option linter.unusedVariables false
set_option linter.unusedSimpArgs false
namespace Go.Proofs.YtaffmgphcmmdhaaGreatDoorX
open Go.RowKit
namespace Lx
theorem valN_ge : ∀ (l : List UInt8) (a : Nat), a ≤ valN a l
  | [], a => Nat.le_refl _
  | c :: l, a => by
    rw [valN_cons]
    have := valN_ge l (10 * a + (c.toNat - 48))
    omega
theorem parseM : ∀ (l : List UInt8) (a : Nat), (∀ c ∈ l, isD c = true) → a ≤ 18446744073709551615 →
    Lib.parseUintM 18446744073709551615 a l = if valN a l ≤ 18446744073709551615 then .ok (valN a l) else .range
  | [], a, _, h => by rw [Lib.parseUintM, valN_nil, if_pos h]
  | c :: l, a, hd, h => by
    have hc := hd c (List.mem_cons_self ..)
    unfold isD at hc
    rw [decide_eq_true_eq] at hc
    rw [Lib.parseUintM, if_pos hc, valN_cons]
    have hg := valN_ge l (10 * a + (c.toNat - 48))
    by_cases h1 : 1844674407370955162 ≤ a
    · rw [if_pos h1, if_neg (by omega)]
    · rw [if_neg h1]
      by_cases h2 : 18446744073709551615 < a * 10 + (c.toNat - 48)
      · rw [if_pos h2, if_neg (by omega)]
      · rw [if_neg h2, show a * 10 + (c.toNat - 48) = 10 * a + (c.toNat - 48) by omega]
        exact parseM l _ (fun x hx => hd x (List.mem_cons_of_mem _ hx)) (by omega)
theorem valN_zeros : ∀ (x y : List UInt8), valN 0 (x.dropWhile (· == 48) ++ y) = valN 0 (x ++ y)
  | [], y => rfl
  | c :: x, y => by
    rw [List.dropWhile_cons]
    by_cases h : c = 48
    · subst h
      rw [if_pos (by simp), valN_zeros x y]
      rfl
    · rw [if_neg (by simpa using h)]
/-- The program's reading: zeros ahead are cut, but not the last digit. -/
theorem parse_digits (w : List UInt8) (hw : ∀ c ∈ w, isD c = true) (hne : w ≠ []) :
    Lib.parseUintB 64 (Lib.trimLeftB (w.take (w.length - 1)) 48 ++ w.drop (w.length - 1)) = if valN 0 w ≤ 18446744073709551615 then .ok (valN 0 w) else .range := by
  have hl : w.drop (w.length - 1) ≠ [] := by
    cases w with
    | nil => exact absurd rfl hne
    | cons c w => rw [ne_eq, List.drop_eq_nil_iff]; simp
  unfold Lib.parseUintB Lib.trimLeftB
  rw [if_neg (by simp [hl])]
  have hv := valN_zeros (w.take (w.length - 1)) (w.drop (w.length - 1))
  rw [List.take_append_drop] at hv
  rw [show 2 ^ 64 - 1 = 18446744073709551615 by decide, parseM _ 0 ?_ (by omega), hv]
  intro c hc
  rcases List.mem_append.1 hc with hc | hc
  · exact hw c (List.mem_of_mem_take ((List.dropWhile_suffix _).subset hc))
  · exact hw c (List.mem_of_mem_drop hc)
/-- The reference's own loop: n, and whether it was too much. -/
def refN (n : Nat) (o : Bool) : List UInt8 → Nat × Bool
  | [] => (n, o)
  | c :: l => if o = true ∨ n > (9223372036854775807 - (c.toNat - 48)) / 10 then refN n true l else refN (10 * n + (c.toNat - 48)) false l
theorem refN_over : ∀ (l : List UInt8) (n : Nat), (refN n true l).2 = true
  | [], n => rfl
  | c :: l, n => by rw [refN, if_pos (.inl rfl)]; exact refN_over l n
theorem refN_eq : ∀ (l : List UInt8) (n : Nat), (∀ c ∈ l, isD c = true) → n ≤ 9223372036854775807 →
    (valN n l ≤ 9223372036854775807 → refN n false l = (valN n l, false)) ∧ (¬ valN n l ≤ 9223372036854775807 → (refN n false l).2 = true)
  | [], n, _, h => ⟨fun _ => rfl, fun h2 => absurd h h2⟩
  | c :: l, n, hd, h => by
    have hc := hd c (List.mem_cons_self ..)
    unfold isD at hc
    rw [decide_eq_true_eq] at hc
    have hg := valN_ge l (10 * n + (c.toNat - 48))
    rw [refN, valN_cons]
    by_cases hb : n > (9223372036854775807 - (c.toNat - 48)) / 10
    · rw [if_pos (.inr hb)]
      exact ⟨fun h2 => by omega, fun _ => refN_over l n⟩
    · have hno : ¬ (false = true ∨ n > (9223372036854775807 - (c.toNat - 48)) / 10) := fun h => h.elim (fun h => by cases h) hb
      rw [if_neg hno]
      exact refN_eq l _ (fun x hx => hd x (List.mem_cons_of_mem _ hx)) (by omega)
end Lx
end Go.Proofs.YtaffmgphcmmdhaaGreatDoorX
