/- The words of a statement, told plainly over lists of bytes. -/
import Derived.Test.YtaffmgphcmmdhaaGreatDoorPyXQuo
set_option linter.unusedVariables false
set_option linter.unusedSimpArgs false
namespace Go.Proofs.YtaffmgphcmmdhaaGreatDoorX
open Go.RowKit
namespace Lx
def isL (c : UInt8) : Bool := decide (65 ≤ c.toNat ∧ c.toNat ≤ 90) || decide (97 ≤ c.toNat ∧ c.toNat ≤ 122)
def isD (c : UInt8) : Bool := decide (48 ≤ c.toNat ∧ c.toNat ≤ 57)
def isW (c : UInt8) : Bool := isL c || isD c || decide (c = 95)
def low (c : UInt8) : UInt8 := if 65 ≤ c.toNat ∧ c.toNat ≤ 90 then c + 32 else c
def valN (a : Nat) (l : List UInt8) : Nat := l.foldl (fun (a : Nat) (c : UInt8) => 10 * a + (c.toNat - 48)) a
theorem valN_nil (a : Nat) : valN a [] = a := rfl
theorem valN_cons (a : Nat) (c : UInt8) (l : List UInt8) : valN a (c :: l) = valN (10 * a + (c.toNat - 48)) l := by unfold valN; rw [List.foldl_cons]
/-- The text behind a quote, and how many bytes say it. -/
def txt : List UInt8 → Option (List UInt8 × Nat)
  | [] => none
  | [c] => if c.toNat < 32 ∨ 126 < c.toNat then none else if c = 39 then some ([], 1) else none
  | c :: d :: l =>
    if c.toNat < 32 ∨ 126 < c.toNat then none
    else if c = 39 then if d = 39 then (txt l).map (fun r => (39 :: r.1, r.2 + 2)) else some ([], 1)
    else (txt (d :: l)).map (fun r => (c :: r.1, r.2 + 1))
/-- A sign of one or two bytes. -/
def sgn (c : UInt8) (d : Option UInt8) : Option (List UInt8) :=
  if c = 60 ∧ d = some 62 then some [60, 62] else if c = 60 ∧ d = some 61 then some [60, 61] else if c = 62 ∧ d = some 61 then some [62, 61] else if c = 124 ∧ d = some 124 then some [124, 124]
  else if c = 40 ∨ c = 41 ∨ c = 44 ∨ c = 42 ∨ c = 43 ∨ c = 45 ∨ c = 47 ∨ c = 37 ∨ c = 61 ∨ c = 60 ∨ c = 62 then some [c] else none
/-- kind, text, number, how many bytes; or the error. -/
abbrev Tok := Int × List UInt8 × Int
def one : List UInt8 → Except Int (Tok × Nat)
  | [] => .error 3
  | c :: r =>
    if isL c = true then .ok ((1, ((c :: r).takeWhile isW).map low, 0), ((c :: r).takeWhile isW).length)
    else if isD c = true then (if valN 0 ((c :: r).takeWhile isD) ≤ 9223372036854775807 then .ok ((2, [], (valN 0 ((c :: r).takeWhile isD) : Int)), ((c :: r).takeWhile isD).length) else .error 5)
    else if c = 39 then (match txt r with | some (t, n) => .ok ((3, t, 0), n + 1) | none => .error 3)
    else (match sgn c r.head? with | some x => .ok ((4, x, 0), x.length) | none => .error 3)
theorem tw_len (p : UInt8 → Bool) : ∀ l : List UInt8, (l.takeWhile p).length ≤ l.length
  | [] => Nat.le_refl _
  | c :: l => by
    rw [List.takeWhile_cons]
    split
    · simp only [List.length_cons]; have := tw_len p l; omega
    · simp
theorem one_err {l : List UInt8} {e : Int} (h : one l = .error e) : e = 3 ∨ e = 5 := by
  cases l with
  | nil => exact .inl (Except.error.inj h).symm
  | cons c r =>
    rw [one] at h
    by_cases hl : isL c = true
    · rw [if_pos hl] at h; cases h
    · rw [if_neg hl] at h
      by_cases hd : isD c = true
      · rw [if_pos hd] at h
        by_cases hv : valN 0 ((c :: r).takeWhile isD) ≤ 9223372036854775807
        · rw [if_pos hv] at h; cases h
        · rw [if_neg hv] at h; exact .inr (Except.error.inj h).symm
      · rw [if_neg hd] at h
        by_cases hq : c = 39
        · rw [if_pos hq] at h
          cases ht : txt r with
          | none => rw [ht] at h; exact .inl (Except.error.inj h).symm
          | some z => rw [ht] at h; cases h
        · rw [if_neg hq] at h
          cases hs : sgn c r.head? with
          | none => rw [hs] at h; exact .inl (Except.error.inj h).symm
          | some x => rw [hs] at h; cases h
end Lx
end Go.Proofs.YtaffmgphcmmdhaaGreatDoorX
