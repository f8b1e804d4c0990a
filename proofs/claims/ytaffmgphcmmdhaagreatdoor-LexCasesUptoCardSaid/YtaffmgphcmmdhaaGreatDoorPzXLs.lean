/- The words of a statement, told plainly over lists of bytes. -/
import Derived.Test.YtaffmgphcmmdhaaGreatDoorPzXQuo
set_option linter.unusedVariables false
set_option linter.unusedSimpArgs false
namespace Go.Proofs.YtaffmgphcmmdhaaGreatDoorX
open Go.RowKit
namespace Lx
def isL (c : UInt8) : Bool := decide (65 ≤ c.toNat ∧ c.toNat ≤ 90) || decide (97 ≤ c.toNat ∧ c.toNat ≤ 122)
def isD (c : UInt8) : Bool := decide (48 ≤ c.toNat ∧ c.toNat ≤ 57)
def isW (c : UInt8) : Bool := isL c || isD c || decide (c = 95)
def isB (c : UInt8) : Bool := decide (c = 32 ∨ c = 9 ∨ c = 10 ∨ c = 13)
def low (c : UInt8) : UInt8 := if 65 ≤ c.toNat ∧ c.toNat ≤ 90 then c + 32 else c
def valN (a : Nat) (l : List UInt8) : Nat := l.foldl (fun (a : Nat) (c : UInt8) => 10 * a + (c.toNat - 48)) a
theorem valN_nil (a : Nat) : valN a [] = a := rfl
theorem valN_cons (a : Nat) (c : UInt8) (l : List UInt8) : valN a (c :: l) = valN (10 * a + (c.toNat - 48)) l := by unfold valN; rw [List.foldl_cons]
/-- The text behind a quote, and how many bytes say it. -/
def txt : List UInt8 → Option (List UInt8 × Nat)
  | [] => none
  | [c] => if c.toNat < 32 ∨ 126 < c.toNat then none else if c = 39 then some ([], 1) else none
  | c :: d :: l =>
    if c.toNat < 32 ∨ 126 < c.toNat then none
    else if c = 39 then if d = 39 then (txt l).map (fun r => (39 :: r.1, r.2 + 2)) else some ([], 1)
    else (txt (d :: l)).map (fun r => (c :: r.1, r.2 + 1))
/-- A sign of one or two bytes. -/
def sgn (c : UInt8) (d : Option UInt8) : Option (List UInt8) :=
  if c = 60 ∧ d = some 62 then some [60, 62] else if c = 60 ∧ d = some 61 then some [60, 61] else if c = 62 ∧ d = some 61 then some [62, 61] else if c = 124 ∧ d = some 124 then some [124, 124]
  else if c = 40 ∨ c = 41 ∨ c = 44 ∨ c = 42 ∨ c = 43 ∨ c = 45 ∨ c = 47 ∨ c = 37 ∨ c = 61 ∨ c = 60 ∨ c = 62 then some [c] else none
/-- kind, text, number, how many bytes; or the error. -/
abbrev Tok := Int × List UInt8 × Int
def one : List UInt8 → Except Int (Tok × Nat)
  | [] => .error 3
  | c :: r =>
    if isL c = true then .ok ((1, ((c :: r).takeWhile isW).map low, 0), ((c :: r).takeWhile isW).length)
    else if isD c = true then (if valN 0 ((c :: r).takeWhile isD) ≤ 9223372036854775807 then .ok ((2, [], (valN 0 ((c :: r).takeWhile isD) : Int)), ((c :: r).takeWhile isD).length) else .error 5)
    else if c = 39 then (match txt r with | some (t, n) => .ok ((3, t, 0), n + 1) | none => .error 3)
    else (match sgn c r.head? with | some x => .ok ((4, x, 0), x.length) | none => .error 3)
/-- All of them, each with its place; where it ended, and the error (0: none). -/
def lexL : Nat → List UInt8 → Nat → List (Tok × Nat) × Nat × Int
  | 0, _, at_ => ([], at_, 0)
  | _ + 1, [], at_ => ([], at_, 0)
  | n + 1, c :: r, at_ =>
    if isB c = true then lexL n r (at_ + 1)
    else match one (c :: r) with
      | .error e => ([], at_, e)
      | .ok (t, m) => let z := lexL n ((c :: r).drop m) (at_ + m); if z.2.2 = 0 then ((t, at_) :: z.1, z.2) else ([], z.2)
theorem txt_len : ∀ (k : Nat) (l : List UInt8), l.length ≤ k → ∀ t n, txt l = some (t, n) → 1 ≤ n ∧ n ≤ l.length := by
  intro k
  induction k with
  | zero => intro l h t n e; cases l with | nil => cases e | cons c l => simp at h
  | succ k ih =>
    intro l h t n e
    match l, h, e with
    | [], _, e => cases e
    | [c], _, e =>
      rw [txt] at e
      split at e
      · cases e
      · split at e
        · obtain ⟨rfl, rfl⟩ := Prod.mk.inj (Option.some.inj e); simp
        · cases e
    | c :: d :: l, h, e =>
      rw [txt] at e
      simp only [List.length_cons] at h ⊢
      split at e
      · cases e
      · split at e
        · split at e
          · obtain ⟨⟨t', n'⟩, e1, e2⟩ := Option.map_eq_some_iff.1 e
            obtain ⟨rfl, rfl⟩ := Prod.mk.inj e2
            have := ih l (by omega) t' n' e1
            omega
          · obtain ⟨rfl, rfl⟩ := Prod.mk.inj (Option.some.inj e); omega
        · obtain ⟨⟨t', n'⟩, e1, e2⟩ := Option.map_eq_some_iff.1 e
          obtain ⟨rfl, rfl⟩ := Prod.mk.inj e2
          have := ih (d :: l) (by simp only [List.length_cons]; omega) t' n' e1
          simp only [List.length_cons] at this
          omega
theorem sgn_len {c : UInt8} {d : Option UInt8} {x : List UInt8} (h : sgn c d = some x) : (x = [c] ∨ ∃ e, d = some e ∧ e ≠ 39 ∧ x = [c, e]) := by
  unfold sgn at h
  split at h
  · rename_i hc; obtain rfl := Option.some.inj h; exact .inr ⟨62, hc.2, by decide, by rw [hc.1]⟩
  · split at h
    · rename_i hc; obtain rfl := Option.some.inj h; exact .inr ⟨61, hc.2, by decide, by rw [hc.1]⟩
    · split at h
      · rename_i hc; obtain rfl := Option.some.inj h; exact .inr ⟨61, hc.2, by decide, by rw [hc.1]⟩
      · split at h
        · rename_i hc; obtain rfl := Option.some.inj h; exact .inr ⟨124, hc.2, by decide, by rw [hc.1]⟩
        · split at h
          · obtain rfl := Option.some.inj h; exact .inl rfl
          · cases h
theorem tw_len (p : UInt8 → Bool) : ∀ l : List UInt8, (l.takeWhile p).length ≤ l.length
  | [] => Nat.le_refl _
  | c :: l => by
    rw [List.takeWhile_cons]
    split
    · simp only [List.length_cons]; have := tw_len p l; omega
    · simp
theorem one_len {l : List UInt8} {t : Tok} {n : Nat} (h : one l = .ok (t, n)) : 1 ≤ n ∧ n ≤ l.length := by
  cases l with
  | nil => cases h
  | cons c r =>
    rw [one] at h
    by_cases hl : isL c = true
    · rw [if_pos hl] at h
      obtain ⟨_, rfl⟩ := Prod.mk.inj (Except.ok.inj h)
      have := tw_len isW (c :: r)
      have hw : isW c = true := by unfold isW; rw [hl]; rfl
      refine ⟨?_, this⟩
      rw [List.takeWhile_cons, if_pos hw]; simp
    · rw [if_neg hl] at h
      by_cases hd : isD c = true
      · rw [if_pos hd] at h
        by_cases hv : valN 0 ((c :: r).takeWhile isD) ≤ 9223372036854775807
        · rw [if_pos hv] at h
          obtain ⟨_, rfl⟩ := Prod.mk.inj (Except.ok.inj h)
          have := tw_len isD (c :: r)
          refine ⟨?_, this⟩
          rw [List.takeWhile_cons, if_pos hd]; simp
        · rw [if_neg hv] at h; cases h
      · rw [if_neg hd] at h
        by_cases hq : c = 39
        · rw [if_pos hq] at h
          cases ht : txt r with
          | none => rw [ht] at h; cases h
          | some z =>
            obtain ⟨t', n'⟩ := z
            rw [ht] at h
            obtain ⟨_, rfl⟩ := Prod.mk.inj (Except.ok.inj h)
            have := txt_len r.length r (Nat.le_refl _) t' n' ht
            simp only [List.length_cons]; omega
        · rw [if_neg hq] at h
          cases hs : sgn c r.head? with
          | none => rw [hs] at h; cases h
          | some x =>
            rw [hs] at h
            obtain ⟨_, rfl⟩ := Prod.mk.inj (Except.ok.inj h)
            rcases sgn_len hs with rfl | ⟨e, he, _, rfl⟩
            · simp
            · cases r with
              | nil => cases he
              | cons d r => simp
theorem one_err {l : List UInt8} {e : Int} (h : one l = .error e) : e = 3 ∨ e = 5 := by
  cases l with
  | nil => exact .inl (Except.error.inj h).symm
  | cons c r =>
    rw [one] at h
    by_cases hl : isL c = true
    · rw [if_pos hl] at h; cases h
    · rw [if_neg hl] at h
      by_cases hd : isD c = true
      · rw [if_pos hd] at h
        by_cases hv : valN 0 ((c :: r).takeWhile isD) ≤ 9223372036854775807
        · rw [if_pos hv] at h; cases h
        · rw [if_neg hv] at h; exact .inr (Except.error.inj h).symm
      · rw [if_neg hd] at h
        by_cases hq : c = 39
        · rw [if_pos hq] at h
          cases ht : txt r with
          | none => rw [ht] at h; exact .inl (Except.error.inj h).symm
          | some z => rw [ht] at h; cases h
        · rw [if_neg hq] at h
          cases hs : sgn c r.head? with
          | none => rw [hs] at h; exact .inl (Except.error.inj h).symm
          | some x => rw [hs] at h; cases h
end Lx
end Go.Proofs.YtaffmgphcmmdhaaGreatDoorX
