/- What holds of every token that was read; the printed ones joined: plain lists. -/
import Derived.Test.YtaffmgphcmmdhaaDoorPbXLp
import Derived.Lib.Join
set_option linter.unusedVariables false
set_option linter.unusedSimpArgs false
namespace Go.Proofs.YtaffmgphcmmdhaaDoorX
open Go.RowKit
namespace Lx
theorem txt_short : ∀ (k : Nat) (l : List UInt8), l.length ≤ k → ∀ t n, txt l = some (t, n) → t.length ≤ l.length := by
  intro k
  induction k with
  | zero => intro l h t n e; cases l with | nil => cases e | cons c l => simp at h
  | succ k ih =>
    intro l h t n e
    match l, h, e with
    | [], _, e => cases e
    | [c], _, e =>
      rw [txt] at e
      split at e
      · cases e
      · split at e
        · obtain ⟨rfl, rfl⟩ := Prod.mk.inj (Option.some.inj e); simp
        · cases e
    | c :: d :: l, h, e =>
      simp only [List.length_cons] at h ⊢
      rw [txt] at e
      split at e
      · cases e
      · split at e
        · split at e
          · obtain ⟨⟨t', n'⟩, e1, e2⟩ := Option.map_eq_some_iff.1 e
            obtain ⟨rfl, rfl⟩ := Prod.mk.inj e2
            have := ih l (by omega) t' n' e1
            simp only [List.length_cons]; omega
          · obtain ⟨rfl, rfl⟩ := Prod.mk.inj (Option.some.inj e); simp
        · obtain ⟨⟨t', n'⟩, e1, e2⟩ := Option.map_eq_some_iff.1 e
          obtain ⟨rfl, rfl⟩ := Prod.mk.inj e2
          have := ih (d :: l) (by simp only [List.length_cons]; omega) t' n' e1
          simp only [List.length_cons] at this ⊢; omega
/-- A token that was read: its text is no longer than what was read, its number is no less than 0 and no greater than the greatest. -/
theorem one_ok {l : List UInt8} {t : Tok} {n : Nat} (h : one l = .ok (t, n)) : t.2.1.length ≤ l.length ∧ 0 ≤ t.2.2 ∧ t.2.2 ≤ 9223372036854775807 := by
  cases l with
  | nil => cases h
  | cons c r =>
    rw [one] at h
    by_cases hl : isL c = true
    · rw [if_pos hl] at h
      obtain ⟨rfl, _⟩ := Prod.mk.inj (Except.ok.inj h)
      refine ⟨?_, (by decide : (0 : Int) ≤ 0), (by decide : (0 : Int) ≤ 9223372036854775807)⟩
      show (((c :: r).takeWhile isW).map low).length ≤ _
      rw [List.length_map]; exact tw_len isW (c :: r)
    · rw [if_neg hl] at h
      by_cases hd : isD c = true
      · rw [if_pos hd] at h
        by_cases hv : valN 0 ((c :: r).takeWhile isD) ≤ 9223372036854775807
        · rw [if_pos hv] at h
          obtain ⟨rfl, _⟩ := Prod.mk.inj (Except.ok.inj h)
          generalize valN 0 ((c :: r).takeWhile isD) = v at hv
          exact ⟨Nat.zero_le _, Int.natCast_nonneg v, by show (v : Int) ≤ _; omega⟩
        · rw [if_neg hv] at h; cases h
      · rw [if_neg hd] at h
        by_cases hq : c = 39
        · rw [if_pos hq] at h
          cases ht : txt r with
          | none => rw [ht] at h; cases h
          | some z =>
            obtain ⟨t', n'⟩ := z
            rw [ht] at h
            obtain ⟨rfl, _⟩ := Prod.mk.inj (Except.ok.inj h)
            have := txt_short _ r (Nat.le_refl _) t' n' ht
            exact ⟨by simp only [List.length_cons]; omega, (by decide : (0 : Int) ≤ 0), (by decide : (0 : Int) ≤ 9223372036854775807)⟩
        · rw [if_neg hq] at h
          cases hg : sgn c r.head? with
          | none => rw [hg] at h; cases h
          | some x =>
            rw [hg] at h
            obtain ⟨rfl, _⟩ := Prod.mk.inj (Except.ok.inj h)
            rcases sgn_len hg with rfl | ⟨e, he, _, rfl⟩
            · exact ⟨by simp, (by decide : (0 : Int) ≤ 0), (by decide : (0 : Int) ≤ 9223372036854775807)⟩
            · cases r with
              | nil => cases he
              | cons d r => exact ⟨by simp, (by decide : (0 : Int) ≤ 0), (by decide : (0 : Int) ≤ 9223372036854775807)⟩
/-- Each token that is among all of a text was read of a part of it. -/
theorem lexL_all : ∀ (N : Nat) (l : List UInt8) (a : Nat) (z : Tok × Nat), z ∈ (lexL N l a).1 → ∃ u n, one u = .ok (z.1, n) ∧ u.length ≤ l.length
  | 0, l, a, z, h => by rw [lexL] at h; cases h
  | N + 1, [], a, z, h => by rw [lexL] at h; cases h
  | N + 1, c :: r, a, z, h => by
    rw [lexL] at h
    by_cases hb : isB c = true
    · rw [if_pos hb] at h
      obtain ⟨u, n, h1, h2⟩ := lexL_all N r (a + 1) z h
      exact ⟨u, n, h1, by simp only [List.length_cons]; omega⟩
    · rw [if_neg hb] at h
      cases ho : one (c :: r) with
      | error e => rw [ho] at h; cases h
      | ok y =>
        obtain ⟨t, m⟩ := y
        rw [ho] at h
        simp only [] at h
        split at h
        · rcases List.mem_cons.1 h with rfl | h
          · exact ⟨c :: r, m, ho, Nat.le_refl _⟩
          · obtain ⟨u, n, h1, h2⟩ := lexL_all N ((c :: r).drop m) (a + m) z h
            exact ⟨u, n, h1, by rw [List.length_drop] at h2; omega⟩
        · cases h
theorem pr_len {t : Tok} (h0 : 0 ≤ t.2.2) (h1 : t.2.2 ≤ 9223372036854775807) : (pr t).length ≤ 2 * t.2.1.length + 21 := by
  unfold pr
  split
  · have := itoa_len (n := t.2.2) (by omega) h1; omega
  · split
    · have := dbl_len t.2.1
      simp only [List.length_cons, List.length_append, List.length_nil]; omega
    · omega
theorem jn_len (C : Nat) : ∀ (ps : List (List UInt8)), (∀ p ∈ ps, p.length ≤ C) → (jn ps).length ≤ (C + 1) * ps.length
  | [], _ => Nat.zero_le _
  | [p], h => by
    have := h p (List.mem_cons_self ..)
    show p.length ≤ (C + 1) * 1
    omega
  | p :: q :: ps, h => by
    have h1 := h p (List.mem_cons_self ..)
    have ih := jn_len C (q :: ps) (fun x hx => h x (List.mem_cons_of_mem _ hx))
    show (p ++ 32 :: jn (q :: ps)).length ≤ (C + 1) * ((q :: ps).length + 1)
    rw [List.length_append, List.length_cons, Nat.mul_succ]
    omega
theorem jn_tail : ∀ (ps : List (List UInt8)) (p : List UInt8), jn (p :: ps) = p ++ Lib.joinTail [32] ps
  | [], p => by simp [Lib.joinTail, jn]
  | q :: ps, p => by
    rw [show jn (p :: q :: ps) = p ++ 32 :: jn (q :: ps) from rfl, jn_tail ps q]
    simp [Lib.joinTail]
theorem jn_join (ps : List (List UInt8)) : Lib.join ps [32] = jn ps := by
  cases ps with
  | nil => rfl
  | cons p ps => rw [Lib.join_cons, jn_tail]
end Lx
end Go.Proofs.YtaffmgphcmmdhaaDoorX
