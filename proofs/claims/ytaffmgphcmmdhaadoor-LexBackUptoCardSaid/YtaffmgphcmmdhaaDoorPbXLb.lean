/- Tokens that are printed are read as they were; blanks between them change nothing: plain lists. -/
import Derived.Test.YtaffmgphcmmdhaaDoorPbXLc
set_option linter.unusedVariables false
set_option linter.unusedSimpArgs false
namespace Go.Proofs.YtaffmgphcmmdhaaDoorX
open Go.RowKit
namespace Lx
/-- What may follow in the place of another tail. -/
def Sep (u u' : List UInt8) : Prop := u'.head? = u.head? ∨ u'.head? = none ∨ ∃ b, u'.head? = some b ∧ isB b = true
theorem B_noW : ∀ c : UInt8, isB c = true → isW c = false := all_u8 (by decide +kernel)
theorem B_noD : ∀ c : UInt8, isB c = true → isD c = false := all_u8 (by decide +kernel)
theorem B_ne : ∀ c : UInt8, isB c = true → c ≠ 39 ∧ c ≠ 62 ∧ c ≠ 61 ∧ c ≠ 124 := all_u8 (by decide +kernel)
theorem B_sgn (d : Option UInt8) : ∀ c : UInt8, isB c = true → sgn c d = none := by
  intro c h
  have e : c ≠ 60 ∧ c ≠ 62 ∧ c ≠ 124 ∧ ¬ (c = 40 ∨ c = 41 ∨ c = 44 ∨ c = 42 ∨ c = 43 ∨ c = 45 ∨ c = 47 ∨ c = 37 ∨ c = 61 ∨ c = 60 ∨ c = 62) :=
    all_u8 (P := fun c => isB c = true → c ≠ 60 ∧ c ≠ 62 ∧ c ≠ 124 ∧ ¬ (c = 40 ∨ c = 41 ∨ c = 44 ∨ c = 42 ∨ c = 43 ∨ c = 45 ∨ c = 47 ∨ c = 37 ∨ c = 61 ∨ c = 60 ∨ c = 62)) (by decide +kernel) c h
  obtain ⟨a, b, e3, e4⟩ := e
  unfold sgn
  rw [if_neg (fun h => a h.1), if_neg (fun h => a h.1), if_neg (fun h => b h.1), if_neg (fun h => e3 h.1), if_neg e4]
theorem one_noB {c : UInt8} {r : List UInt8} {z : Tok × Nat} (h : one (c :: r) = .ok z) : isB c = false := by
  cases hb : isB c with
  | false => rfl
  | true =>
    have e1 := B_noL c hb
    have e2 := B_noD c hb
    rw [one, if_neg (by rw [e1]; decide), if_neg (by rw [e2]; decide), if_neg (B_ne c hb).1, B_sgn _ c hb] at h
    cases h
theorem tw_app (p : UInt8 → Bool) : ∀ (w u : List UInt8), (∀ c ∈ w, p c = true) → (∀ c, u.head? = some c → p c = false) → (w ++ u).takeWhile p = w
  | [], u, _, h => by
    cases u with
    | nil => rfl
    | cons c u => rw [List.nil_append, List.takeWhile_cons, h c rfl]; rfl
  | d :: w, u, hw, h => by
    rw [List.cons_append, List.takeWhile_cons, if_pos (hw d (List.mem_cons_self ..)), tw_app p w u (fun c hc => hw c (List.mem_cons_of_mem _ hc)) h]
theorem tw_cut (p : UInt8 → Bool) (w u : List UInt8) (h : ((w ++ u).takeWhile p).length = w.length) : (w ++ u).takeWhile p = w ∧ (∀ c ∈ w, p c = true) ∧ ∀ c, u.head? = some c → p c = false := by
  have hpre : (w ++ u).takeWhile p <+: w ++ u := List.takeWhile_prefix p
  have e : (w ++ u).takeWhile p = w := by
    obtain ⟨x, hx⟩ := hpre
    have := congrArg (List.take w.length) hx
    rw [List.take_left' h, List.take_left' rfl] at this
    exact this
  refine ⟨e, fun c hc => tw_all p (w ++ u) c (by rw [e]; exact hc), fun c hc => ?_⟩
  cases hp : p c with
  | false => rfl
  | true =>
    cases u with
    | nil => cases hc
    | cons d u =>
      obtain rfl := Option.some.inj hc
      have : (w ++ d :: u).takeWhile p = w ++ (d :: u).takeWhile p := by
        have hall : ∀ c ∈ w, p c = true := fun c hc => tw_all p (w ++ d :: u) c (by rw [e]; exact hc)
        clear e h hpre
        induction w with
        | nil => rfl
        | cons a w ih => rw [List.cons_append, List.takeWhile_cons, if_pos (hall a (List.mem_cons_self ..)), ih (fun c hc => hall c (List.mem_cons_of_mem _ hc)), List.cons_append]
      rw [this, List.takeWhile_cons, if_pos hp] at e
      have := congrArg List.length e
      simp at this
theorem sep_no {p : UInt8 → Bool} {u u' : List UInt8} (hs : Sep u u') (hB : ∀ c, isB c = true → p c = false) (h : ∀ c, u.head? = some c → p c = false) : ∀ c, u'.head? = some c → p c = false := by
  intro c hc
  rcases hs with e | e | ⟨b, e, hb⟩
  · exact h c (by rw [← e]; exact hc)
  · rw [e] at hc; cases hc
  · rw [e] at hc; obtain rfl := Option.some.inj hc; exact hB _ hb
/-- A text ends with its quote: what follows says alone whether it does. -/
theorem txt_loc : ∀ (k : Nat) (r u u' : List UInt8), r.length ≤ k → ∀ t, txt (r ++ u) = some (t, r.length) → u'.head? ≠ some 39 → txt (r ++ u') = some (t, r.length) := by
  intro k
  induction k with
  | zero =>
    intro r u u' h t e hq
    cases r with
    | nil => have := (txt_len _ _ (Nat.le_refl _) _ _ e).1; simp at this
    | cons c r => simp at h
  | succ k ih =>
    intro r u u' h t e hq
    match r, h, e with
    | [], _, e => have := (txt_len _ _ (Nat.le_refl _) _ _ e).1; simp at this
    | [c], _, e =>
      have hc : ¬ (c.toNat < 32 ∨ 126 < c.toNat) ∧ c = 39 ∧ t = [] := by
        cases u with
        | nil =>
          have e : txt [c] = some (t, 1) := e
          rw [txt] at e
          split at e
          · cases e
          · rename_i h1
            split at e
            · rename_i h2; exact ⟨h1, h2, (Prod.mk.inj (Option.some.inj e)).1.symm⟩
            · cases e
        | cons d u =>
          have e : txt (c :: d :: u) = some (t, 1) := e
          rw [txt] at e
          split at e
          · cases e
          · rename_i h1
            split at e
            · rename_i h2
              split at e
              · obtain ⟨⟨t', n'⟩, e1, e2⟩ := Option.map_eq_some_iff.1 e
                have := (Prod.mk.inj e2).2
                simp at this
              · exact ⟨h1, h2, (Prod.mk.inj (Option.some.inj e)).1.symm⟩
            · obtain ⟨⟨t', n'⟩, e1, e2⟩ := Option.map_eq_some_iff.1 e
              have h3 := (Prod.mk.inj e2).2
              have h4 := (txt_len _ _ (Nat.le_refl _) _ _ e1).1
              simp at h3; omega
      obtain ⟨h1, rfl, rfl⟩ := hc
      cases u' with
      | nil => rfl
      | cons d u' =>
        have hd : d ≠ 39 := fun h => hq (by rw [h]; rfl)
        show txt (39 :: d :: u') = _
        rw [txt, if_neg h1, if_pos rfl, if_neg hd]; rfl
    | c :: d :: r, h, e =>
      simp only [List.length_cons] at h
      have e : txt (c :: d :: (r ++ u)) = some (t, r.length + 2) := e
      show txt (c :: d :: (r ++ u')) = some (t, r.length + 2)
      rw [txt] at e ⊢
      by_cases h1 : c.toNat < 32 ∨ 126 < c.toNat
      · rw [if_pos h1] at e; cases e
      · rw [if_neg h1] at e ⊢
        by_cases h2 : c = 39
        · rw [if_pos h2] at e ⊢
          by_cases h3 : d = 39
          · rw [if_pos h3] at e ⊢
            obtain ⟨⟨t', n'⟩, e1, e2⟩ := Option.map_eq_some_iff.1 e
            obtain ⟨e3, e4⟩ := Prod.mk.inj e2
            have hn : n' = r.length := by simpa using e4
            subst hn
            rw [ih r u u' (by omega) t' e1 hq]
            simp only [Option.map_some]
            rw [← e3]
          · rw [if_neg h3] at e
            have := (Prod.mk.inj (Option.some.inj e)).2
            omega
        · rw [if_neg h2] at e ⊢
          obtain ⟨⟨t', n'⟩, e1, e2⟩ := Option.map_eq_some_iff.1 e
          obtain ⟨e3, e4⟩ := Prod.mk.inj e2
          have hn : n' = (d :: r).length := by simp only [List.length_cons]; simp only at e4; omega
          subst hn
          have := ih (d :: r) u u' (by simp only [List.length_cons]; omega) t' e1 hq
          rw [show d :: (r ++ u') = (d :: r) ++ u' from rfl, this]
          simp only [Option.map_some, List.length_cons]
          rw [← e3]
theorem sgn_one {c : UInt8} {d d' : Option UInt8} (h : sgn c d = some [c]) (hd : d' = d ∨ d' = none ∨ ∃ b, d' = some b ∧ isB b = true) : sgn c d' = some [c] := by
  rcases hd with rfl | hd
  · exact h
  have hn : d' ≠ some 62 ∧ d' ≠ some 61 ∧ d' ≠ some 124 := by
    rcases hd with rfl | ⟨b, rfl, hb⟩
    · exact ⟨by simp, by simp, by simp⟩
    · have := B_ne b hb
      exact ⟨fun h => this.2.1 (Option.some.inj h), fun h => this.2.2.1 (Option.some.inj h), fun h => this.2.2.2 (Option.some.inj h)⟩
  unfold sgn at h ⊢
  rw [if_neg (fun h => hn.1 h.2), if_neg (fun h => hn.2.1 h.2), if_neg (fun h => hn.2.1 h.2), if_neg (fun h => hn.2.2 h.2)]
  split at h
  · cases h
  split at h
  · cases h
  split at h
  · cases h
  split at h
  · cases h
  exact h
/-- A token hangs on the first byte behind it alone. -/
theorem one_loc {s u u' : List UInt8} {t : Tok} (h : one (s ++ u) = .ok (t, s.length)) (hs : Sep u u') : one (s ++ u') = .ok (t, s.length) := by
  cases s with
  | nil => have := (one_len h).1; simp at this
  | cons c r =>
    rw [List.cons_append] at h ⊢
    rw [one] at h ⊢
    by_cases hl : isL c = true
    · rw [if_pos hl] at h ⊢
      obtain ⟨e1, e2⟩ := Prod.mk.inj (Except.ok.inj h)
      obtain ⟨w1, w2, w3⟩ := tw_cut isW (c :: r) u e2
      have w4 := tw_app isW (c :: r) u' w2 (sep_no hs B_noW w3)
      rw [← List.cons_append] at e1 ⊢
      rw [w4, ← e1, w1]
    · rw [if_neg hl] at h ⊢
      by_cases hd : isD c = true
      · rw [if_pos hd] at h ⊢
        by_cases hv : valN 0 ((c :: (r ++ u)).takeWhile isD) ≤ 9223372036854775807
        · rw [if_pos hv] at h
          obtain ⟨e1, e2⟩ := Prod.mk.inj (Except.ok.inj h)
          obtain ⟨w1, w2, w3⟩ := tw_cut isD (c :: r) u e2
          have w4 := tw_app isD (c :: r) u' w2 (sep_no hs B_noD w3)
          rw [← List.cons_append] at e1 hv ⊢
          rw [w1] at e1 hv
          rw [w4, if_pos hv, ← e1]
        · rw [if_neg hv] at h; cases h
      · rw [if_neg hd] at h ⊢
        by_cases hq : c = 39
        · rw [if_pos hq] at h ⊢
          cases ht : txt (r ++ u) with
          | none => rw [ht] at h; cases h
          | some z =>
            obtain ⟨t', n'⟩ := z
            rw [ht] at h
            obtain ⟨e1, e2⟩ := Prod.mk.inj (Except.ok.inj h)
            have hn : n' = r.length := by simpa using e2
            subst hn
            have hq' : u'.head? ≠ some 39 := by
              rcases hs with e | e | ⟨b, e, hb⟩
              · intro h39
                rw [e] at h39
                -- a quote behind it would have been read
                exfalso
                have key : ∀ (k : Nat) (r u : List UInt8), r.length ≤ k → u.head? = some 39 → ∀ t, txt (r ++ u) ≠ some (t, r.length) := by
                  intro k
                  induction k with
                  | zero =>
                    intro r u h hu t e
                    cases r with
                    | nil => have := (txt_len _ _ (Nat.le_refl _) _ _ e).1; simp at this
                    | cons c r => simp at h
                  | succ k ih =>
                    intro r u h hu t e
                    match r, h, e with
                    | [], _, e => have := (txt_len _ _ (Nat.le_refl _) _ _ e).1; simp at this
                    | [c], _, e =>
                      cases u with
                      | nil => cases hu
                      | cons d u =>
                        obtain rfl := Option.some.inj hu
                        have e : txt (c :: 39 :: u) = some (t, 1) := e
                        rw [txt] at e
                        split at e
                        · cases e
                        · split at e
                          · rw [if_pos rfl] at e
                            obtain ⟨⟨t', n'⟩, e1, e2⟩ := Option.map_eq_some_iff.1 e
                            have := (Prod.mk.inj e2).2
                            simp at this
                          · obtain ⟨⟨t', n'⟩, e1, e2⟩ := Option.map_eq_some_iff.1 e
                            have h3 := (Prod.mk.inj e2).2
                            have h4 := (txt_len _ _ (Nat.le_refl _) _ _ e1).1
                            simp at h3; omega
                    | c :: d :: r, h, e =>
                      simp only [List.length_cons] at h
                      have e : txt (c :: d :: (r ++ u)) = some (t, r.length + 2) := e
                      rw [txt] at e
                      split at e
                      · cases e
                      · split at e
                        · split at e
                          · obtain ⟨⟨t', n'⟩, e1, e2⟩ := Option.map_eq_some_iff.1 e
                            have h3 := (Prod.mk.inj e2).2
                            have hn : n' = r.length := by simpa using h3
                            subst hn
                            exact ih r u (by omega) hu t' e1
                          · have := (Prod.mk.inj (Option.some.inj e)).2
                            omega
                        · obtain ⟨⟨t', n'⟩, e1, e2⟩ := Option.map_eq_some_iff.1 e
                          have h3 := (Prod.mk.inj e2).2
                          have hn : n' = (d :: r).length := by simp only [List.length_cons]; simp only at h3; omega
                          subst hn
                          exact ih (d :: r) u (by simp only [List.length_cons]; omega) hu t' e1
                exact key r.length r u (Nat.le_refl _) h39 t' ht
              · rw [e]; simp
              · rw [e]; exact fun h => (B_ne b hb).1 (Option.some.inj h)
            rw [txt_loc r.length r u u' (Nat.le_refl _) t' ht hq', ← e1]
            rfl
        · rw [if_neg hq] at h ⊢
          cases hg : sgn c (r ++ u).head? with
          | none => rw [hg] at h; cases h
          | some x =>
            rw [hg] at h
            obtain ⟨e1, e2⟩ := Prod.mk.inj (Except.ok.inj h)
            rcases sgn_len hg with rfl | ⟨e, he, _, rfl⟩
            · cases r with
              | nil =>
                rw [List.nil_append] at hg ⊢
                rw [sgn_one hg hs, ← e1]
              | cons d r => simp at e2
            · cases r with
              | nil => simp at e2
              | cons d r =>
                rw [List.cons_append, List.head?_cons] at hg ⊢
                rw [hg, ← e1, ← e2]
end Lx
end Go.Proofs.YtaffmgphcmmdhaaDoorX
