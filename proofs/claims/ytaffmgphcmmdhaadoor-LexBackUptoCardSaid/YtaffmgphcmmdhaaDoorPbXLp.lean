/- Tokens printed and read again; blanks laid between: plain lists. -/
import Derived.Test.YtaffmgphcmmdhaaDoorPbXLb
set_option linter.unusedVariables false
set_option linter.unusedSimpArgs false
namespace Go.Proofs.YtaffmgphcmmdhaaDoorX
open Go.RowKit
namespace Lx
def pr (t : Tok) : List UInt8 := if t.1 = 2 then Lib.itoa t.2.2 else if t.1 = 3 then 39 :: (dbl t.2.1 ++ [39]) else t.2.1
theorem low_W : ∀ c : UInt8, isW (low c) = isW c := all_u8 (by decide +kernel)
theorem low_L : ∀ c : UInt8, isL (low c) = isL c := all_u8 (by decide +kernel)
theorem low_low : ∀ c : UInt8, low (low c) = low c := all_u8 (by decide +kernel)
theorem tw_self (p : UInt8 → Bool) (w : List UInt8) (h : ∀ c ∈ w, p c = true) : w.takeWhile p = w := by
  have := tw_app p w [] h (fun c hc => by cases hc)
  rwa [List.append_nil] at this
theorem txt_ok : ∀ (k : Nat) (l : List UInt8), l.length ≤ k → ∀ t n, txt l = some (t, n) → ∀ c ∈ t, ¬ (c.toNat < 32 ∨ 126 < c.toNat) := by
  intro k
  induction k with
  | zero => intro l h t n e; cases l with | nil => cases e | cons c l => simp at h
  | succ k ih =>
    intro l h t n e
    match l, h, e with
    | [], _, e => cases e
    | [c], _, e =>
      rw [txt] at e
      split at e
      · cases e
      · split at e
        · obtain ⟨rfl, rfl⟩ := Prod.mk.inj (Option.some.inj e); intro c hc; cases hc
        · cases e
    | c :: d :: l, h, e =>
      simp only [List.length_cons] at h
      rw [txt] at e
      split at e
      · cases e
      · rename_i hc
        split at e
        · split at e
          · obtain ⟨⟨t', n'⟩, e1, e2⟩ := Option.map_eq_some_iff.1 e
            obtain ⟨rfl, rfl⟩ := Prod.mk.inj e2
            intro x hx
            rcases List.mem_cons.1 hx with rfl | hx
            · decide
            · exact ih l (by omega) t' n' e1 x hx
          · obtain ⟨rfl, rfl⟩ := Prod.mk.inj (Option.some.inj e); intro c hc; cases hc
        · obtain ⟨⟨t', n'⟩, e1, e2⟩ := Option.map_eq_some_iff.1 e
          obtain ⟨rfl, rfl⟩ := Prod.mk.inj e2
          intro x hx
          rcases List.mem_cons.1 hx with rfl | hx
          · exact hc
          · exact ih (d :: l) (by simp only [List.length_cons]; omega) t' n' e1 x hx
theorem txt_dbl : ∀ t : List UInt8, (∀ c ∈ t, ¬ (c.toNat < 32 ∨ 126 < c.toNat)) → txt (dbl t ++ [39]) = some (t, (dbl t).length + 1)
  | [], _ => rfl
  | c :: t, h => by
    have ih := txt_dbl t (fun x hx => h x (List.mem_cons_of_mem _ hx))
    have hc := h c (List.mem_cons_self ..)
    by_cases h39 : c = 39
    · subst h39
      rw [dbl, if_pos rfl]
      show txt (39 :: 39 :: (dbl t ++ [39])) = _
      rw [txt, if_neg hc, if_pos rfl, if_pos rfl, ih]
      simp
    · rw [dbl, if_neg h39, List.cons_append]
      cases hd : dbl t ++ [39] with
      | nil => simp at hd
      | cons d l =>
        rw [txt, if_neg hc, if_neg h39, ← hd, ih]
        simp
theorem valN_dec : ∀ (n u : Nat) (l : List UInt8), u ≤ n → valN 0 (Lib.decDigits u ++ l) = valN u l
  | n, u, l, hn => by
    by_cases hu : u < 10
    · rw [dec_small hu, List.cons_append, List.nil_append, valN_cons, u8_digit u hu]
      congr 1; omega
    · rw [dec_big hu, List.append_assoc]
      match n, hn with
      | 0, hn => omega
      | n + 1, hn =>
        rw [valN_dec n (u / 10) _ (by omega), List.cons_append, List.nil_append, valN_cons, u8_digit (u % 10) (by omega)]
        congr 1; omega
theorem dec_all : ∀ (n u : Nat), u ≤ n → ∀ c ∈ Lib.decDigits u, isD c = true
  | n, u, hn => by
    have hd : ∀ d, d < 10 → isD (UInt8.ofNat (48 + d)) = true := fun d h => by
      unfold isD
      rw [u8_digit d h, decide_eq_true_eq]; omega
    intro c hc
    by_cases hu : u < 10
    · rw [dec_small hu] at hc
      rcases List.mem_cons.1 hc with rfl | hc
      · exact hd u hu
      · cases hc
    · rw [dec_big hu] at hc
      match n, hn with
      | 0, hn => omega
      | n + 1, hn =>
        rcases List.mem_append.1 hc with hc | hc
        · exact dec_all n (u / 10) (by omega) c hc
        · rcases List.mem_cons.1 hc with rfl | hc
          · exact hd _ (by omega)
          · cases hc
/-- A token that was read is read from its own text. -/
theorem one_pr {l : List UInt8} {t : Tok} {n : Nat} (h : one l = .ok (t, n)) : one (pr t) = .ok (t, (pr t).length) := by
  cases l with
  | nil => cases h
  | cons c r =>
    rw [one] at h
    by_cases hl : isL c = true
    · rw [if_pos hl] at h
      obtain ⟨rfl, _⟩ := Prod.mk.inj (Except.ok.inj h)
      have hw : isW c = true := by unfold isW; rw [hl]; rfl
      have hp : pr (1, ((c :: r).takeWhile isW).map low, 0) = ((c :: r).takeWhile isW).map low := rfl
      rw [hp]
      have hall : ∀ x ∈ ((c :: r).takeWhile isW).map low, isW x = true := fun x hx => by
        obtain ⟨y, hy, rfl⟩ := List.mem_map.1 hx
        rw [low_W]; exact tw_all isW _ y hy
      have hmm : (((c :: r).takeWhile isW).map low).map low = ((c :: r).takeWhile isW).map low := by
        rw [List.map_map]; exact List.map_congr_left fun x _ => low_low x
      have htw := tw_self isW _ hall
      generalize hz : ((c :: r).takeWhile isW).map low = z at hall hmm htw ⊢
      rw [List.takeWhile_cons, if_pos hw, List.map_cons] at hz
      rw [← hz] at htw hmm ⊢
      rw [one, if_pos (by rw [low_L]; exact hl), htw, hmm]
    · rw [if_neg hl] at h
      by_cases hd : isD c = true
      · rw [if_pos hd] at h
        by_cases hv : valN 0 ((c :: r).takeWhile isD) ≤ 9223372036854775807
        · rw [if_pos hv] at h
          obtain ⟨rfl, _⟩ := Prod.mk.inj (Except.ok.inj h)
          generalize valN 0 ((c :: r).takeWhile isD) = v at hv ⊢
          have hp : pr (2, [], (v : Int)) = Lib.decDigits v := by
            show Lib.itoa (v : Int) = _
            unfold Lib.itoa
            rw [if_neg (by omega), Int.toNat_natCast]
          rw [hp]
          have htw := tw_self isD _ (dec_all v v (Nat.le_refl _))
          have hval := valN_dec v v [] (Nat.le_refl _)
          rw [List.append_nil] at hval
          obtain ⟨d, r', hd10, he⟩ := dec_head v v (Nat.le_refl _)
          have hdd : isD (UInt8.ofNat (48 + d)) = true := dec_all v v (Nat.le_refl _) _ (by rw [he]; exact List.mem_cons_self ..)
          rw [he] at htw hval ⊢
          rw [one, if_neg (by rw [D_noL _ hdd]; decide), if_pos hdd, htw, hval]
          show (if v ≤ 9223372036854775807 then _ else _) = _
          rw [if_pos hv]; rfl
        · rw [if_neg hv] at h; cases h
      · rw [if_neg hd] at h
        by_cases hq : c = 39
        · rw [if_pos hq] at h
          cases ht : txt r with
          | none => rw [ht] at h; cases h
          | some z =>
            obtain ⟨t', n'⟩ := z
            rw [ht] at h
            obtain ⟨rfl, _⟩ := Prod.mk.inj (Except.ok.inj h)
            have hp : pr (3, t', 0) = 39 :: (dbl t' ++ [39]) := rfl
            rw [hp, one, if_neg (by decide), if_neg (by decide), if_pos rfl, txt_dbl t' (txt_ok _ r (Nat.le_refl _) t' n' ht)]
            simp
        · rw [if_neg hq] at h
          cases hg : sgn c r.head? with
          | none => rw [hg] at h; cases h
          | some x =>
            rw [hg] at h
            obtain ⟨rfl, _⟩ := Prod.mk.inj (Except.ok.inj h)
            have hp : pr (4, x, 0) = x := rfl
            rw [hp]
            rcases sgn_len hg with rfl | ⟨e, he, _, rfl⟩
            · rw [one, if_neg hl, if_neg hd, if_neg hq, List.head?_nil, sgn_one hg (.inr (.inl rfl))]
            · rw [he] at hg
              rw [one, if_neg hl, if_neg hd, if_neg hq, List.head?_cons, hg]
theorem lexL_tok {p u : List UInt8} {t : Tok} (h : one (p ++ u) = .ok (t, p.length)) (N a : Nat) :
    lexL (N + 1) (p ++ u) a = (if (lexL N u (a + p.length)).2.2 = 0 then ((t, a) :: (lexL N u (a + p.length)).1, (lexL N u (a + p.length)).2) else ([], (lexL N u (a + p.length)).2)) := by
  cases p with
  | nil => have := (one_len h).1; simp at this
  | cons c r =>
    rw [List.cons_append] at h ⊢
    rw [lexL, one_noB h, if_neg (by decide), h]
    simp only [List.length_cons, List.drop_succ_cons, List.drop_left]
theorem lexL_nil (N a : Nat) : lexL N [] a = ([], a, 0) := by cases N <;> rfl
def jn : List (List UInt8) → List UInt8
  | [] => []
  | [p] => p
  | p :: q :: ps => p ++ 32 :: jn (q :: ps)
theorem lexL_jn : ∀ (ts : List Tok), (∀ t ∈ ts, one (pr t) = .ok (t, (pr t).length)) → ∀ N a, (jn (ts.map pr)).length ≤ N → (lexL N (jn (ts.map pr)) a).2.2 = 0 ∧ (lexL N (jn (ts.map pr)) a).1.map (·.1) = ts
  | [], _, N, a, _ => by rw [show jn (([] : List Tok).map pr) = [] from rfl, lexL_nil]; exact ⟨rfl, rfl⟩
  | [t], h, N, a, hN => by
    have h1 := h t (List.mem_cons_self ..)
    have hl := (one_len h1).1
    rw [show jn ([t].map pr) = pr t from rfl] at hN ⊢
    obtain ⟨M, rfl⟩ : ∃ M, N = M + 1 := ⟨N - 1, by omega⟩
    have e := lexL_tok (u := []) (by rw [List.append_nil]; exact h1) M a
    rw [List.append_nil, lexL_nil] at e
    rw [e]; exact ⟨rfl, rfl⟩
  | t :: t' :: ts, h, N, a, hN => by
    have h1 := h t (List.mem_cons_self ..)
    have hl := (one_len h1).1
    have e0 : jn ((t :: t' :: ts).map pr) = pr t ++ 32 :: jn ((t' :: ts).map pr) := rfl
    rw [e0] at hN ⊢
    simp only [List.length_append, List.length_cons] at hN
    obtain ⟨M, rfl⟩ : ∃ M, N = M + 2 := ⟨N - 2, by omega⟩
    have h2 : one (pr t ++ 32 :: jn ((t' :: ts).map pr)) = .ok (t, (pr t).length) :=
      one_loc (u := []) (by rw [List.append_nil]; exact h1) (.inr (.inr ⟨32, rfl, rfl⟩))
    rw [lexL_tok h2 (M + 1) a]
    have e3 : lexL (M + 1) (32 :: jn ((t' :: ts).map pr)) (a + (pr t).length) = lexL M (jn ((t' :: ts).map pr)) (a + (pr t).length + 1) := by
      rw [lexL, if_pos (show isB 32 = true by decide)]
    rw [e3]
    obtain ⟨i1, i2⟩ := lexL_jn (t' :: ts) (fun x hx => h x (List.mem_cons_of_mem _ hx)) M (a + (pr t).length + 1) (by omega)
    rw [if_pos i1]
    exact ⟨i1, by rw [List.map_cons, i2]⟩
/-! ### pieces -/
abbrev Pcs := List (Tok × List UInt8 × List UInt8)
def cat : Pcs → List UInt8
  | [] => []
  | (_, s, g) :: ps => s ++ (g ++ cat ps)
def Pc : Nat → Pcs → List (Tok × Nat) → Prop
  | _, [], l => l = []
  | a, (t, s, g) :: ps, l => ∃ l', l = (t, a) :: l' ∧ one (s ++ (g ++ cat ps)) = .ok (t, s.length) ∧ (∀ c ∈ g, isB c = true) ∧ Pc (a + s.length + g.length) ps l'
theorem lexL_cut : ∀ (N : Nat) (l : List UInt8) (a : Nat) (toks : List (Tok × Nat)) (e : Nat), l.length ≤ N → lexL N l a = (toks, e, 0) →
    ∃ (g : List UInt8) (ps : Pcs), (∀ c ∈ g, isB c = true) ∧ l = g ++ cat ps ∧ Pc (a + g.length) ps toks
  | N, [], a, toks, e, _, h => by
    rw [lexL_nil] at h
    obtain ⟨rfl, _⟩ := Prod.mk.inj h
    exact ⟨[], [], fun c hc => (by cases hc), rfl, rfl⟩
  | 0, c :: r, a, toks, e, hN, h => by simp at hN
  | N + 1, c :: r, a, toks, e, hN, h => by
    simp only [List.length_cons] at hN
    by_cases hb : isB c = true
    · rw [lexL, if_pos hb] at h
      obtain ⟨g, ps, hg, hl, hp⟩ := lexL_cut N r (a + 1) toks e (by omega) h
      refine ⟨c :: g, ps, fun x hx => ?_, by rw [hl]; rfl, ?_⟩
      · rcases List.mem_cons.1 hx with rfl | hx
        · exact hb
        · exact hg x hx
      · rw [List.length_cons, show a + (g.length + 1) = a + 1 + g.length by omega]; exact hp
    · rw [lexL, if_neg hb] at h
      cases ho : one (c :: r) with
      | error x =>
        rw [ho] at h
        obtain ⟨_, h2⟩ := Prod.mk.inj h
        obtain ⟨_, h3⟩ := Prod.mk.inj h2
        rcases one_err ho with rfl | rfl <;> cases h3
      | ok z =>
        obtain ⟨t, m⟩ := z
        rw [ho] at h
        simp only [] at h
        have hm := one_len ho
        by_cases hz : (lexL N ((c :: r).drop m) (a + m)).2.2 = 0
        · rw [if_pos hz] at h
          obtain ⟨h1, h2⟩ := Prod.mk.inj h
          have h3 : lexL N ((c :: r).drop m) (a + m) = ((lexL N ((c :: r).drop m) (a + m)).1, e, 0) := by rw [← h2]
          obtain ⟨g, ps, hg, hl, hp⟩ := lexL_cut N ((c :: r).drop m) (a + m) _ e (by rw [List.length_drop, List.length_cons]; omega) h3
          have hs : ((c :: r).take m).length = m := by rw [List.length_take]; omega
          have hcat : (c :: r).take m ++ (g ++ cat ps) = c :: r := by rw [← hl, List.take_append_drop]
          refine ⟨[], (t, (c :: r).take m, g) :: ps, fun c hc => (by cases hc), by rw [List.nil_append, cat, hcat], _, h1.symm, by rw [hcat, hs]; exact ho, hg, ?_⟩
          rw [hs]
          simpa using hp
        · rw [if_neg hz] at h
          obtain ⟨_, h2⟩ := Prod.mk.inj h
          exact absurd (by rw [h2]) hz
def ins : Pcs → List UInt8 → List UInt8
  | [], _ => []
  | (_, s, g) :: ps, [] => s ++ (g ++ ins ps [])
  | (_, s, g) :: ps, b :: bs => s ++ (g ++ b :: ins ps bs)
theorem ins_head : ∀ (ps : Pcs) (a : Nat) (l : List (Tok × Nat)) (bs : List UInt8), Pc a ps l → (ins ps bs).head? = (cat ps).head?
  | [], _, _, _, _ => by cases ‹List UInt8› <;> rfl
  | (t, s, g) :: ps, a, l, bs, h => by
    obtain ⟨l', _, h1, _, _⟩ := h
    have hl := (one_len h1).1
    cases s with
    | nil => simp at hl
    | cons c s => cases bs <;> rfl
theorem lex_ins : ∀ (ps : Pcs) (a : Nat) (l : List (Tok × Nat)) (bs : List UInt8), Pc a ps l → (∀ b ∈ bs, isB b = true) → ∀ N a', (ins ps bs).length ≤ N →
    (lexL N (ins ps bs) a').2.2 = 0 ∧ (lexL N (ins ps bs) a').1.map (·.1) = l.map (·.1)
  | [], a, l, bs, h, _, N, a', _ => by
    have h : l = [] := h
    subst h
    rw [show ins [] bs = [] by cases bs <;> rfl, lexL_nil]; exact ⟨rfl, rfl⟩
  | (t, s, g) :: ps, a, l, bs, h, hb, N, a', hN => by
    obtain ⟨l', rfl, h1, hg, h2⟩ := h
    have hl := (one_len h1).1
    -- what stands behind the token
    obtain ⟨bl, bs', hbl, hbs, e⟩ : ∃ bl bs', (∀ b ∈ bl, isB b = true) ∧ (∀ b ∈ bs', isB b = true) ∧ ins ((t, s, g) :: ps) bs = s ++ (g ++ bl ++ ins ps bs') ∧ True := by
      cases bs with
      | nil => exact ⟨[], [], (fun b h => by cases h), (fun b h => by cases h), by rw [ins, List.append_nil], trivial⟩
      | cons b bs => exact ⟨[b], bs, (fun x h => by rw [List.mem_singleton.1 h]; exact hb _ (List.mem_cons_self ..)), (fun x h => hb x (List.mem_cons_of_mem _ h)), by rw [ins, List.append_assoc]; rfl, trivial⟩
    obtain ⟨e, _⟩ := e
    have hsep : Sep (g ++ cat ps) (g ++ bl ++ ins ps bs') := by
      cases g with
      | cons x g => exact .inl rfl
      | nil =>
        cases bl with
        | cons b bl => exact .inr (.inr ⟨b, rfl, hbl b (List.mem_cons_self ..)⟩)
        | nil => exact .inl (ins_head ps _ l' bs' h2)
    have h3 := one_loc h1 hsep
    rw [e] at hN ⊢
    simp only [List.length_append] at hN
    obtain ⟨M, rfl⟩ : ∃ M, N = M + 1 := ⟨N - 1, by omega⟩
    rw [lexL_tok h3 M a']
    rw [lexL_skip (g ++ bl) (ins ps bs') M _ (fun c hc => by rcases List.mem_append.1 hc with hc | hc; exact hg c hc; exact hbl c hc) (by rw [List.length_append]; omega)]
    obtain ⟨i1, i2⟩ := lex_ins ps _ l' bs' h2 hbs (M - (g ++ bl).length) (a' + s.length + (g ++ bl).length) (by rw [List.length_append]; omega)
    rw [if_pos i1]
    exact ⟨i1, by rw [List.map_cons, i2]; rfl⟩
end Lx
end Go.Proofs.YtaffmgphcmmdhaaDoorX
