/- Great letters outside quotes are read as small ones: plain lists. -/
import Derived.Test.YtaffmgphcmmdhaaGreatDoorPzXLs
set_option linter.unusedVariables false
set_option linter.unusedSimpArgs false
namespace Go.Proofs.YtaffmgphcmmdhaaGreatDoorX
open Go.RowKit
namespace Lx
theorem all_u8 {P : UInt8 → Prop} (h : ∀ n : Fin 256, P (UInt8.ofNat n.val)) : ∀ c, P c := fun c => by
  have := h ⟨c.toNat, c.toNat_lt⟩
  simpa using this
def upc (c : UInt8) : UInt8 := if 97 ≤ c.toNat ∧ c.toNat ≤ 122 then c - 32 else c
def up : Bool → List UInt8 → List UInt8
  | _, [] => []
  | q, c :: l => (if (if c = 39 then !q else q) = true then c else upc c) :: up (if c = 39 then !q else q) l
theorem upc_39 : ∀ c : UInt8, upc c = 39 ↔ c = 39 := all_u8 (by decide +kernel)
theorem upc_62 : ∀ c : UInt8, upc c = 62 ↔ c = 62 := all_u8 (by decide +kernel)
theorem upc_61 : ∀ c : UInt8, upc c = 61 ↔ c = 61 := all_u8 (by decide +kernel)
theorem upc_124 : ∀ c : UInt8, upc c = 124 ↔ c = 124 := all_u8 (by decide +kernel)
theorem upc_L : ∀ c : UInt8, isL (upc c) = isL c := all_u8 (by decide +kernel)
theorem upc_D : ∀ c : UInt8, isD (upc c) = isD c := all_u8 (by decide +kernel)
theorem upc_W : ∀ c : UInt8, isW (upc c) = isW c := all_u8 (by decide +kernel)
theorem upc_B : ∀ c : UInt8, isB (upc c) = isB c := all_u8 (by decide +kernel)
theorem upc_noL : ∀ c : UInt8, isL c = false → upc c = c := all_u8 (by decide +kernel)
theorem upc_low : ∀ c : UInt8, low (upc c) = low c := all_u8 (by decide +kernel)
theorem D_noL : ∀ c : UInt8, isD c = true → isL c = false := all_u8 (by decide +kernel)
theorem up_q (l : List UInt8) : up false (39 :: l) = 39 :: up true l := by simp [up]
theorem up_qt (l : List UInt8) : up true (39 :: l) = 39 :: up false l := by
  simp only [up, if_true, Bool.not_true, Bool.false_eq_true, if_false]
  rfl
theorem up_c {c : UInt8} (h : c ≠ 39) (l : List UInt8) : up false (c :: l) = upc c :: up false l := by simp [up, h]
theorem up_ct {c : UInt8} (h : c ≠ 39) (l : List UInt8) : up true (c :: l) = c :: up true l := by simp [up, h]
theorem up_len : ∀ (q : Bool) (l : List UInt8), (up q l).length = l.length
  | _, [] => rfl
  | q, c :: l => by rw [up, List.length_cons, up_len _ l, List.length_cons]
theorem up_tw (p : UInt8 → Bool) (h39 : p 39 = false) (hp : ∀ c, p (upc c) = p c) : ∀ l : List UInt8,
    (up false l).takeWhile p = (l.takeWhile p).map upc ∧ (up false l).drop (l.takeWhile p).length = up false (l.drop (l.takeWhile p).length)
  | [] => ⟨rfl, rfl⟩
  | c :: l => by
    by_cases h : c = 39
    · subst h
      rw [up_q, List.takeWhile_cons, List.takeWhile_cons, h39]
      exact ⟨rfl, by simp [up_q]⟩
    · obtain ⟨i1, i2⟩ := up_tw p h39 hp l
      rw [up_c h, List.takeWhile_cons, List.takeWhile_cons, hp]
      cases hc : p c with
      | true => exact ⟨by simp [i1], by simpa using i2⟩
      | false => exact ⟨rfl, by simp [up_c h]⟩
theorem tw_all (p : UInt8 → Bool) : ∀ (l : List UInt8) (c : UInt8), c ∈ l.takeWhile p → p c = true
  | [], c, h => by cases h
  | d :: l, c, h => by
    rw [List.takeWhile_cons] at h
    split at h
    · rename_i hd
      rcases List.mem_cons.1 h with rfl | h
      · exact hd
      · exact tw_all p l c h
    · cases h
theorem q39 : ¬ ((39 : UInt8).toNat < 32 ∨ 126 < (39 : UInt8).toNat) := by decide
theorem txt_qq (l : List UInt8) : txt (39 :: 39 :: l) = (txt l).map (fun r => (39 :: r.1, r.2 + 2)) := by
  rw [txt, if_neg q39, if_pos rfl, if_pos rfl]
theorem txt_qn {d : UInt8} (h : d ≠ 39) (l : List UInt8) : txt (39 :: d :: l) = some ([], 1) := by
  rw [txt, if_neg q39, if_pos rfl, if_neg h]
theorem up_txt : ∀ (k : Nat) (l : List UInt8), l.length ≤ k → txt (up true l) = txt l ∧ ∀ t n, txt l = some (t, n) → (up true l).drop n = up false (l.drop n) := by
  intro k
  induction k with
  | zero => intro l h; cases l with | nil => exact ⟨rfl, fun t n e => by cases e⟩ | cons c l => simp at h
  | succ k ih =>
    intro l h
    match l, h with
    | [], _ => exact ⟨rfl, fun t n e => by cases e⟩
    | [c], _ =>
      by_cases h39 : c = 39
      · subst h39
        refine ⟨rfl, fun t n e => ?_⟩
        obtain ⟨rfl, rfl⟩ := Prod.mk.inj (Option.some.inj (show some (([] : List UInt8), 1) = some (t, n) from e))
        rfl
      · refine ⟨by rw [up_ct h39]; rfl, fun t n e => ?_⟩
        rw [txt] at e
        split at e
        · cases e
        · first | (rw [if_neg h39] at e; cases e) | (simp at e) | cases e
    | c :: d :: l, h =>
      simp only [List.length_cons] at h
      by_cases h39 : c = 39
      · subst h39
        rw [up_qt]
        by_cases hd : d = 39
        · subst hd
          rw [up_q]
          obtain ⟨i1, i2⟩ := ih l (by omega)
          refine ⟨by rw [txt_qq, txt_qq, i1], fun t n e => ?_⟩
          have e' : (txt l).map (fun r => ((39 : UInt8) :: r.1, r.2 + 2)) = some (t, n) := e
          obtain ⟨⟨t', n'⟩, e1, e2⟩ := Option.map_eq_some_iff.1 e'
          obtain ⟨rfl, rfl⟩ := Prod.mk.inj e2
          simpa using i2 t' n' e1
        · rw [up_c hd]
          have hd' : upc d ≠ 39 := fun h => hd ((upc_39 d).1 h)
          refine ⟨?_, fun t n e => ?_⟩
          · rw [txt_qn hd', txt_qn hd]
          · rw [txt_qn hd] at e
            obtain ⟨rfl, rfl⟩ := Prod.mk.inj (Option.some.inj e)
            simp [up_c hd]
      · rw [up_ct h39]
        obtain ⟨i1, i2⟩ := ih (d :: l) (by simp only [List.length_cons]; omega)
        by_cases hb : c.toNat < 32 ∨ 126 < c.toNat
        · cases hu : up true (d :: l) with
          | nil => have := up_len true (d :: l); rw [hu] at this; simp at this
          | cons d' l' =>
            refine ⟨by rw [txt, txt, if_pos hb, if_pos hb], fun t n e => ?_⟩
            rw [txt, if_pos hb] at e; cases e
        · cases hu : up true (d :: l) with
          | nil => have := up_len true (d :: l); rw [hu] at this; simp at this
          | cons d' l' =>
            rw [hu] at i1 i2
            refine ⟨by rw [txt, txt, if_neg hb, if_neg hb, if_neg h39, if_neg h39, i1], fun t n e => ?_⟩
            rw [txt, if_neg hb, if_neg h39] at e
            obtain ⟨⟨t', n'⟩, e1, e2⟩ := Option.map_eq_some_iff.1 e
            obtain ⟨rfl, rfl⟩ := Prod.mk.inj e2
            simpa using i2 t' n' e1
theorem up_sgn (c : UInt8) (r : List UInt8) : sgn c (up false r).head? = sgn c r.head? := by
  cases r with
  | nil => rfl
  | cons d r =>
    have hd : (up false (d :: r)).head? = some (upc d) := by
      by_cases h : d = 39
      · subst h; rw [up_q]; rfl
      · rw [up_c h]; rfl
    rw [hd]
    unfold sgn
    simp only [List.head?_cons, Option.some.injEq, upc_62, upc_61, upc_124]
theorem up_one (l : List UInt8) : one (up false l) = one l ∧ ∀ t n, one l = .ok (t, n) → (up false l).drop n = up false (l.drop n) := by
  cases l with
  | nil => exact ⟨rfl, fun t n e => by cases e⟩
  | cons c r =>
    by_cases h39 : c = 39
    · subst h39
      obtain ⟨i1, i2⟩ := up_txt r.length r (Nat.le_refl _)
      have n1 : ¬ isL 39 = true := by decide
      have n2 : ¬ isD 39 = true := by decide
      rw [up_q]
      refine ⟨by rw [one, one, if_neg n1, if_neg n1, if_neg n2, if_neg n2, if_pos rfl, if_pos rfl, i1], fun t n e => ?_⟩
      rw [one, if_neg n1, if_neg n2, if_pos rfl] at e
      cases ht : txt r with
      | none => rw [ht] at e; cases e
      | some z =>
        obtain ⟨t', n'⟩ := z
        rw [ht] at e
        obtain ⟨_, rfl⟩ := Prod.mk.inj (Except.ok.inj e)
        simpa using i2 t' n' ht
    · have hu := up_c h39 r
      by_cases hl : isL c = true
      · obtain ⟨w1, w2⟩ := up_tw isW (by decide) upc_W (c :: r)
        have hl' : isL (upc c) = true := by rw [upc_L]; exact hl
        have e1 : one (up false (c :: r)) = .ok ((1, ((c :: r).takeWhile isW).map low, 0), ((c :: r).takeWhile isW).length) := by
          rw [hu, one, if_pos hl', ← hu, w1, List.length_map, List.map_map]
          rw [List.map_congr_left (f := low ∘ upc) (g := low) (fun x _ => upc_low x)]
        have e2 : one (c :: r) = .ok ((1, ((c :: r).takeWhile isW).map low, 0), ((c :: r).takeWhile isW).length) := by rw [one, if_pos hl]
        refine ⟨e1.trans e2.symm, fun t n e => ?_⟩
        rw [e2] at e
        obtain ⟨_, rfl⟩ := Prod.mk.inj (Except.ok.inj e)
        exact w2
      · have hl0 : isL c = false := by simpa using hl
        have hc : upc c = c := upc_noL c hl0
        rw [hc] at hu
        by_cases hd : isD c = true
        · obtain ⟨w1, w2⟩ := up_tw isD (by decide) upc_D (c :: r)
          have w3 : ((c :: r).takeWhile isD).map upc = (c :: r).takeWhile isD := by
            rw [List.map_congr_left (g := id) (fun x hx => upc_noL x (D_noL x (tw_all isD _ x hx))), List.map_id]
          rw [w3] at w1
          have e1 : one (up false (c :: r)) = one (c :: r) := by
            rw [hu, one, one, if_neg hl, if_neg hl, if_pos hd, if_pos hd, ← hu, w1]
          refine ⟨e1, fun t n e => ?_⟩
          rw [one, if_neg hl, if_pos hd] at e
          split at e
          · obtain ⟨_, rfl⟩ := Prod.mk.inj (Except.ok.inj e)
            exact w2
          · cases e
        · refine ⟨by rw [hu, one, one, if_neg hl, if_neg hl, if_neg hd, if_neg hd, if_neg h39, if_neg h39, up_sgn], fun t n e => ?_⟩
          rw [one, if_neg hl, if_neg hd, if_neg h39] at e
          cases hs : sgn c r.head? with
          | none => rw [hs] at e; cases e
          | some x =>
            rw [hs] at e
            obtain ⟨_, rfl⟩ := Prod.mk.inj (Except.ok.inj e)
            rw [hu]
            rcases sgn_len hs with rfl | ⟨d, hd2, hd39, rfl⟩
            · rfl
            · cases r with
              | nil => cases hd2
              | cons d' r =>
                obtain rfl := Option.some.inj hd2
                rw [up_c hd39]; rfl
theorem up_lexL : ∀ (n : Nat) (l : List UInt8) (a : Nat), lexL n (up false l) a = lexL n l a
  | 0, l, a => by rw [lexL, lexL]
  | n + 1, [], a => rfl
  | n + 1, c :: r, a => by
    obtain ⟨o1, o2⟩ := up_one (c :: r)
    have hb : ∃ c' r', up false (c :: r) = c' :: r' ∧ isB c' = isB c ∧ (isB c = true → r' = up false r) := by
      by_cases h39 : c = 39
      · subst h39; exact ⟨39, _, up_q r, rfl, fun h => absurd h (by decide)⟩
      · exact ⟨_, _, up_c h39 r, upc_B c, fun _ => rfl⟩
    obtain ⟨c', r', hu, hb1, hb2⟩ := hb
    rw [hu] at o1 o2 ⊢
    rw [lexL, lexL, hb1]
    by_cases h : isB c = true
    · rw [if_pos h, if_pos h, hb2 h, up_lexL n r]
    · rw [if_neg h, if_neg h, o1]
      cases ho : one (c :: r) with
      | error e => rfl
      | ok z =>
        obtain ⟨t, m⟩ := z
        simp only []
        rw [o2 t m ho, up_lexL n]
theorem lexL_skip : ∀ (g u : List UInt8) (N a : Nat), (∀ c ∈ g, isB c = true) → g.length ≤ N → lexL N (g ++ u) a = lexL (N - g.length) u (a + g.length)
  | [], u, N, a, _, _ => rfl
  | c :: g, u, 0, a, _, h => by simp at h
  | c :: g, u, N + 1, a, hg, h => by
    simp only [List.length_cons] at h
    rw [List.cons_append, lexL, if_pos (hg c (List.mem_cons_self ..)), lexL_skip g u N (a + 1) (fun x hx => hg x (List.mem_cons_of_mem _ hx)) (by omega)]
    simp only [List.length_cons]
    rw [show N + 1 - (g.length + 1) = N - g.length by omega, show a + (g.length + 1) = a + 1 + g.length by omega]
end Lx
end Go.Proofs.YtaffmgphcmmdhaaGreatDoorX
