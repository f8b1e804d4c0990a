/- What the walks of plan.Range, cursor.Meet, cursor.Has compute, told plainly. -/
import Derived.Test.YtddkbhglbkfelaaPnPx
import Derived.Test.YtddkbhglbkfelaaPnXPlain
import Derived.Test.YtddkbhglbkfelaaPnXBits
set_option linter.unusedVariables false
set_option linter.unusedSimpArgs false
namespace Go.Proofs.Ytddkbhglbkfelaa.P
open Go.RowKit Go.Proofs.YtddkbhglbkfelaaW.PrintWords Go.Proofs.YtddkbhglbkfelaaW.PrintLast Go.Proofs.YtddkbhglbkfelaaX
theorem ev_at {α : Type} {g : Nat → Option α} {r : α} (n : Nat) (h : ∀ k, g (k + n) = some r) : Ev g r := ⟨n, fun k hk => by have := h (k - n); rwa [Nat.sub_add_cancel hk] at this⟩
theorem drop_cons {α : Type} {xs : List α} {j : Nat} {c : α} {cs : List α} (h : xs.drop j = c :: cs) : xs[j]? = some c ∧ j < xs.length ∧ xs.drop (j + 1) = cs := by
  have hl : j < xs.length := by
    rcases Nat.lt_or_ge j xs.length with h1 | h1
    · exact h1
    · rw [List.drop_eq_nil_of_le h1] at h; cases h
  rw [List.drop_eq_getElem_cons hl] at h
  injection h with h1 h2
  exact ⟨by rw [List.getElem?_eq_getElem hl, h1], hl, h2⟩
theorem drop_nil {α : Type} {xs : List α} {j : Nat} (h : xs.drop j = []) : xs.length ≤ j := List.drop_eq_nil_iff.1 h
theorem wsucc {j : Nat} (h : j < 9223372036854775807) : wrap64 ((j : Int) + 1) = ((j + 1 : Nat) : Int) := by unfold wrap64; omega
theorem rd26_at {xs : List S26} {j : Nat} {c : S26} (h : xs[j]? = some c) : rd_T26 xs (j : Int) = c := by
  unfold rd_T26; rw [Int.toNat_natCast, List.getD_eq_getElem?_getD, h]; rfl
theorem rd43_at {xs : List S43} {j : Nat} {c : S43} (h : xs[j]? = some c) : rd_T43 xs (j : Int) = c := by
  unfold rd_T43; rw [Int.toNat_natCast, List.getD_eq_getElem?_getD, h]; rfl
/-! ### the texts' order -/
theorem bl_irrefl : ∀ x : List UInt8, Op.bytesLess x x = false
  | [] => rfl
  | a :: x => by
    have := bl_irrefl x
    simp [Op.bytesLess, this]
theorem bl_anti (x y : List UInt8) : (!(Op.bytesLess x y || x == y)) = Op.bytesLess y x := bytesLess_anti x y
theorem bl_trans : ∀ x y z : List UInt8, Op.bytesLess x y = true → Op.bytesLess y z = true → Op.bytesLess x z = true
  | _, [], _, h, _ => by cases ‹List UInt8› <;> simp [Op.bytesLess] at h
  | _, _ :: _, [], _, h => by simp [Op.bytesLess] at h
  | [], b :: y, c :: z, _, _ => by simp [Op.bytesLess]
  | a :: x, b :: y, c :: z, h1, h2 => by
    have ih := bl_trans x y z
    simp only [Op.bytesLess, Bool.or_eq_true, Bool.and_eq_true, decide_eq_true_eq, beq_iff_eq] at h1 h2 ⊢
    rcases h1 with h1 | ⟨rfl, h1⟩
    · rcases h2 with h2 | ⟨rfl, h2⟩
      · exact .inl (UInt8.lt_trans h1 h2)
      · exact .inl h1
    · rcases h2 with h2 | ⟨rfl, h2⟩
      · exact .inl h2
      · exact .inr ⟨rfl, ih h1 h2⟩
theorem bl_asym {x y : List UInt8} (h : Op.bytesLess x y = true) : Op.bytesLess y x = false := by
  cases h' : Op.bytesLess y x with
  | false => rfl
  | true => have := bl_trans x y x h h'; rw [bl_irrefl] at this; cases this
theorem bl_tri (x y : List UInt8) : Op.bytesLess x y = true ∨ x = y ∨ Op.bytesLess y x = true := by
  have := bl_anti x y
  cases h : Op.bytesLess x y with
  | true => exact .inl rfl
  | false =>
    by_cases e : x = y
    · exact .inr (.inl e)
    · rw [h, beq_eq_false_iff_ne.mpr e] at this
      exact .inr (.inr this.symm)
/-! ### ends and ranges -/
abbrev End := ByteArray × Bool × Bool
abbrev R6 := ByteArray × ByteArray × Bool × Bool × Bool × Bool
def lo (e : End) (k : List UInt8) : Bool := !e.2.1 || (!(Op.bytesLess k e.1.toList) && !(decide (k = e.1.toList) && e.2.2))
def hi (e : End) (k : List UInt8) : Bool := !e.2.1 || (Op.bytesLess k e.1.toList || (decide (k = e.1.toList) && !e.2.2))
def fromE (r : R6) : End := (r.1, r.2.2.1, r.2.2.2.2.1)
def toE (r : R6) : End := (r.2.1, r.2.2.2.1, r.2.2.2.2.2)
def hasB (r : R6) (k : ByteArray) : Bool := lo (fromE r) k.toList && hi (toE r) k.toList
theorem has_eq (r : R6) (k : ByteArray) : cursor_Has.f r.1 r.2.1 r.2.2.1 r.2.2.2.1 r.2.2.2.2.1 r.2.2.2.2.2 k = some (hasB r k) := by
  obtain ⟨f, t, hf, ht, of, ot⟩ := r
  unfold cursor_Has.f hasB lo hi fromE toE
  simp only []
  have h1 : Op.bytesLess k.toList f.toList = true → ¬ k.toList = f.toList := fun h e => by rw [e, bl_irrefl] at h; cases h
  have h2 : Op.bytesLess k.toList t.toList = true → ¬ k.toList = t.toList := fun h e => by rw [e, bl_irrefl] at h; cases h
  by_cases c1 : Op.bytesLess k.toList f.toList = true <;> by_cases c2 : Op.bytesLess k.toList t.toList = true <;> by_cases c3 : k.toList = f.toList <;> by_cases c4 : k.toList = t.toList <;>
    first
    | exact absurd c3 (h1 c1)
    | exact absurd c4 (h2 c2)
    | skip
  all_goals
    first | replace c1 := eq_true c1 | replace c1 := eq_false c1
    first | replace c2 := eq_true c2 | replace c2 := eq_false c2
    first | replace c3 := eq_true c3 | replace c3 := eq_false c3
    first | replace c4 := eq_true c4 | replace c4 := eq_false c4
    clear h1 h2
    cases hf <;> cases ht <;> cases of <;> cases ot <;> simp only [c1, c2, c3, c4, if_true, if_false, Bool.false_eq_true, Bool.not_true, Bool.not_false, Bool.true_or, Bool.or_true, Bool.false_or, Bool.or_false, Bool.and_true, Bool.true_and, Bool.false_and, Bool.and_false, decide_true, decide_false] <;> simp_all
def nar (a b : End) (up : Int) : End :=
  if a.2.1 = true then
    if b.2.1 = true then
      if Op.bytesLess a.1.toList b.1.toList = true then (if up = 1 then b else a)
      else if Op.bytesLess b.1.toList a.1.toList = true then (if up = 1 then a else b)
      else (a.1, true, a.2.2 || b.2.2)
    else a
  else if b.2.1 = true then b else (⟨#[]⟩, false, false)
theorem isNaN_eq (s : ByteArray) : cmp_isNaN_string.f s = some false := by
  unfold cmp_isNaN_string.f
  simp
theorem compare_eq (a b : ByteArray) : cmp_Compare_string.f a b = some (if Op.bytesLess a.toList b.toList = true then -1 else if Op.bytesLess b.toList a.toList = true then 1 else 0) := by
  unfold cmp_Compare_string.f
  rw [isNaN_eq, isNaN_eq]
  simp only [Option.bind_some, Bool.false_eq_true, if_false]
  split
  · rfl
  · split <;> rfl
theorem nar_ev (a b : End) (up : Int) (hu : up = 1 ∨ up = -1) : Ev (fun k => cursor_end_narrower.f k a.1 a.2.1 a.2.2 b.1 b.2.1 b.2.2 up) (nar a b up) := by
  obtain ⟨ak, ah, ao⟩ := a
  obtain ⟨bk, bh, bo⟩ := b
  refine ev_at 1 fun k => ?_
  unfold cursor_end_narrower.f nar
  simp only []
  cases ah <;> cases bh <;> simp only [cursor_end_narrower.j0, Bool.not_true, Bool.not_false, Bool.false_eq_true, if_true, if_false, compare_eq, Option.bind_some]
  have w1 : wrap64 1 = 1 := by unfold wrap64; omega
  have w2 : wrap64 (-1) = -1 := by unfold wrap64; omega
  have w0 : wrap64 0 = 0 := by unfold wrap64; omega
  by_cases c1 : Op.bytesLess ak.toList bk.toList = true
  · rcases hu with rfl | rfl <;> simp [c1, w1, w2]
  · by_cases c2 : Op.bytesLess bk.toList ak.toList = true
    · rcases hu with rfl | rfl <;> simp [c1, c2, w1, w2]
    · rcases hu with rfl | rfl <;> cases ao <;> simp [c1, c2, w0]
theorem lo_nar (a b : End) (k : List UInt8) : lo (nar a b 1) k = (lo a k && lo b k) := by
  obtain ⟨ak, ah, ao⟩ := a
  obtain ⟨bk, bh, bo⟩ := b
  unfold nar lo
  simp only []
  cases ah <;> cases bh <;> simp only [Bool.false_eq_true, if_true, if_false, Bool.not_false, Bool.not_true, Bool.true_or, Bool.false_or, Bool.true_and, Bool.and_true]
  rcases bl_tri ak.toList bk.toList with h | h | h
  · have h' := bl_asym h
    rw [if_pos h]
    simp only []
    by_cases hk : Op.bytesLess k bk.toList = true
    · simp [hk]
    · have hk' : Op.bytesLess k ak.toList = false := by
        cases c : Op.bytesLess k ak.toList with
        | false => rfl
        | true => exact absurd (bl_trans _ _ _ c h) hk
      have hk2 : ¬ k = ak.toList := fun e => by rw [e] at hk; exact hk h
      simp [hk, hk', hk2]
  · rw [h, bl_irrefl]
    simp only [Bool.false_eq_true, if_false]
    rw [h]
    cases Op.bytesLess k bk.toList <;> cases (decide (k = bk.toList)) <;> cases ao <;> cases bo <;> rfl
  · have h' := bl_asym h
    rw [if_neg (by rw [h']; decide), if_pos h]
    simp only []
    by_cases hk : Op.bytesLess k ak.toList = true
    · simp [hk]
    · have hk' : Op.bytesLess k bk.toList = false := by
        cases c : Op.bytesLess k bk.toList with
        | false => rfl
        | true => exact absurd (bl_trans _ _ _ c h) hk
      have hk2 : ¬ k = bk.toList := fun e => by rw [e] at hk; exact hk h
      simp [hk, hk', hk2]
theorem hi_nar (a b : End) (k : List UInt8) : hi (nar a b (-1)) k = (hi a k && hi b k) := by
  obtain ⟨ak, ah, ao⟩ := a
  obtain ⟨bk, bh, bo⟩ := b
  unfold nar hi
  simp only []
  have hm : ¬ (-1 : Int) = 1 := by decide
  cases ah <;> cases bh <;> simp only [Bool.false_eq_true, if_true, if_false, Bool.not_false, Bool.not_true, Bool.true_or, Bool.false_or, Bool.true_and, Bool.and_true]
  rcases bl_tri ak.toList bk.toList with h | h | h
  · have h' := bl_asym h
    rw [if_pos h, if_neg hm]
    simp only []
    by_cases hk : Op.bytesLess k ak.toList = true
    · have := bl_trans _ _ _ hk h
      simp [hk, this]
    · by_cases hk2 : k = ak.toList
      · subst hk2; simp [h]
      · simp [hk, hk2]
  · rw [h, bl_irrefl]
    simp only [Bool.false_eq_true, if_false]
    rw [h]
    cases Op.bytesLess k bk.toList <;> cases (decide (k = bk.toList)) <;> cases ao <;> cases bo <;> rfl
  · have h' := bl_asym h
    rw [if_neg (by rw [h']; decide), if_pos h, if_neg hm]
    simp only []
    by_cases hk : Op.bytesLess k bk.toList = true
    · have := bl_trans _ _ _ hk h
      simp [hk, this]
    · by_cases hk2 : k = bk.toList
      · subst hk2; simp [h]
      · simp [hk, hk2]
def meet (a b : R6) : R6 := ((nar (fromE a) (fromE b) 1).1, (nar (toE a) (toE b) (-1)).1, (nar (fromE a) (fromE b) 1).2.1, (nar (toE a) (toE b) (-1)).2.1, (nar (fromE a) (fromE b) 1).2.2, (nar (toE a) (toE b) (-1)).2.2)
theorem meet_ev (a b : R6) : Ev (fun k => cursor_Meet.f k a.1 a.2.1 a.2.2.1 a.2.2.2.1 a.2.2.2.2.1 a.2.2.2.2.2 b.1 b.2.1 b.2.2.1 b.2.2.2.1 b.2.2.2.2.1 b.2.2.2.2.2) (meet a b) := by
  unfold cursor_Meet.f
  exact ev_bind (nar_ev (fromE a) (fromE b) 1 (.inl rfl)) (ev_bind (nar_ev (toE a) (toE b) (-1) (.inr rfl)) (ev_some _))
theorem has_meet (a b : R6) (k : ByteArray) : hasB (meet a b) k = (hasB a k && hasB b k) := by
  have h1 : hasB (meet a b) k = (lo (nar (fromE a) (fromE b) 1) k.toList && hi (nar (toE a) (toE b) (-1)) k.toList) := rfl
  rw [h1, lo_nar, hi_nar]
  unfold hasB
  cases lo (fromE a) k.toList <;> cases lo (fromE b) k.toList <;> cases hi (toE a) k.toList <;> cases hi (toE b) k.toList <;> rfl
end Go.Proofs.Ytddkbhglbkfelaa.P
