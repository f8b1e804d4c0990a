/- What the walk of value.Valid computes, told plainly; the order of values. -/
import Derived.Test.YtljadejgdbemoaaDoorPoVx6
import Derived.Test.YtljadejgdbemoaaDoorPoXPlain
set_option linter.unusedVariables false
set_option linter.unusedSimpArgs false
namespace Go.Proofs.YtljadejgdbemoaaDoor.V
open Go.RowKit Go.Proofs.YtljadejgdbemoaaDoorW.PrintWords Go.Proofs.YtljadejgdbemoaaDoorW.PrintLast Go.Proofs.YtljadejgdbemoaaDoorX

theorem ev_at {α : Type} {g : Nat → Option α} {r : α} (n : Nat) (h : ∀ k, g (k + n) = some r) : Ev g r := ⟨n, fun k hk => by have := h (k - n); rwa [Nat.sub_add_cancel hk] at this⟩
/-! ### value.Valid -/
def vErr (a b : Int) (s : ByteArray) (t : Bool) : Option Int :=
  if ¬ (a = 0 ∨ a = 1 ∨ a = 2 ∨ a = 3) ∨ (a ≠ 1 ∧ b ≠ 0) ∨ (a ≠ 2 ∧ s.toList ≠ []) ∨ (a ≠ 3 ∧ t = true) then some 3
  else if (s.size : Int) > 4096 then some 2 else if plainT s = false then some 3 else none
theorem valid_j1 (k : Nat) (x : Bool) (a b : Int) (s : ByteArray) (t : Bool) : value_Valid.j1 (k + 1) x a b s t = some (if x = true then some 3 else if (s.size : Int) > 4096 then some 2 else if plainT s = false then some 3 else none) := by
  have hi : (0 ≤ Lib.idxFunc nonPrint true s) ↔ plainT s = false := idx_plain s
  simp only [value_Valid.j1, strings_IndexFunc_Valid.f, Option.bind_some, ge_iff_le]
  by_cases hx : x = true
  · simp only [hx, if_true]
  · simp only [hx, if_false]
    by_cases h2 : (s.size : Int) > 4096
    · simp only [h2, if_true]; rfl
    · rw [if_neg h2, if_neg h2]
      by_cases h3 : plainT s = false
      · rw [if_pos h3, if_pos (hi.2 h3)]; rfl
      · rw [if_neg h3, if_neg (fun h => h3 (hi.1 h))]; rfl
theorem valid_eq (k : Nat) (a b : Int) (s : ByteArray) (t : Bool) : value_Valid.f (k + 2) a b s t = some (vErr a b s t) := by
  have hk : ∀ (x : Int), ∃ nm, value_Kind.f x = some nm ∧ (nm.toList = [] ↔ ¬ (x = 0 ∨ x = 1 ∨ x = 2 ∨ x = 3)) := by
    intro x
    unfold value_Kind.f
    by_cases h0 : x = 0
    · subst h0; exact ⟨_, rfl, by rw [toList_data]; decide⟩
    by_cases h1 : x = 1
    · subst h1; exact ⟨_, rfl, by rw [toList_data]; decide⟩
    by_cases h2 : x = 2
    · subst h2; exact ⟨_, rfl, by rw [toList_data]; decide⟩
    by_cases h3 : x = 3
    · subst h3; exact ⟨_, rfl, by rw [toList_data]; decide⟩
    simp only [h0, h1, h2, h3, if_false, or_self, not_false_eq_true, iff_true]
    exact ⟨_, rfl, by rw [toList_data]⟩
  obtain ⟨nm, hn, hne⟩ := hk a
  have hj : ∀ (c0 c1 : Int) (c2 : ByteArray) (c3 : Bool), value_Valid.j0 (k + 2) a b s t c0 c1 c2 c3 = some (if ¬ (a = 0 ∨ a = 1 ∨ a = 2 ∨ a = 3) ∨ c0 ≠ a ∨ c1 ≠ 0 ∨ c2.toList ≠ [] ∨ c3 = true then some 3 else if (s.size : Int) > 4096 then some 2 else if plainT s = false then some 3 else none) := by
    intro c0 c1 c2 c3
    simp only [value_Valid.j0, hn, Option.bind_some, valid_j1]
    by_cases he : nm.toList = []
    · simp only [he, if_true, hne.1 he, true_or, not_false_eq_true]
    · have hx : (a = 0 ∨ a = 1 ∨ a = 2 ∨ a = 3) := Classical.not_not.1 fun h => he (hne.2 h)
      simp only [he, if_false, hx, not_true_eq_false, false_or]
      congr 1
      have : ((!(c0 == a) || (!(c1 == 0) || (!(c2.toList == ([] : List UInt8)) || c3))) = true) ↔ (c0 ≠ a ∨ c1 ≠ 0 ∨ c2.toList ≠ [] ∨ c3 = true) := by
        simp only [Bool.or_eq_true, Bool.not_eq_true', beq_eq_false_iff_ne, ne_eq]
      simp only [this]
  unfold value_Valid.f vErr
  have hnil : (⟨#[]⟩ : ByteArray).toList = [] := by rw [toList_data]
  by_cases h1 : a = 1
  · subst h1; simp [hj, hnil]
  by_cases h2 : a = 2
  · subst h2; simp [hj, hnil]
  by_cases h3 : a = 3
  · subst h3; simp [hj, hnil]
  simp only [h1, h2, h3, if_false, hj]
  simp [h1, h2, h3]
theorem valid_ev (a b : Int) (s : ByteArray) (t : Bool) : Ev (fun k => value_Valid.f k a b s t) (vErr a b s t) := ev_at 2 fun k => valid_eq k a b s t

theorem ba_eq {a b : ByteArray} (h : a.toList = b.toList) : a = b := by
  rw [toList_data, toList_data] at h
  cases a; cases b
  congr 1
  exact Array.ext' h
theorem vErr_none {a b : Int} {s : ByteArray} {t : Bool} (h : vErr a b s t = none) : (a = 0 ∨ a = 1 ∨ a = 2 ∨ a = 3) ∧ (a ≠ 1 → b = 0) ∧ (a ≠ 2 → s.toList = []) ∧ (a ≠ 3 → t = false) ∧ s.size ≤ 4096 ∧ plainT s = true := by
  unfold vErr at h
  split at h
  · cases h
  · rename_i h1
    split at h
    · cases h
    · rename_i h2
      split at h
      · cases h
      · rename_i h3
        refine ⟨Classical.byContradiction fun hn => h1 (Or.inl hn), fun hn => Classical.byContradiction fun hb => h1 (Or.inr (Or.inl ⟨hn, hb⟩)), fun hn => Classical.byContradiction fun hb => h1 (Or.inr (Or.inr (Or.inl ⟨hn, hb⟩))), fun hn => ?_, by omega, by simpa using h3⟩
        rw [← Bool.not_eq_true]
        exact fun hb => h1 (Or.inr (Or.inr (Or.inr ⟨hn, hb⟩)))
theorem s38_eq {v w : S38} (h0 : v.f0 = w.f0) (h1 : v.f1 = w.f1) (h2 : v.f2.toList = w.f2.toList) (h3 : v.f3 = w.f3) : v = w := by
  cases v; cases w
  simp only at h0 h1 h2 h3
  rw [h0, h1, ba_eq h2, h3]
/-! ### the order of bytes -/
def lessN : List Int → List Int → Bool
  | _, [] => false
  | [], _ :: _ => true
  | a :: x, b :: y => decide (a < b) || (a == b && lessN x y)
theorem lessN_asym : ∀ x y : List Int, lessN x y = true → lessN y x = false
  | [], [], h => by cases h
  | [], _ :: _, _ => rfl
  | _ :: _, [], h => by cases h
  | a :: x, b :: y, h => by
    simp only [lessN, Bool.or_eq_true, decide_eq_true_eq, Bool.and_eq_true, beq_iff_eq] at h
    simp only [lessN, Bool.or_eq_false_iff, decide_eq_false_iff_not, Bool.and_eq_false_iff, beq_eq_false_iff_ne]
    rcases h with h | ⟨rfl, h⟩
    · exact ⟨by omega, Or.inl (by omega)⟩
    · exact ⟨by omega, Or.inr (lessN_asym x y h)⟩
theorem lessN_total : ∀ (xs ys : List Int), lessN xs ys = false → lessN ys xs = false → xs = ys
  | [], [], _, _ => rfl
  | [], _ :: _, h, _ => by cases h
  | _ :: _, [], _, h => by cases h
  | a :: x, b :: y, h1, h2 => by
    simp only [lessN, Bool.or_eq_false_iff, decide_eq_false_iff_not, Bool.and_eq_false_iff, beq_eq_false_iff_ne] at h1 h2
    have e : a = b := by omega
    rw [e, lessN_total x y (h1.2.resolve_left (fun h => h e)) (h2.2.resolve_left (fun h => h e.symm))]

theorem lessN_split : ∀ (x y z : List Int), lessN x z = true → lessN x y = true ∨ lessN y z = true
  | _, _, [], h => by simp [lessN] at h
  | [], [], _ :: _, h => Or.inr rfl
  | [], _ :: _, _ :: _, h => Or.inl rfl
  | _ :: _, [], _ :: _, h => Or.inr rfl
  | a :: x, b :: y, c :: z, h => by
    simp only [lessN, Bool.or_eq_true, decide_eq_true_eq, Bool.and_eq_true, beq_iff_eq] at h ⊢
    rcases h with h | ⟨rfl, h⟩
    · by_cases h1 : a < b
      · exact Or.inl (Or.inl h1)
      · exact Or.inr (Or.inl (by omega))
    · by_cases h1 : a < b
      · exact Or.inl (Or.inl h1)
      · by_cases h2 : b < a
        · exact Or.inr (Or.inl h2)
        · have : a = b := by omega
          subst this
          exact (lessN_split x y z h).imp (fun h => Or.inr ⟨rfl, h⟩) (fun h => Or.inr ⟨rfl, h⟩)
/-- Is a number's byte less? As the model compares strings. -/
theorem less_toList : ∀ (x y : List UInt8), Op.bytesLess x y = lessN (x.map fun b => (b.toNat : Int)) (y.map fun b => (b.toNat : Int))
  | [], [] => rfl
  | [], _ :: _ => rfl
  | _ :: _, [] => rfl
  | a :: x, b :: y => by
    simp only [List.map_cons, Op.bytesLess, lessN, less_toList x y]
    have e1 : decide (a < b) = decide ((a.toNat : Int) < (b.toNat : Int)) := by
      rw [decide_eq_decide, UInt8.lt_iff_toNat_lt]; omega
    have e2 : (a == b) = ((a.toNat : Int) == (b.toNat : Int)) := by
      rw [Bool.eq_iff_iff, beq_iff_eq, beq_iff_eq, ← UInt8.toNat_inj]; omega
    rw [e1, e2]
theorem less_text (a b : ByteArray) : Op.bytesLess a.toList b.toList = lessN (bytesOf a) (bytesOf b) := by
  rw [toList_data, toList_data, less_toList]; rfl

/-! ### the order of values -/
def ltV (v w : S38) : Prop := v.f0 < w.f0 ∨ v.f0 = w.f0 ∧ (v.f0 = 1 ∧ v.f1 < w.f1 ∨ v.f0 = 2 ∧ lessN (bytesOf v.f2) (bytesOf w.f2) = true ∨ v.f0 = 3 ∧ v.f3 = false ∧ w.f3 = true)
theorem ltV_asym {v w : S38} (h : ltV v w) : ¬ ltV w v := by
  unfold ltV at *
  rintro h2
  rcases h with h | ⟨e, ⟨k, h⟩ | ⟨k, h⟩ | ⟨k, h, h'⟩⟩ <;> rcases h2 with g | ⟨e2, ⟨k2, g⟩ | ⟨k2, g⟩ | ⟨k2, g, g'⟩⟩ <;> first | omega | skip
  · rw [lessN_asym _ _ h] at g; cases g
  · rw [h] at g'; cases g'
theorem ltV_split {v w : S38} (u : S38) (h : ltV v w) : ltV v u ∨ ltV u w := by
  unfold ltV at *
  by_cases h1 : v.f0 < u.f0
  · exact Or.inl (Or.inl h1)
  · by_cases h2 : u.f0 < w.f0
    · exact Or.inr (Or.inl h2)
    · have e1 : v.f0 = u.f0 := by rcases h with h | ⟨h, _⟩ <;> omega
      have e2 : u.f0 = w.f0 := by rcases h with h | ⟨h, _⟩ <;> omega
      rcases h with h | ⟨_, ⟨k, h⟩ | ⟨k, h⟩ | ⟨k, h, h'⟩⟩
      · omega
      · by_cases h3 : v.f1 < u.f1
        · exact Or.inl (Or.inr ⟨e1, Or.inl ⟨k, h3⟩⟩)
        · exact Or.inr (Or.inr ⟨e2, Or.inl ⟨by omega, by omega⟩⟩)
      · rcases lessN_split _ (bytesOf u.f2) _ h with h | h
        · exact Or.inl (Or.inr ⟨e1, Or.inr (Or.inl ⟨k, h⟩)⟩)
        · exact Or.inr (Or.inr ⟨e2, Or.inr (Or.inl ⟨by omega, h⟩)⟩)
      · cases hu : u.f3 with
        | true => exact Or.inl (Or.inr ⟨e1, Or.inr (Or.inr ⟨k, h, rfl⟩)⟩)
        | false => exact Or.inr (Or.inr ⟨e2, Or.inr (Or.inr ⟨by omega, rfl, h'⟩)⟩)
/-- value.Compare's answer: what it says of the order. -/
theorem compare_is (v w : S38) : ∃ c, value_Compare.f v.f0 v.f1 v.f2 v.f3 w.f0 w.f1 w.f2 w.f3 = some c ∧ (c = -1 ∧ ltV v w ∨ c = 1 ∧ ltV w v ∨ c = 0 ∧ ¬ ltV v w ∧ ¬ ltV w v) := by
  have hI : ∀ a b : Int, cmp_Compare_int.f a b = some (if a < b then -1 else if a > b then 1 else 0) := by
    intro a b
    unfold cmp_Compare_int.f cmp_isNaN_int.f
    simp only [bne_self_eq_false, Option.bind_some, Bool.false_eq_true, if_false]
    split
    · rfl
    · split <;> rfl
  have hS : ∀ a b : ByteArray, cmp_Compare_string.f a b = some (if lessN (bytesOf a) (bytesOf b) = true then -1 else if lessN (bytesOf b) (bytesOf a) = true then 1 else 0) := by
    intro a b
    unfold cmp_Compare_string.f cmp_isNaN_string.f
    simp only [bne_self_eq_false, Option.bind_some, Bool.false_eq_true, if_false, less_text]
    split
    · rfl
    · split <;> rfl
  unfold value_Compare.f
  rw [hI]
  by_cases h1 : v.f0 < w.f0
  · exact ⟨-1, by simp [h1], Or.inl ⟨rfl, Or.inl h1⟩⟩
  by_cases h2 : v.f0 > w.f0
  · exact ⟨1, by simp [h1, h2], Or.inr (Or.inl ⟨rfl, Or.inl h2⟩)⟩
  have e : v.f0 = w.f0 := by omega
  have no : ∀ x y : S38, x.f0 = y.f0 → ¬ (x.f0 = 1 ∧ x.f1 < y.f1 ∨ x.f0 = 2 ∧ lessN (bytesOf x.f2) (bytesOf y.f2) = true ∨ x.f0 = 3 ∧ x.f3 = false ∧ y.f3 = true) → ¬ ltV x y := by
    rintro x y hxy hn (h | ⟨_, h⟩)
    · omega
    · exact hn h
  simp only [h1, h2, if_false, Option.bind_some, if_true]
  by_cases k1 : v.f0 = 1
  · simp only [k1, if_true, hI, Option.bind_some]
    refine ⟨_, rfl, ?_⟩
    by_cases g1 : v.f1 < w.f1
    · exact Or.inl ⟨by simp [g1], Or.inr ⟨e, Or.inl ⟨k1, g1⟩⟩⟩
    · by_cases g2 : v.f1 > w.f1
      · exact Or.inr (Or.inl ⟨by simp [g1, g2], Or.inr ⟨e.symm, Or.inl ⟨by omega, g2⟩⟩⟩)
      · exact Or.inr (Or.inr ⟨by simp [g1, g2], no v w e (by rintro (⟨_, h⟩ | ⟨h, _⟩ | ⟨h, _⟩) <;> omega), no w v e.symm (by rintro (⟨_, h⟩ | ⟨h, _⟩ | ⟨h, _⟩) <;> omega)⟩)
  · simp only [k1, if_false]
    by_cases k2 : v.f0 = 2
    · simp only [k2, if_true, hS, Option.bind_some]
      refine ⟨_, rfl, ?_⟩
      by_cases g1 : lessN (bytesOf v.f2) (bytesOf w.f2) = true
      · exact Or.inl ⟨by simp [g1], Or.inr ⟨e, Or.inr (Or.inl ⟨k2, g1⟩)⟩⟩
      · by_cases g2 : lessN (bytesOf w.f2) (bytesOf v.f2) = true
        · exact Or.inr (Or.inl ⟨by simp [g1, g2], Or.inr ⟨e.symm, Or.inr (Or.inl ⟨by omega, g2⟩)⟩⟩)
        · refine Or.inr (Or.inr ⟨by simp [g1, g2], no v w e ?_, no w v e.symm ?_⟩)
          · rintro (⟨h, _⟩ | ⟨_, h⟩ | ⟨h, _⟩) <;> first | omega | exact g1 h
          · rintro (⟨h, _⟩ | ⟨_, h⟩ | ⟨h, _⟩) <;> first | omega | exact g2 h
    · simp only [k2, if_false]
      by_cases k3 : v.f0 = 3
      · simp only [k3, if_true]
        cases b1 : v.f3 <;> cases b2 : w.f3
        · refine ⟨0, by simp, Or.inr (Or.inr ⟨rfl, no v w e ?_, no w v e.symm ?_⟩)⟩ <;> rintro (⟨h, _⟩ | ⟨h, _⟩ | ⟨_, h, h'⟩) <;> first | omega | (simp [b1, b2] at h h')
        · exact ⟨-1, by simp, Or.inl ⟨rfl, Or.inr ⟨e, Or.inr (Or.inr ⟨k3, b1, b2⟩)⟩⟩⟩
        · exact ⟨1, by simp, Or.inr (Or.inl ⟨rfl, Or.inr ⟨e.symm, Or.inr (Or.inr ⟨by omega, b2, b1⟩)⟩⟩)⟩
        · refine ⟨0, by simp, Or.inr (Or.inr ⟨rfl, no v w e ?_, no w v e.symm ?_⟩)⟩ <;> rintro (⟨h, _⟩ | ⟨h, _⟩ | ⟨_, h, h'⟩) <;> first | omega | (simp [b1, b2] at h h')
      · simp only [k3, if_false]
        refine ⟨0, rfl, Or.inr (Or.inr ⟨rfl, no v w e ?_, no w v e.symm ?_⟩)⟩ <;> rintro (⟨h, _⟩ | ⟨h, _⟩ | ⟨h, _⟩) <;> omega
/-- Values that may be, neither less than the other, are the same. -/
theorem same_of {v w : S38} (hv : vErr v.f0 v.f1 v.f2 v.f3 = none) (hw : vErr w.f0 w.f1 w.f2 w.f3 = none) (h1 : ¬ ltV v w) (h2 : ¬ ltV w v) : v = w := by
  obtain ⟨av, bv, cv, dv, _, _⟩ := vErr_none hv
  obtain ⟨aw, bw, cw, dw, _, _⟩ := vErr_none hw
  have e : v.f0 = w.f0 := by
    have a : ¬ v.f0 < w.f0 := fun h => h1 (Or.inl h)
    have b : ¬ w.f0 < v.f0 := fun h => h2 (Or.inl h)
    omega
  refine s38_eq e ?_ ?_ ?_
  · by_cases k : v.f0 = 1
    · have a : ¬ v.f1 < w.f1 := fun h => h1 (Or.inr ⟨e, Or.inl ⟨k, h⟩⟩)
      have b : ¬ w.f1 < v.f1 := fun h => h2 (Or.inr ⟨e.symm, Or.inl ⟨by omega, h⟩⟩)
      omega
    · rw [bv k, bw (by omega)]
  · by_cases k : v.f0 = 2
    · have a : lessN (bytesOf v.f2) (bytesOf w.f2) = false := by
        rw [← Bool.not_eq_true]; exact fun h => h1 (Or.inr ⟨e, Or.inr (Or.inl ⟨k, h⟩)⟩)
      have b : lessN (bytesOf w.f2) (bytesOf v.f2) = false := by
        rw [← Bool.not_eq_true]; exact fun h => h2 (Or.inr ⟨e.symm, Or.inr (Or.inl ⟨by omega, h⟩)⟩)
      rw [toList_data, toList_data]
      exact bytesOf_inj (lessN_total _ _ a b)
    · rw [cv k, cw (by omega)]
  · by_cases k : v.f0 = 3
    · cases b1 : v.f3 <;> cases b2 : w.f3
      · rfl
      · exact absurd (Or.inr ⟨e, Or.inr (Or.inr ⟨k, b1, b2⟩)⟩) h1
      · exact absurd (Or.inr ⟨e.symm, Or.inr (Or.inr ⟨by omega, b2, b1⟩)⟩) h2
      · rfl
    · rw [dv k, dw (by omega)]
theorem sure_ev : Ev (fun k => barbicanlaw05_sure.f k) true := by
  refine Ev.of (fun k => barbicanlaw05_sure.mono k) (k := 12) ?_
  kernel_rfl
end Go.Proofs.YtljadejgdbemoaaDoor.V
