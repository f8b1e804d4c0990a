/- What the walks of row.Check, row.Encode compute, told plainly. -/
import Derived.Test.YtljadejgdbemoaaGreatDoorPqCx
import Derived.Test.YtljadejgdbemoaaGreatDoorPqXBits
set_option linter.unusedVariables false
set_option linter.unusedSimpArgs false
namespace Go.Proofs.YtljadejgdbemoaaGreatDoor.C
open Go.RowKit Go.Proofs.YtljadejgdbemoaaGreatDoorW.PrintWords Go.Proofs.YtljadejgdbemoaaGreatDoorW.PrintLast Go.Proofs.YtljadejgdbemoaaGreatDoorX

theorem ev_at {α : Type} {g : Nat → Option α} {r : α} (n : Nat) (h : ∀ k, g (k + n) = some r) : Ev g r := ⟨n, fun k hk => by have := h (k - n); rwa [Nat.sub_add_cancel hk] at this⟩
theorem drop_cons {α : Type} {xs : List α} {j : Nat} {c : α} {cs : List α} (h : xs.drop j = c :: cs) : xs[j]? = some c ∧ j < xs.length ∧ xs.drop (j + 1) = cs := by
  have hl : j < xs.length := by
    rcases Nat.lt_or_ge j xs.length with h1 | h1
    · exact h1
    · rw [List.drop_eq_nil_of_le h1] at h; cases h
  rw [List.drop_eq_getElem_cons hl] at h
  injection h with h1 h2
  exact ⟨by rw [List.getElem?_eq_getElem hl, h1], hl, h2⟩
theorem drop_nil {α : Type} {xs : List α} {j : Nat} (h : xs.drop j = []) : xs.length ≤ j := List.drop_eq_nil_iff.1 h
theorem rd36_at {xs : List S86} {j : Nat} {c : S86} (h : xs[j]? = some c) : rd_T86 xs (j : Int) = c := by
  unfold rd_T86; rw [Int.toNat_natCast, List.getD_eq_getElem?_getD, h]; rfl
theorem rd38_at {xs : List S23} {j : Nat} {c : S23} (h : xs[j]? = some c) : rd_T23 xs (j : Int) = c := by
  unfold rd_T23; rw [Int.toNat_natCast, List.getD_eq_getElem?_getD, h]; rfl
theorem rdn_at {xs : List Int} {j : Nat} {c : Int} (h : xs[j]? = some c) : rd xs (j : Int) = c := by
  unfold rd; rw [Int.toNat_natCast, List.getD_eq_getElem?_getD, h]; rfl

/-! ### value.Valid -/
def vErr (a b : Int) (s : ByteArray) (t : Bool) : Option Int :=
  if ¬ (a = 0 ∨ a = 1 ∨ a = 2 ∨ a = 3) ∨ (a ≠ 1 ∧ b ≠ 0) ∨ (a ≠ 2 ∧ s.toList ≠ []) ∨ (a ≠ 3 ∧ t = true) then some 3
  else if (s.size : Int) > 4096 then some 2 else if plainT s = false then some 3 else none
theorem valid_j1 (k : Nat) (x : Bool) (a b : Int) (s : ByteArray) (t : Bool) : value_Valid.j1 (k + 1) x a b s t = some (if x = true then some 3 else if (s.size : Int) > 4096 then some 2 else if plainT s = false then some 3 else none) := by
  have hi : (0 ≤ Lib.idxFunc nonPrint true s) ↔ plainT s = false := idx_plain s
  simp only [value_Valid.j1, strings_IndexFunc_Valid.f, Option.bind_some, ge_iff_le]
  by_cases hx : x = true
  · simp only [hx, if_true]
  · simp only [hx, if_false]
    by_cases h2 : (s.size : Int) > 4096
    · simp only [h2, if_true]; rfl
    · rw [if_neg h2, if_neg h2]
      by_cases h3 : plainT s = false
      · rw [if_pos h3, if_pos (hi.2 h3)]; rfl
      · rw [if_neg h3, if_neg (fun h => h3 (hi.1 h))]; rfl
theorem valid_eq (k : Nat) (a b : Int) (s : ByteArray) (t : Bool) : value_Valid.f (k + 2) a b s t = some (vErr a b s t) := by
  have hk : ∀ (x : Int), ∃ nm, value_Kind.f x = some nm ∧ (nm.toList = [] ↔ ¬ (x = 0 ∨ x = 1 ∨ x = 2 ∨ x = 3)) := by
    intro x
    unfold value_Kind.f
    by_cases h0 : x = 0
    · subst h0; exact ⟨_, rfl, by rw [toList_data]; decide⟩
    by_cases h1 : x = 1
    · subst h1; exact ⟨_, rfl, by rw [toList_data]; decide⟩
    by_cases h2 : x = 2
    · subst h2; exact ⟨_, rfl, by rw [toList_data]; decide⟩
    by_cases h3 : x = 3
    · subst h3; exact ⟨_, rfl, by rw [toList_data]; decide⟩
    simp only [h0, h1, h2, h3, if_false, or_self, not_false_eq_true, iff_true]
    exact ⟨_, rfl, by rw [toList_data]⟩
  obtain ⟨nm, hn, hne⟩ := hk a
  have hj : ∀ (c0 c1 : Int) (c2 : ByteArray) (c3 : Bool), value_Valid.j0 (k + 2) a b s t c0 c1 c2 c3 = some (if ¬ (a = 0 ∨ a = 1 ∨ a = 2 ∨ a = 3) ∨ c0 ≠ a ∨ c1 ≠ 0 ∨ c2.toList ≠ [] ∨ c3 = true then some 3 else if (s.size : Int) > 4096 then some 2 else if plainT s = false then some 3 else none) := by
    intro c0 c1 c2 c3
    simp only [value_Valid.j0, hn, Option.bind_some, valid_j1]
    by_cases he : nm.toList = []
    · simp only [he, if_true, hne.1 he, true_or, not_false_eq_true]
    · have hx : (a = 0 ∨ a = 1 ∨ a = 2 ∨ a = 3) := Classical.not_not.1 fun h => he (hne.2 h)
      simp only [he, if_false, hx, not_true_eq_false, false_or]
      congr 1
      have : ((!(c0 == a) || (!(c1 == 0) || (!(c2.toList == ([] : List UInt8)) || c3))) = true) ↔ (c0 ≠ a ∨ c1 ≠ 0 ∨ c2.toList ≠ [] ∨ c3 = true) := by
        simp only [Bool.or_eq_true, Bool.not_eq_true', beq_eq_false_iff_ne, ne_eq]
      simp only [this]
  unfold value_Valid.f vErr
  have hnil : (⟨#[]⟩ : ByteArray).toList = [] := by rw [toList_data]
  by_cases h1 : a = 1
  · subst h1; simp [hj, hnil]
  by_cases h2 : a = 2
  · subst h2; simp [hj, hnil]
  by_cases h3 : a = 3
  · subst h3; simp [hj, hnil]
  simp only [h1, h2, h3, if_false, hj]
  simp [h1, h2, h3]
theorem valid_ev (a b : Int) (s : ByteArray) (t : Bool) : Ev (fun k => value_Valid.f k a b s t) (vErr a b s t) := ev_at 2 fun k => valid_eq k a b s t

/-! ### row.Check -/
def fitErr (c : S86) (v : S23) : Option Int :=
  match vErr v.f0 v.f1 v.f2 v.f3 with
  | some e => some e
  | none => if v.f0 = 0 then (if c.f2 = true then some 33 else if c.f3 = true then none else some 33) else if v.f0 = c.f1 then none else some 7
theorem fits_ev (c : S86) (v : S23) : Ev (fun k => row_fits.f k c.f0 c.f1 c.f2 c.f3 v.f0 v.f1 v.f2 v.f3) (fitErr c v) := by
  refine ev_bind (valid_ev _ _ _ _) ?_
  unfold fitErr
  cases h : vErr v.f0 v.f1 v.f2 v.f3 with
  | some e => exact ev_some _
  | none =>
    simp only [Option.isNone_none, if_true]
    by_cases h0 : v.f0 = 0
    · simp only [h0, if_true]
      by_cases h2 : c.f2 = true
      · simp only [h2, if_true]; exact ev_some _
      · simp only [h2, if_false]
        by_cases h3 : c.f3 = true
        · simp only [h3, if_true]; exact ev_some _
        · simp only [h3]; exact ev_some _
    · simp only [h0, if_false]
      by_cases h1 : v.f0 = c.f1
      · simp only [h1, if_true]; exact ev_some _
      · simp only [h1, if_false]; exact ev_some _
def chkL : List S86 → List S23 → Option Int
  | c :: cs, v :: vs => match fitErr c v with | some e => some e | none => chkL cs vs
  | _, _ => none
def chk (cs : List S86) (vs : List S23) : Option Int := if vs.length = cs.length then chkL cs vs else some 1
theorem check_loop (C : List S86) (V : List S23) (hb : C.length < 9223372036854775807) : ∀ (cs : List S86) (vs : List S23) (j : Nat), C.drop j = cs → V.drop j = vs → vs.length = cs.length → Ev (fun k => row_Check.l0 k V C (C.length : Int) (j : Int)) (chkL cs vs)
  | [], vs, j, hc, hv, hl => by
    have := drop_nil hc
    refine ev_step (fun _ => row_Check.l0.eq_2 ..) ?_
    simp only [show ¬ ((j : Int) < (C.length : Int)) by omega, if_false]
    cases vs with
    | nil => exact ev_some _
    | cons _ _ => cases hl
  | c :: cs, [], j, hc, hv, hl => by cases hl
  | c :: cs, v :: vs, j, hc, hv, hl => by
    obtain ⟨c1, c2, c3⟩ := drop_cons hc
    obtain ⟨v1, v2, v3⟩ := drop_cons hv
    refine ev_step (fun _ => row_Check.l0.eq_2 ..) ?_
    simp only [show ((j : Int) < (C.length : Int)) by omega, show (0 ≤ (j : Int)) by omega, show ((j : Int) < (V.length : Int)) by omega, if_true, rd36_at c1, rd38_at v1]
    refine ev_bind (fits_ev c v) ?_
    cases h : fitErr c v with
    | some e => simp only [Option.isNone_some, Bool.false_eq_true, if_false, Option.getD_some, chkL, h]; exact ev_some _
    | none =>
      simp only [Option.isNone_none, if_true, wrap_succ (j := j) (by omega), chkL, h]
      exact check_loop C V hb cs vs (j + 1) c3 v3 (by simpa using hl)
theorem check_ev (n : ByteArray) (C : List S86) (V : List S23) (hb : C.length < 9223372036854775807) : Ev (fun k => row_Check.f k n C V) (chk C V) := by
  unfold row_Check.f chk
  by_cases h : V.length = C.length
  · simp only [h, if_true]
    exact check_loop C V hb C V 0 rfl rfl h
  · simp only [h, if_false, show ¬ ((V.length : Int) = (C.length : Int)) by omega]
    exact ev_some _

/-- What holds of a value at hand: its whole numbers are such, and its text is no longer than the bulk. -/
def OKv (v : S23) : Prop := (-9223372036854775808 ≤ v.f1 ∧ v.f1 ≤ 9223372036854775807) ∧ v.f2.size ≤ 1048576
def bulk : List S23 → Nat
  | [] => 0
  | v :: vs => 12 + v.f2.size + bulk vs
end Go.Proofs.YtljadejgdbemoaaGreatDoor.C
