/- What the walks of value.Valid, value.Print compute, told plainly. -/
import Derived.Test.YtljadejgdbemoaaGreatDoorPkXMSmK
import Derived.Test.YtljadejgdbemoaaGreatDoorPkXQuo
import Derived.Lib.ReplaceLaws
set_option linter.unusedVariables false
set_option linter.unusedSimpArgs false
namespace Go.Proofs.YtljadejgdbemoaaGreatDoor.K
open Go.RowKit Go.Proofs.YtljadejgdbemoaaGreatDoorW.PrintWords Go.Proofs.YtljadejgdbemoaaGreatDoorW.PrintLast Go.Proofs.YtljadejgdbemoaaGreatDoorX
/-! ### value.Valid -/
def vErr (a b : Int) (s : ByteArray) (t : Bool) : Option Int :=
  if ¬ (a = 0 ∨ a = 1 ∨ a = 2 ∨ a = 3) ∨ (a ≠ 1 ∧ b ≠ 0) ∨ (a ≠ 2 ∧ s.toList ≠ []) ∨ (a ≠ 3 ∧ t = true) then some 3
  else if (s.size : Int) > 4096 then some 2 else if plainT s = false then some 3 else none
theorem valid_j1 (k : Nat) (x : Bool) (a b : Int) (s : ByteArray) (t : Bool) : value_Valid.j1 (k + 1) x a b s t = some (if x = true then some 3 else if (s.size : Int) > 4096 then some 2 else if plainT s = false then some 3 else none) := by
  have hi : (0 ≤ Lib.idxFunc nonPrint true s) ↔ plainT s = false := idx_plain s
  simp only [value_Valid.j1, strings_IndexFunc_Valid.f, Option.bind_some, ge_iff_le]
  by_cases hx : x = true
  · simp only [hx, if_true]
  · simp only [hx, if_false]
    by_cases h2 : (s.size : Int) > 4096
    · simp only [h2, if_true]; rfl
    · rw [if_neg h2, if_neg h2]
      by_cases h3 : plainT s = false
      · rw [if_pos h3, if_pos (hi.2 h3)]; rfl
      · rw [if_neg h3, if_neg (fun h => h3 (hi.1 h))]; rfl
theorem valid_eq (k : Nat) (a b : Int) (s : ByteArray) (t : Bool) : value_Valid.f (k + 2) a b s t = some (vErr a b s t) := by
  have hk : ∀ (x : Int), ∃ nm, value_Kind.f x = some nm ∧ (nm.toList = [] ↔ ¬ (x = 0 ∨ x = 1 ∨ x = 2 ∨ x = 3)) := by
    intro x
    unfold value_Kind.f
    by_cases h0 : x = 0
    · subst h0; exact ⟨_, rfl, by rw [toList_data]; decide⟩
    by_cases h1 : x = 1
    · subst h1; exact ⟨_, rfl, by rw [toList_data]; decide⟩
    by_cases h2 : x = 2
    · subst h2; exact ⟨_, rfl, by rw [toList_data]; decide⟩
    by_cases h3 : x = 3
    · subst h3; exact ⟨_, rfl, by rw [toList_data]; decide⟩
    simp only [h0, h1, h2, h3, if_false, or_self, not_false_eq_true, iff_true]
    exact ⟨_, rfl, by rw [toList_data]⟩
  obtain ⟨nm, hn, hne⟩ := hk a
  have hj : ∀ (c0 c1 : Int) (c2 : ByteArray) (c3 : Bool), value_Valid.j0 (k + 2) a b s t c0 c1 c2 c3 = some (if ¬ (a = 0 ∨ a = 1 ∨ a = 2 ∨ a = 3) ∨ c0 ≠ a ∨ c1 ≠ 0 ∨ c2.toList ≠ [] ∨ c3 = true then some 3 else if (s.size : Int) > 4096 then some 2 else if plainT s = false then some 3 else none) := by
    intro c0 c1 c2 c3
    simp only [value_Valid.j0, hn, Option.bind_some, valid_j1]
    by_cases he : nm.toList = []
    · simp only [he, if_true, hne.1 he, true_or, not_false_eq_true]
    · have hx : (a = 0 ∨ a = 1 ∨ a = 2 ∨ a = 3) := Classical.not_not.1 fun h => he (hne.2 h)
      simp only [he, if_false, hx, not_true_eq_false, false_or]
      congr 1
      have : ((!(c0 == a) || (!(c1 == 0) || (!(c2.toList == ([] : List UInt8)) || c3))) = true) ↔ (c0 ≠ a ∨ c1 ≠ 0 ∨ c2.toList ≠ [] ∨ c3 = true) := by
        simp only [Bool.or_eq_true, Bool.not_eq_true', beq_eq_false_iff_ne, ne_eq]
      simp only [this]
  unfold value_Valid.f vErr
  have hnil : (⟨#[]⟩ : ByteArray).toList = [] := by rw [toList_data]
  by_cases h1 : a = 1
  · subst h1; simp [hj, hnil]
  by_cases h2 : a = 2
  · subst h2; simp [hj, hnil]
  by_cases h3 : a = 3
  · subst h3; simp [hj, hnil]
  simp only [h1, h2, h3, if_false, hj]
  simp [h1, h2, h3]
theorem valid_ev (a b : Int) (s : ByteArray) (t : Bool) : Ev (fun k => value_Valid.f k a b s t) (vErr a b s t) := ev_at 2 fun k => valid_eq k a b s t

theorem vErr_none {a b : Int} {s : ByteArray} {t : Bool} (h : vErr a b s t = none) : (a = 0 ∨ a = 1 ∨ a = 2 ∨ a = 3) ∧ (a ≠ 1 → b = 0) ∧ (a ≠ 2 → s.toList = []) ∧ (a ≠ 3 → t = false) ∧ s.size ≤ 4096 ∧ plainT s = true := by
  unfold vErr at h
  split at h
  · cases h
  · rename_i h1
    split at h
    · cases h
    · rename_i h2
      split at h
      · cases h
      · rename_i h3
        refine ⟨Classical.byContradiction fun hn => h1 (Or.inl hn), fun hn => Classical.byContradiction fun hb => h1 (Or.inr (Or.inl ⟨hn, hb⟩)), fun hn => Classical.byContradiction fun hb => h1 (Or.inr (Or.inr (Or.inl ⟨hn, hb⟩))), fun hn => ?_, by omega, by simpa using h3⟩
        rw [← Bool.not_eq_true]
        exact fun hb => h1 (Or.inr (Or.inr (Or.inr ⟨hn, hb⟩)))
/-- What holds of a value at hand: its whole numbers are such, and its text is no longer than the bulk. -/
def OKv (v : S23) : Prop := (-9223372036854775808 ≤ v.f1 ∧ v.f1 ≤ 9223372036854775807) ∧ v.f2.size ≤ 1048576
def litL (v : S23) : List UInt8 :=
  if v.f0 = 1 then Lib.itoa v.f1 else if v.f0 = 2 then 39 :: (dbl v.f2.data.toList ++ [39]) else if v.f0 = 3 then (if v.f3 = true then [84, 82, 85, 69] else [70, 65, 76, 83, 69]) else [78, 85, 76, 76]
def prR (v : S23) : ByteArray × Option Int := match vErr v.f0 v.f1 v.f2 v.f3 with | some e => (⟨#[]⟩, some e) | none => (⟨(litL v).toArray⟩, none)
theorem lit_len {v : S23} (hv : OKv v) (h : vErr v.f0 v.f1 v.f2 v.f3 = none) : (litL v).length ≤ 8200 := by
  have h4 := (vErr_none h).2.2.2.2.1
  unfold litL
  split
  · have := itoa_len hv.1.1 hv.1.2; omega
  · split
    · have := dbl_len v.f2.data.toList
      rw [size_data] at this
      simp only [List.length_cons, List.length_append, List.length_nil]; omega
    · split
      · split <;> decide
      · decide
theorem boolText (b : Bool) : (strconv_FormatBool.f b).bind strings_ToUpper.f = some ⟨(if b = true then [84, 82, 85, 69] else [70, 65, 76, 83, 69] : List UInt8).toArray⟩ := by cases b <;> decide +kernel
theorem print_eq (k : Nat) {v : S23} (hv : OKv v) : value_Print.f (k + 2) v.f0 v.f1 v.f2 v.f3 = some (prR v) := by
  unfold value_Print.f prR
  rw [valid_eq]
  simp only [Option.bind_some]
  cases h : vErr v.f0 v.f1 v.f2 v.f3 with
  | some e => simp only [Option.isNone_some, Bool.false_eq_true, if_false, Option.getD_some]
  | none =>
    simp only [Option.isNone_none, if_true]
    obtain ⟨hk, _, _, _, h4, _⟩ := vErr_none h
    unfold litL
    by_cases h1 : v.f0 = 1
    · rw [if_pos h1, if_pos h1]
      unfold strconv_Itoa.f
      rw [if_pos hv.1]; rfl
    rw [if_neg h1, if_neg h1]
    by_cases h2 : v.f0 = 2
    · rw [if_pos h2, if_pos h2]
      unfold strings_ReplaceAll.f
      have hc : Lib.countB v.f2 ⟨#[39]⟩ ≤ v.f2.size := Lib.countB_le _ (by decide) _ _ (Nat.le_refl _)
      have hs1 : (⟨#[39]⟩ : ByteArray).size = 1 := rfl
      have hs2 : (⟨#[39, 39]⟩ : ByteArray).size = 2 := rfl
      rw [if_pos ⟨by omega, by rw [hs1]; omega, by rw [hs2]; omega⟩]
      have e : Lib.replaceAll v.f2.data.toList (⟨#[39]⟩ : ByteArray).data.toList (⟨#[39, 39]⟩ : ByteArray).data.toList = dbl v.f2.data.toList := repl_quote _
      rw [e]
      have hl := dbl_len v.f2.data.toList
      rw [size_data] at hl
      have z1 : (⟨(dbl v.f2.data.toList).toArray⟩ : ByteArray).size = (dbl v.f2.data.toList).length := mk_size _
      simp only [Option.bind_some]
      rw [if_pos (by rw [z1]; omega)]
      have e1 : (⟨#[39]⟩ : ByteArray) ++ (⟨(dbl v.f2.data.toList).toArray⟩ : ByteArray) = ⟨(39 :: dbl v.f2.data.toList).toArray⟩ := app_mk [39] _
      rw [e1, mk_size, if_pos (by simp only [List.length_cons]; omega)]
      have e2 : (⟨(39 :: dbl v.f2.data.toList).toArray⟩ : ByteArray) ++ (⟨#[39]⟩ : ByteArray) = ⟨((39 :: dbl v.f2.data.toList) ++ [39]).toArray⟩ := app_mk _ [39]
      rw [e2]; rfl
    rw [if_neg h2, if_neg h2]
    by_cases h3 : v.f0 = 3
    · rw [if_pos h3, if_pos h3]
      have hb := boolText v.f3
      cases hf : strconv_FormatBool.f v.f3 with
      | none => rw [hf] at hb; cases hb
      | some x =>
        rw [hf] at hb
        simp only [Option.bind_some] at hb ⊢
        rw [hb]; rfl
    · rw [if_neg h3, if_neg h3]
end Go.Proofs.YtljadejgdbemoaaGreatDoor.K
