/- What the walks of value.Print and of the reference's Print compute, told plainly. -/
import Derived.Test.YtljadejgdbemoaaGreatDoorPqXCVC
import Derived.Test.YtljadejgdbemoaaGreatDoorPqXQuo
import Derived.Lib.ReplaceLaws
set_option linter.unusedVariables false
set_option linter.unusedSimpArgs false
namespace Go.Proofs.YtljadejgdbemoaaGreatDoor.C
open Go.RowKit Go.Proofs.YtljadejgdbemoaaGreatDoorW.PrintWords Go.Proofs.YtljadejgdbemoaaGreatDoorW.PrintLast Go.Proofs.YtljadejgdbemoaaGreatDoorX
/-! ### literals -/
def litL (v : S23) : List UInt8 :=
  if v.f0 = 1 then Lib.itoa v.f1 else if v.f0 = 2 then 39 :: (dbl v.f2.data.toList ++ [39]) else if v.f0 = 3 then (if v.f3 = true then [84, 82, 85, 69] else [70, 65, 76, 83, 69]) else [78, 85, 76, 76]
def prR (v : S23) : ByteArray × Option Int := match vErr v.f0 v.f1 v.f2 v.f3 with | some e => (⟨#[]⟩, some e) | none => (⟨(litL v).toArray⟩, none)
theorem lit_len {v : S23} (hv : OKv v) (h : vErr v.f0 v.f1 v.f2 v.f3 = none) : (litL v).length ≤ 8200 := by
  have h4 := (vErr_none h).2.2.2.2.1
  unfold litL
  split
  · have := itoa_len hv.1.1 hv.1.2; omega
  · split
    · have := dbl_len v.f2.data.toList
      rw [size_data] at this
      simp only [List.length_cons, List.length_append, List.length_nil]; omega
    · split
      · split <;> decide
      · decide
theorem boolText (b : Bool) : (strconv_FormatBool.f b).bind strings_ToUpper.f = some ⟨(if b = true then [84, 82, 85, 69] else [70, 65, 76, 83, 69] : List UInt8).toArray⟩ := by cases b <;> decide +kernel
theorem print_eq (k : Nat) {v : S23} (hv : OKv v) : value_Print.f (k + 2) v.f0 v.f1 v.f2 v.f3 = some (prR v) := by
  unfold value_Print.f prR
  rw [valid_eq]
  simp only [Option.bind_some]
  cases h : vErr v.f0 v.f1 v.f2 v.f3 with
  | some e => simp only [Option.isNone_some, Bool.false_eq_true, if_false, Option.getD_some]
  | none =>
    simp only [Option.isNone_none, if_true]
    obtain ⟨hk, _, _, _, h4, _⟩ := vErr_none h
    unfold litL
    by_cases h1 : v.f0 = 1
    · rw [if_pos h1, if_pos h1]
      unfold strconv_Itoa.f
      rw [if_pos hv.1]; rfl
    rw [if_neg h1, if_neg h1]
    by_cases h2 : v.f0 = 2
    · rw [if_pos h2, if_pos h2]
      unfold strings_ReplaceAll.f
      have hc : Lib.countB v.f2 ⟨#[39]⟩ ≤ v.f2.size := Lib.countB_le _ (by decide) _ _ (Nat.le_refl _)
      have hs1 : (⟨#[39]⟩ : ByteArray).size = 1 := rfl
      have hs2 : (⟨#[39, 39]⟩ : ByteArray).size = 2 := rfl
      rw [if_pos ⟨by omega, by rw [hs1]; omega, by rw [hs2]; omega⟩]
      have e : Lib.replaceAll v.f2.data.toList (⟨#[39]⟩ : ByteArray).data.toList (⟨#[39, 39]⟩ : ByteArray).data.toList = dbl v.f2.data.toList := repl_quote _
      rw [e]
      have hl := dbl_len v.f2.data.toList
      rw [size_data] at hl
      have z1 : (⟨(dbl v.f2.data.toList).toArray⟩ : ByteArray).size = (dbl v.f2.data.toList).length := mk_size _
      simp only [Option.bind_some]
      rw [if_pos (by rw [z1]; omega)]
      have e1 : (⟨#[39]⟩ : ByteArray) ++ (⟨(dbl v.f2.data.toList).toArray⟩ : ByteArray) = ⟨(39 :: dbl v.f2.data.toList).toArray⟩ := app_mk [39] _
      rw [e1, mk_size, if_pos (by simp only [List.length_cons]; omega)]
      have e2 : (⟨(39 :: dbl v.f2.data.toList).toArray⟩ : ByteArray) ++ (⟨#[39]⟩ : ByteArray) = ⟨((39 :: dbl v.f2.data.toList) ++ [39]).toArray⟩ := app_mk _ [39]
      rw [e2]; rfl
    rw [if_neg h2, if_neg h2]
    by_cases h3 : v.f0 = 3
    · rw [if_pos h3, if_pos h3]
      have hb := boolText v.f3
      cases hf : strconv_FormatBool.f v.f3 with
      | none => rw [hf] at hb; cases hb
      | some x =>
        rw [hf] at hb
        simp only [Option.bind_some] at hb ⊢
        rw [hb]; rfl
    · rw [if_neg h3, if_neg h3]
/-! ### the reference's digits -/
theorem digits_loop (m : ByteArray) (hm : m.size ≤ 1) : ∀ (d u : Nat) (acc : List UInt8), u < 10 ^ d → u < 18446744073709551616 → 1 ≤ d → acc.length + d ≤ 100 →
    Ev (fun k => barbicanref05_Digits.l0 k (u : Int) m ⟨acc.toArray⟩) (m ++ ⟨(Lib.decDigits u ++ acc).toArray⟩)
  | 0, u, acc, _, _, h, _ => by omega
  | d + 1, u, acc, hu, h64, _, hl => by
    refine ev_step (fun _ => barbicanref05_Digits.l0.eq_2 ..) ?_
    have hmod : Int.tmod (u : Int) 10 = ((u % 10 : Nat) : Int) := by rw [Int.tmod_eq_emod_of_nonneg (by omega)]; omega
    have hdiv : Int.tdiv (u : Int) 10 = ((u / 10 : Nat) : Int) := by rw [Int.tdiv_eq_ediv_of_nonneg (by omega)]; omega
    have hw1 : IntKind.u64.wrap (((u % 10 : Nat) : Int) + 1) = ((u % 10 + 1 : Nat) : Int) := by rw [u64_wrap_id (by omega) (by omega)]; omega
    have hw2 : IntKind.u64.wrap ((u / 10 : Nat) : Int) = ((u / 10 : Nat) : Int) := u64_wrap_id (by omega) (by omega)
    have hlt : u % 10 < 10 := Nat.mod_lt _ (by omega)
    have hcut : (⟨#[48, 49, 50, 51, 52, 53, 54, 55, 56, 57]⟩ : ByteArray).extract (u % 10) (u % 10 + 1) = ⟨[UInt8.ofNat (48 + u % 10)].toArray⟩ := digit_cut ⟨u % 10, hlt⟩
    rw [hmod, hdiv, hw1, hw2]
    simp only [Int.toNat_natCast, hcut, app_mk, mk_size, List.length_cons, List.length_nil, List.cons_append, List.nil_append]
    refine ev_if_pos (by omega) (ev_if_pos (by omega) (ev_if_pos (by omega) (ev_if_pos (by omega) ?_)))
    by_cases hu10 : u < 10
    · refine ev_if_pos (by omega) (ev_if_pos (by omega) ?_)
      rw [dec_small hu10, Nat.mod_eq_of_lt hu10]
      exact ev_some _
    · refine ev_if_neg (by omega) ?_
      have hd : 1 ≤ d := by
        rcases d with _ | d
        · simp at hu; omega
        · omega
      have := digits_loop m hm d (u / 10) (UInt8.ofNat (48 + u % 10) :: acc) (by rw [Nat.pow_succ] at hu; omega) (by omega) hd (by simp only [List.length_cons]; omega)
      rw [dec_big hu10, List.append_assoc]
      exact this
theorem digits_ev {n : Int} (h0 : -9223372036854775808 ≤ n) (h1 : n ≤ 9223372036854775807) : Ev (fun k => barbicanref05_Digits.f k n) ⟨(Lib.itoa n).toArray⟩ := by
  have hp : (10 : Nat) ^ 20 = 100000000000000000000 := by decide
  unfold barbicanref05_Digits.f Lib.itoa
  by_cases hn : n < 0
  · refine ev_if_pos hn ?_
    rw [if_pos hn]
    have e : IntKind.u64.wrap (-(IntKind.u64.wrap n)) = ((n.natAbs : Nat) : Int) := by rw [u64_wrap, u64_wrap]; omega
    rw [e]
    refine ev_step (fun _ => barbicanref05_Digits.j0.eq_2 ..) ?_
    have := digits_loop ⟨#[45]⟩ (by decide) 20 n.natAbs [] (by omega) (by omega) (by omega) (by decide)
    rw [List.append_nil] at this
    have e2 : (⟨#[45]⟩ : ByteArray) ++ (⟨(Lib.decDigits n.natAbs).toArray⟩ : ByteArray) = ⟨(45 :: Lib.decDigits n.natAbs).toArray⟩ := app_mk [45] _
    rw [e2] at this
    exact this
  · refine ev_if_neg hn ?_
    rw [if_neg hn]
    have e : IntKind.u64.wrap n = ((n.toNat : Nat) : Int) := by rw [u64_wrap]; omega
    rw [e]
    refine ev_step (fun _ => barbicanref05_Digits.j0.eq_2 ..) ?_
    have := digits_loop ⟨#[]⟩ (by decide) 20 n.toNat [] (by omega) (by omega) (by omega) (by decide)
    rw [List.append_nil] at this
    have e2 : (⟨#[]⟩ : ByteArray) ++ (⟨(Lib.decDigits n.toNat).toArray⟩ : ByteArray) = ⟨(Lib.decDigits n.toNat).toArray⟩ := app_mk [] _
    rw [e2] at this
    exact this
/-! ### the reference's Print -/
theorem refprint_loop (a b : Int) (s : ByteArray) (t : Bool) (hs : s.size ≤ 4096) : ∀ (cs : List UInt8) (i : Nat) (x : List UInt8), s.data.toList.drop i = cs → x.length + 2 * cs.length ≤ 10000 →
    Ev (fun k => barbicanref05_Print.l0 k (numsB x) (i : Int) a b s t) (⟨(x ++ (dbl cs ++ [39])).toArray⟩, 0)
  | [], i, x, h, hx => by
    have := drop_nil h
    rw [size_data] at this
    refine ev_step (fun _ => barbicanref05_Print.l0.eq_2 ..) (ev_if_neg (by omega) ?_)
    rw [str_nums, mk_size]
    refine ev_if_pos (by omega) ?_
    have e2 : (⟨x.toArray⟩ : ByteArray) ++ (⟨#[39]⟩ : ByteArray) = ⟨(x ++ [39]).toArray⟩ := app_mk _ [39]
    rw [e2]
    exact ev_some _
  | c :: cs, i, x, h, hx => by
    obtain ⟨h1, h2, h3⟩ := drop_cons h
    rw [size_data] at h2
    simp only [List.length_cons] at hx
    refine ev_step (fun _ => barbicanref05_Print.l0.eq_2 ..) (ev_if_pos (by omega) (ev_if_pos (by omega) (ev_if_pos (by rw [numsB_length]; omega) ?_)))
    rw [bt_at h, wrap_succ (j := i) (by omega)]
    have e : numsB x ++ [(c.toNat : Int)] = numsB (x ++ [c]) := by rw [numsB_app]; rfl
    rw [e]
    refine ev_bind_some ?_
    by_cases hc : c = 39
    · subst hc
      refine ev_if_pos (by decide) (ev_if_pos (by rw [numsB_length, List.length_append]; simp only [List.length_cons, List.length_nil]; omega) ?_)
      have e3 : numsB (x ++ [39]) ++ [39] = numsB (x ++ [39, 39]) := by rw [numsB_app, numsB_app]; rw [List.append_assoc]; rfl
      rw [e3]
      have := refprint_loop a b s t hs cs (i + 1) (x ++ [39, 39]) h3 (by rw [List.length_append]; simp only [List.length_cons, List.length_nil]; omega)
      rw [dbl, if_pos rfl]
      rw [List.append_assoc] at this
      exact this
    · refine ev_if_neg (fun hh => hc (UInt8.toNat_inj.1 (by have : ((39 : UInt8).toNat : Int) = 39 := rfl; omega))) ?_
      have := refprint_loop a b s t hs cs (i + 1) (x ++ [c]) h3 (by rw [List.length_append]; simp only [List.length_cons, List.length_nil]; omega)
      rw [dbl, if_neg hc]
      rw [List.append_assoc] at this
      exact this
theorem refprint_ev {v : S23} (hv : OKv v) : Ev (fun k => barbicanref05_Print.f k v.f0 v.f1 v.f2 v.f3) ((prR v).1, (prR v).2.getD 0) := by
  unfold barbicanref05_Print.f prR
  refine ev_bind (ref_valid_ev _ _ _ _ (by have := hv.2; omega)) ?_
  cases h : vErr v.f0 v.f1 v.f2 v.f3 with
  | some e =>
    have : (some e : Option Int).getD 0 ≠ 0 := fun hh => by
      have := (vErr_code v.f0 v.f1 v.f2 v.f3).1 (by rw [h]; exact hh)
      rw [this] at h; cases h
    exact ev_if_neg this (ev_some _)
  | none =>
    obtain ⟨hk, _, _, _, h4, _⟩ := vErr_none h
    refine ev_if_pos rfl ?_
    unfold litL
    by_cases h1 : v.f0 = 1
    · rw [if_pos h1]
      exact ev_if_pos h1 (ev_bind (digits_ev hv.1.1 hv.1.2) (ev_some _))
    rw [if_neg h1]
    refine ev_if_neg h1 ?_
    by_cases h2 : v.f0 = 2
    · rw [if_pos h2]
      refine ev_if_pos h2 ?_
      have := refprint_loop v.f0 v.f1 v.f2 v.f3 h4 v.f2.data.toList 0 [39] rfl (by rw [size_data]; simp only [List.length_cons, List.length_nil]; omega)
      exact this
    rw [if_neg h2]
    refine ev_if_neg h2 ?_
    by_cases h3 : v.f0 = 3
    · refine ev_if_pos h3 ?_
      rw [if_pos h3]
      by_cases h5 : v.f3 = true
      · refine ev_if_pos h5 ?_
        rw [if_pos h5]; exact ev_some _
      · refine ev_if_neg h5 ?_
        rw [if_neg h5]; exact ev_some _
    · refine ev_if_neg h3 ?_
      rw [if_neg h3]
      exact ev_some _
end Go.Proofs.YtljadejgdbemoaaGreatDoor.C
