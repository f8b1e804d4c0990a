/- What the walks of value.Parse and of the reference's Parse compute of any text, told plainly. -/
import Derived.Test.YtljadejgdbemoaaGreatDoorPkXMPaK
import Derived.Test.YtljadejgdbemoaaGreatDoorPkXMRpK
set_option linter.unusedVariables false
set_option linter.unusedSimpArgs false
namespace Go.Proofs.YtljadejgdbemoaaGreatDoor.K
open Go.RowKit Go.Proofs.YtljadejgdbemoaaGreatDoorW.PrintWords Go.Proofs.YtljadejgdbemoaaGreatDoorW.PrintLast Go.Proofs.YtljadejgdbemoaaGreatDoorX
theorem okv (k a : Int) (t : ByteArray) (b : Bool) (h0 : -9223372036854775808 ≤ a) (h1 : a ≤ 9223372036854775807) (h2 : t.size ≤ 1048576) : OKv (⟨k, a, t, b⟩ : S23) := ⟨⟨h0, h1⟩, h2⟩
theorem wrap_lo (n : Int) : -9223372036854775808 ≤ wrap64 n := by unfold wrap64; omega
theorem wrap_hi (n : Int) : wrap64 n ≤ 9223372036854775807 := by unfold wrap64; omega
theorem wrap_succ2 {i : Nat} (h : i < 9223372036854775806) : wrap64 (((i + 1 : Nat) : Int) + 1) = ((i + 2 : Nat) : Int) := wrap_succ (j := i + 1) (by omega)
/-- A value that may be and whose literal a text is. -/
def Lit (s : ByteArray) (v : S23) : Prop := OKv v ∧ vErr v.f0 v.f1 v.f2 v.f3 = none ∧ litL v = s.data.toList
theorem mk_data (s : ByteArray) : (⟨s.data.toList.toArray⟩ : ByteArray) = s := ba_ext rfl
theorem lit_uniq {s : ByteArray} {v w : S23} (hv : Lit s v) (hw : Lit s w) : v = w := by
  have a := parse_lit hv.1 hv.2.1
  have b := parse_lit hw.1 hw.2.1
  rw [hv.2.2, mk_data] at a
  rw [hw.2.2, mk_data] at b
  obtain ⟨K, hK⟩ := a
  obtain ⟨L, hL⟩ := b
  have e := Option.some.inj ((hK (max K L) (by omega)).symm.trans (hL (max K L) (by omega)))
  obtain ⟨v0, v1, v2, v3⟩ := v
  obtain ⟨w0, w1, w2, w3⟩ := w
  simp only [flat, Prod.mk.injEq] at e
  obtain ⟨rfl, rfl, rfl, rfl, _⟩ := e
  rfl
/-! ### the program's Parse, where no value has the text for its literal -/
theorem j2_no (k : Nat) {s : ByteArray} (hno : ¬ ∃ v, Lit s v) {v : S23} (hv : OKv v) : value_Parse.j2 (k + 3) s v.f0 v.f1 v.f2 v.f3 = some (0, 0, ⟨#[]⟩, false, some 3) := by
  rw [parse_j2 k s hv, if_neg (fun h => hno ⟨v, hv, h.1, h.2⟩)]
theorem repl_short : ∀ (k : Nat) (l : List UInt8), (Lib.replaceK [39, 39] [39] k l).length ≤ l.length
  | 0, l => by rw [Lib.replaceK]; exact Nat.le_refl _
  | k + 1, l => by
    rw [Lib.replaceK]
    split
    · exact Nat.le_refl _
    · rename_i h
      have hi : ¬ Lib.index l [39, 39] = -1 := fun e => h (by rw [e]; rfl)
      have hge := Lib.index_ge l [39, 39]
      have hr := Lib.index_room l [39, 39] (by omega)
      have := repl_short k (l.drop ((Lib.index l [39, 39]).toNat + [(39 : UInt8), 39].length))
      simp only [List.length_append, List.length_take, List.length_drop, List.length_cons, List.length_nil] at this hr ⊢
      omega
theorem parse_no {s : ByteArray} (hz : s.size ≤ 1048576) (hno : ¬ ∃ v, Lit s v) : Ev (fun k => value_Parse.f k s) (0, 0, ⟨#[]⟩, false, some 3) := by
  have num0 : ∀ a : Int, -9223372036854775808 ≤ a → a ≤ 9223372036854775807 → ∀ (k0 : Int) (b : Bool), OKv (⟨k0, a, ⟨#[]⟩, b⟩ : S23) := fun a h0 h1 k0 b => okv _ _ _ _ h0 h1 (by decide)
  have j2 : ∀ {v : S23}, OKv v → Ev (fun k => value_Parse.j2 k s v.f0 v.f1 v.f2 v.f3) (0, 0, ⟨#[]⟩, false, some 3) := fun hv => ev_at 3 fun k => j2_no k hno hv
  have j1f : Ev (fun k => value_Parse.j1 k s false 0 0 ⟨#[]⟩ false) (0, 0, ⟨#[]⟩, false, some 3) := by
    refine ev_step (fun _ => value_Parse.j1.eq_2 ..) (ev_if_neg (by decide) ?_)
    by_cases hn : s.toList = [78, 85, 76, 76]
    · exact ev_if_pos hn (j2 (num0 0 (by decide) (by decide) 0 false))
    · refine ev_if_neg hn ?_
      unfold strconv_Atoi.f
      rw [if_pos (by omega)]
      cases ha : Lib.atoiAll s.data.toList with
      | ok n =>
        have hb := Lib.atoiAll_bounds ha
        exact ev_bind_some (ev_if_pos rfl (ev_bind (a := (1, n, ⟨#[]⟩, false)) ⟨0, fun _ _ => rfl⟩ (j2 (num0 n hb.1 hb.2 1 false))))
      | range => exact ev_bind_some (ev_if_neg (by simp) (ev_bind (a := (0, 0, ⟨#[]⟩, false)) ⟨0, fun _ _ => rfl⟩ (ev_some _)))
      | _ => exact ev_bind_some (ev_if_neg (by simp) (ev_bind (a := (0, 0, ⟨#[]⟩, false)) ⟨0, fun _ _ => rfl⟩ (ev_some _)))
  have j1t : 2 ≤ s.size → Ev (fun k => value_Parse.j1 k s true 0 0 ⟨#[]⟩ false) (0, 0, ⟨#[]⟩, false, some 3) := by
    intro h2
    refine ev_step (fun _ => value_Parse.j1.eq_2 ..) (ev_if_pos rfl ?_)
    have hw : wrap64 ((s.size : Int) - 1) = ((s.size - 1 : Nat) : Int) := by unfold wrap64; omega
    rw [hw]
    refine ev_if_pos (by omega) (ev_if_pos (by omega) ?_)
    rw [Int.toNat_natCast]
    have hx : (s.extract 1 (s.size - 1)).size ≤ s.size := by rw [ByteArray.size_extract]; omega
    generalize s.extract 1 (s.size - 1) = x at *
    have hcb : Lib.countB x ⟨#[39, 39]⟩ ≤ x.size := Lib.countB_le _ (by decide) _ _ (Nat.le_refl _)
    have hs1 : (⟨#[39]⟩ : ByteArray).size = 1 := rfl
    have hs2 : (⟨#[39, 39]⟩ : ByteArray).size = 2 := rfl
    unfold strings_ReplaceAll.f
    rw [if_pos ⟨by omega, by rw [hs2]; omega, by rw [hs1]; omega⟩]
    have hsh : (⟨(Lib.replaceAll x.data.toList (⟨#[39, 39]⟩ : ByteArray).data.toList (⟨#[39]⟩ : ByteArray).data.toList).toArray⟩ : ByteArray).size ≤ 1048576 := by
      rw [mk_size]
      show (Lib.replaceAll x.data.toList [39, 39] [39]).length ≤ _
      unfold Lib.replaceAll Lib.replace
      rw [if_neg (by decide)]
      have := repl_short (Lib.replaceNum x.data.toList [39, 39] (-1)) x.data.toList
      rw [size_data] at this
      omega
    refine ev_bind_some (ev_bind (a := (2, 0, _, false)) ⟨0, fun _ _ => rfl⟩ (j2 (okv 2 0 _ false (by decide) (by decide) hsh)))
  have j0f : Ev (fun k => value_Parse.j0 k s false 0 0 ⟨#[]⟩ false) (0, 0, ⟨#[]⟩, false, some 3) := by
    refine ev_step (fun _ => value_Parse.j0.eq_2 ..) (ev_if_neg (by decide) ?_)
    by_cases h2 : (s.size : Int) ≥ 2
    · refine ev_if_pos h2 (ev_if_pos (by omega) ?_)
      cases bt s 0 == 39
      · exact j1f
      · exact j1t (by omega)
    · exact ev_if_neg h2 j1f
  have j0t : Ev (fun k => value_Parse.j0 k s true 0 0 ⟨#[]⟩ false) (0, 0, ⟨#[]⟩, false, some 3) := by
    refine ev_step (fun _ => value_Parse.j0.eq_2 ..) (ev_if_pos rfl ?_)
    exact ev_bind (a := (3, 0, ⟨#[]⟩, _)) ⟨0, fun _ _ => rfl⟩ (j2 (v := ⟨3, 0, ⟨#[]⟩, _⟩) (num0 0 (by decide) (by decide) 3 _))
  refine ev_bind (a := (0, 0, ⟨#[]⟩, false)) ⟨0, fun _ _ => rfl⟩ ?_
  by_cases h : s.toList = [84, 82, 85, 69]
  · exact ev_if_pos h j0t
  · refine ev_if_neg h ?_
    cases s.toList == [70, 65, 76, 83, 69]
    · exact j0f
    · exact j0t
/-! ### the reference's Parse -/
def refR (s : ByteArray) (v : S23) : Int × Int × ByteArray × Bool × Int := if (prR v).2.getD 0 = 0 ∧ (prR v).1.toList = s.toList then flat v 0 else (0, 0, ⟨#[]⟩, false, 3)
theorem refR_ev (s : ByteArray) {v : S23} (hv : OKv v) : Ev (fun k => (barbicanref05_Print.f k v.f0 v.f1 v.f2 v.f3).bind fun b => (if b.2 = 0 then (if b.1.toList = s.toList then (some (v.f0, v.f1, v.f2, v.f3, 0)) else (some (0, 0, (⟨#[]⟩ : ByteArray), false, 3))) else (some (0, 0, (⟨#[]⟩ : ByteArray), false, 3)))) (refR s v) := by
  refine ev_bind (refprint_ev hv) ?_
  unfold refR
  by_cases h1 : (prR v).2.getD 0 = 0
  · refine ev_if_pos h1 ?_
    by_cases h2 : (prR v).1.toList = s.toList
    · have hc : (prR v).2.getD 0 = 0 ∧ (prR v).1.toList = s.toList := ⟨h1, h2⟩
      rw [if_pos hc]; exact ev_if_pos h2 (ev_some _)
    · have hc : ¬ ((prR v).2.getD 0 = 0 ∧ (prR v).1.toList = s.toList) := fun h => h2 h.2
      rw [if_neg hc]; exact ev_if_neg h2 (ev_some _)
  · have hc : ¬ ((prR v).2.getD 0 = 0 ∧ (prR v).1.toList = s.toList) := fun h => h1 h.1
    rw [if_neg hc]; exact ev_if_neg h1 (ev_some _)
theorem refR_yes {s : ByteArray} {v : S23} (h : Lit s v) : refR s v = flat v 0 := by
  unfold refR prR
  rw [h.2.1]
  rw [if_pos ⟨rfl, by rw [toList_data, toList_data, mk_list]; exact h.2.2⟩]
theorem refR_no {s : ByteArray} (hno : ¬ ∃ v, Lit s v) {v : S23} (hv : OKv v) : refR s v = (0, 0, ⟨#[]⟩, false, 3) := by
  unfold refR
  rw [if_neg]
  rintro ⟨h1, h2⟩
  unfold prR at h1 h2
  cases h : vErr v.f0 v.f1 v.f2 v.f3 with
  | some e =>
    rw [h] at h1
    have := (vErr_code v.f0 v.f1 v.f2 v.f3).1 (by rw [h]; exact h1)
    rw [h] at this; cases this
  | none =>
    rw [h] at h2
    simp only [toList_data, mk_list] at h2
    exact hno ⟨v, hv, h, h2⟩
/-- What stands between the quotes, each second quote of a pair left out. -/
def und : List UInt8 → List UInt8
  | [] => []
  | [c] => [c]
  | c :: d :: l => if c = 39 then 39 :: und l else c :: und (d :: l)
theorem und_len : ∀ (n : Nat) (l : List UInt8), l.length ≤ n → (und l).length ≤ l.length
  | _, [], _ => Nat.le_refl _
  | _, [c], _ => Nat.le_refl _
  | 0, c :: d :: l, h => by simp at h
  | n + 1, c :: d :: l, h => by
    rw [und]
    simp only [List.length_cons] at h ⊢
    split
    · have := und_len n l (by omega)
      simp only [List.length_cons]; omega
    · have := und_len n (d :: l) (by simp only [List.length_cons]; omega)
      simp only [List.length_cons] at this ⊢; omega
theorem und_dbl : ∀ t : List UInt8, und (dbl t) = t
  | [] => rfl
  | c :: t => by
    by_cases h : c = 39
    · rw [dbl, if_pos h, und, if_pos rfl, und_dbl t, h]
    · rw [dbl, if_neg h]
      have ih := und_dbl t
      cases hd : dbl t with
      | nil => rw [hd] at ih; rw [und]; rw [← ih]; rfl
      | cons d l => rw [und, if_neg h, ← hd, ih]
theorem und_39 (l : List UInt8) : und (39 :: l) = 39 :: und (l.drop 1) := by
  cases l with
  | nil => rfl
  | cons d l => rw [und, if_pos rfl]; rfl
theorem und_ne {c : UInt8} (h : c ≠ 39) (l : List UInt8) : und (c :: l) = c :: und l := by
  cases l with
  | nil => rfl
  | cons d l => rw [und, if_neg h]
theorem ref_text_go (s : ByteArray) (hz : s.size ≤ 1048576) (h2 : 2 ≤ s.size) (r : Int × Int × ByteArray × Bool × Int) (M : List UInt8) (hM : s.data.toList = M ++ [s.data.toList[s.size - 1]'(by rw [size_data]; omega)])
    (T : List UInt8) (hT : T.length ≤ 1048576) (hr : r = refR s ⟨2, 0, ⟨T.toArray⟩, false⟩) :
    ∀ (n : Nat) (l : List UInt8) (i : Nat) (x : List UInt8), l.length ≤ n → M.drop i = l → x ++ und l = T → Ev (fun k => barbicanref05_Parse.l0 k s (numsB x) (i : Int)) r := by
  have hMl : M.length = s.size - 1 := by
    have := congrArg List.length hM
    simp only [List.length_append, List.length_cons, List.length_nil] at this
    rw [size_data] at this; omega
  have hw : wrap64 ((s.size : Int) - 1) = ((s.size - 1 : Nat) : Int) := by unfold wrap64; omega
  have fin : ∀ (i : Nat) (x : List UInt8), M.length ≤ i → x = T → Ev (fun k => barbicanref05_Parse.l0 k s (numsB x) (i : Int)) r := by
    intro i x hi hx
    refine ev_step (fun _ => barbicanref05_Parse.l0.eq_2 ..) ?_
    rw [hw]
    refine ev_if_neg (by omega) ?_
    rw [str_nums, hx, hr]
    refine ev_bind (a := (2, 0, ⟨T.toArray⟩, false)) ⟨0, fun _ _ => rfl⟩ ?_
    exact refR_ev s (v := ⟨2, 0, ⟨T.toArray⟩, false⟩) (okv 2 0 _ false (by decide) (by decide) (by rw [mk_size]; exact hT))
  intro n
  induction n using Nat.strongRecOn with
  | ind n ih =>
    intro l i x hn hl hx
    cases l with
    | nil =>
      exact fin i x (List.drop_eq_nil_iff.1 hl) (by rw [und, List.append_nil] at hx; exact hx)
    | cons c l =>
      obtain ⟨h1, hi, h3⟩ := drop_cons hl
      simp only [List.length_cons] at hn
      have hxT : x.length ≤ 1048576 := by rw [← hx, List.length_append] at hT; omega
      have hc : s.data.toList[i]? = some c := by rw [hM, List.getElem?_append_left (by omega)]; exact h1
      have hbt : bt s (i : Int) = (c.toNat : Int) := by
        have hsi : i < s.data.toList.length := by rw [size_data]; omega
        have hd : s.data.toList.drop i = c :: s.data.toList.drop (i + 1) := by
          rw [List.drop_eq_getElem_cons hsi]
          rw [List.getElem?_eq_getElem hsi] at hc
          rw [Option.some.inj hc]
        exact bt_at hd
      refine ev_step (fun _ => barbicanref05_Parse.l0.eq_2 ..) ?_
      rw [hw, hbt]
      refine ev_if_pos (by omega) (ev_if_pos (by omega) (ev_if_pos (by omega) (ev_if_pos (by rw [numsB_length]; omega) ?_)))
      have e : numsB x ++ [(c.toNat : Int)] = numsB (x ++ [c]) := by rw [numsB_app]; rfl
      rw [e]
      refine ev_bind_some ?_
      have hii : i < 9223372036854775806 := by clear hbt hc hx hl h1 hr hM ih fin hw; omega
      have w1 : wrap64 ((i : Int) + 1) = ((i + 1 : Nat) : Int) := wrap_succ (by omega)
      have w2 : wrap64 (((i + 1 : Nat) : Int) + 1) = ((i + 2 : Nat) : Int) := wrap_succ2 hii
      rw [w1, w2]
      by_cases h39 : c = 39
      · subst h39
        refine ev_if_pos (by decide) ?_
        rw [und_39] at hx
        refine ih (l.drop 1).length ?_ (l.drop 1) (i + 2) (x ++ [39]) (Nat.le_refl _) ?_ (by rw [List.append_assoc]; exact hx)
        · rw [List.length_drop]; omega
        · rw [← h3, List.drop_drop]
      · refine ev_if_neg (fun hh => h39 (UInt8.toNat_inj.1 (by have : ((39 : UInt8).toNat : Int) = 39 := rfl; omega))) ?_
        rw [und_ne h39] at hx
        exact ih l.length (by omega) l (i + 1) (x ++ [c]) (Nat.le_refl _) h3 (by rw [List.append_assoc]; exact hx)
/-- The digits of a text as a number of 64 bits. -/
def accN (a : Nat) : List UInt8 → Nat
  | [] => a
  | c :: l => if 48 ≤ c.toNat ∧ c.toNat ≤ 57 then accN ((10 * a + (c.toNat - 48)) % 18446744073709551616) l else accN a l
theorem accN_lt : ∀ (l : List UInt8) (a : Nat), a < 18446744073709551616 → accN a l < 18446744073709551616
  | [], a, h => h
  | c :: l, a, h => by
    rw [accN]
    split
    · exact accN_lt l _ (Nat.mod_lt _ (by omega))
    · exact accN_lt l _ h
theorem accN_dec : ∀ (n u : Nat) (l : List UInt8), u ≤ n → u < 18446744073709551616 → accN 0 (Lib.decDigits u ++ l) = accN u l
  | n, u, l, hn, h => by
    by_cases hu : u < 10
    · rw [dec_small hu, List.cons_append, List.nil_append, accN, u8_digit u hu, if_pos (by omega)]
      congr 1; omega
    · rw [dec_big hu, List.append_assoc]
      match n, hn with
      | 0, hn => omega
      | n + 1, hn =>
        rw [accN_dec n (u / 10) _ (by omega) (by omega), List.cons_append, List.nil_append, accN, u8_digit (u % 10) (by omega), if_pos (by omega)]
        congr 1; omega
theorem accN_dec' {u : Nat} (h : u < 18446744073709551616) : accN 0 (Lib.decDigits u) = u := by
  have := accN_dec u u [] (Nat.le_refl _) h
  rwa [List.append_nil] at this
theorem ref_num_go (s : ByteArray) (hz : s.size ≤ 1048576) (ng : Bool) (r : Int × Int × ByteArray × Bool × Int) (U : Nat) (hU : U < 18446744073709551616)
    (hr : r = refR s ⟨1, wrap64 (if ng = true then IntKind.u64.wrap (-(U : Int)) else (U : Int)), ⟨#[]⟩, false⟩) :
    ∀ (l : List UInt8) (i : Nat) (a : Nat), a < 18446744073709551616 → s.data.toList.drop i = l → (if s.size ≤ 20 then accN a l else a) = U → Ev (fun k => barbicanref05_Parse.l1 k s (a : Int) ng (i : Int)) r := by
  have fin : ∀ (i : Nat) (a : Nat), a = U → Ev (fun k => barbicanref05_Parse.j5 k s (a : Int) ng (i : Int) false) r := by
    intro i a ha
    subst ha
    refine ev_step (fun _ => barbicanref05_Parse.j5.eq_2 ..) (ev_if_neg (by decide) ?_)
    have hok : ∀ n : Int, OKv (⟨1, wrap64 n, ⟨#[]⟩, false⟩ : S23) := fun n => okv _ _ _ _ (wrap_lo n) (wrap_hi n) (by decide)
    have j6 : ∀ n : Int, Ev (fun k => barbicanref05_Parse.j6 k s n) (refR s ⟨1, wrap64 n, ⟨#[]⟩, false⟩) := fun n =>
      ev_step (fun _ => barbicanref05_Parse.j6.eq_2 ..) (ev_bind (a := (1, wrap64 n, ⟨#[]⟩, false)) ⟨0, fun _ _ => rfl⟩ (refR_ev s (hok n)))
    rw [hr]
    by_cases hn : ng = true
    · rw [if_pos hn]; exact ev_if_pos hn (j6 _)
    · rw [if_neg hn]; exact ev_if_neg hn (j6 _)
  intro l
  induction l with
  | nil =>
    intro i a ha hl hu
    have := drop_nil hl
    rw [size_data] at this
    refine ev_step (fun _ => barbicanref05_Parse.l1.eq_2 ..) (ev_if_neg (by omega) (fin i a ?_))
    by_cases h : s.size ≤ 20
    · rw [if_pos h, accN] at hu; exact hu
    · rw [if_neg h] at hu; exact hu
  | cons c l ih =>
    intro i a ha hl hu
    obtain ⟨h1, hi, h3⟩ := drop_cons hl
    rw [size_data] at hi
    refine ev_step (fun _ => barbicanref05_Parse.l1.eq_2 ..) (ev_if_pos (by omega) ?_)
    by_cases h20 : s.size ≤ 20
    · rw [decide_eq_true (show (s.size : Int) ≤ 20 by omega)]
      rw [if_pos h20, accN] at hu
      refine ev_step (fun _ => barbicanref05_Parse.j5.eq_2 ..) (ev_if_pos rfl (ev_if_pos (by omega) (ev_if_pos (by omega) ?_)))
      rw [bt_at hl, wrap_succ (j := i) (by omega)]
      have hb := c.toNat_lt
      by_cases h48 : (c.toNat : Int) ≥ 48
      · refine ev_if_pos h48 ?_
        by_cases h57 : (c.toNat : Int) ≤ 57
        · refine ev_if_pos h57 ?_
          rw [if_pos (by omega)] at hu
          have e : IntKind.u64.wrap (IntKind.u64.wrap (10 * (a : Int)) + ((c.toNat : Int) - 48) % 256) = (((10 * a + (c.toNat - 48)) % 18446744073709551616 : Nat) : Int) := by
            rw [u64_wrap, u64_wrap]; omega
          rw [e]
          exact ih (i + 1) _ (Nat.mod_lt _ (by omega)) h3 (by rw [if_pos h20]; exact hu)
        · refine ev_if_neg h57 ?_
          rw [if_neg (by omega)] at hu
          exact ih (i + 1) a ha h3 (by rw [if_pos h20]; exact hu)
      · refine ev_if_neg h48 ?_
        rw [if_neg (by omega)] at hu
        exact ih (i + 1) a ha h3 (by rw [if_pos h20]; exact hu)
    · rw [decide_eq_false (show ¬ (s.size : Int) ≤ 20 by omega)]
      rw [if_neg h20] at hu
      exact fin i a hu
theorem itoa_len20 {n : Int} (h0 : -9223372036854775808 ≤ n) (h1 : n ≤ 9223372036854775807) : (Lib.itoa n).length ≤ 20 := by
  have hp : (10 : Nat) ^ 19 = 10000000000000000000 := by decide
  unfold Lib.itoa
  split
  · have := dec_len 19 n.natAbs (by omega) (by omega)
    simp only [List.length_cons]; omega
  · have := dec_len 19 n.toNat (by omega) (by omega)
    omega
/-- What the reference comes to: the value whose literal the text is, or the error. -/
theorem refparse_ev (s : ByteArray) (hz : s.size ≤ 1048576) : ∃ r, Ev (fun k => barbicanref05_Parse.f k s) r ∧ (∀ v, Lit s v → r = flat v 0) ∧ ((¬ ∃ v, Lit s v) → r = (0, 0, ⟨#[]⟩, false, 3)) := by
  have hs : s.toList = s.data.toList := toList_data s
  have dec : ∀ (w : S23), OKv w → (∀ v, Lit s v → v = w) → (∀ v, Lit s v → refR s w = flat v 0) ∧ ((¬ ∃ v, Lit s v) → refR s w = (0, 0, ⟨#[]⟩, false, 3)) := fun w hw h =>
    ⟨fun v hv => by have := h v hv; subst this; exact refR_yes hv, fun hno => refR_no hno hw⟩
  unfold barbicanref05_Parse.f
  by_cases hN : s.toList = [78, 85, 76, 76]
  · have hl : Lit s ⟨0, 0, ⟨#[]⟩, false⟩ := ⟨⟨⟨by decide, by decide⟩, by decide⟩, by decide +kernel, by rw [← hs, hN]; rfl⟩
    exact ⟨_, ev_if_pos hN (ev_some _), fun v hv => by rw [lit_uniq hv hl]; rfl, fun hno => absurd ⟨_, hl⟩ hno⟩
  by_cases hT : s.toList = [84, 82, 85, 69]
  · have hl : Lit s ⟨3, 0, ⟨#[]⟩, true⟩ := ⟨⟨⟨by decide, by decide⟩, by decide⟩, by decide +kernel, by rw [← hs, hT]; rfl⟩
    refine ⟨(3, 0, ⟨#[]⟩, true, 0), ev_if_neg hN (ev_if_pos hT (ev_step (fun _ => barbicanref05_Parse.j0.eq_2 ..) (ev_if_pos rfl ?_))), fun v hv => by rw [lit_uniq hv hl]; rfl, fun hno => absurd ⟨_, hl⟩ hno⟩
    rw [hT]
    exact ev_bind (a := (3, 0, ⟨#[]⟩, true)) ⟨0, fun _ _ => rfl⟩ (ev_some _)
  by_cases hF : s.toList = [70, 65, 76, 83, 69]
  · have hl : Lit s ⟨3, 0, ⟨#[]⟩, false⟩ := ⟨⟨⟨by decide, by decide⟩, by decide⟩, by decide +kernel, by rw [← hs, hF]; rfl⟩
    refine ⟨(3, 0, ⟨#[]⟩, false, 0), ev_if_neg hN (ev_if_neg hT ?_), fun v hv => by rw [lit_uniq hv hl]; rfl, fun hno => absurd ⟨_, hl⟩ hno⟩
    rw [show (s.toList == [70, 65, 76, 83, 69]) = true by rw [hF]; rfl]
    refine ev_step (fun _ => barbicanref05_Parse.j0.eq_2 ..) (ev_if_pos rfl ?_)
    rw [hF]
    exact ev_bind (a := (3, 0, ⟨#[]⟩, false)) ⟨0, fun _ _ => rfl⟩ (ev_some _)
  -- no value of the kinds 0 and 3 has the text for its literal
  have kinds : ∀ v, Lit s v → v.f0 = 1 ∨ v.f0 = 2 := by
    intro v hv
    obtain ⟨ok, h, hl⟩ := hv
    rcases (vErr_none h).1 with hk | hk | hk | hk
    · refine absurd ?_ hN
      rw [hs, ← hl]; unfold litL; rw [if_neg (by omega), if_neg (by omega), if_neg (by omega)]
    · exact .inl hk
    · exact .inr hk
    · by_cases hb : v.f3 = true
      · refine absurd ?_ hT
        rw [hs, ← hl]; unfold litL; rw [if_neg (by omega), if_neg (by omega), if_pos hk, if_pos hb]
      · refine absurd ?_ hF
        rw [hs, ← hl]; unfold litL; rw [if_neg (by omega), if_neg (by omega), if_pos hk, if_neg hb]
  have emp : ∀ x : ByteArray, x.toList = [] → x = ⟨#[]⟩ := fun x hx => by
    rw [toList_data] at hx
    exact ba_ext hx
  have hF2 : (s.toList == [70, 65, 76, 83, 69]) = false := by simpa using hF
  -- a number
  have asNum : (¬ ∃ l, s.data.toList = 39 :: l ∧ 2 ≤ s.size) → ∃ r, Ev (fun k => barbicanref05_Parse.j1 k s false) r ∧ (∀ v, Lit s v → r = flat v 0) ∧ ((¬ ∃ v, Lit s v) → r = (0, 0, ⟨#[]⟩, false, 3)) := by
    intro hq
    obtain ⟨ng, hng, hng2⟩ : ∃ ng : Bool, (ng = true ↔ ∃ l, s.data.toList = 45 :: l) ∧ ∀ r, Ev (fun k => barbicanref05_Parse.l1 k s 0 ng 0) r → Ev (fun k => barbicanref05_Parse.j1 k s false) r := by
      by_cases h0 : (s.size : Int) > 0
      · refine ⟨bt s 0 == 45, ?_, fun r hr => ev_step (fun _ => barbicanref05_Parse.j1.eq_2 ..) (ev_if_neg (by decide) (ev_if_pos h0 (ev_if_pos h0 (ev_step (fun _ => barbicanref05_Parse.j3.eq_2 ..) hr))))⟩
        cases hd : s.data.toList with
        | nil => have := size_data s; rw [hd] at this; simp at this; omega
        | cons c l =>
          rw [(bt_zero hd).1, beq_iff_eq]
          constructor
          · intro h
            have : c = 45 := UInt8.toNat_inj.1 (by have : ((45 : UInt8).toNat : Int) = 45 := rfl; omega)
            exact ⟨l, by rw [this]⟩
          · rintro ⟨l', h⟩
            injection h with h _
            rw [h]; rfl
      · refine ⟨false, ?_, fun r hr => ev_step (fun _ => barbicanref05_Parse.j1.eq_2 ..) (ev_if_neg (by decide) (ev_if_neg h0 (ev_step (fun _ => barbicanref05_Parse.j3.eq_2 ..) hr)))⟩
        simp only [Bool.false_eq_true, false_iff]
        rintro ⟨l, hl⟩
        have := size_data s; rw [hl] at this; simp at this; omega
    have hUlt : (if s.size ≤ 20 then accN 0 s.data.toList else 0) < 18446744073709551616 := by
      split
      · exact accN_lt _ _ (by omega)
      · omega
    have hgo := ref_num_go s hz ng _ _ hUlt rfl s.data.toList 0 0 (by omega) rfl rfl
    refine ⟨_, hng2 _ hgo, ?_⟩
    refine dec _ (okv _ _ _ _ (wrap_lo _) (wrap_hi _) (by decide)) fun v hv => ?_
    obtain ⟨ok, h, hl⟩ := hv
    rcases kinds v ⟨ok, h, hl⟩ with hk | hk
    · obtain ⟨_, _, c2, c3, _, _⟩ := vErr_none h
      have hlit : s.data.toList = Lib.itoa v.f1 := by rw [← hl]; unfold litL; rw [if_pos hk]
      have h20 := itoa_len20 ok.1.1 ok.1.2
      rw [← hlit, size_data] at h20
      have e2 := emp _ (c2 (by omega))
      have e3 := c3 (by omega)
      have h0 := ok.1.1
      have h1 := ok.1.2
      obtain ⟨v0, v1, v2, v3⟩ := v
      simp only at hk hlit e2 e3 h0 h1
      rw [if_pos h20, hlit]
      congr 1
      unfold Lib.itoa at hlit ⊢
      by_cases hneg : v1 < 0
      · rw [if_pos hneg] at hlit ⊢
        have hn1 : ng = true := hng.2 ⟨_, hlit⟩
        have ha : accN 0 (45 :: Lib.decDigits v1.natAbs) = v1.natAbs := by
          have : ¬ (48 ≤ (45 : UInt8).toNat ∧ (45 : UInt8).toNat ≤ 57) := by decide
          rw [accN, if_neg this]
          exact accN_dec' (by omega)
        rw [ha, if_pos hn1, u64_wrap]
        unfold wrap64; omega
      · rw [if_neg hneg] at hlit ⊢
        have hn1 : ¬ ng = true := fun hh => by
          obtain ⟨l, hl2⟩ := hng.1 hh
          obtain ⟨d, r, hd, he⟩ := dec_head v1.toNat v1.toNat (Nat.le_refl _)
          rw [hlit, he] at hl2
          injection hl2 with hc _
          have := u8_digit d hd
          rw [hc] at this
          have h45 : (45 : UInt8).toNat = 45 := rfl
          omega
        rw [accN_dec' (by omega), if_neg hn1]
        unfold wrap64; omega
    · refine absurd ?_ hq
      have hlit : s.data.toList = 39 :: (dbl v.f2.data.toList ++ [39]) := by rw [← hl]; unfold litL; rw [if_neg (by omega), if_pos hk]
      refine ⟨_, hlit, ?_⟩
      rw [← size_data, hlit]; simp
  have asText : ∀ l, s.data.toList = 39 :: l → 2 ≤ s.size → ∃ r, Ev (fun k => barbicanref05_Parse.j1 k s true) r ∧ (∀ v, Lit s v → r = flat v 0) ∧ ((¬ ∃ v, Lit s v) → r = (0, 0, ⟨#[]⟩, false, 3)) := by
    intro l hl h2
    have hlen := size_data s
    have hne : s.data.toList ≠ [] := by rw [hl]; simp
    have hM : s.data.toList = s.data.toList.dropLast ++ [s.data.toList[s.size - 1]'(by omega)] := by
      have := List.dropLast_concat_getLast hne
      rw [List.getLast_eq_getElem] at this
      simp only [hlen] at this
      exact this.symm
    have hdl : s.data.toList.dropLast.length = s.size - 1 := by rw [List.length_dropLast, hlen]
    have hT : (und (s.data.toList.dropLast.drop 1)).length ≤ 1048576 := by
      have := und_len _ (s.data.toList.dropLast.drop 1) (Nat.le_refl _)
      rw [List.length_drop, hdl] at this; omega
    have hgo := ref_text_go s hz h2 _ _ hM (und (s.data.toList.dropLast.drop 1)) hT rfl _ _ 1 [] (Nat.le_refl _) rfl rfl
    refine ⟨_, ev_step (fun _ => barbicanref05_Parse.j1.eq_2 ..) (ev_if_pos rfl hgo), ?_⟩
    refine dec _ (okv 2 0 _ false (by decide) (by decide) (by rw [mk_size]; exact hT)) fun v hv => ?_
    obtain ⟨ok, h, hlv⟩ := hv
    rcases kinds v ⟨ok, h, hlv⟩ with hk | hk
    · obtain ⟨c, r, hc, hcc⟩ := itoa_head v.f1
      have hlit : s.data.toList = Lib.itoa v.f1 := by rw [← hlv]; unfold litL; rw [if_pos hk]
      rw [hlit, hc] at hl
      injection hl with hl _
      rw [hl] at hcc
      have h39 : (39 : UInt8).toNat = 39 := rfl
      omega
    · obtain ⟨_, c1, _, c3, _, _⟩ := vErr_none h
      have hlit : s.data.toList = 39 :: (dbl v.f2.data.toList ++ [39]) := by rw [← hlv]; unfold litL; rw [if_neg (by omega), if_pos hk]
      have e1 := c1 (by omega)
      have e3 := c3 (by omega)
      have hund : und (s.data.toList.dropLast.drop 1) = v.f2.data.toList := by
        have : s.data.toList.dropLast.drop 1 = dbl v.f2.data.toList := by
          rw [hlit, ← List.cons_append, List.dropLast_concat]; rfl
        rw [this, und_dbl]
      rw [hund]
      obtain ⟨v0, v1, v2, v3⟩ := v
      simp only at hk e1 e3 ⊢
      rw [hk, e1, e3, mk_data]
  have wrapUp : ∀ r, Ev (fun k => barbicanref05_Parse.j0 k s false) r → Ev (fun k => if s.toList = [78, 85, 76, 76] then some (0, 0, (⟨#[]⟩ : ByteArray), false, 0) else if s.toList = [84, 82, 85, 69] then barbicanref05_Parse.j0 k s true else barbicanref05_Parse.j0 k s (s.toList == [70, 65, 76, 83, 69])) r := by
    intro r hr
    refine ev_if_neg hN (ev_if_neg hT ?_)
    rw [hF2]; exact hr
  by_cases h1 : (s.size : Int) > 1
  · cases hd : s.data.toList with
    | nil => have := size_data s; rw [hd] at this; simp at this; omega
    | cons c l =>
      have hb := (bt_zero hd).1
      by_cases hc : c = 39
      · subst hc
        obtain ⟨r, hr, hr2⟩ := asText l hd (by omega)
        refine ⟨r, wrapUp r (ev_step (fun _ => barbicanref05_Parse.j0.eq_2 ..) (ev_if_neg (by decide) (ev_if_pos h1 (ev_if_pos (by omega) ?_)))), hr2⟩
        rw [hb]; exact hr
      · obtain ⟨r, hr, hr2⟩ := asNum (by rintro ⟨l', h, _⟩; rw [hd] at h; injection h with h _; exact hc h)
        refine ⟨r, wrapUp r (ev_step (fun _ => barbicanref05_Parse.j0.eq_2 ..) (ev_if_neg (by decide) (ev_if_pos h1 (ev_if_pos (by omega) ?_)))), hr2⟩
        have : (bt s 0 == 39) = false := by
          rw [hb, beq_eq_false_iff_ne]
          intro h
          exact hc (UInt8.toNat_inj.1 (by have : ((39 : UInt8).toNat : Int) = 39 := rfl; omega))
        rw [this]; exact hr
  · obtain ⟨r, hr, hr2⟩ := asNum (by rintro ⟨l', _, h⟩; omega)
    exact ⟨r, wrapUp r (ev_step (fun _ => barbicanref05_Parse.j0.eq_2 ..) (ev_if_neg (by decide) (ev_if_neg h1 hr))), hr2⟩
/-- Both come to the same. -/
theorem parse_both (s : ByteArray) (hz : s.size ≤ 1048576) : ∃ (v : S23) (e : Option Int), Ev (fun k => value_Parse.f k s) (flat v e) ∧ Ev (fun k => barbicanref05_Parse.f k s) (flat v (e.getD 0)) := by
  obtain ⟨r, hr, h1, h2⟩ := refparse_ev s hz
  by_cases hex : ∃ v, Lit s v
  · obtain ⟨v, hv⟩ := hex
    have a := parse_lit hv.1 hv.2.1
    rw [hv.2.2, mk_data] at a
    rw [h1 v hv] at hr
    exact ⟨v, none, a, hr⟩
  · rw [h2 hex] at hr
    exact ⟨z23, some 3, parse_no hz hex, hr⟩
end Go.Proofs.YtljadejgdbemoaaGreatDoor.K
