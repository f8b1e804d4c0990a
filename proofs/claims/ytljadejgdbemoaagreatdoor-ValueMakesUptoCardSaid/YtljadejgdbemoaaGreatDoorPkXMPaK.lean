/- What the walk of value.Parse computes, told plainly: a literal is read as its value. -/
import Derived.Test.YtljadejgdbemoaaGreatDoorPkXMVdK
set_option linter.unusedVariables false
set_option linter.unusedSimpArgs false
namespace Go.Proofs.YtljadejgdbemoaaGreatDoor.K
open Go.RowKit Go.Proofs.YtljadejgdbemoaaGreatDoorW.PrintWords Go.Proofs.YtljadejgdbemoaaGreatDoorW.PrintLast Go.Proofs.YtljadejgdbemoaaGreatDoorX
/-- The last part: the value, if its literal is the text. -/
theorem parse_j2 (k : Nat) (s : ByteArray) {v : S23} (hv : OKv v) :
    value_Parse.j2 (k + 3) s v.f0 v.f1 v.f2 v.f3 = some (if vErr v.f0 v.f1 v.f2 v.f3 = none ∧ litL v = s.data.toList then flat v none else (0, 0, ⟨#[]⟩, false, some 3)) := by
  rw [value_Parse.j2, print_eq k hv]
  unfold prR
  simp only [Option.bind_some]
  cases h : vErr v.f0 v.f1 v.f2 v.f3 with
  | some e =>
    have hno : ¬ (some e = (none : Option Int) ∧ litL v = s.data.toList) := fun h => nomatch h.1
    rw [if_neg hno]
    simp only [Option.isNone_some, Bool.false_eq_true, if_false]
    rfl
  | none =>
    simp only [Option.isNone_none, if_true, toList_data, mk_list, true_and]
    by_cases e : litL v = s.data.toList
    · rw [if_pos e, if_pos e]; rfl
    · rw [if_neg e, if_neg e]; rfl
theorem bt_zero {s : ByteArray} {c : UInt8} {r : List UInt8} (h : s.data.toList = c :: r) : bt s 0 = (c.toNat : Int) ∧ 0 < s.size := by
  have hl : s.size = r.length + 1 := by rw [← size_data, h]; rfl
  refine ⟨?_, by omega⟩
  have e : s[0]'(by omega) = c := by
    show s.data[0]'_ = c
    rw [← Array.getElem_toList]; simp [h]
  unfold bt
  rw [show (0 : Int).toNat = 0 from rfl]
  rw [dif_pos (by omega : 0 < s.size), e]
/-- What is neither a text's literal nor NULL is read as a number. -/
theorem parse_j1_no (s : ByteArray) (hz : s.size ≤ 281474976710656) (hn : s.data.toList ≠ [78, 85, 76, 76]) (k : Nat) (a b : Int) (t : ByteArray) (f : Bool) (n : Int) (ha : Lib.atoiAll s.data.toList = .ok n) :
    value_Parse.j1 (k + 1) s false a b t f = value_Parse.j2 k s 1 n ⟨#[]⟩ false := by
  rw [value_Parse.j1]
  simp only [Bool.false_eq_true, if_false, toList_data]
  rw [if_neg hn]
  unfold strconv_Atoi.f
  rw [if_pos hz, ha]
  rfl
theorem parse_lit {v : S23} (hv : OKv v) (h : vErr v.f0 v.f1 v.f2 v.f3 = none) : Ev (fun k => value_Parse.f k ⟨(litL v).toArray⟩) (flat v none) := by
  obtain ⟨hk, c1, c2, c3, h4, h5⟩ := vErr_none h
  have hlen := lit_len hv h
  have j2 : ∀ k, value_Parse.j2 (k + 3) ⟨(litL v).toArray⟩ v.f0 v.f1 v.f2 v.f3 = some (flat v none) := fun k => by
    rw [parse_j2 k _ hv, if_pos ⟨h, rfl⟩]
  have hj2 : Ev (fun k => value_Parse.j2 k ⟨(litL v).toArray⟩ v.f0 v.f1 v.f2 v.f3) (flat v none) := ev_at 3 j2
  have hs : ∀ l : List UInt8, ((⟨l.toArray⟩ : ByteArray).toList) = l := fun l => by rw [toList_data]
  have hemp : ∀ x : ByteArray, x.toList = [] → x = ⟨#[]⟩ := fun x hx => by
    rw [toList_data] at hx
    exact ba_ext hx
  refine ev_bind (a := (0, 0, ⟨#[]⟩, false)) ⟨0, fun _ _ => rfl⟩ ?_
  rw [hs]
  -- what is no truth
  have other : litL v ≠ [84, 82, 85, 69] → litL v ≠ [70, 65, 76, 83, 69] → (∀ p : Bool, (p = true ↔ ∃ r, litL v = 39 :: r ∧ 2 ≤ (litL v).length) → Ev (fun k => value_Parse.j1 k ⟨(litL v).toArray⟩ p 0 0 ⟨#[]⟩ false) (flat v none)) →
      Ev (fun k => if litL v = [84, 82, 85, 69] then value_Parse.j0 k ⟨(litL v).toArray⟩ true 0 0 ⟨#[]⟩ false else value_Parse.j0 k ⟨(litL v).toArray⟩ (litL v == [70, 65, 76, 83, 69]) 0 0 ⟨#[]⟩ false) (flat v none) := by
    intro n1 n2 hj
    refine ev_if_neg n1 ?_
    have e : (litL v == [70, 65, 76, 83, 69]) = false := by simpa using n2
    rw [e]
    refine ev_step (fun _ => value_Parse.j0.eq_2 ..) (ev_if_neg (by decide) ?_)
    rw [mk_size]
    by_cases h2 : (litL v).length ≥ 2
    · refine ev_if_pos (by omega) (ev_if_pos (by omega) ?_)
      cases hl : litL v with
      | nil => rw [hl] at h2; simp at h2
      | cons c r =>
        rw [hl] at hj h2
        have hb := (bt_zero (s := ⟨(c :: r).toArray⟩) (c := c) (r := r) rfl).1
        rw [hb]
        refine hj _ ?_
        simp only [beq_iff_eq, List.cons.injEq]
        constructor
        · intro hc
          exact ⟨r, ⟨UInt8.toNat_inj.1 (by have : ((39 : UInt8).toNat : Int) = 39 := rfl; omega), rfl⟩, h2⟩
        · rintro ⟨r', ⟨hc, _⟩, _⟩
          rw [hc]; rfl
    · refine ev_if_neg (by omega) (hj false ?_)
      exact ⟨(fun h => nomatch h), fun ⟨_, _, h3⟩ => absurd h3 h2⟩
  have hsz : (⟨(litL v).toArray⟩ : ByteArray).size ≤ 281474976710656 := by rw [mk_size]; omega
  rcases hk with hk | hk | hk | hk
  · -- NULL
    have hl : litL v = [78, 85, 76, 76] := by unfold litL; rw [if_neg (by omega), if_neg (by omega), if_neg (by omega)]
    refine other (by rw [hl]; decide) (by rw [hl]; decide) fun p hp => ?_
    have hp0 : p = false := by
      cases p with
      | false => rfl
      | true =>
        obtain ⟨r, h1, _⟩ := hp.1 rfl
        rw [hl] at h1; simp at h1
    subst hp0
    refine ev_step (fun _ => value_Parse.j1.eq_2 ..) (ev_if_neg (by decide) (ev_if_pos (by rw [hs]; exact hl) ?_))
    have e1 := c1 (by omega)
    have e2 := hemp _ (c2 (by omega))
    have e3 := c3 (by omega)
    rw [hk, e1, e2, e3] at hj2
    exact hj2
  · -- a number
    have hl : litL v = Lib.itoa v.f1 := by unfold litL; rw [if_pos hk]
    obtain ⟨c, r, hc, hcc⟩ := itoa_head v.f1
    have hne : ∀ x l, (x : UInt8).toNat ≥ 60 → litL v ≠ x :: l := fun x l hx e => by
      rw [hl, hc] at e
      injection e with e _
      rw [e] at hcc; omega
    refine other (hne 84 _ (by decide)) (hne 70 _ (by decide)) fun p hp => ?_
    have hp0 : p = false := by
      cases p with
      | false => rfl
      | true =>
        obtain ⟨r', h1, _⟩ := hp.1 rfl
        rw [hl, hc] at h1
        injection h1 with e _
        rw [e] at hcc
        have : (39 : UInt8).toNat = 39 := rfl
        omega
    subst hp0
    refine ev_step (fun k => parse_j1_no ⟨(litL v).toArray⟩ hsz (hne 78 _ (by decide)) k 0 0 ⟨#[]⟩ false v.f1 (by show Lib.atoiAll (litL v) = _; rw [hl]; exact atoi_itoa hv.1.1 hv.1.2)) ?_
    have e2 := hemp _ (c2 (by omega))
    have e3 := c3 (by omega)
    rw [hk, e2, e3] at hj2
    exact hj2
  · -- a text
    have hl : litL v = 39 :: (dbl v.f2.data.toList ++ [39]) := by unfold litL; rw [if_neg (by omega), if_pos hk]
    refine other (by rw [hl]; simp) (by rw [hl]; simp) fun p hp => ?_
    have hp1 : p = true := by
      refine hp.2 ⟨_, hl, ?_⟩
      rw [hl]; simp
    subst hp1
    refine ev_step (fun _ => value_Parse.j1.eq_2 ..) (ev_if_pos rfl ?_)
    have hlz : (litL v).length = (dbl v.f2.data.toList).length + 2 := by rw [hl]; simp
    have hw : wrap64 (((⟨(litL v).toArray⟩ : ByteArray).size : Int) - 1) = (((dbl v.f2.data.toList).length + 1 : Nat) : Int) := by rw [mk_size, hlz]; unfold wrap64; omega
    rw [hw]
    refine ev_if_pos (by omega) (ev_if_pos (by rw [mk_size]; omega) ?_)
    have hcut : (⟨(litL v).toArray⟩ : ByteArray).extract 1 ((((dbl v.f2.data.toList).length + 1 : Nat) : Int)).toNat = ⟨(dbl v.f2.data.toList).toArray⟩ := by
      apply ba_ext
      rw [Int.toNat_natCast, hl]
      simp [ByteArray.data_extract]
    rw [hcut]
    have hr : strings_ReplaceAll.f ⟨(dbl v.f2.data.toList).toArray⟩ ⟨#[39, 39]⟩ ⟨#[39]⟩ = some v.f2 := by
      unfold strings_ReplaceAll.f
      have hcb : Lib.countB ⟨(dbl v.f2.data.toList).toArray⟩ ⟨#[39, 39]⟩ ≤ (⟨(dbl v.f2.data.toList).toArray⟩ : ByteArray).size := Lib.countB_le _ (by decide) _ _ (Nat.le_refl _)
      have hs1 : (⟨#[39]⟩ : ByteArray).size = 1 := rfl
      have hs2 : (⟨#[39, 39]⟩ : ByteArray).size = 2 := rfl
      rw [mk_size] at hcb ⊢
      rw [if_pos ⟨by omega, by rw [hs2]; omega, by rw [hs1]; omega⟩]
      congr 1
      apply ba_ext
      exact repl_half _
    rw [hr]
    refine ev_bind_some (ev_bind (a := (2, 0, v.f2, false)) ⟨0, fun _ _ => rfl⟩ ?_)
    have e1 := c1 (by omega)
    have e3 := c3 (by omega)
    rw [hk, e1, e3] at hj2
    exact hj2
  · -- a truth
    have e1 := c1 (by omega)
    have e2 := hemp _ (c2 (by omega))
    rw [hk, e1, e2] at hj2
    by_cases hb : v.f3 = true
    · have hl : litL v = [84, 82, 85, 69] := by unfold litL; rw [if_neg (by omega), if_neg (by omega), if_pos hk, if_pos hb]
      refine ev_if_pos hl (ev_step (fun _ => value_Parse.j0.eq_2 ..) (ev_if_pos rfl ?_))
      have : ((⟨(litL v).toArray⟩ : ByteArray).toList == ([84, 82, 85, 69] : List UInt8)) = true := by rw [hs, hl]; rfl
      rw [this]
      rw [hb] at hj2
      exact hj2
    · have hf : v.f3 = false := by simpa using hb
      have hl : litL v = [70, 65, 76, 83, 69] := by unfold litL; rw [if_neg (by omega), if_neg (by omega), if_pos hk, if_neg hb]
      refine ev_if_neg (by rw [hl]; decide) ?_
      have h0 : (litL v == [70, 65, 76, 83, 69]) = true := by rw [hl]; rfl
      rw [h0]
      refine ev_step (fun _ => value_Parse.j0.eq_2 ..) (ev_if_pos rfl ?_)
      have : ((⟨(litL v).toArray⟩ : ByteArray).toList == ([84, 82, 85, 69] : List UInt8)) = false := by rw [hs, hl]; rfl
      rw [this]
      rw [hf] at hj2
      exact hj2
end Go.Proofs.YtljadejgdbemoaaGreatDoor.K
