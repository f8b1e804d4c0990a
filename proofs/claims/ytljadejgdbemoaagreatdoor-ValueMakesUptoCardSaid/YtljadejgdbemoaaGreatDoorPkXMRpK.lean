/- What the walks of the reference's Valid, Digits, Print compute, told plainly. -/
import Derived.Test.YtljadejgdbemoaaGreatDoorPkXMVdK
set_option linter.unusedVariables false
set_option linter.unusedSimpArgs false
namespace Go.Proofs.YtljadejgdbemoaaGreatDoor.K
open Go.RowKit Go.Proofs.YtljadejgdbemoaaGreatDoorW.PrintWords Go.Proofs.YtljadejgdbemoaaGreatDoorW.PrintLast Go.Proofs.YtljadejgdbemoaaGreatDoorX
theorem drop_cons {α : Type} {xs : List α} {j : Nat} {c : α} {cs : List α} (h : xs.drop j = c :: cs) : xs[j]? = some c ∧ j < xs.length ∧ xs.drop (j + 1) = cs := by
  have hl : j < xs.length := by
    rcases Nat.lt_or_ge j xs.length with h1 | h1
    · exact h1
    · rw [List.drop_eq_nil_of_le h1] at h; cases h
  rw [List.drop_eq_getElem_cons hl] at h
  injection h with h1 h2
  exact ⟨by rw [List.getElem?_eq_getElem hl, h1], hl, h2⟩
theorem drop_nil {α : Type} {xs : List α} {j : Nat} (h : xs.drop j = []) : xs.length ≤ j := List.drop_eq_nil_iff.1 h
theorem rdn_at {xs : List Int} {j : Nat} {c : Int} (h : xs[j]? = some c) : rd xs (j : Int) = c := by
  unfold rd; rw [Int.toNat_natCast, List.getD_eq_getElem?_getD, h]; rfl

theorem bt_at {s : ByteArray} {i : Nat} {c : UInt8} {cs : List UInt8} (h : s.data.toList.drop i = c :: cs) : bt s (i : Int) = (c.toNat : Int) := by
  rw [← rd_bytesOf]
  apply rdn_at
  unfold bytesOf
  rw [List.getElem?_map, (drop_cons h).1]; rfl
theorem ref_valid_loop (a b : Int) (s : ByteArray) (t : Bool) (hs : s.size < 9223372036854775807) : ∀ (cs : List UInt8) (i : Nat), s.data.toList.drop i = cs → Ev (fun k => barbicanref05_Valid.l0 k (i : Int) a b s t) (if cs.all plainC = true then 0 else 3)
  | [], i, h => by
    have := drop_nil h
    rw [size_data] at this
    refine ev_step (fun _ => barbicanref05_Valid.l0.eq_2 ..) ?_
    simp only [show ¬ ((i : Int) < (s.size : Int)) by omega, if_false]
    exact ev_some _
  | c :: cs, i, h => by
    obtain ⟨h1, h2, h3⟩ := drop_cons h
    rw [size_data] at h2
    refine ev_step (fun _ => barbicanref05_Valid.l0.eq_2 ..) ?_
    simp only [show ((i : Int) < (s.size : Int)) by omega, show (0 ≤ (i : Int)) by omega, if_true, bt_at h, wrap_succ (j := i) (by omega)]
    have hp : plainC c = true ↔ ¬ ((c.toNat : Int) < 32) ∧ ¬ ((c.toNat : Int) > 126) := by
      unfold plainC; simp only [Bool.and_eq_true, decide_eq_true_eq]; omega
    by_cases c1 : (c.toNat : Int) < 32
    · have : ¬ ((c :: cs).all plainC = true) := fun hh => by rw [List.all_cons, Bool.and_eq_true] at hh; exact (hp.1 hh.1).1 c1
      rw [if_neg this]
      exact ev_if_pos c1 (ev_some _)
    · refine ev_if_neg c1 ?_
      by_cases c2 : (c.toNat : Int) > 126
      · have : ¬ ((c :: cs).all plainC = true) := fun hh => by rw [List.all_cons, Bool.and_eq_true] at hh; exact (hp.1 hh.1).2 c2
        rw [if_neg this]
        exact ev_if_pos c2 (ev_some _)
      · refine ev_if_neg c2 ?_
        have hpc : plainC c = true := hp.2 ⟨c1, c2⟩
        rw [List.all_cons, hpc, Bool.true_and]
        exact ref_valid_loop a b s t hs cs (i + 1) h3
theorem ref_valid_ev (a b : Int) (s : ByteArray) (t : Bool) (hs : s.size < 9223372036854775807) : Ev (fun k => barbicanref05_Valid.f k a b s t) ((vErr a b s t).getD 0) := by
  have hj : ∀ f : Bool, Ev (fun k => barbicanref05_Valid.j0 k f a b s t) (if f = true then 3 else if (s.size : Int) > 4096 then 2 else if plainT s = false then 3 else 0) := by
    intro f
    refine ev_step (fun _ => barbicanref05_Valid.j0.eq_2 ..) ?_
    by_cases hf : f = true
    · simp only [hf, if_true]; exact ev_some _
    · simp only [hf, Bool.false_eq_true, if_false]
      by_cases h1 : (s.size : Int) > 4096
      · rw [if_pos h1]; exact ev_if_pos h1 (ev_some _)
      · rw [if_neg h1]
        refine ev_if_neg h1 ?_
        have := ref_valid_loop a b s t hs s.data.toList 0 rfl
        have e : (if plainT s = false then (3 : Int) else 0) = (if s.data.toList.all plainC = true then 0 else 3) := by
          unfold plainT
          by_cases h2 : s.data.toList.all plainC = true
          · rw [if_pos h2, if_neg (by rw [h2]; decide)]
          · rw [if_neg h2, if_pos (by simpa using h2)]
        rw [e]
        exact this
  have goal : ∀ f : Bool, (f = true ↔ ¬ (a = 0 ∨ a = 1 ∨ a = 2 ∨ a = 3) ∨ (a ≠ 1 ∧ b ≠ 0) ∨ (a ≠ 2 ∧ s.toList ≠ []) ∨ (a ≠ 3 ∧ t = true)) → Ev (fun k => barbicanref05_Valid.j0 k f a b s t) ((vErr a b s t).getD 0) := by
    intro f hf
    have h := hj f
    have e : (if f = true then (3 : Int) else if (s.size : Int) > 4096 then 2 else if plainT s = false then 3 else 0) = (vErr a b s t).getD 0 := by
      unfold vErr
      by_cases h1 : f = true
      · rw [if_pos h1, if_pos (hf.1 h1)]; rfl
      · rw [if_neg h1, if_neg (fun h => h1 (hf.2 h))]
        split
        · rfl
        · split <;> rfl
    rw [e] at h
    exact h
  unfold barbicanref05_Valid.f
  by_cases a0 : a < 0
  · exact ev_if_pos a0 (goal true (by constructor; · intro _; exact Or.inl (by omega)
                                      · intro _; rfl))
  refine ev_if_neg a0 ?_
  by_cases a3 : a > 3
  · exact ev_if_pos a3 (goal true (by constructor; · intro _; exact Or.inl (by omega)
                                      · intro _; rfl))
  refine ev_if_neg a3 ?_
  have hr : (a = 0 ∨ a = 1 ∨ a = 2 ∨ a = 3) := by omega
  have tail : (a ≠ 1 → b = 0) → Ev (fun k => if a = 2 then (if a = 3 then barbicanref05_Valid.j0 k false a b s t else barbicanref05_Valid.j0 k t a b s t) else (if s.toList = ([] : List UInt8) then (if a = 3 then barbicanref05_Valid.j0 k false a b s t else barbicanref05_Valid.j0 k t a b s t) else barbicanref05_Valid.j0 k true a b s t)) ((vErr a b s t).getD 0) := by
    intro hb
    have last : (a ≠ 2 → s.toList = []) → Ev (fun k => if a = 3 then barbicanref05_Valid.j0 k false a b s t else barbicanref05_Valid.j0 k t a b s t) ((vErr a b s t).getD 0) := by
      intro hs2
      by_cases h3 : a = 3
      · refine ev_if_pos h3 (goal false ?_)
        constructor
        · intro h; cases h
        · rintro (h | ⟨h1, h2⟩ | ⟨h1, h2⟩ | ⟨h1, h2⟩)
          · exact absurd hr h
          · exact absurd (hb h1) h2
          · exact absurd (hs2 h1) h2
          · exact absurd h3 h1
      · refine ev_if_neg h3 (goal t ?_)
        constructor
        · intro h; exact Or.inr (Or.inr (Or.inr ⟨h3, h⟩))
        · rintro (h | ⟨h1, h2⟩ | ⟨h1, h2⟩ | ⟨h1, h2⟩)
          · exact absurd hr h
          · exact absurd (hb h1) h2
          · exact absurd (hs2 h1) h2
          · exact h2
    by_cases h2 : a = 2
    · exact ev_if_pos h2 (last (fun h => absurd h2 h))
    · refine ev_if_neg h2 ?_
      by_cases hn : s.toList = []
      · exact ev_if_pos hn (last (fun _ => hn))
      · refine ev_if_neg hn (goal true ?_)
        exact ⟨fun _ => Or.inr (Or.inr (Or.inl ⟨h2, hn⟩)), fun _ => rfl⟩
  by_cases h1 : a = 1
  · exact ev_if_pos h1 (tail (fun h => absurd h1 h))
  · refine ev_if_neg h1 ?_
    by_cases hb : b = 0
    · exact ev_if_pos hb (tail (fun _ => hb))
    · refine ev_if_neg hb (goal true ?_)
      exact ⟨fun _ => Or.inr (Or.inl ⟨h1, hb⟩), fun _ => rfl⟩
theorem vErr_code (a b : Int) (s : ByteArray) (t : Bool) : (vErr a b s t).getD 0 = 0 ↔ vErr a b s t = none := by
  unfold vErr; split
  · simp
  · split
    · simp
    · split <;> simp
theorem digits_loop (m : ByteArray) (hm : m.size ≤ 1) : ∀ (d u : Nat) (acc : List UInt8), u < 10 ^ d → u < 18446744073709551616 → 1 ≤ d → acc.length + d ≤ 100 →
    Ev (fun k => barbicanref05_Digits.l0 k (u : Int) m ⟨acc.toArray⟩) (m ++ ⟨(Lib.decDigits u ++ acc).toArray⟩)
  | 0, u, acc, _, _, h, _ => by omega
  | d + 1, u, acc, hu, h64, _, hl => by
    refine ev_step (fun _ => barbicanref05_Digits.l0.eq_2 ..) ?_
    have hmod : Int.tmod (u : Int) 10 = ((u % 10 : Nat) : Int) := by rw [Int.tmod_eq_emod_of_nonneg (by omega)]; omega
    have hdiv : Int.tdiv (u : Int) 10 = ((u / 10 : Nat) : Int) := by rw [Int.tdiv_eq_ediv_of_nonneg (by omega)]; omega
    have hw1 : IntKind.u64.wrap (((u % 10 : Nat) : Int) + 1) = ((u % 10 + 1 : Nat) : Int) := by rw [u64_wrap_id (by omega) (by omega)]; omega
    have hw2 : IntKind.u64.wrap ((u / 10 : Nat) : Int) = ((u / 10 : Nat) : Int) := u64_wrap_id (by omega) (by omega)
    have hlt : u % 10 < 10 := Nat.mod_lt _ (by omega)
    have hcut : (⟨#[48, 49, 50, 51, 52, 53, 54, 55, 56, 57]⟩ : ByteArray).extract (u % 10) (u % 10 + 1) = ⟨[UInt8.ofNat (48 + u % 10)].toArray⟩ := digit_cut ⟨u % 10, hlt⟩
    rw [hmod, hdiv, hw1, hw2]
    simp only [Int.toNat_natCast, hcut, app_mk, mk_size, List.length_cons, List.length_nil, List.cons_append, List.nil_append]
    refine ev_if_pos (by omega) (ev_if_pos (by omega) (ev_if_pos (by omega) (ev_if_pos (by omega) ?_)))
    by_cases hu10 : u < 10
    · refine ev_if_pos (by omega) (ev_if_pos (by omega) ?_)
      rw [dec_small hu10, Nat.mod_eq_of_lt hu10]
      exact ev_some _
    · refine ev_if_neg (by omega) ?_
      have hd : 1 ≤ d := by
        rcases d with _ | d
        · simp at hu; omega
        · omega
      have := digits_loop m hm d (u / 10) (UInt8.ofNat (48 + u % 10) :: acc) (by rw [Nat.pow_succ] at hu; omega) (by omega) hd (by simp only [List.length_cons]; omega)
      rw [dec_big hu10, List.append_assoc]
      exact this
theorem digits_ev {n : Int} (h0 : -9223372036854775808 ≤ n) (h1 : n ≤ 9223372036854775807) : Ev (fun k => barbicanref05_Digits.f k n) ⟨(Lib.itoa n).toArray⟩ := by
  have hp : (10 : Nat) ^ 20 = 100000000000000000000 := by decide
  unfold barbicanref05_Digits.f Lib.itoa
  by_cases hn : n < 0
  · refine ev_if_pos hn ?_
    rw [if_pos hn]
    have e : IntKind.u64.wrap (-(IntKind.u64.wrap n)) = ((n.natAbs : Nat) : Int) := by rw [u64_wrap, u64_wrap]; omega
    rw [e]
    refine ev_step (fun _ => barbicanref05_Digits.j0.eq_2 ..) ?_
    have := digits_loop ⟨#[45]⟩ (by decide) 20 n.natAbs [] (by omega) (by omega) (by omega) (by decide)
    rw [List.append_nil] at this
    have e2 : (⟨#[45]⟩ : ByteArray) ++ (⟨(Lib.decDigits n.natAbs).toArray⟩ : ByteArray) = ⟨(45 :: Lib.decDigits n.natAbs).toArray⟩ := app_mk [45] _
    rw [e2] at this
    exact this
  · refine ev_if_neg hn ?_
    rw [if_neg hn]
    have e : IntKind.u64.wrap n = ((n.toNat : Nat) : Int) := by rw [u64_wrap]; omega
    rw [e]
    refine ev_step (fun _ => barbicanref05_Digits.j0.eq_2 ..) ?_
    have := digits_loop ⟨#[]⟩ (by decide) 20 n.toNat [] (by omega) (by omega) (by omega) (by decide)
    rw [List.append_nil] at this
    have e2 : (⟨#[]⟩ : ByteArray) ++ (⟨(Lib.decDigits n.toNat).toArray⟩ : ByteArray) = ⟨(Lib.decDigits n.toNat).toArray⟩ := app_mk [] _
    rw [e2] at this
    exact this
theorem refprint_loop (a b : Int) (s : ByteArray) (t : Bool) (hs : s.size ≤ 4096) : ∀ (cs : List UInt8) (i : Nat) (x : List UInt8), s.data.toList.drop i = cs → x.length + 2 * cs.length ≤ 10000 →
    Ev (fun k => barbicanref05_Print.l0 k (numsB x) (i : Int) a b s t) (⟨(x ++ (dbl cs ++ [39])).toArray⟩, 0)
  | [], i, x, h, hx => by
    have := drop_nil h
    rw [size_data] at this
    refine ev_step (fun _ => barbicanref05_Print.l0.eq_2 ..) (ev_if_neg (by omega) ?_)
    rw [str_nums, mk_size]
    refine ev_if_pos (by omega) ?_
    have e2 : (⟨x.toArray⟩ : ByteArray) ++ (⟨#[39]⟩ : ByteArray) = ⟨(x ++ [39]).toArray⟩ := app_mk _ [39]
    rw [e2]
    exact ev_some _
  | c :: cs, i, x, h, hx => by
    obtain ⟨h1, h2, h3⟩ := drop_cons h
    rw [size_data] at h2
    simp only [List.length_cons] at hx
    refine ev_step (fun _ => barbicanref05_Print.l0.eq_2 ..) (ev_if_pos (by omega) (ev_if_pos (by omega) (ev_if_pos (by rw [numsB_length]; omega) ?_)))
    rw [bt_at h, wrap_succ (j := i) (by omega)]
    have e : numsB x ++ [(c.toNat : Int)] = numsB (x ++ [c]) := by rw [numsB_app]; rfl
    rw [e]
    refine ev_bind_some ?_
    by_cases hc : c = 39
    · subst hc
      refine ev_if_pos (by decide) (ev_if_pos (by rw [numsB_length, List.length_append]; simp only [List.length_cons, List.length_nil]; omega) ?_)
      have e3 : numsB (x ++ [39]) ++ [39] = numsB (x ++ [39, 39]) := by rw [numsB_app, numsB_app]; rw [List.append_assoc]; rfl
      rw [e3]
      have := refprint_loop a b s t hs cs (i + 1) (x ++ [39, 39]) h3 (by rw [List.length_append]; simp only [List.length_cons, List.length_nil]; omega)
      rw [dbl, if_pos rfl]
      rw [List.append_assoc] at this
      exact this
    · refine ev_if_neg (fun hh => hc (UInt8.toNat_inj.1 (by have : ((39 : UInt8).toNat : Int) = 39 := rfl; omega))) ?_
      have := refprint_loop a b s t hs cs (i + 1) (x ++ [c]) h3 (by rw [List.length_append]; simp only [List.length_cons, List.length_nil]; omega)
      rw [dbl, if_neg hc]
      rw [List.append_assoc] at this
      exact this
theorem refprint_ev {v : S23} (hv : OKv v) : Ev (fun k => barbicanref05_Print.f k v.f0 v.f1 v.f2 v.f3) ((prR v).1, (prR v).2.getD 0) := by
  unfold barbicanref05_Print.f prR
  refine ev_bind (ref_valid_ev _ _ _ _ (by have := hv.2; omega)) ?_
  cases h : vErr v.f0 v.f1 v.f2 v.f3 with
  | some e =>
    have : (some e : Option Int).getD 0 ≠ 0 := fun hh => by
      have := (vErr_code v.f0 v.f1 v.f2 v.f3).1 (by rw [h]; exact hh)
      rw [this] at h; cases h
    exact ev_if_neg this (ev_some _)
  | none =>
    obtain ⟨hk, _, _, _, h4, _⟩ := vErr_none h
    refine ev_if_pos rfl ?_
    unfold litL
    by_cases h1 : v.f0 = 1
    · rw [if_pos h1]
      exact ev_if_pos h1 (ev_bind (digits_ev hv.1.1 hv.1.2) (ev_some _))
    rw [if_neg h1]
    refine ev_if_neg h1 ?_
    by_cases h2 : v.f0 = 2
    · rw [if_pos h2]
      refine ev_if_pos h2 ?_
      have := refprint_loop v.f0 v.f1 v.f2 v.f3 h4 v.f2.data.toList 0 [39] rfl (by rw [size_data]; simp only [List.length_cons, List.length_nil]; omega)
      exact this
    rw [if_neg h2]
    refine ev_if_neg h2 ?_
    by_cases h3 : v.f0 = 3
    · refine ev_if_pos h3 ?_
      rw [if_pos h3]
      by_cases h5 : v.f3 = true
      · refine ev_if_pos h5 ?_
        rw [if_pos h5]; exact ev_some _
      · refine ev_if_neg h5 ?_
        rw [if_neg h5]; exact ev_some _
    · refine ev_if_neg h3 ?_
      rw [if_neg h3]
      exact ev_some _
end Go.Proofs.YtljadejgdbemoaaGreatDoor.K
