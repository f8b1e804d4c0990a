/- What the walks of the reference's Valid, Check compute, told plainly. -/
import Derived.Test.YtljadejgdbemoaaGreatDoorPqXCAC
set_option linter.unusedVariables false
set_option linter.unusedSimpArgs false
namespace Go.Proofs.YtljadejgdbemoaaGreatDoor.C
open Go.RowKit Go.Proofs.YtljadejgdbemoaaGreatDoorW.PrintWords Go.Proofs.YtljadejgdbemoaaGreatDoorW.PrintLast Go.Proofs.YtljadejgdbemoaaGreatDoorX

theorem bt_at {s : ByteArray} {i : Nat} {c : UInt8} {cs : List UInt8} (h : s.data.toList.drop i = c :: cs) : bt s (i : Int) = (c.toNat : Int) := by
  rw [← rd_bytesOf]
  apply rdn_at
  unfold bytesOf
  rw [List.getElem?_map, (drop_cons h).1]; rfl
theorem ref_valid_loop (a b : Int) (s : ByteArray) (t : Bool) (hs : s.size < 9223372036854775807) : ∀ (cs : List UInt8) (i : Nat), s.data.toList.drop i = cs → Ev (fun k => barbicanref05_Valid.l0 k (i : Int) a b s t) (if cs.all plainC = true then 0 else 3)
  | [], i, h => by
    have := drop_nil h
    rw [size_data] at this
    refine ev_step (fun _ => barbicanref05_Valid.l0.eq_2 ..) ?_
    simp only [show ¬ ((i : Int) < (s.size : Int)) by omega, if_false]
    exact ev_some _
  | c :: cs, i, h => by
    obtain ⟨h1, h2, h3⟩ := drop_cons h
    rw [size_data] at h2
    refine ev_step (fun _ => barbicanref05_Valid.l0.eq_2 ..) ?_
    simp only [show ((i : Int) < (s.size : Int)) by omega, show (0 ≤ (i : Int)) by omega, if_true, bt_at h, wrap_succ (j := i) (by omega)]
    have hp : plainC c = true ↔ ¬ ((c.toNat : Int) < 32) ∧ ¬ ((c.toNat : Int) > 126) := by
      unfold plainC; simp only [Bool.and_eq_true, decide_eq_true_eq]; omega
    by_cases c1 : (c.toNat : Int) < 32
    · have : ¬ ((c :: cs).all plainC = true) := fun hh => by rw [List.all_cons, Bool.and_eq_true] at hh; exact (hp.1 hh.1).1 c1
      rw [if_neg this]
      exact ev_if_pos c1 (ev_some _)
    · refine ev_if_neg c1 ?_
      by_cases c2 : (c.toNat : Int) > 126
      · have : ¬ ((c :: cs).all plainC = true) := fun hh => by rw [List.all_cons, Bool.and_eq_true] at hh; exact (hp.1 hh.1).2 c2
        rw [if_neg this]
        exact ev_if_pos c2 (ev_some _)
      · refine ev_if_neg c2 ?_
        have hpc : plainC c = true := hp.2 ⟨c1, c2⟩
        rw [List.all_cons, hpc, Bool.true_and]
        exact ref_valid_loop a b s t hs cs (i + 1) h3
theorem ref_valid_ev (a b : Int) (s : ByteArray) (t : Bool) (hs : s.size < 9223372036854775807) : Ev (fun k => barbicanref05_Valid.f k a b s t) ((vErr a b s t).getD 0) := by
  have hj : ∀ f : Bool, Ev (fun k => barbicanref05_Valid.j0 k f a b s t) (if f = true then 3 else if (s.size : Int) > 4096 then 2 else if plainT s = false then 3 else 0) := by
    intro f
    refine ev_step (fun _ => barbicanref05_Valid.j0.eq_2 ..) ?_
    by_cases hf : f = true
    · simp only [hf, if_true]; exact ev_some _
    · simp only [hf, Bool.false_eq_true, if_false]
      by_cases h1 : (s.size : Int) > 4096
      · rw [if_pos h1]; exact ev_if_pos h1 (ev_some _)
      · rw [if_neg h1]
        refine ev_if_neg h1 ?_
        have := ref_valid_loop a b s t hs s.data.toList 0 rfl
        have e : (if plainT s = false then (3 : Int) else 0) = (if s.data.toList.all plainC = true then 0 else 3) := by
          unfold plainT
          by_cases h2 : s.data.toList.all plainC = true
          · rw [if_pos h2, if_neg (by rw [h2]; decide)]
          · rw [if_neg h2, if_pos (by simpa using h2)]
        rw [e]
        exact this
  have goal : ∀ f : Bool, (f = true ↔ ¬ (a = 0 ∨ a = 1 ∨ a = 2 ∨ a = 3) ∨ (a ≠ 1 ∧ b ≠ 0) ∨ (a ≠ 2 ∧ s.toList ≠ []) ∨ (a ≠ 3 ∧ t = true)) → Ev (fun k => barbicanref05_Valid.j0 k f a b s t) ((vErr a b s t).getD 0) := by
    intro f hf
    have h := hj f
    have e : (if f = true then (3 : Int) else if (s.size : Int) > 4096 then 2 else if plainT s = false then 3 else 0) = (vErr a b s t).getD 0 := by
      unfold vErr
      by_cases h1 : f = true
      · rw [if_pos h1, if_pos (hf.1 h1)]; rfl
      · rw [if_neg h1, if_neg (fun h => h1 (hf.2 h))]
        split
        · rfl
        · split <;> rfl
    rw [e] at h
    exact h
  unfold barbicanref05_Valid.f
  by_cases a0 : a < 0
  · exact ev_if_pos a0 (goal true (by constructor; · intro _; exact Or.inl (by omega)
                                      · intro _; rfl))
  refine ev_if_neg a0 ?_
  by_cases a3 : a > 3
  · exact ev_if_pos a3 (goal true (by constructor; · intro _; exact Or.inl (by omega)
                                      · intro _; rfl))
  refine ev_if_neg a3 ?_
  have hr : (a = 0 ∨ a = 1 ∨ a = 2 ∨ a = 3) := by omega
  have tail : (a ≠ 1 → b = 0) → Ev (fun k => if a = 2 then (if a = 3 then barbicanref05_Valid.j0 k false a b s t else barbicanref05_Valid.j0 k t a b s t) else (if s.toList = ([] : List UInt8) then (if a = 3 then barbicanref05_Valid.j0 k false a b s t else barbicanref05_Valid.j0 k t a b s t) else barbicanref05_Valid.j0 k true a b s t)) ((vErr a b s t).getD 0) := by
    intro hb
    have last : (a ≠ 2 → s.toList = []) → Ev (fun k => if a = 3 then barbicanref05_Valid.j0 k false a b s t else barbicanref05_Valid.j0 k t a b s t) ((vErr a b s t).getD 0) := by
      intro hs2
      by_cases h3 : a = 3
      · refine ev_if_pos h3 (goal false ?_)
        constructor
        · intro h; cases h
        · rintro (h | ⟨h1, h2⟩ | ⟨h1, h2⟩ | ⟨h1, h2⟩)
          · exact absurd hr h
          · exact absurd (hb h1) h2
          · exact absurd (hs2 h1) h2
          · exact absurd h3 h1
      · refine ev_if_neg h3 (goal t ?_)
        constructor
        · intro h; exact Or.inr (Or.inr (Or.inr ⟨h3, h⟩))
        · rintro (h | ⟨h1, h2⟩ | ⟨h1, h2⟩ | ⟨h1, h2⟩)
          · exact absurd hr h
          · exact absurd (hb h1) h2
          · exact absurd (hs2 h1) h2
          · exact h2
    by_cases h2 : a = 2
    · exact ev_if_pos h2 (last (fun h => absurd h2 h))
    · refine ev_if_neg h2 ?_
      by_cases hn : s.toList = []
      · exact ev_if_pos hn (last (fun _ => hn))
      · refine ev_if_neg hn (goal true ?_)
        exact ⟨fun _ => Or.inr (Or.inr (Or.inl ⟨h2, hn⟩)), fun _ => rfl⟩
  by_cases h1 : a = 1
  · exact ev_if_pos h1 (tail (fun h => absurd h1 h))
  · refine ev_if_neg h1 ?_
    by_cases hb : b = 0
    · exact ev_if_pos hb (tail (fun _ => hb))
    · refine ev_if_neg hb (goal true ?_)
      exact ⟨fun _ => Or.inr (Or.inl ⟨h1, hb⟩), fun _ => rfl⟩
theorem vErr_code (a b : Int) (s : ByteArray) (t : Bool) : (vErr a b s t).getD 0 = 0 ↔ vErr a b s t = none := by
  unfold vErr; split
  · simp
  · split
    · simp
    · split <;> simp
theorem fitErr_code (c : S86) (v : S23) : (fitErr c v).getD 0 = 0 ↔ fitErr c v = none := by
  unfold fitErr
  cases h : vErr v.f0 v.f1 v.f2 v.f3 with
  | some e =>
    have := vErr_code v.f0 v.f1 v.f2 v.f3
    rw [h] at this
    simpa using this
  | none =>
    simp only
    split
    · split
      · simp
      · split <;> simp
    · split <;> simp
theorem chk_code (cs : List S86) : ∀ (vs : List S23), (chkL cs vs).getD 0 = 0 ↔ chkL cs vs = none := by
  induction cs with
  | nil => intro vs; cases vs <;> simp [chkL]
  | cons c cs ih =>
    intro vs
    cases vs with
    | nil => simp [chkL]
    | cons v vs =>
      simp only [chkL]
      have := fitErr_code c v
      cases h : fitErr c v with
      | some e => rw [h] at this; simpa using this
      | none => exact ih vs
theorem ref_check_loop (n : ByteArray) (C : List S86) (V : List S23) (hb : C.length < 9223372036854775807) (hl : V.length = C.length) (oV : ∀ v ∈ V, OKv v) : ∀ (cs : List S86) (vs : List S23) (j : Nat), C.drop j = cs → V.drop j = vs → vs.length = cs.length → Ev (fun k => barbicanref14_Check.l0 k V (j : Int) n C) ((chkL cs vs).getD 0)
  | [], vs, j, hc, hv, he => by
    have := drop_nil hc
    refine ev_step (fun _ => barbicanref14_Check.l0.eq_2 ..) ?_
    simp only [show ¬ ((j : Int) < (V.length : Int)) by omega, if_false]
    cases vs with
    | nil => exact ev_some _
    | cons _ _ => cases he
  | c :: cs, [], j, hc, hv, he => by cases he
  | c :: cs, v :: vs, j, hc, hv, he => by
    obtain ⟨c1, c2, c3⟩ := drop_cons hc
    obtain ⟨v1, v2, v3⟩ := drop_cons hv
    have ov := oV v (List.mem_of_getElem? v1)
    have ih := ref_check_loop n C V hb hl oV cs vs (j + 1) c3 v3 (by simpa using he)
    refine ev_step (fun _ => barbicanref14_Check.l0.eq_2 ..) ?_
    simp only [show ((j : Int) < (V.length : Int)) by omega, show ((j : Int) < (C.length : Int)) by omega, show (0 ≤ (j : Int)) by omega, if_true, rd36_at c1, rd38_at v1]
    refine ev_bind (ref_valid_ev v.f0 v.f1 v.f2 v.f3 (by have := ov.2; omega)) ?_
    have hcode := vErr_code v.f0 v.f1 v.f2 v.f3
    simp only [chkL, fitErr]
    cases hve : vErr v.f0 v.f1 v.f2 v.f3 with
    | some e =>
      rw [hve] at hcode
      refine ev_if_neg (fun h => by have := hcode.1 h; cases this) ?_
      exact ev_some _
    | none =>
      simp only [Option.getD_none, if_true]
      have hj : ∀ f : Bool, Ev (fun k => barbicanref14_Check.j1 k V (j : Int) f n C c.f0 c.f1 c.f2 c.f3) (if f = true then 33 else if v.f0 = 0 then (chkL cs vs).getD 0 else if v.f0 = c.f1 then (chkL cs vs).getD 0 else 7) := by
        intro f
        refine ev_step (fun _ => barbicanref14_Check.j1.eq_2 ..) ?_
        by_cases hf : f = true
        · simp only [hf, if_true]; exact ev_some _
        · simp only [hf, show ((j : Int) < (V.length : Int)) by omega, show (0 ≤ (j : Int)) by omega, if_true, rd38_at v1, Bool.false_eq_true, if_false, wrap_succ (j := j) (by omega)]
          by_cases h0 : v.f0 = 0
          · simp only [h0, if_true]; exact ih
          · simp only [h0, if_false]
            by_cases h1 : v.f0 = c.f1
            · simp only [h1, if_true]; exact ih
            · simp only [h1, if_false]; exact ev_some _
      by_cases h0 : v.f0 = 0
      · simp only [h0, if_true] at hj ⊢
        by_cases h2 : c.f2 = true
        · simp only [h2, if_true]
          have := hj true
          simp only [if_true, h2] at this
          exact this
        · simp only [h2]
          have := hj (!c.f3)
          cases h3 : c.f3 <;> simp only [h3, h2, Bool.not_false, Bool.not_true, if_true, Bool.false_eq_true, if_false] at this ⊢ <;> simpa using this
      · have := hj false
        simp only [h0, if_false, Bool.false_eq_true] at this ⊢
        by_cases h1 : v.f0 = c.f1
        · simp only [h1, if_true] at this ⊢; exact this
        · simp only [h1, if_false] at this ⊢; exact this
theorem ref_check_ev (n : ByteArray) (C : List S86) (V : List S23) (hb : C.length < 9223372036854775807) (oV : ∀ v ∈ V, OKv v) : Ev (fun k => barbicanref14_Check.f k n C V) ((chk C V).getD 0) := by
  unfold barbicanref14_Check.f chk
  by_cases h : V.length = C.length
  · rw [if_pos h]
    exact ev_if_pos (by omega) (ref_check_loop n C V hb h oV C V 0 rfl rfl h)
  · rw [if_neg h]
    exact ev_if_neg (by omega) (ev_some _)
theorem chk_none (C : List S86) (V : List S23) : (chk C V).getD 0 = 0 ↔ chk C V = none := by
  unfold chk
  split
  · exact chk_code C V
  · simp

end Go.Proofs.YtljadejgdbemoaaGreatDoor.C
