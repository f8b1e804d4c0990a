/- What the reference's walks compute: Valid, Check, Uints, Ints, Texts, Encode. -/
import Derived.Test.YtljadejgdbemoaaDoorPyRx15
import Derived.Test.YtljadejgdbemoaaDoorPyXRowF
set_option linter.unusedVariables false
set_option linter.unusedSimpArgs false
namespace Go.Proofs.YtljadejgdbemoaaDoor.R
open Go.RowKit Go.Proofs.YtljadejgdbemoaaDoorW.PrintWords Go.Proofs.YtljadejgdbemoaaDoorW.PrintLast Go.Proofs.YtljadejgdbemoaaDoorX

theorem ev_uniq {α : Type} {g : Nat → Option α} {a b : α} (h1 : Ev g a) (h2 : Ev g b) : a = b := by
  obtain ⟨K, hK⟩ := h1
  obtain ⟨L, hL⟩ := h2
  have a1 := hK (max K L) (by omega)
  have a2 := hL (max K L) (by omega)
  rw [a1] at a2
  exact Option.some.inj a2
theorem bt_at {s : ByteArray} {i : Nat} {c : UInt8} {cs : List UInt8} (h : s.data.toList.drop i = c :: cs) : bt s (i : Int) = (c.toNat : Int) := by
  rw [← rd_bytesOf]
  apply rdn_at
  unfold bytesOf
  rw [List.getElem?_map, (drop_cons h).1]; rfl
theorem ref_valid_loop (a b : Int) (s : ByteArray) (t : Bool) (hs : s.size < 9223372036854775807) : ∀ (cs : List UInt8) (i : Nat), s.data.toList.drop i = cs → Ev (fun k => barbicanref05_Valid.l0 k (i : Int) a b s t) (if cs.all plainC = true then 0 else 3)
  | [], i, h => by
    have := drop_nil h
    rw [size_data] at this
    refine ev_step (fun _ => barbicanref05_Valid.l0.eq_2 ..) ?_
    simp only [show ¬ ((i : Int) < (s.size : Int)) by omega, if_false]
    exact ev_some _
  | c :: cs, i, h => by
    obtain ⟨h1, h2, h3⟩ := drop_cons h
    rw [size_data] at h2
    refine ev_step (fun _ => barbicanref05_Valid.l0.eq_2 ..) ?_
    simp only [show ((i : Int) < (s.size : Int)) by omega, show (0 ≤ (i : Int)) by omega, if_true, bt_at h, wrap_succ (j := i) (by omega)]
    have hp : plainC c = true ↔ ¬ ((c.toNat : Int) < 32) ∧ ¬ ((c.toNat : Int) > 126) := by
      unfold plainC; simp only [Bool.and_eq_true, decide_eq_true_eq]; omega
    by_cases c1 : (c.toNat : Int) < 32
    · have : ¬ ((c :: cs).all plainC = true) := fun hh => by rw [List.all_cons, Bool.and_eq_true] at hh; exact (hp.1 hh.1).1 c1
      rw [if_neg this]
      exact ev_if_pos c1 (ev_some _)
    · refine ev_if_neg c1 ?_
      by_cases c2 : (c.toNat : Int) > 126
      · have : ¬ ((c :: cs).all plainC = true) := fun hh => by rw [List.all_cons, Bool.and_eq_true] at hh; exact (hp.1 hh.1).2 c2
        rw [if_neg this]
        exact ev_if_pos c2 (ev_some _)
      · refine ev_if_neg c2 ?_
        have hpc : plainC c = true := hp.2 ⟨c1, c2⟩
        rw [List.all_cons, hpc, Bool.true_and]
        exact ref_valid_loop a b s t hs cs (i + 1) h3
theorem ref_valid_ev (a b : Int) (s : ByteArray) (t : Bool) (hs : s.size < 9223372036854775807) : Ev (fun k => barbicanref05_Valid.f k a b s t) ((vErr a b s t).getD 0) := by
  have hj : ∀ f : Bool, Ev (fun k => barbicanref05_Valid.j0 k f a b s t) (if f = true then 3 else if (s.size : Int) > 4096 then 2 else if plainT s = false then 3 else 0) := by
    intro f
    refine ev_step (fun _ => barbicanref05_Valid.j0.eq_2 ..) ?_
    by_cases hf : f = true
    · simp only [hf, if_true]; exact ev_some _
    · simp only [hf, Bool.false_eq_true, if_false]
      by_cases h1 : (s.size : Int) > 4096
      · rw [if_pos h1]; exact ev_if_pos h1 (ev_some _)
      · rw [if_neg h1]
        refine ev_if_neg h1 ?_
        have := ref_valid_loop a b s t hs s.data.toList 0 rfl
        have e : (if plainT s = false then (3 : Int) else 0) = (if s.data.toList.all plainC = true then 0 else 3) := by
          unfold plainT
          by_cases h2 : s.data.toList.all plainC = true
          · rw [if_pos h2, if_neg (by rw [h2]; decide)]
          · rw [if_neg h2, if_pos (by simpa using h2)]
        rw [e]
        exact this
  have goal : ∀ f : Bool, (f = true ↔ ¬ (a = 0 ∨ a = 1 ∨ a = 2 ∨ a = 3) ∨ (a ≠ 1 ∧ b ≠ 0) ∨ (a ≠ 2 ∧ s.toList ≠ []) ∨ (a ≠ 3 ∧ t = true)) → Ev (fun k => barbicanref05_Valid.j0 k f a b s t) ((vErr a b s t).getD 0) := by
    intro f hf
    have h := hj f
    have e : (if f = true then (3 : Int) else if (s.size : Int) > 4096 then 2 else if plainT s = false then 3 else 0) = (vErr a b s t).getD 0 := by
      unfold vErr
      by_cases h1 : f = true
      · rw [if_pos h1, if_pos (hf.1 h1)]; rfl
      · rw [if_neg h1, if_neg (fun h => h1 (hf.2 h))]
        split
        · rfl
        · split <;> rfl
    rw [e] at h
    exact h
  unfold barbicanref05_Valid.f
  by_cases a0 : a < 0
  · exact ev_if_pos a0 (goal true (by constructor; · intro _; exact Or.inl (by omega)
                                      · intro _; rfl))
  refine ev_if_neg a0 ?_
  by_cases a3 : a > 3
  · exact ev_if_pos a3 (goal true (by constructor; · intro _; exact Or.inl (by omega)
                                      · intro _; rfl))
  refine ev_if_neg a3 ?_
  have hr : (a = 0 ∨ a = 1 ∨ a = 2 ∨ a = 3) := by omega
  have tail : (a ≠ 1 → b = 0) → Ev (fun k => if a = 2 then (if a = 3 then barbicanref05_Valid.j0 k false a b s t else barbicanref05_Valid.j0 k t a b s t) else (if s.toList = ([] : List UInt8) then (if a = 3 then barbicanref05_Valid.j0 k false a b s t else barbicanref05_Valid.j0 k t a b s t) else barbicanref05_Valid.j0 k true a b s t)) ((vErr a b s t).getD 0) := by
    intro hb
    have last : (a ≠ 2 → s.toList = []) → Ev (fun k => if a = 3 then barbicanref05_Valid.j0 k false a b s t else barbicanref05_Valid.j0 k t a b s t) ((vErr a b s t).getD 0) := by
      intro hs2
      by_cases h3 : a = 3
      · refine ev_if_pos h3 (goal false ?_)
        constructor
        · intro h; cases h
        · rintro (h | ⟨h1, h2⟩ | ⟨h1, h2⟩ | ⟨h1, h2⟩)
          · exact absurd hr h
          · exact absurd (hb h1) h2
          · exact absurd (hs2 h1) h2
          · exact absurd h3 h1
      · refine ev_if_neg h3 (goal t ?_)
        constructor
        · intro h; exact Or.inr (Or.inr (Or.inr ⟨h3, h⟩))
        · rintro (h | ⟨h1, h2⟩ | ⟨h1, h2⟩ | ⟨h1, h2⟩)
          · exact absurd hr h
          · exact absurd (hb h1) h2
          · exact absurd (hs2 h1) h2
          · exact h2
    by_cases h2 : a = 2
    · exact ev_if_pos h2 (last (fun h => absurd h2 h))
    · refine ev_if_neg h2 ?_
      by_cases hn : s.toList = []
      · exact ev_if_pos hn (last (fun _ => hn))
      · refine ev_if_neg hn (goal true ?_)
        exact ⟨fun _ => Or.inr (Or.inr (Or.inl ⟨h2, hn⟩)), fun _ => rfl⟩
  by_cases h1 : a = 1
  · exact ev_if_pos h1 (tail (fun h => absurd h1 h))
  · refine ev_if_neg h1 ?_
    by_cases hb : b = 0
    · exact ev_if_pos hb (tail (fun _ => hb))
    · refine ev_if_neg hb (goal true ?_)
      exact ⟨fun _ => Or.inr (Or.inl ⟨h1, hb⟩), fun _ => rfl⟩
theorem vErr_code (a b : Int) (s : ByteArray) (t : Bool) : (vErr a b s t).getD 0 = 0 ↔ vErr a b s t = none := by
  unfold vErr; split
  · simp
  · split
    · simp
    · split <;> simp
theorem fitErr_code (c : S36) (v : S38) : (fitErr c v).getD 0 = 0 ↔ fitErr c v = none := by
  unfold fitErr
  cases h : vErr v.f0 v.f1 v.f2 v.f3 with
  | some e =>
    have := vErr_code v.f0 v.f1 v.f2 v.f3
    rw [h] at this
    simpa using this
  | none =>
    simp only
    split
    · split
      · simp
      · split <;> simp
    · split <;> simp
theorem chk_code (cs : List S36) : ∀ (vs : List S38), (chkL cs vs).getD 0 = 0 ↔ chkL cs vs = none := by
  induction cs with
  | nil => intro vs; cases vs <;> simp [chkL]
  | cons c cs ih =>
    intro vs
    cases vs with
    | nil => simp [chkL]
    | cons v vs =>
      simp only [chkL]
      have := fitErr_code c v
      cases h : fitErr c v with
      | some e => rw [h] at this; simpa using this
      | none => exact ih vs
theorem ref_check_loop (n : ByteArray) (C : List S36) (V : List S38) (hb : C.length < 9223372036854775807) (hl : V.length = C.length) (oV : ∀ v ∈ V, OKv v) : ∀ (cs : List S36) (vs : List S38) (j : Nat), C.drop j = cs → V.drop j = vs → vs.length = cs.length → Ev (fun k => barbicanref14_Check.l0 k V (j : Int) n C) ((chkL cs vs).getD 0)
  | [], vs, j, hc, hv, he => by
    have := drop_nil hc
    refine ev_step (fun _ => barbicanref14_Check.l0.eq_2 ..) ?_
    simp only [show ¬ ((j : Int) < (V.length : Int)) by omega, if_false]
    cases vs with
    | nil => exact ev_some _
    | cons _ _ => cases he
  | c :: cs, [], j, hc, hv, he => by cases he
  | c :: cs, v :: vs, j, hc, hv, he => by
    obtain ⟨c1, c2, c3⟩ := drop_cons hc
    obtain ⟨v1, v2, v3⟩ := drop_cons hv
    have ov := oV v (List.mem_of_getElem? v1)
    have ih := ref_check_loop n C V hb hl oV cs vs (j + 1) c3 v3 (by simpa using he)
    refine ev_step (fun _ => barbicanref14_Check.l0.eq_2 ..) ?_
    simp only [show ((j : Int) < (V.length : Int)) by omega, show ((j : Int) < (C.length : Int)) by omega, show (0 ≤ (j : Int)) by omega, if_true, rd36_at c1, rd38_at v1]
    refine ev_bind (ref_valid_ev v.f0 v.f1 v.f2 v.f3 (by have := ov.2; omega)) ?_
    have hcode := vErr_code v.f0 v.f1 v.f2 v.f3
    simp only [chkL, fitErr]
    cases hve : vErr v.f0 v.f1 v.f2 v.f3 with
    | some e =>
      rw [hve] at hcode
      refine ev_if_neg (fun h => by have := hcode.1 h; cases this) ?_
      exact ev_some _
    | none =>
      simp only [Option.getD_none, if_true]
      have hj : ∀ f : Bool, Ev (fun k => barbicanref14_Check.j1 k V (j : Int) f n C c.f0 c.f1 c.f2 c.f3) (if f = true then 33 else if v.f0 = 0 then (chkL cs vs).getD 0 else if v.f0 = c.f1 then (chkL cs vs).getD 0 else 7) := by
        intro f
        refine ev_step (fun _ => barbicanref14_Check.j1.eq_2 ..) ?_
        by_cases hf : f = true
        · simp only [hf, if_true]; exact ev_some _
        · simp only [hf, show ((j : Int) < (V.length : Int)) by omega, show (0 ≤ (j : Int)) by omega, if_true, rd38_at v1, Bool.false_eq_true, if_false, wrap_succ (j := j) (by omega)]
          by_cases h0 : v.f0 = 0
          · simp only [h0, if_true]; exact ih
          · simp only [h0, if_false]
            by_cases h1 : v.f0 = c.f1
            · simp only [h1, if_true]; exact ih
            · simp only [h1, if_false]; exact ev_some _
      by_cases h0 : v.f0 = 0
      · simp only [h0, if_true] at hj ⊢
        by_cases h2 : c.f2 = true
        · simp only [h2, if_true]
          have := hj true
          simp only [if_true, h2] at this
          exact this
        · simp only [h2]
          have := hj (!c.f3)
          cases h3 : c.f3 <;> simp only [h3, h2, Bool.not_false, Bool.not_true, if_true, Bool.false_eq_true, if_false] at this ⊢ <;> simpa using this
      · have := hj false
        simp only [h0, if_false, Bool.false_eq_true] at this ⊢
        by_cases h1 : v.f0 = c.f1
        · simp only [h1, if_true] at this ⊢; exact this
        · simp only [h1, if_false] at this ⊢; exact this
theorem ref_check_ev (n : ByteArray) (C : List S36) (V : List S38) (hb : C.length < 9223372036854775807) (oV : ∀ v ∈ V, OKv v) : Ev (fun k => barbicanref14_Check.f k n C V) ((chk C V).getD 0) := by
  unfold barbicanref14_Check.f chk
  by_cases h : V.length = C.length
  · rw [if_pos h]
    exact ev_if_pos (by omega) (ref_check_loop n C V hb h oV C V 0 rfl rfl h)
  · rw [if_neg h]
    exact ev_if_neg (by omega) (ev_some _)
theorem chk_none (C : List S36) (V : List S38) : (chk C V).getD 0 = 0 ↔ chk C V = none := by
  unfold chk
  split
  · exact chk_code C V
  · simp

/-! ### numbers and texts as bytes -/
theorem ref_uints : ∀ (n : Nat), n < 18446744073709551616 → Ev (fun k => barbicanref03_Uints.f k (n : Int)) (uvar n) := by
  intro n
  induction n using Nat.strongRecOn with
  | ind n ih =>
    intro hn
    refine ev_step (fun _ => barbicanref03_Uints.f.eq_2 ..) ?_
    by_cases h : n < 128
    · rw [uvar_small h]
      refine ev_if_pos (by omega) ?_
      rw [show (n : Int) % 256 = (n : Int) by omega]
      exact ev_some _
    · have h10 := uvar_len64 (n := n / 128) (by omega)
      refine ev_if_neg (by omega) ?_
      have e1 : Int.tmod (n : Int) 128 = ((n % 128 : Nat) : Int) := by rw [Int.tmod_eq_emod_of_nonneg (by omega)]; rfl
      have e2 : Int.tdiv (n : Int) 128 = ((n / 128 : Nat) : Int) := by rw [Int.tdiv_eq_ediv_of_nonneg (by omega)]; rfl
      simp only [Option.bind_some, e1, e2, u64_wrap_id (x := ((n / 128 : Nat) : Int)) (by omega) (by omega)]
      refine ev_bind (ih (n / 128) (by omega) (by omega)) ?_
      simp only [List.length_cons, List.length_nil, show 0 + 1 + (uvar (n / 128)).length < 140737488355328 by omega, if_true]
      rw [uvar_big h, show (((n % 128 : Nat) : Int) + 128) % 256 = ((n % 128 + 128 : Nat) : Int) by omega]
      exact ev_some _
theorem ref_ints (a : Int) (h0 : -9223372036854775808 ≤ a) (h1 : a ≤ 9223372036854775807) : Ev (fun k => barbicanref03_Ints.f k a) (uvar (zz a)) := by
  have hz := zz_lt h0 h1
  unfold barbicanref03_Ints.f
  by_cases h : a ≥ 0
  · refine ev_if_pos h ?_
    have e : IntKind.u64.wrap (2 * (IntKind.u64.wrap a)) = (zz a : Int) := by
      rw [u64_wrap, u64_wrap]; unfold zz; split <;> omega
    rw [e]
    exact ev_bind (ref_uints (zz a) hz) (ev_some _)
  · refine ev_if_neg h ?_
    have e : IntKind.u64.wrap ((IntKind.u64.wrap (2 * (IntKind.u64.wrap (wrap64 (-(wrap64 (a + 1))))))) + 1) = (zz a : Int) := by
      rw [u64_wrap, u64_wrap, u64_wrap]; unfold zz wrap64; split <;> omega
    rw [e]
    exact ev_bind (ref_uints (zz a) hz) (ev_some _)
theorem ref_texts (s : ByteArray) (hs : s.size ≤ 1099511627776) : Ev (fun k => barbicanref03_Texts.f k s) (uvar s.size ++ bytesOf s) := by
  unfold barbicanref03_Texts.f
  rw [u64_wrap_id (by omega) (by omega)]
  have h10 := uvar_len64 (n := s.size) (by omega)
  refine ev_bind (ref_uints s.size (by omega)) ?_
  exact ev_if_pos (by omega) (ev_some _)
theorem ref_encode_loop (V : List S38) (hk3 : ∀ v ∈ V, v.f0 = 0 ∨ v.f0 = 1 ∨ v.f0 = 2 ∨ v.f0 = 3) (hV : ∀ v ∈ V, OKv v) (hb : V.length < 9223372036854775807) : ∀ (vs : List S38) (j : Nat) (x : List Int), V.drop j = vs → x.length + bulk vs ≤ 1099511627776 → Ev (fun k => barbicanref14_Encode.l0 k V x (j : Int)) (x ++ encL vs, 0)
  | [], j, x, hd, hx => by
    have := drop_nil hd
    refine ev_step (fun _ => barbicanref14_Encode.l0.eq_2 ..) ?_
    simp only [show ¬ ((j : Int) < (V.length : Int)) by omega, if_false, encL, List.append_nil]
    exact ev_some _
  | v :: vs, j, x, hd, hx => by
    obtain ⟨v1, v2, v3⟩ := drop_cons hd
    have hv := hV v (List.mem_of_getElem? v1)
    have hk := hk3 v (List.mem_of_getElem? v1)
    have hl := encV_length hv
    simp only [bulk] at hx
    refine ev_step (fun _ => barbicanref14_Encode.l0.eq_2 ..) ?_
    simp only [show ((j : Int) < (V.length : Int)) by omega, show (0 ≤ (j : Int)) by omega, if_true, rd38_at v1, wrap_succ (j := j) (by omega), show x.length < 140737488355328 by omega, Option.bind_some]
    have go : ∀ (e : List Int), encV v = e → Ev (fun k => barbicanref14_Encode.l0 k V (x ++ e) ((j + 1 : Nat) : Int)) (x ++ encL (v :: vs), 0) := by
      intro e he
      subst he
      have := ref_encode_loop V hk3 hV hb vs (j + 1) (x ++ encV v) v3 (by rw [List.length_append]; omega)
      rw [List.append_assoc] at this
      exact this
    by_cases h0 : v.f0 = 0
    · refine ev_if_pos h0 (go [0] (by unfold encV; simp only [h0, if_true]))
    · refine ev_if_neg h0 ?_
      by_cases h1 : v.f0 = 1
      · refine ev_if_pos h1 ?_
        have hz := uvar_len64 (zz_lt hv.1.1 hv.1.2)
        refine ev_bind (ref_ints v.f1 hv.1.1 hv.1.2) ?_
        refine ev_if_pos (by simp only [List.length_append, List.length_cons, List.length_nil]; omega) ?_
        rw [List.append_assoc]
        exact go _ (by unfold encV; simp only [h1, if_neg (show ¬ ((1 : Int) = 0) by decide), if_true]; rfl)
      · refine ev_if_neg h1 ?_
        by_cases h2 : v.f0 = 2
        · refine ev_if_pos h2 ?_
          have hs := hv.2
          have hz := uvar_len64 (n := v.f2.size) (by omega)
          refine ev_bind (ref_texts v.f2 (by omega)) ?_
          refine ev_if_pos (by simp only [List.length_append, List.length_cons, List.length_nil, bytesOf_length]; omega) ?_
          rw [List.append_assoc]
          exact go _ (by unfold encV; simp only [h2, if_neg (show ¬ ((2 : Int) = 0) by decide), if_neg (show ¬ ((2 : Int) = 1) by decide), if_true]; rfl)
        · refine ev_if_neg h2 ?_
          have h3 : v.f0 = 3 := by omega
          refine ev_if_pos h3 ?_
          by_cases h4 : v.f3 = true
          · refine ev_if_pos h4 (ev_if_pos (by simp only [List.length_cons, List.length_nil]; omega) ?_)
            exact go _ (by unfold encV; simp only [h3, h4, if_neg (show ¬ ((3 : Int) = 0) by decide), if_neg (show ¬ ((3 : Int) = 1) by decide), if_neg (show ¬ ((3 : Int) = 2) by decide), if_true])
          · refine ev_if_neg h4 (ev_if_pos (by simp only [List.length_cons, List.length_nil]; omega) ?_)
            exact go _ (by unfold encV; simp only [h3, h4, if_neg (show ¬ ((3 : Int) = 0) by decide), if_neg (show ¬ ((3 : Int) = 1) by decide), if_neg (show ¬ ((3 : Int) = 2) by decide)]; rfl)
theorem chkL_kinds : ∀ (cs : List S36) (vs : List S38), vs.length = cs.length → chkL cs vs = none → ∀ v ∈ vs, v.f0 = 0 ∨ v.f0 = 1 ∨ v.f0 = 2 ∨ v.f0 = 3
  | [], [], _, _, v, hv => by cases hv
  | [], _ :: _, h, _, _, _ => by cases h
  | c :: cs, [], h, _, _, _ => by cases h
  | c :: cs, w :: vs, h, hk, v, hv => by
    simp only [chkL] at hk
    cases e : fitErr c w with
    | some _ => rw [e] at hk; cases hk
    | none =>
      rw [e] at hk
      rcases List.mem_cons.1 hv with rfl | hv
      · exact (vErr_none (fit_none e).1).1
      · exact chkL_kinds cs vs (by simpa using h) hk v hv
theorem ref_encode_ev (n : ByteArray) (C : List S36) (V : List S38) (hC : C.length < 9223372036854775807) (hV : ∀ v ∈ V, OKv v) (hb : V.length < 9223372036854775807) (hk : bulk V ≤ 1099511627776) : Ev (fun k => barbicanref14_Encode.f k n C V) ((encR C V).1, ((encR C V).2).getD 0) := by
  unfold barbicanref14_Encode.f encR
  refine ev_bind (ref_check_ev n C V hC hV) ?_
  have hcode := chk_none C V
  cases h : chk C V with
  | some e =>
    rw [h] at hcode
    exact ev_if_neg (fun h => by have := hcode.1 h; cases this) (ev_some _)
  | none =>
    have hh : V.length = C.length ∧ chkL C V = none := by
      unfold chk at h
      by_cases hl : V.length = C.length
      · rw [if_pos hl] at h; exact ⟨hl, h⟩
      · rw [if_neg hl] at h; cases h
    refine ev_if_pos rfl ?_
    exact ref_encode_loop V (chkL_kinds C V hh.1 hh.2) hV hb V 0 [] rfl (by simpa using hk)
end Go.Proofs.YtljadejgdbemoaaDoor.R
