/- The law RowBack, told plainly: a row comes back from its bytes; keys' texts stand in their values' order. -/
import Derived.Test.YtljadejgdbemoaaDoorPkSaidRowBack
import Derived.Test.YtljadejgdbemoaaDoorPkXRowF
set_option linter.unusedVariables false
set_option linter.unusedSimpArgs false
namespace Go.Proofs.YtljadejgdbemoaaDoor.R
open Go.RowKit Go.Proofs.YtljadejgdbemoaaDoorW.PrintWords Go.Proofs.YtljadejgdbemoaaDoorW.PrintLast Go.Proofs.YtljadejgdbemoaaDoorX

theorem rb_ok_of {V : List S38} (hw : ∀ v ∈ V, W38 v) (ht : (V.map fun e_ => T38 e_).sum ≤ 1048576) : (∀ v ∈ V, OKv v) ∧ V.length ≤ 1048576 ∧ bulk V ≤ 12 * 1048576 := by
  have hs : ∀ (V : List S38), V.length ≤ (V.map fun e_ => T38 e_).sum ∧ bulk V ≤ 12 * (V.map fun e_ => T38 e_).sum ∧ ∀ v ∈ V, v.f2.size ≤ (V.map fun e_ => T38 e_).sum := by
    intro V
    induction V with
    | nil => simp [bulk]
    | cons v vs ih =>
      simp only [List.map_cons, List.sum_cons, List.length_cons, bulk, List.mem_cons]
      have : T38 v = 5 + v.f2.size := by unfold T38; omega
      refine ⟨by omega, by omega, ?_⟩
      rintro x (rfl | hx)
      · omega
      · have := ih.2.2 x hx; omega
  obtain ⟨h1, h2, h3⟩ := hs V
  exact ⟨fun v hv => ⟨wf_i64 (hw v hv).2.1, by have := h3 v hv; omega⟩, by omega, by omega⟩
theorem rb_cols_of {C : List S36} : C.length ≤ (C.map fun e_ => T36 e_).sum := by
  induction C with
  | nil => simp
  | cons c cs ih =>
    simp only [List.map_cons, List.sum_cons, List.length_cons]
    have : T36 c = 5 + c.f0.size := by unfold T36; omega
    omega

/-! ### the order of bytes -/
def lessN : List Int → List Int → Bool
  | _, [] => false
  | [], _ :: _ => true
  | a :: x, b :: y => decide (a < b) || (a == b && lessN x y)
theorem lessN_irr : ∀ x : List Int, lessN x x = false
  | [] => rfl
  | a :: x => by simp [lessN, lessN_irr x]
theorem lessN_asym : ∀ x y : List Int, lessN x y = true → lessN y x = false
  | [], [], h => by cases h
  | [], _ :: _, _ => rfl
  | _ :: _, [], h => by cases h
  | a :: x, b :: y, h => by
    simp only [lessN, Bool.or_eq_true, decide_eq_true_eq, Bool.and_eq_true, beq_iff_eq] at h
    simp only [lessN, Bool.or_eq_false_iff, decide_eq_false_iff_not, Bool.and_eq_false_iff, beq_eq_false_iff_ne]
    rcases h with h | ⟨rfl, h⟩
    · exact ⟨by omega, Or.inl (by omega)⟩
    · exact ⟨by omega, Or.inr (lessN_asym x y h)⟩
theorem lessN_pre : ∀ (p x y : List Int), lessN (p ++ x) (p ++ y) = lessN x y
  | [], x, y => rfl
  | a :: p, x, y => by simp [lessN, lessN_pre p x y]
theorem less_bytes : ∀ (xs ys : List Int), (∀ x ∈ xs, 0 ≤ x ∧ x ≤ 255) → (∀ y ∈ ys, 0 ≤ y ∧ y ≤ 255) → Op.bytesLess (xs.map fun n => UInt8.ofNat n.toNat) (ys.map fun n => UInt8.ofNat n.toNat) = lessN xs ys
  | [], [], _, _ => rfl
  | [], _ :: _, _, _ => rfl
  | _ :: _, [], _, _ => rfl
  | a :: x, b :: y, hx, hy => by
    have ha := hx a List.mem_cons_self
    have hb := hy b List.mem_cons_self
    have ih := less_bytes x y (fun z hz => hx z (List.mem_cons_of_mem _ hz)) (fun z hz => hy z (List.mem_cons_of_mem _ hz))
    simp only [List.map_cons, Op.bytesLess, lessN, ih]
    have e1 : decide (UInt8.ofNat a.toNat < UInt8.ofNat b.toNat) = decide (a < b) := by
      rw [decide_eq_decide, UInt8.lt_iff_toNat_lt]
      simp only [UInt8.toNat_ofNat']
      omega
    have e2 : (UInt8.ofNat a.toNat == UInt8.ofNat b.toNat) = (a == b) := by
      rw [Bool.eq_iff_iff, beq_iff_eq, beq_iff_eq, ← UInt8.toNat_inj]
      simp only [UInt8.toNat_ofNat']
      omega
    rw [e1, e2]
theorem less_str {xs ys : List Int} (hx : ∀ x ∈ xs, 0 ≤ x ∧ x ≤ 255) (hy : ∀ y ∈ ys, 0 ≤ y ∧ y ≤ 255) : Op.bytesLess (strOfNums xs).toList (strOfNums ys).toList = lessN xs ys := by
  rw [strOfNums_toList, strOfNums_toList]; exact less_bytes xs ys hx hy
theorem less_text (a b : ByteArray) : Op.bytesLess a.toList b.toList = lessN (bytesOf a) (bytesOf b) := by
  have := less_str (bytesOf_range a) (bytesOf_range b)
  rwa [str_bytes, str_bytes] at this
theorem be_less : ∀ (n : Nat) (x y : Int) (r s : List Int), 0 ≤ x → y < 256 ^ n → x < y → lessN (be n x ++ r) (be n y ++ s) = true
  | 0, x, y, r, s, h1, h2, h3 => by simp only [Int.pow_zero] at h2; omega
  | n + 1, x, y, r, s, h1, h2, h3 => by
    rw [be, be, List.append_assoc, List.append_assoc]
    rw [Int.pow_succ] at h2
    by_cases h : x / 256 < y / 256
    · exact be_less n (x / 256) (y / 256) _ _ (by omega) (by omega) h
    · rw [show y / 256 = x / 256 by omega, lessN_pre]
      simp only [List.cons_append, List.nil_append, lessN, Bool.or_eq_true, decide_eq_true_eq]
      exact Or.inl (by omega)
theorem ends_less : ∀ (xs ys r s : List Int), (∀ y ∈ ys, 0 < y) → lessN xs ys = true → lessN (xs ++ 0 :: r) (ys ++ 0 :: s) = true
  | _, [], r, s, _, h => by simp [lessN] at h
  | [], b :: y, r, s, hy, h => by
    have := hy b List.mem_cons_self
    simp [lessN, this]
  | a :: x, b :: y, r, s, hy, h => by
    simp only [lessN, Bool.or_eq_true, decide_eq_true_eq, Bool.and_eq_true, beq_iff_eq] at h
    simp only [List.cons_append, lessN, Bool.or_eq_true, decide_eq_true_eq, Bool.and_eq_true, beq_iff_eq]
    exact h.imp id fun ⟨e, h⟩ => ⟨e, ends_less x y r s (fun z hz => hy z (List.mem_cons_of_mem _ hz)) h⟩
theorem lessN_total : ∀ (xs ys : List Int), lessN xs ys = false → lessN ys xs = false → xs = ys
  | [], [], _, _ => rfl
  | [], _ :: _, h, _ => by cases h
  | _ :: _, [], _, h => by cases h
  | a :: x, b :: y, h1, h2 => by
    simp only [lessN, Bool.or_eq_false_iff, decide_eq_false_iff_not, Bool.and_eq_false_iff, beq_eq_false_iff_ne] at h1 h2
    have e : a = b := by omega
    rw [e, lessN_total x y (h1.2.resolve_left (fun h => h e)) (h2.2.resolve_left (fun h => h e.symm))]

/-! ### order.Compare -/
def cmpI (a b : Int) : Int := if a < b then -1 else if a > b then 1 else 0
theorem cmpI_eq (a b : Int) : cmp_Compare_int.f a b = some (cmpI a b) := by
  unfold cmp_Compare_int.f cmp_isNaN_int.f cmpI
  simp only [bne_self_eq_false, Option.bind_some, Bool.false_eq_true, if_false]
  split
  · rfl
  · split <;> rfl
def cmpS (a b : ByteArray) : Int := if lessN (bytesOf a) (bytesOf b) = true then -1 else if lessN (bytesOf b) (bytesOf a) = true then 1 else 0
theorem cmpS_eq (a b : ByteArray) : cmp_Compare_string.f a b = some (cmpS a b) := by
  unfold cmp_Compare_string.f cmp_isNaN_string.f cmpS
  simp only [bne_self_eq_false, Option.bind_some, Bool.false_eq_true, if_false, less_text]
  split
  · rfl
  · split <;> rfl
def cmpV (v w : S38) : Int := if v.f0 = 1 then cmpI v.f1 w.f1 else if v.f0 = 2 then cmpS v.f2 w.f2 else if v.f0 = 3 then (if (v.f3 == w.f3) = true then 0 else if v.f3 = true then 1 else -1) else 0
theorem cmpV_eq (v w : S38) (h : v.f0 = w.f0) : value_Compare.f v.f0 v.f1 v.f2 v.f3 w.f0 w.f1 w.f2 w.f3 = some (cmpV v w) := by
  unfold value_Compare.f cmpV
  have e : cmpI v.f0 w.f0 = 0 := by unfold cmpI; rw [h]; simp
  simp only [cmpI_eq, cmpS_eq, e, Option.bind_some, if_true]
  split
  · rfl
  · split
    · rfl
    · split
      · split
        · rfl
        · split <;> rfl
      · rfl
theorem kenc_cmp {c : S36} {v w : S38} (ov : OKv v) (ow : OKv w) (hc : c.f2 = true) (hv : fitErr c v = none) (hw : fitErr c w = none) (r s : List Int) :
    v.f0 = w.f0 ∧ (cmpV v w = 0 ∧ v = w ∨ cmpV v w = -1 ∧ lessN (kenc v ++ r) (kenc w ++ s) = true ∨ cmpV v w = 1 ∧ lessN (kenc w ++ s) (kenc v ++ r) = true) := by
  obtain ⟨ev, kv⟩ := fit_none hv
  obtain ⟨ew, kw⟩ := fit_none hw
  obtain ⟨av, bv, cv, dv, _, pv⟩ := vErr_none ev
  obtain ⟨aw, bw, cw, dw, _, pw⟩ := vErr_none ew
  have hk : v.f0 ≠ 0 ∧ v.f0 = w.f0 := by
    rcases kv with kv | kv
    · rw [hc] at kv; cases kv.2.1
    · rcases kw with kw | kw
      · rw [hc] at kw; cases kw.2.1
      · exact ⟨kv.1, by rw [kv.2, kw.2]⟩
  refine ⟨hk.2, ?_⟩
  have hd : ∀ (x y : List Int) (a b : Int), a = b → lessN (a :: x) (b :: y) = lessN x y := by
    rintro x y a _ rfl
    simp [lessN]
  have hh : (v.f0 + 1) % 256 = (w.f0 + 1) % 256 := by rw [hk.2]
  unfold kenc
  rw [List.cons_append, List.cons_append, hd _ _ _ _ hh, hd _ _ _ _ hh.symm]
  unfold cmpV
  by_cases h1 : v.f0 = 1
  · have w1 : w.f0 = 1 := by omega
    rw [if_pos h1, if_pos h1, if_pos w1]
    have e : (256 : Int) ^ 8 = 18446744073709551616 := by decide
    have := ov.1; have := ow.1
    unfold cmpI
    by_cases l1 : v.f1 < w.f1
    · rw [if_pos l1]
      exact Or.inr (Or.inl ⟨rfl, be_less 8 _ _ r s (by omega) (by omega) (by omega)⟩)
    · rw [if_neg l1]
      by_cases l2 : v.f1 > w.f1
      · rw [if_pos l2]
        exact Or.inr (Or.inr ⟨rfl, be_less 8 _ _ s r (by omega) (by omega) (by omega)⟩)
      · rw [if_neg l2]
        exact Or.inl ⟨rfl, s38_eq hk.2 (by omega) (by rw [cv (by omega), cw (by omega)]) (by rw [dv (by omega), dw (by omega)])⟩
  · have w1 : ¬ w.f0 = 1 := by omega
    rw [if_neg h1, if_neg h1, if_neg w1]
    by_cases h2 : v.f0 = 2
    · have w2 : w.f0 = 2 := by omega
      rw [if_pos h2, if_pos h2, if_pos w2, List.append_assoc, List.append_assoc]
      have pos : ∀ s : ByteArray, plainT s = true → ∀ x ∈ bytesOf s, 0 < x := fun s h x hx => by have := plain_range h x hx; omega
      unfold cmpS
      by_cases l1 : lessN (bytesOf v.f2) (bytesOf w.f2) = true
      · rw [if_pos l1]
        exact Or.inr (Or.inl ⟨rfl, ends_less _ _ r s (pos _ pw) l1⟩)
      · rw [if_neg l1]
        by_cases l2 : lessN (bytesOf w.f2) (bytesOf v.f2) = true
        · rw [if_pos l2]
          exact Or.inr (Or.inr ⟨rfl, ends_less _ _ s r (pos _ pv) l2⟩)
        · rw [if_neg l2]
          refine Or.inl ⟨rfl, s38_eq hk.2 (by rw [bv (by omega), bw (by omega)]) ?_ (by rw [dv (by omega), dw (by omega)])⟩
          rw [toList_data, toList_data]
          exact bytesOf_inj (lessN_total _ _ (by simpa using l1) (by simpa using l2))
    · have w2 : ¬ w.f0 = 2 := by omega
      have h3 : v.f0 = 3 := by omega
      have w3 : w.f0 = 3 := by omega
      rw [if_neg h2, if_neg h2, if_neg w2, if_pos h3, if_pos h3, if_pos w3]
      have eq := fun h => s38_eq (v := v) (w := w) hk.2 (by rw [bv (by omega), bw (by omega)]) (by rw [cv (by omega), cw (by omega)]) h
      cases e1 : v.f3 <;> cases e2 : w.f3
      · exact Or.inl ⟨rfl, eq (by rw [e1, e2])⟩
      · exact Or.inr (Or.inl ⟨rfl, rfl⟩)
      · exact Or.inr (Or.inr ⟨rfl, rfl⟩)
      · exact Or.inl ⟨rfl, eq (by rw [e1, e2])⟩
def cmpL : List S38 → List S38 → Int
  | v :: vs, w :: ws => if cmpV v w = 0 then cmpL vs ws else cmpV v w
  | _, _ => 0
theorem cmp_loop (P Q : List S38) (hl : P.length = Q.length) (hb : P.length < 9223372036854775807) : ∀ (ps qs : List S38) (j : Nat), P.drop j = ps → Q.drop j = qs → ps.length = qs.length → (∀ (i : Nat) (v w : S38), ps[i]? = some v → qs[i]? = some w → v.f0 = w.f0) → Ev (fun k => api_Value_of_Compare.l0 k P Q P (P.length : Int) (j : Int)) (cmpL ps qs)
  | [], qs, j, hp, hq, he, hk => by
    have := drop_nil hp
    refine ev_step (fun _ => api_Value_of_Compare.l0.eq_2 ..) ?_
    simp only [show ¬ ((j : Int) < (P.length : Int)) by omega, if_false, show ¬ ((P.length : Int) < (Q.length : Int)) by omega]
    cases qs with
    | nil => exact ev_some _
    | cons _ _ => cases he
  | p :: ps, [], j, hp, hq, he, hk => by cases he
  | p :: ps, q :: qs, j, hp, hq, he, hk => by
    obtain ⟨p1, p2, p3⟩ := drop_cons hp
    obtain ⟨q1, q2, q3⟩ := drop_cons hq
    refine ev_step (fun _ => api_Value_of_Compare.l0.eq_2 ..) ?_
    simp only [show (j : Int) < (P.length : Int) by omega, show (0 ≤ (j : Int)) by omega, show ¬ ((j : Int) ≥ (Q.length : Int)) by omega, show (j : Int) < (Q.length : Int) by omega, if_true, if_false, rd38_at p1, rd38_at q1, cmpV_eq p q (hk 0 p q rfl rfl), Option.bind_some, wrap_succ (j := j) (by omega), cmpL]
    by_cases h : cmpV p q = 0
    · simp only [h, if_true]
      exact cmp_loop P Q hl hb ps qs (j + 1) p3 q3 (by simpa using he) (fun i v w hv hw => hk (i + 1) v w hv hw)
    · simp only [h, if_false]; exact ev_some _
theorem cmp_ev (P Q : List S38) (hl : P.length = Q.length) (hb : P.length < 9223372036854775807) (hk : ∀ (i : Nat) (v w : S38), P[i]? = some v → Q[i]? = some w → v.f0 = w.f0) : Ev (fun k => order_Compare.f k P Q) (cmpL P Q) :=
  ev_bind (cmp_loop P Q hl hb P Q 0 rfl rfl hl hk) (ev_some _)
theorem keys_cmp : ∀ (cs : List S36) (vs ws : List S38), (∀ v ∈ vs, OKv v) → (∀ w ∈ ws, OKv w) → vs.length = cs.length → ws.length = cs.length → chkL cs vs = none → chkL cs ws = none →
    (keyVals cs vs).length = (keyVals cs ws).length ∧ (∀ (i : Nat) (v w : S38), (keyVals cs vs)[i]? = some v → (keyVals cs ws)[i]? = some w → v.f0 = w.f0) ∧
    (cmpL (keyVals cs vs) (keyVals cs ws) = 0 ∧ kencL (keyVals cs vs) = kencL (keyVals cs ws) ∨ cmpL (keyVals cs vs) (keyVals cs ws) = -1 ∧ lessN (kencL (keyVals cs vs)) (kencL (keyVals cs ws)) = true ∨ cmpL (keyVals cs vs) (keyVals cs ws) = 1 ∧ lessN (kencL (keyVals cs ws)) (kencL (keyVals cs vs)) = true)
  | [], [], [], _, _, _, _, _, _ => ⟨rfl, fun i v w h => (by simp [keyVals] at h), Or.inl ⟨rfl, rfl⟩⟩
  | [], _ :: _, _, _, _, h, _, _, _ => by cases h
  | [], [], _ :: _, _, _, _, h, _, _ => by cases h
  | c :: cs, [], _, _, _, h, _, _, _ => by cases h
  | c :: cs, _ :: _, [], _, _, _, h, _, _ => by cases h
  | c :: cs, v :: vs, w :: ws, ov, ow, h1, h2, h3, h4 => by
    simp only [chkL] at h3 h4
    cases e1 : fitErr c v with
    | some e => rw [e1] at h3; cases h3
    | none =>
      cases e2 : fitErr c w with
      | some e => rw [e2] at h4; cases h4
      | none =>
        rw [e1] at h3; rw [e2] at h4
        obtain ⟨il, ik, ih⟩ := keys_cmp cs vs ws (fun z hz => ov z (List.mem_cons_of_mem _ hz)) (fun z hz => ow z (List.mem_cons_of_mem _ hz)) (by simpa using h1) (by simpa using h2) h3 h4
        simp only [keyVals]
        by_cases hc : c.f2 = true
        · rw [if_pos hc, if_pos hc]
          obtain ⟨hk, hcmp⟩ := kenc_cmp (ov v List.mem_cons_self) (ow w List.mem_cons_self) hc e1 e2 (kencL (keyVals cs vs)) (kencL (keyVals cs ws))
          refine ⟨by simp only [List.length_cons, il], fun i a b ha hb => ?_, ?_⟩
          · cases i with
            | zero => simp only [List.getElem?_cons_zero, Option.some.injEq] at ha hb; rw [← ha, ← hb]; exact hk
            | succ i => simp only [List.getElem?_cons_succ] at ha hb; exact ik i a b ha hb
          · simp only [cmpL, kencL]
            rcases hcmp with ⟨h0, rfl⟩ | ⟨h0, hl⟩ | ⟨h0, hl⟩
            · rw [if_pos h0, lessN_pre, lessN_pre]
              exact ih.imp (fun h => ⟨h.1, by rw [h.2]⟩) id
            · rw [if_neg (by omega)]
              exact Or.inr (Or.inl ⟨h0, hl⟩)
            · rw [if_neg (by omega)]
              exact Or.inr (Or.inr ⟨h0, hl⟩)
        · rw [if_neg hc, if_neg hc]; exact ⟨il, ik, ih⟩

/-! ### the law -/
theorem back_loop (C : List S36) (V W : List S38) (x11 x13 : ByteArray) (n : ByteArray) (hvl : V.length = C.length) (hwl : W.length = C.length) (hb : C.length < 1099511627776)
    (hend : Ev (fun k => barbicanlaw14_RowBack.l0 k V W x11 x13 (keyVals C V) (keyVals C W) (C.length : Int) n C) true) :
    ∀ (cs : List S36) (vs ws p q : List S38) (j : Nat), C.drop j = cs → V.drop j = vs → W.drop j = ws → vs.length = cs.length → ws.length = cs.length → p ++ keyVals cs vs = keyVals C V → q ++ keyVals cs ws = keyVals C W → p.length ≤ j → q.length ≤ j → Ev (fun k => barbicanlaw14_RowBack.l0 k V W x11 x13 p q (j : Int) n C) true
  | [], vs, ws, p, q, j, hc, hv, hw, h1, h2, hp, hq, hp1, hq1 => by
    have h3 := drop_nil hc
    have e1 : vs = [] := by cases vs with | nil => rfl | cons _ _ => cases h1
    have e2 : ws = [] := by cases ws with | nil => rfl | cons _ _ => cases h2
    subst e1 e2
    simp only [keyVals, List.append_nil] at hp hq
    subst hp hq
    have hs : Ev (fun k => barbicanlaw14_RowBack.l0 (k + 1) V W x11 x13 (keyVals C V) (keyVals C W) (C.length : Int) n C) true := by
      obtain ⟨K, hK⟩ := hend
      exact ⟨K, fun k hk => hK (k + 1) (by omega)⟩
    refine ev_step (fun _ => barbicanlaw14_RowBack.l0.eq_2 ..) ?_
    simp only [barbicanlaw14_RowBack.l0.eq_2, Int.lt_irrefl, if_false] at hs
    simp only [show ¬ ((j : Int) < (C.length : Int)) by omega, if_false]
    exact hs
  | c :: cs, [], _, p, q, j, hc, hv, hw, h1, h2, hp, hq, hp1, hq1 => by cases h1
  | c :: cs, _ :: _, [], p, q, j, hc, hv, hw, h1, h2, hp, hq, hp1, hq1 => by cases h2
  | c :: cs, v :: vs, w :: ws, p, q, j, hc, hv, hw, h1, h2, hp, hq, hp1, hq1 => by
    obtain ⟨c1, c2, c3⟩ := drop_cons hc
    obtain ⟨v1, v2, v3⟩ := drop_cons hv
    obtain ⟨w1, w2, w3⟩ := drop_cons hw
    refine ev_step (fun _ => barbicanlaw14_RowBack.l0.eq_2 ..) ?_
    simp only [show ((j : Int) < (C.length : Int)) by omega, show ((j : Int) < (V.length : Int)) by omega, show ((j : Int) < (W.length : Int)) by omega, show (0 ≤ (j : Int)) by omega, if_true, rd36_at c1, rd38_at v1, rd38_at w1, wrap_succ (j := j) (by omega), show p.length < 3518437208883 by omega, show q.length < 3518437208883 by omega]
    simp only [keyVals] at hp hq
    by_cases hc2 : c.f2 = true
    · simp only [hc2, if_true] at hp hq ⊢
      refine back_loop C V W x11 x13 n hvl hwl hb hend cs vs ws (p ++ [v]) (q ++ [w]) (j + 1) c3 v3 w3 (by simpa using h1) (by simpa using h2) ?_ ?_ ?_ ?_
      · rw [List.append_assoc]; exact hp
      · rw [List.append_assoc]; exact hq
      · simp only [List.length_append, List.length_cons, List.length_nil]; omega
      · simp only [List.length_append, List.length_cons, List.length_nil]; omega
    · simp only [hc2] at hp hq ⊢
      exact back_loop C V W x11 x13 n hvl hwl hb hend cs vs ws p q (j + 1) c3 v3 w3 (by simpa using h1) (by simpa using h2) hp hq (by omega) (by omega)
theorem barbicanlaw14_RowBack_pure : barbicanlaw14_RowBack_Pure := by
  intro n C V W hn hC hV hW ht
  have hcl := rb_cols_of (C := C)
  obtain ⟨oV, lV, bV⟩ := rb_ok_of hV (by omega)
  obtain ⟨oW, lW, bW⟩ := rb_ok_of hW (by omega)
  refine ev_exists (g := fun k => barbicanlaw14_RowBack.f k n C V W) ?_
  unfold barbicanlaw14_RowBack.f
  rw [twin_eq (by omega)]
  simp only [Option.bind_some]
  refine ev_bind (encode_ev n C V (by omega) oV (by omega) (by omega)) ?_
  unfold encR
  cases hcV : chk C V with
  | some e =>
    simp only [Option.isNone_some, Bool.false_eq_true, if_false]
    exact ev_if_pos (by rfl) (ev_bind sure_ev (ev_some _))
  | none =>
    simp only [Option.isNone_none, if_true]
    refine ev_bind (decode_ev n C V (by omega) hcV (by omega) oV) ?_
    simp only [Option.isNone_none, if_true]
    obtain ⟨t, ht1, ht2⟩ := values_ev V V (by omega)
    refine ev_bind ht2 ?_
    have htt : t = true := ht1.2 rfl
    subst htt
    refine ev_step (fun _ => barbicanlaw14_RowBack.j0.eq_2 ..) ?_
    simp only [Bool.not_true, Bool.false_eq_true, if_false]
    rw [twin_eq (by omega), twin_eq (by omega)]
    simp only [Option.bind_some]
    refine ev_bind (key_ev n C V (by omega) oV (by omega) (by omega)) ?_
    refine ev_bind (key_ev n C W (by omega) oW (by omega) (by omega)) ?_
    have hsure : ∀ x11 x13, Ev (fun k => barbicanlaw14_RowBack.j1 k V W x11 x13 true n C) true := fun x11 x13 => by
      refine ev_step (fun _ => barbicanlaw14_RowBack.j1.eq_2 ..) ?_
      simp only [if_true]
      exact ev_bind sure_ev (ev_some _)
    by_cases h3 : (keyR C V).2.isNone = true
    rotate_left
    · exact ev_if_neg h3 (hsure _ _)
    refine ev_if_pos h3 ?_
    by_cases h4 : (keyR C W).2.isNone = true
    rotate_left
    · exact ev_if_neg h4 (hsure _ _)
    refine ev_if_pos h4 ?_
    have hcW : chk C W = none := by
      unfold keyR at h4
      cases h : chk C W with
      | none => rfl
      | some e => rw [h] at h4; simp at h4
    have part : ∀ X, chk C X = none → X.length = C.length ∧ chkL C X = none := by
      intro X h
      unfold chk at h
      by_cases hl : X.length = C.length
      · rw [if_pos hl] at h; exact ⟨hl, h⟩
      · rw [if_neg hl] at h; cases h
    obtain ⟨lv, kv⟩ := part V hcV
    obtain ⟨lw, kw⟩ := part W hcW
    have keyOf : ∀ X, chk C X = none → (keyR C X).2.isNone = true → (keyR C X).1 = strOfNums (kencL (keyVals C X)) := by
      intro X hx h
      unfold keyR at h ⊢
      rw [hx] at h ⊢
      simp only [ordR] at h ⊢
      split at h
      · simp at h
      · split at h
        · simp at h
        · rename_i hv hl
          simp only [hv, if_neg hl]
    rw [keyOf V hcV h3, keyOf W hcW h4]
    refine ev_step (fun _ => barbicanlaw14_RowBack.j1.eq_2 ..) ?_
    simp only [Bool.false_eq_true, if_false]
    refine back_loop C V W _ _ n lv lw (by omega) ?_ C V W [] [] 0 rfl rfl rfl lv lw rfl rfl (Nat.le_refl _) (Nat.le_refl _)
    refine ev_step (fun _ => barbicanlaw14_RowBack.l0.eq_2 ..) ?_
    simp only [Int.lt_irrefl, if_false]
    rw [less_str (kencL_range _) (kencL_range _), less_str (kencL_range _) (kencL_range _)]
    obtain ⟨kl, kk, kc⟩ := keys_cmp C V W oV oW lv lw kv kw
    have kb := keyVals_bulk C V
    have hcmp := cmp_ev (keyVals C V) (keyVals C W) kl (by omega) kk
    have hgo : ∀ c : Int, c = cmpL (keyVals C V) (keyVals C W) → Ev (fun k => (order_Compare.f k (keyVals C V) (keyVals C W)).bind fun t => if c = t then (barbicanlaw14_sure.f k).bind fun t => some t else some false) true := by
      intro c hc
      refine ev_bind hcmp ?_
      exact ev_if_pos hc (ev_bind sure_ev (ev_some _))
    by_cases l1 : lessN (kencL (keyVals C V)) (kencL (keyVals C W)) = true
    · refine ev_if_pos l1 (hgo _ ?_)
      rcases kc with ⟨_, h⟩ | ⟨h, _⟩ | ⟨_, h⟩
      · rw [h, lessN_irr] at l1; cases l1
      · exact h.symm
      · rw [lessN_asym _ _ h] at l1; cases l1
    · refine ev_if_neg l1 ?_
      by_cases l2 : lessN (kencL (keyVals C W)) (kencL (keyVals C V)) = true
      · refine ev_if_pos l2 (hgo _ ?_)
        rcases kc with ⟨_, h⟩ | ⟨_, h⟩ | ⟨h, _⟩
        · rw [h, lessN_irr] at l2; cases l2
        · exact absurd h l1
        · exact h.symm
      · refine ev_if_neg l2 (hgo _ ?_)
        rcases kc with ⟨h, _⟩ | ⟨_, h⟩ | ⟨_, h⟩
        · exact h.symm
        · exact absurd h l1
        · exact absurd h l2
end Go.Proofs.YtljadejgdbemoaaDoor.R
