/- Rows and keys tell values apart; the laws' own small functions. -/
import Derived.Test.YtljadejgdbemoaaDoorPaXRowK
import Derived.Test.YtljadejgdbemoaaDoorPaRx6
set_option linter.unusedVariables false
set_option linter.unusedSimpArgs false
namespace Go.Proofs.YtljadejgdbemoaaDoor.R
open Go.RowKit Go.Proofs.YtljadejgdbemoaaDoorW.PrintWords Go.Proofs.YtljadejgdbemoaaDoorW.PrintLast Go.Proofs.YtljadejgdbemoaaDoorX

theorem ba_eq {a b : ByteArray} (h : a.toList = b.toList) : a = b := by
  rw [toList_data, toList_data] at h
  cases a; cases b
  congr 1
  exact Array.ext' h
theorem nums_inj : ∀ (xs ys : List Int), (∀ x ∈ xs, 0 ≤ x ∧ x ≤ 255) → (∀ y ∈ ys, 0 ≤ y ∧ y ≤ 255) → xs.map (fun n => UInt8.ofNat n.toNat) = ys.map (fun n => UInt8.ofNat n.toNat) → xs = ys
  | [], [], _, _, _ => rfl
  | [], _ :: _, _, _, h => by cases h
  | _ :: _, [], _, _, h => by cases h
  | x :: xs, y :: ys, hx, hy, h => by
    simp only [List.map_cons, List.cons.injEq] at h
    have a := hx x List.mem_cons_self
    have b := hy y List.mem_cons_self
    have hxy : x = y := by
      have h1 := congrArg UInt8.toNat h.1
      simp only [UInt8.toNat_ofNat'] at h1
      omega
    rw [hxy, nums_inj xs ys (fun z hz => hx z (List.mem_cons_of_mem _ hz)) (fun z hz => hy z (List.mem_cons_of_mem _ hz)) h.2]
theorem strOfNums_toList (xs : List Int) : (strOfNums xs).toList = xs.map (fun n => UInt8.ofNat n.toNat) := by
  rw [toList_data]; unfold strOfNums; simp
theorem strOfNums_inj {xs ys : List Int} (hx : ∀ x ∈ xs, 0 ≤ x ∧ x ≤ 255) (hy : ∀ y ∈ ys, 0 ≤ y ∧ y ≤ 255) (h : (strOfNums xs).toList = (strOfNums ys).toList) : xs = ys := by
  rw [strOfNums_toList, strOfNums_toList] at h
  exact nums_inj xs ys hx hy h

theorem vErr_none {a b : Int} {s : ByteArray} {t : Bool} (h : vErr a b s t = none) : (a = 0 ∨ a = 1 ∨ a = 2 ∨ a = 3) ∧ (a ≠ 1 → b = 0) ∧ (a ≠ 2 → s.toList = []) ∧ (a ≠ 3 → t = false) ∧ s.size ≤ 4096 ∧ plainT s = true := by
  unfold vErr at h
  split at h
  · cases h
  · rename_i h1
    split at h
    · cases h
    · rename_i h2
      split at h
      · cases h
      · rename_i h3
        refine ⟨Classical.byContradiction fun hn => h1 (Or.inl hn), fun hn => Classical.byContradiction fun hb => h1 (Or.inr (Or.inl ⟨hn, hb⟩)), fun hn => Classical.byContradiction fun hb => h1 (Or.inr (Or.inr (Or.inl ⟨hn, hb⟩))), fun hn => ?_, by omega, by simpa using h3⟩
        rw [← Bool.not_eq_true]
        exact fun hb => h1 (Or.inr (Or.inr (Or.inr ⟨hn, hb⟩)))
theorem fit_none {c : S36} {v : S38} (h : fitErr c v = none) : vErr v.f0 v.f1 v.f2 v.f3 = none ∧ (v.f0 = 0 ∧ c.f2 = false ∧ c.f3 = true ∨ v.f0 ≠ 0 ∧ v.f0 = c.f1) := by
  unfold fitErr at h
  split at h
  · cases h
  · rename_i h1
    refine ⟨h1, ?_⟩
    split at h
    · rename_i h2
      split at h
      · cases h
      · rename_i h3
        split at h
        · rename_i h4
          exact Or.inl ⟨h2, by simpa using h3, h4⟩
        · cases h
    · rename_i h2
      split at h
      · rename_i h3; exact Or.inr ⟨h2, h3⟩
      · cases h
theorem s38_eq {v w : S38} (h0 : v.f0 = w.f0) (h1 : v.f1 = w.f1) (h2 : v.f2.toList = w.f2.toList) (h3 : v.f3 = w.f3) : v = w := by
  cases v; cases w
  simp only at h0 h1 h2 h3
  rw [h0, h1, ba_eq h2, h3]
theorem encV_inj {c : S36} {v w : S38} {r s : List Int} (hv : fitErr c v = none) (hw : fitErr c w = none) (h : encV v ++ r = encV w ++ s) : v = w ∧ r = s := by
  obtain ⟨ev, kv⟩ := fit_none hv
  obtain ⟨ew, kw⟩ := fit_none hw
  obtain ⟨av, bv, cv, dv, _, _⟩ := vErr_none ev
  obtain ⟨aw, bw, cw, dw, _, _⟩ := vErr_none ew
  unfold encV at h
  by_cases v0 : v.f0 = 0
  · by_cases w0 : w.f0 = 0
    · simp only [v0, w0, if_true, List.cons_append, List.nil_append, List.cons.injEq, true_and] at h
      refine ⟨s38_eq (by omega) ?_ ?_ ?_, h⟩
      · rw [bv (by omega), bw (by omega)]
      · rw [cv (by omega), cw (by omega)]
      · rw [dv (by omega), dw (by omega)]
    · simp only [v0, w0, if_true, if_false, List.cons_append, List.nil_append, List.cons.injEq] at h
      have := h.1; omega
  · by_cases w0 : w.f0 = 0
    · simp only [v0, w0, if_true, if_false, List.cons_append, List.nil_append, List.cons.injEq] at h
      have := h.1; omega
    · have hk : v.f0 = w.f0 := by
        rcases kv with kv | kv
        · exact absurd kv.1 v0
        · rcases kw with kw | kw
          · exact absurd kw.1 w0
          · rw [kv.2, kw.2]
      simp only [v0, w0, if_false, List.cons_append, List.cons.injEq, true_and] at h
      by_cases h1 : v.f0 = 1
      · have w1 : w.f0 = 1 := by omega
        rw [if_pos h1, if_pos w1] at h
        obtain ⟨hz, hr⟩ := uvar_inj _ _ _ _ h
        exact ⟨s38_eq hk (zz_inj hz) (by rw [cv (by omega), cw (by omega)]) (by rw [dv (by omega), dw (by omega)]), hr⟩
      · have w1 : ¬ w.f0 = 1 := by omega
        rw [if_neg h1, if_neg w1] at h
        by_cases h2 : v.f0 = 2
        · have w2 : w.f0 = 2 := by omega
          rw [if_pos h2, if_pos w2, List.append_assoc, List.append_assoc] at h
          obtain ⟨hz, hr⟩ := uvar_inj _ _ _ _ h
          have hb := List.append_inj hr (by rw [bytesOf_length, bytesOf_length]; exact hz)
          refine ⟨s38_eq hk (by rw [bv (by omega), bw (by omega)]) ?_ (by rw [dv (by omega), dw (by omega)]), hb.2⟩
          rw [toList_data, toList_data]
          exact bytesOf_inj hb.1
        · have w2 : ¬ w.f0 = 2 := by omega
          rw [if_neg h2, if_neg w2] at h
          have hb : v.f3 = w.f3 ∧ r = s := by
            cases e1 : v.f3 <;> cases e2 : w.f3 <;> simp [e1, e2] at h <;> simp [h]
          exact ⟨s38_eq hk (by rw [bv (by omega), bw (by omega)]) (by rw [cv (by omega), cw (by omega)]) hb.1, hb.2⟩
theorem encL_inj : ∀ (cs : List S36) (vs ws : List S38), vs.length = cs.length → ws.length = cs.length → chkL cs vs = none → chkL cs ws = none → encL vs = encL ws → vs = ws
  | [], [], [], _, _, _, _, _ => rfl
  | [], _ :: _, _, h, _, _, _, _ => by cases h
  | [], [], _ :: _, _, h, _, _, _ => by cases h
  | c :: cs, [], _, h, _, _, _, _ => by cases h
  | c :: cs, _ :: _, [], _, h, _, _, _ => by cases h
  | c :: cs, v :: vs, w :: ws, h1, h2, h3, h4, h => by
    simp only [chkL] at h3 h4
    cases e1 : fitErr c v with
    | some e => rw [e1] at h3; cases h3
    | none =>
      cases e2 : fitErr c w with
      | some e => rw [e2] at h4; cases h4
      | none =>
        rw [e1] at h3; rw [e2] at h4
        obtain ⟨rfl, hr⟩ := encV_inj e1 e2 h
        rw [encL_inj cs vs ws (by simpa using h1) (by simpa using h2) h3 h4 hr]
theorem encV_range {v : S38} : ∀ b ∈ encV v, 0 ≤ b ∧ b ≤ 255 := by
  intro b hb
  unfold encV at hb
  split at hb
  · simp only [List.mem_cons, List.mem_nil_iff, or_false] at hb; omega
  · rcases List.mem_cons.1 hb with rfl | hb
    · omega
    · split at hb
      · exact uvar_range _ b hb
      · split at hb
        · rcases List.mem_append.1 hb with hb | hb
          · exact uvar_range _ b hb
          · exact bytesOf_range _ b hb
        · split at hb <;> (simp only [List.mem_cons, List.mem_nil_iff, or_false] at hb; omega)
theorem encL_range : ∀ (vs : List S38), ∀ b ∈ encL vs, 0 ≤ b ∧ b ≤ 255
  | [], b, hb => by cases hb
  | v :: vs, b, hb => by
    rcases List.mem_append.1 hb with hb | hb
    · exact encV_range b hb
    · exact encL_range vs b hb

/-! ### keys -/
theorem zero_ends : ∀ (xs ys r s : List Int), (∀ x ∈ xs, x ≠ 0) → (∀ y ∈ ys, y ≠ 0) → xs ++ 0 :: r = ys ++ 0 :: s → xs = ys ∧ r = s
  | [], [], r, s, _, _, h => by simpa using h
  | [], y :: ys, r, s, _, hy, h => by
    simp only [List.nil_append, List.cons_append, List.cons.injEq] at h
    exact absurd h.1.symm (hy y List.mem_cons_self)
  | x :: xs, [], r, s, hx, _, h => by
    simp only [List.nil_append, List.cons_append, List.cons.injEq] at h
    exact absurd h.1 (hx x List.mem_cons_self)
  | x :: xs, y :: ys, r, s, hx, hy, h => by
    simp only [List.cons_append, List.cons.injEq] at h
    obtain ⟨rfl, h⟩ := h
    obtain ⟨rfl, hr⟩ := zero_ends xs ys r s (fun z hz => hx z (List.mem_cons_of_mem _ hz)) (fun z hz => hy z (List.mem_cons_of_mem _ hz)) h
    exact ⟨rfl, hr⟩
theorem plain_ne {s : ByteArray} (h : plainT s = true) : ∀ x ∈ bytesOf s, x ≠ 0 := fun x hx => by have := plain_range h x hx; omega
theorem kenc_inj {c : S36} {v w : S38} {r s : List Int} (ov : OKv v) (ow : OKv w) (hc : c.f2 = true) (hv : fitErr c v = none) (hw : fitErr c w = none) (h : kenc v ++ r = kenc w ++ s) : v = w ∧ r = s := by
  obtain ⟨ev, kv⟩ := fit_none hv
  obtain ⟨ew, kw⟩ := fit_none hw
  obtain ⟨av, bv, cv, dv, _, pv⟩ := vErr_none ev
  obtain ⟨aw, bw, cw, dw, _, pw⟩ := vErr_none ew
  have hk : v.f0 ≠ 0 ∧ v.f0 = w.f0 := by
    rcases kv with kv | kv
    · rw [hc] at kv; cases kv.2.1
    · rcases kw with kw | kw
      · rw [hc] at kw; cases kw.2.1
      · exact ⟨kv.1, by rw [kv.2, kw.2]⟩
  unfold kenc at h
  rw [List.cons_append, List.cons_append, List.cons.injEq] at h
  obtain ⟨_, h⟩ := h
  by_cases h1 : v.f0 = 1
  · have w1 : w.f0 = 1 := by omega
    rw [if_pos h1, if_pos w1] at h
    obtain ⟨hb, hr⟩ := List.append_inj h (by rw [be_length, be_length])
    have e : (256 : Int) ^ 8 = 18446744073709551616 := by decide
    have := be_inj 8 _ _ (by have := ov.1; omega) (by have := ov.1; omega) (by have := ow.1; omega) (by have := ow.1; omega) hb
    exact ⟨s38_eq hk.2 (by omega) (by rw [cv (by omega), cw (by omega)]) (by rw [dv (by omega), dw (by omega)]), hr⟩
  · have w1 : ¬ w.f0 = 1 := by omega
    rw [if_neg h1, if_neg w1] at h
    by_cases h2 : v.f0 = 2
    · have w2 : w.f0 = 2 := by omega
      rw [if_pos h2, if_pos w2, List.append_assoc, List.append_assoc] at h
      obtain ⟨hb, hr⟩ := zero_ends _ _ r s (plain_ne pv) (plain_ne pw) h
      refine ⟨s38_eq hk.2 (by rw [bv (by omega), bw (by omega)]) ?_ (by rw [dv (by omega), dw (by omega)]), hr⟩
      rw [toList_data, toList_data]
      exact bytesOf_inj hb
    · have w2 : ¬ w.f0 = 2 := by omega
      have h3 : v.f0 = 3 := by omega
      have w3 : w.f0 = 3 := by omega
      rw [if_neg h2, if_neg w2, if_pos h3, if_pos w3] at h
      have hb : v.f3 = w.f3 ∧ r = s := by
        cases e1 : v.f3 <;> cases e2 : w.f3 <;> simp [e1, e2] at h <;> simp [h]
      exact ⟨s38_eq hk.2 (by rw [bv (by omega), bw (by omega)]) (by rw [cv (by omega), cw (by omega)]) hb.1, hb.2⟩
theorem kencL_inj : ∀ (cs : List S36) (vs ws : List S38), (∀ v ∈ vs, OKv v) → (∀ w ∈ ws, OKv w) → vs.length = cs.length → ws.length = cs.length → chkL cs vs = none → chkL cs ws = none → kencL (keyVals cs vs) = kencL (keyVals cs ws) → keyVals cs vs = keyVals cs ws
  | [], [], [], _, _, _, _, _, _, _ => rfl
  | [], _ :: _, _, _, _, h, _, _, _, _ => by cases h
  | [], [], _ :: _, _, _, _, h, _, _, _ => by cases h
  | c :: cs, [], _, _, _, h, _, _, _, _ => by cases h
  | c :: cs, _ :: _, [], _, _, _, h, _, _, _ => by cases h
  | c :: cs, v :: vs, w :: ws, ov, ow, h1, h2, h3, h4, h => by
    simp only [chkL] at h3 h4
    cases e1 : fitErr c v with
    | some e => rw [e1] at h3; cases h3
    | none =>
      cases e2 : fitErr c w with
      | some e => rw [e2] at h4; cases h4
      | none =>
        rw [e1] at h3; rw [e2] at h4
        have ih := kencL_inj cs vs ws (fun z hz => ov z (List.mem_cons_of_mem _ hz)) (fun z hz => ow z (List.mem_cons_of_mem _ hz)) (by simpa using h1) (by simpa using h2) h3 h4
        simp only [keyVals] at h ⊢
        by_cases hc : c.f2 = true
        · rw [if_pos hc, if_pos hc] at h ⊢
          obtain ⟨rfl, hr⟩ := kenc_inj (ov v List.mem_cons_self) (ow w List.mem_cons_self) hc e1 e2 h
          rw [ih hr]
        · rw [if_neg hc, if_neg hc] at h ⊢
          exact ih h

/-! ### the laws' own functions -/
theorem twin_eq {l : List S38} (h : l.length < 3518437208883) : barbicanlaw14_twin.f l = some l := by
  unfold barbicanlaw14_twin.f
  rw [if_pos (by simpa using h), List.nil_append]
theorem sure_ev : Ev (fun k => barbicanlaw14_sure.f k) true := by
  refine Ev.of (fun k => barbicanlaw14_sure.mono k) (k := 12) ?_
  kernel_rfl
theorem same_iff (v w : S38) : (!(v.f0 == w.f0) || (!(v.f1 == w.f1) || (!(v.f2.toList == w.f2.toList) || (!(v.f3 == w.f3))))) = true ↔ v ≠ w := by
  simp only [Bool.or_eq_true, Bool.not_eq_true', beq_eq_false_iff_ne, ne_eq]
  constructor
  · rintro h rfl
    simp at h
  · intro h
    refine Classical.byContradiction fun hn => h ?_
    simp only [not_or, Classical.not_not] at hn
    exact s38_eq hn.1 hn.2.1 hn.2.2.1 hn.2.2.2
theorem values_loop (V W : List S38) (hl : V.length = W.length) (hb : V.length < 9223372036854775807) : ∀ (vs ws : List S38) (j : Nat), V.drop j = vs → W.drop j = ws → vs.length = ws.length → ∃ b, (b = true ↔ vs = ws) ∧ Ev (fun k => barbicanlaw14_values.l0 k V W (j : Int)) b
  | [], ws, j, hv, hw, he => by
    have := drop_nil hv
    refine ⟨true, ?_, ev_step (fun _ => barbicanlaw14_values.l0.eq_2 ..) ?_⟩
    · cases ws with
      | nil => simp
      | cons _ _ => cases he
    · simp only [show ¬ ((j : Int) < (V.length : Int)) by omega, if_false]; exact ev_some _
  | v :: vs, [], j, hv, hw, he => by cases he
  | v :: vs, w :: ws, j, hv, hw, he => by
    obtain ⟨v1, v2, v3⟩ := drop_cons hv
    obtain ⟨w1, w2, w3⟩ := drop_cons hw
    by_cases hs : v = w
    · obtain ⟨b, hb1, hb2⟩ := values_loop V W hl hb vs ws (j + 1) v3 w3 (by simpa using he)
      refine ⟨b, ?_, ev_step (fun _ => barbicanlaw14_values.l0.eq_2 ..) ?_⟩
      · rw [hb1, hs]; simp
      · have hn : ¬ ((!(v.f0 == w.f0) || (!(v.f1 == w.f1) || (!(v.f2.toList == w.f2.toList) || (!(v.f3 == w.f3))))) = true) := fun h => (same_iff v w).1 h hs
        simp only [show ((j : Int) < (V.length : Int)) by omega, show ((j : Int) < (W.length : Int)) by omega, show (0 ≤ (j : Int)) by omega, if_true, rd38_at v1, rd38_at w1, wrap_succ (j := j) (by omega), if_neg hn]
        exact hb2
    · refine ⟨false, ?_, ev_step (fun _ => barbicanlaw14_values.l0.eq_2 ..) ?_⟩
      · simp [hs]
      · simp only [show ((j : Int) < (V.length : Int)) by omega, show ((j : Int) < (W.length : Int)) by omega, show (0 ≤ (j : Int)) by omega, if_true, rd38_at v1, rd38_at w1, if_pos ((same_iff v w).2 hs)]
        exact ev_some _
theorem values_ev (V W : List S38) (hb : V.length < 9223372036854775807) : ∃ b, (b = true ↔ V = W) ∧ Ev (fun k => barbicanlaw14_values.f k V W) b := by
  unfold barbicanlaw14_values.f
  by_cases h : V.length = W.length
  · obtain ⟨b, h1, h2⟩ := values_loop V W h hb V W 0 rfl rfl h
    refine ⟨b, h1, ?_⟩
    simp only [show (V.length : Int) = (W.length : Int) by omega, if_true]
    exact h2
  · refine ⟨false, ?_, ?_⟩
    · constructor
      · intro h2; cases h2
      · rintro rfl; exact absurd rfl h
    · simp only [show ¬ (V.length : Int) = (W.length : Int) by omega, if_false]; exact ev_some _
end Go.Proofs.YtljadejgdbemoaaDoor.R
