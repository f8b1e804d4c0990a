/- The law RowApart, told plainly: unlike rows have unlike bytes and keys. -/
import Derived.Test.YtljadejgdbemoaaDoorPaSaidRowApart
import Derived.Test.YtljadejgdbemoaaDoorPaXRowV
set_option linter.unusedVariables false
set_option linter.unusedSimpArgs false
namespace Go.Proofs.YtljadejgdbemoaaDoor.R
open Go.RowKit Go.Proofs.YtljadejgdbemoaaDoorW.PrintWords Go.Proofs.YtljadejgdbemoaaDoorW.PrintLast Go.Proofs.YtljadejgdbemoaaDoorX

theorem ok_of {V : List S38} (hw : ∀ v ∈ V, W38 v) (ht : (V.map fun e_ => T38 e_).sum ≤ 1048576) : (∀ v ∈ V, OKv v) ∧ V.length ≤ 1048576 ∧ bulk V ≤ 12 * 1048576 := by
  have hs : ∀ (V : List S38), V.length ≤ (V.map fun e_ => T38 e_).sum ∧ bulk V ≤ 12 * (V.map fun e_ => T38 e_).sum ∧ ∀ v ∈ V, v.f2.size ≤ (V.map fun e_ => T38 e_).sum := by
    intro V
    induction V with
    | nil => simp [bulk]
    | cons v vs ih =>
      simp only [List.map_cons, List.sum_cons, List.length_cons, bulk, List.mem_cons]
      have : T38 v = 5 + v.f2.size := by unfold T38; omega
      refine ⟨by omega, by omega, ?_⟩
      rintro x (rfl | hx)
      · omega
      · have := ih.2.2 x hx; omega
  obtain ⟨h1, h2, h3⟩ := hs V
  exact ⟨fun v hv => ⟨wf_i64 (hw v hv).2.1, by have := h3 v hv; omega⟩, by omega, by omega⟩
theorem cols_of {C : List S36} : C.length ≤ (C.map fun e_ => T36 e_).sum := by
  induction C with
  | nil => simp
  | cons c cs ih =>
    simp only [List.map_cons, List.sum_cons, List.length_cons]
    have : T36 c = 5 + c.f0.size := by unfold T36; omega
    omega
/-- Do the values of the key's columns agree? -/
theorem apart_loop (C : List S36) (V W : List S38) (x7 x9 : List Int) (x11 x13 : ByteArray) (n : ByteArray) (hvl : V.length = C.length) (hwl : W.length = C.length) (hb : C.length < 9223372036854775807)
    (hend : ∀ b : Bool, (b = true ↔ keyVals C V = keyVals C W) → Ev (fun k => barbicanlaw14_RowApart.l0 k V W x7 x9 x11 x13 b (C.length : Int) n C) true) :
    ∀ (cs : List S36) (vs ws : List S38) (j : Nat) (b : Bool), C.drop j = cs → V.drop j = vs → W.drop j = ws → vs.length = cs.length → ws.length = cs.length → ((b = true ∧ keyVals cs vs = keyVals cs ws) ↔ keyVals C V = keyVals C W) → Ev (fun k => barbicanlaw14_RowApart.l0 k V W x7 x9 x11 x13 b (j : Int) n C) true
  | [], vs, ws, j, b, hc, hv, hw, h1, h2, hk => by
    have h3 := drop_nil hc
    have e1 : vs = [] := by cases vs with | nil => rfl | cons _ _ => cases h1
    have e2 : ws = [] := by cases ws with | nil => rfl | cons _ _ => cases h2
    subst e1 e2
    have he := hend b (by simpa [keyVals] using hk)
    refine ev_step (fun _ => barbicanlaw14_RowApart.l0.eq_2 ..) ?_
    have hs : Ev (fun k => barbicanlaw14_RowApart.l0 (k + 1) V W x7 x9 x11 x13 b (C.length : Int) n C) true := by
      obtain ⟨K, hK⟩ := he
      exact ⟨K, fun k hk => hK (k + 1) (by omega)⟩
    simp only [barbicanlaw14_RowApart.l0.eq_2, Int.lt_irrefl, if_false] at hs
    simp only [show ¬ ((j : Int) < (C.length : Int)) by omega, if_false]
    exact hs
  | c :: cs, [], _, j, b, hc, hv, hw, h1, h2, hk => by cases h1
  | c :: cs, _ :: _, [], j, b, hc, hv, hw, h1, h2, hk => by cases h2
  | c :: cs, v :: vs, w :: ws, j, b, hc, hv, hw, h1, h2, hk => by
    obtain ⟨c1, c2, c3⟩ := drop_cons hc
    obtain ⟨v1, v2, v3⟩ := drop_cons hv
    obtain ⟨w1, w2, w3⟩ := drop_cons hw
    refine ev_step (fun _ => barbicanlaw14_RowApart.l0.eq_2 ..) ?_
    simp only [show ((j : Int) < (C.length : Int)) by omega, show ((j : Int) < (V.length : Int)) by omega, show ((j : Int) < (W.length : Int)) by omega, show (0 ≤ (j : Int)) by omega, if_true, rd36_at c1, rd38_at v1, rd38_at w1, wrap_succ (j := j) (by omega)]
    have ih := fun b' => apart_loop C V W x7 x9 x11 x13 n hvl hwl hb hend cs vs ws (j + 1) b' c3 v3 w3 (by simpa using h1) (by simpa using h2)
    cases b with
    | false =>
      simp only [Bool.false_eq_true, if_false]
      exact ih false (by rw [← hk]; simp)
    | true =>
      simp only [if_true]
      simp only [keyVals] at hk
      by_cases hc2 : c.f2 = true
      · simp only [hc2, if_true] at hk ⊢
        refine ih _ ?_
        rw [← hk]
        simp only [true_and, List.cons.injEq, Bool.and_eq_true, beq_iff_eq]
        constructor
        · rintro ⟨⟨a0, a1, a2, a3⟩, h⟩; exact ⟨s38_eq a0 a1 a2 a3, h⟩
        · rintro ⟨rfl, h⟩; exact ⟨⟨rfl, rfl, rfl, rfl⟩, h⟩
      · simp only [hc2] at hk ⊢
        exact ih true (by rw [← hk]; simp)
theorem barbicanlaw14_RowApart_pure : barbicanlaw14_RowApart_Pure := by
  intro n C V W hn hC hV hW ht
  have hcl := cols_of (C := C)
  obtain ⟨oV, lV, bV⟩ := ok_of hV (by omega)
  obtain ⟨oW, lW, bW⟩ := ok_of hW (by omega)
  refine ev_exists (g := fun k => barbicanlaw14_RowApart.f k n C V W) ?_
  unfold barbicanlaw14_RowApart.f
  rw [twin_eq (by omega), twin_eq (by omega)]
  simp only [Option.bind_some]
  refine ev_bind (encode_ev n C V (by omega) oV (by omega) (by omega)) ?_
  refine ev_bind (encode_ev n C W (by omega) oW (by omega) (by omega)) ?_
  refine ev_bind (key_ev n C V (by omega) oV (by omega) (by omega)) ?_
  refine ev_bind (key_ev n C W (by omega) oW (by omega) (by omega)) ?_
  have hsure : ∀ x7 x9 x11 x13, Ev (fun k => barbicanlaw14_RowApart.j0 k V W x7 x9 x11 x13 true n C) true := fun x7 x9 x11 x13 => by
    refine ev_step (fun _ => barbicanlaw14_RowApart.j0.eq_2 ..) ?_
    simp only [if_true]
    exact ev_bind sure_ev (ev_some _)
  by_cases h1 : (encR C V).2.isNone = true
  rotate_left
  · exact ev_if_neg h1 (hsure _ _ _ _)
  refine ev_if_pos h1 ?_
  by_cases h2 : (encR C W).2.isNone = true
  rotate_left
  · exact ev_if_neg h2 (hsure _ _ _ _)
  refine ev_if_pos h2 ?_
  by_cases h3 : (keyR C V).2.isNone = true
  rotate_left
  · exact ev_if_neg h3 (hsure _ _ _ _)
  refine ev_if_pos h3 ?_
  by_cases h4 : (keyR C W).2.isNone = true
  rotate_left
  · exact ev_if_neg h4 (hsure _ _ _ _)
  refine ev_if_pos h4 ?_
  -- all is well: what the rows and the keys are
  have hcV : chk C V = none := by
    unfold encR at h1
    cases h : chk C V with
    | none => rfl
    | some e => rw [h] at h1; simp at h1
  have hcW : chk C W = none := by
    unfold encR at h2
    cases h : chk C W with
    | none => rfl
    | some e => rw [h] at h2; simp at h2
  have part : ∀ X, chk C X = none → X.length = C.length ∧ chkL C X = none := by
    intro X h
    unfold chk at h
    by_cases hl : X.length = C.length
    · rw [if_pos hl] at h; exact ⟨hl, h⟩
    · rw [if_neg hl] at h; cases h
  obtain ⟨lv, kv⟩ := part V hcV
  obtain ⟨lw, kw⟩ := part W hcW
  have keyOf : ∀ X, chk C X = none → (keyR C X).2.isNone = true → (keyR C X).1 = strOfNums (kencL (keyVals C X)) := by
    intro X hx h
    unfold keyR at h ⊢
    rw [hx] at h ⊢
    simp only [ordR] at h ⊢
    split at h
    · simp at h
    · split at h
      · simp at h
      · rename_i hv hl
        simp only [hv, if_neg hl]
  have e1 : (encR C V).1 = encL V := by unfold encR; rw [hcV]
  have e2 : (encR C W).1 = encL W := by unfold encR; rw [hcW]
  rw [e1, e2, keyOf V hcV h3, keyOf W hcW h4]
  refine ev_step (fun _ => barbicanlaw14_RowApart.j0.eq_2 ..) ?_
  simp only [Bool.false_eq_true, if_false]
  refine apart_loop C V W _ _ _ _ n lv lw (by omega) ?_ C V W 0 true rfl rfl rfl lv lw (by simp)
  intro b hb
  refine ev_step (fun _ => barbicanlaw14_RowApart.l0.eq_2 ..) ?_
  simp only [Int.lt_irrefl, if_false]
  obtain ⟨t, ht1, ht2⟩ := values_ev V W (by omega)
  refine ev_bind ht2 ?_
  have hA : (((strOfNums (encL V)).toList == (strOfNums (encL W)).toList) == t) = true := by
    have hiff : (strOfNums (encL V)).toList = (strOfNums (encL W)).toList ↔ V = W := by
      constructor
      · intro h
        exact encL_inj C V W lv lw kv kw (strOfNums_inj (encL_range V) (encL_range W) h)
      · rintro rfl; rfl
    rw [beq_iff_eq, Bool.eq_iff_iff, beq_iff_eq, hiff, ht1]
  have hB : (((strOfNums (kencL (keyVals C V))).toList == (strOfNums (kencL (keyVals C W))).toList) == b) = true := by
    have hiff : (strOfNums (kencL (keyVals C V))).toList = (strOfNums (kencL (keyVals C W))).toList ↔ keyVals C V = keyVals C W := by
      constructor
      · intro h
        exact kencL_inj C V W oV oW lv lw kv kw (strOfNums_inj (kencL_range _) (kencL_range _) h)
      · intro h; rw [h]
    rw [beq_iff_eq, Bool.eq_iff_iff, beq_iff_eq, hiff, hb]
  refine ev_if_pos hA (ev_if_pos hB ?_)
  exact ev_bind sure_ev (ev_some _)
end Go.Proofs.YtljadejgdbemoaaDoor.R
