/- The law RowBytes, told plainly: a row's bytes, and what is read of any bytes, are the reference's. -/
import Derived.Test.YtljadejgdbemoaaDoorPySaidRowBytes
import Derived.Test.YtljadejgdbemoaaDoorPyXRowS
set_option linter.unusedVariables false
set_option linter.unusedSimpArgs false
namespace Go.Proofs.YtljadejgdbemoaaDoor.R
open Go.RowKit Go.Proofs.YtljadejgdbemoaaDoorW.PrintWords Go.Proofs.YtljadejgdbemoaaDoorW.PrintLast Go.Proofs.YtljadejgdbemoaaDoorX

theorem ry_ok_of {V : List S38} (hw : ∀ v ∈ V, W38 v) (ht : (V.map fun e_ => T38 e_).sum ≤ 1048576) : (∀ v ∈ V, OKv v) ∧ V.length ≤ 1048576 ∧ bulk V ≤ 12 * 1048576 := by
  have hs : ∀ (V : List S38), V.length ≤ (V.map fun e_ => T38 e_).sum ∧ bulk V ≤ 12 * (V.map fun e_ => T38 e_).sum ∧ ∀ v ∈ V, v.f2.size ≤ (V.map fun e_ => T38 e_).sum := by
    intro V
    induction V with
    | nil => simp [bulk]
    | cons v vs ih =>
      simp only [List.map_cons, List.sum_cons, List.length_cons, bulk, List.mem_cons]
      have : T38 v = 5 + v.f2.size := by unfold T38; omega
      refine ⟨by omega, by omega, ?_⟩
      rintro x (rfl | hx)
      · omega
      · have := ih.2.2 x hx; omega
  obtain ⟨h1, h2, h3⟩ := hs V
  exact ⟨fun v hv => ⟨wf_i64 (hw v hv).2.1, by have := h3 v hv; omega⟩, by omega, by omega⟩
theorem ry_cols_of {C : List S36} : C.length ≤ (C.map fun e_ => T36 e_).sum := by
  induction C with
  | nil => simp
  | cons c cs ih =>
    simp only [List.map_cons, List.sum_cons, List.length_cons]
    have : T36 c = 5 + c.f0.size := by unfold T36; omega
    omega
/-- What the reference's Decode answers, once its values are at hand. -/
def Fin (C : List S36) (bs : List Int) (acc : List S38) (R : List S38 × Int) : Prop := (chk C acc = none ∧ encL acc = bs ∧ R = (acc, 0)) ∨ (¬ (chk C acc = none ∧ encL acc = bs) ∧ R = ([], 3))
/-- Small values. -/
def OK4 (v : S38) : Prop := (-9223372036854775808 ≤ v.f1 ∧ v.f1 ≤ 9223372036854775807) ∧ v.f2.size ≤ 4096
theorem ok4 {v : S38} (h : OK4 v) : OKv v := ⟨h.1, Nat.le_trans h.2 (by decide)⟩
theorem bulk4 : ∀ (V : List S38), (∀ v ∈ V, OK4 v) → bulk V ≤ 4108 * V.length
  | [], _ => by simp [bulk]
  | v :: vs, h => by
    have a := (h v List.mem_cons_self).2
    have b := bulk4 vs (fun x hx => h x (List.mem_cons_of_mem _ hx))
    simp only [bulk, List.length_cons]; omega
theorem chkL_sizes : ∀ (cs : List S36) (vs : List S38), vs.length = cs.length → chkL cs vs = none → ∀ v ∈ vs, v.f2.size ≤ 4096
  | [], [], _, _, v, hv => by cases hv
  | [], _ :: _, h, _, _, _ => by cases h
  | c :: cs, [], h, _, _, _ => by cases h
  | c :: cs, w :: vs, h, hk, v, hv => by
    simp only [chkL] at hk
    cases e : fitErr c w with
    | some _ => rw [e] at hk; cases hk
    | none =>
      rw [e] at hk
      rcases List.mem_cons.1 hv with rfl | hv
      · exact (vErr_none (fit_none e).1).2.2.2.2.1
      · exact chkL_sizes cs vs (by simpa using h) hk v hv
theorem fin_ev (n : ByteArray) (C : List S36) (bs : List Int) (hx : ∀ b ∈ bs, 0 ≤ b ∧ b ≤ 255) (hC : C.length < 9223372036854775807) (acc : List S38) (oa : ∀ v ∈ acc, OK4 v) (hl : acc.length ≤ 1048576) (x7 x8 : Int) : ∃ R, Fin C bs acc R ∧ Ev (fun k => barbicanref14_Decode.j1 k bs acc x7 x8 false n C) R := by
  have hb := bulk4 acc oa
  have he := ref_encode_ev n C acc hC (fun v hv => ok4 (oa v hv)) (by omega) (by omega)
  have hcode := chk_none C acc
  unfold encR at he
  cases h : chk C acc with
  | some e =>
    rw [h] at he hcode
    refine ⟨([], 3), Or.inr ⟨(fun hh => (by rw [h] at hh; cases hh.1)), rfl⟩, ev_step (fun _ => barbicanref14_Decode.j1.eq_2 ..) ?_⟩
    refine ev_if_neg (by decide) (ev_bind he ?_)
    exact ev_if_neg (fun hh => by have := hcode.1 hh; cases this) (ev_some _)
  | none =>
    rw [h] at he
    by_cases hb2 : encL acc = bs
    · refine ⟨(acc, 0), Or.inl ⟨h, hb2, rfl⟩, ev_step (fun _ => barbicanref14_Decode.j1.eq_2 ..) ?_⟩
      refine ev_if_neg (by decide) (ev_bind he ?_)
      refine ev_if_pos rfl (ev_if_pos ?_ (ev_some _))
      show (strOfNums (encL acc)).toList = (strOfNums bs).toList
      rw [hb2]
    · refine ⟨([], 3), Or.inr ⟨fun hh => hb2 hh.2, rfl⟩, ev_step (fun _ => barbicanref14_Decode.j1.eq_2 ..) ?_⟩
      refine ev_if_neg (by decide) (ev_bind he ?_)
      refine ev_if_pos rfl (ev_if_neg ?_ (ev_some _))
      intro hh
      exact hb2 (strOfNums_inj (encL_range acc) hx hh)
/-- One round of the reference's Decode: which value it takes for a column, and how many bytes behind the first. -/
def Takes (c : S36) (b : Int) (t : List Int) (v : S38) (m : Nat) : Prop :=
  (b ≠ 1 ∧ v = ⟨0, 0, ⟨#[]⟩, false⟩ ∧ m = 0) ∨
  (b = 1 ∧ c.f1 = 1 ∧ v = ⟨1, v.f1, ⟨#[]⟩, false⟩ ∧ ∃ e, Ev (fun k => barbicanref03_Int.f k t) (v.f1, (m : Int), e)) ∨
  (b = 1 ∧ c.f1 = 2 ∧ v = ⟨2, 0, v.f2, false⟩ ∧ ∃ e, Ev (fun k => barbicanref03_Text.f k t 4096) (v.f2, (m : Int), e)) ∨
  (b = 1 ∧ c.f1 = 3 ∧ m = 1 ∧ v = ⟨3, 0, ⟨#[]⟩, (match t with | [] => false | x :: _ => (x == 1))⟩) ∨
  (b = 1 ∧ c.f1 ≠ 1 ∧ c.f1 ≠ 2 ∧ c.f1 ≠ 3 ∧ m = 0 ∧ v = ⟨c.f1, 0, ⟨#[]⟩, false⟩)
theorem ry_round (n : ByteArray) (C : List S36) (bs : List Int) (hl : bs.length ≤ 1099511627776) (hC : C.length < 9223372036854775807) (c : S36) (j : Nat) (hc : C[j]? = some c) (hj : j < C.length) (acc : List S38) (ha : acc.length < 3518437208883) (pos : Nat) (b : Int) (t : List Int) (hd : bs.drop pos = b :: t) (v : S38) (m : Nat) (hm : m ≤ 1099511627776) (ht : Takes c b t v m) (R : List S38 × Int)
    (hgo : Ev (fun k => barbicanref14_Decode.l0 k bs (acc ++ [v]) ((pos + 1 + m : Nat) : Int) ((j + 1 : Nat) : Int) n C) R) : Ev (fun k => barbicanref14_Decode.l0 k bs acc (pos : Int) (j : Int) n C) R := by
  obtain ⟨d1, d2, d3⟩ := drop_cons hd
  refine ev_step (fun _ => barbicanref14_Decode.l0.eq_2 ..) ?_
  refine ev_if_pos (by omega) ?_
  rw [show decide ((pos : Int) < (bs.length : Int)) = true by simp; omega]
  refine ev_step (fun _ => barbicanref14_Decode.j1.eq_2 ..) ?_
  refine ev_if_pos rfl (ev_if_pos (by omega) (ev_if_pos (by omega) ?_))
  rw [rdn_at d1, rd36_at hc, wrap_succ (j := pos) (by omega)]
  have hw : ∀ z : Int, z = (m : Int) → wrap64 (((pos + 1 : Nat) : Int) + z) = ((pos + 1 + m : Nat) : Int) := by
    rintro z rfl; unfold wrap64; omega
  have hj1 : wrap64 ((j : Int) + 1) = ((j + 1 : Nat) : Int) := wrap_succ (j := j) (by omega)
  have hdrop : bs.drop (((pos + 1 : Nat) : Int)).toNat = t := by rw [Int.toNat_natCast]; exact d3
  rcases ht with ⟨hb, hv, hm0⟩ | ⟨hb, hk, hv, e, he⟩ | ⟨hb, hk, hv, e, he⟩ | ⟨hb, hk, hm1, hv⟩ | ⟨hb, h1, h2, h3, hm0, hv⟩
  · refine ev_if_neg hb ?_
    refine ev_step (fun _ => barbicanref14_Decode.j2.eq_2 ..) ?_
    refine ev_if_neg (by decide) (ev_if_neg (by decide) (ev_if_neg (by decide) (ev_if_pos ha ?_)))
    rw [hw 0 (by omega), hj1, ← hv]
    exact hgo
  · refine ev_if_pos hb (ev_if_pos (by omega) (ev_if_pos (by omega) ?_))
    refine ev_step (fun _ => barbicanref14_Decode.j2.eq_2 ..) ?_
    refine ev_if_pos hk (ev_if_pos (by omega) (ev_if_pos (by omega) ?_))
    rw [hdrop]
    refine ev_bind he (ev_if_pos ha ?_)
    rw [hw _ rfl, hj1, hk, ← hv]
    exact hgo
  · refine ev_if_pos hb (ev_if_pos (by omega) (ev_if_pos (by omega) ?_))
    refine ev_step (fun _ => barbicanref14_Decode.j2.eq_2 ..) ?_
    refine ev_if_neg (by omega) (ev_if_pos hk (ev_if_pos (by omega) (ev_if_pos (by omega) ?_)))
    rw [hdrop]
    refine ev_bind he (ev_if_pos ha ?_)
    rw [hw _ rfl, hj1, hk, ← hv]
    exact hgo
  · refine ev_if_pos hb (ev_if_pos (by omega) (ev_if_pos (by omega) ?_))
    refine ev_step (fun _ => barbicanref14_Decode.j2.eq_2 ..) ?_
    refine ev_if_neg (by omega) (ev_if_neg (by omega) (ev_if_pos hk ?_))
    cases t with
    | nil =>
      have h3 := drop_nil d3
      refine ev_if_neg (by omega) (ev_if_pos ha ?_)
      rw [hw 1 (by omega), hj1, hk, ← hv]
      exact hgo
    | cons x t =>
      obtain ⟨g1, g2, g3⟩ := drop_cons d3
      refine ev_if_pos (by omega) (ev_if_pos (by omega) (ev_if_pos ha ?_))
      rw [rdn_at g1, hw 1 (by omega), hj1, hk]
      rw [hv] at hgo
      exact hgo
  · refine ev_if_pos hb (ev_if_pos (by omega) (ev_if_pos (by omega) ?_))
    refine ev_step (fun _ => barbicanref14_Decode.j2.eq_2 ..) ?_
    refine ev_if_neg h1 (ev_if_neg h2 (ev_if_neg h3 (ev_if_pos ha ?_)))
    rw [hw 0 (by omega), hj1, ← hv]
    exact hgo
theorem takes_any (c : S36) (b : Int) (t : List Int) (hx : ∀ b ∈ t, 0 ≤ b ∧ b ≤ 255) (hl : t.length ≤ 1099511627776) : ∃ v m, Takes c b t v m ∧ OK4 v ∧ m ≤ t.length + 1 := by
  have ok0 : ∀ (k : Int) (f : Bool), OK4 ⟨k, 0, ⟨#[]⟩, f⟩ := fun k f => ⟨⟨by show (-9223372036854775808 : Int) ≤ 0; omega, by show (0 : Int) ≤ 9223372036854775807; omega⟩, by show (0 : Nat) ≤ _; omega⟩
  by_cases hb : b = 1
  · by_cases h1 : c.f1 = 1
    · obtain ⟨a, m, e, g1, g2, g3⟩ := ref_int_any t hx (by omega)
      exact ⟨⟨1, a, ⟨#[]⟩, false⟩, m, Or.inr (Or.inl ⟨hb, h1, rfl, e, g1⟩), ⟨g2, by show (0 : Nat) ≤ _; omega⟩, by omega⟩
    · by_cases h2 : c.f1 = 2
      · obtain ⟨s, m, e, g1, g2, g3⟩ := ref_text_any t hx hl
        exact ⟨⟨2, 0, s, false⟩, m, Or.inr (Or.inr (Or.inl ⟨hb, h2, rfl, e, g1⟩)), ⟨⟨by show (-9223372036854775808 : Int) ≤ 0; omega, by show (0 : Int) ≤ 9223372036854775807; omega⟩, g2⟩, by omega⟩
      · by_cases h3 : c.f1 = 3
        · exact ⟨_, 1, Or.inr (Or.inr (Or.inr (Or.inl ⟨hb, h3, rfl, rfl⟩))), ok0 _ _, by omega⟩
        · exact ⟨_, 0, Or.inr (Or.inr (Or.inr (Or.inr ⟨hb, h1, h2, h3, rfl, rfl⟩))), ok0 _ _, by omega⟩
  · exact ⟨_, 0, Or.inl ⟨hb, rfl, rfl⟩, ok0 _ _, by omega⟩
theorem ry_any (n : ByteArray) (C : List S36) (bs : List Int) (hx : ∀ b ∈ bs, 0 ≤ b ∧ b ≤ 255) (hl : bs.length ≤ 1048576) (hC : C.length ≤ 1048576) : ∀ (cs : List S36) (acc : List S38) (pos j : Nat), C.drop j = cs → pos ≤ bs.length + 1 → j ≤ C.length → acc.length = j → (∀ v ∈ acc, OK4 v) → ∃ acc' R, Fin C bs acc' R ∧ (∀ v ∈ acc', OK4 v) ∧ acc'.length ≤ 1048576 ∧ Ev (fun k => barbicanref14_Decode.l0 k bs acc (pos : Int) (j : Int) n C) R
  | [], acc, pos, j, hc, hp, hj, ha, oa => by
    have := drop_nil hc
    obtain ⟨R, h1, h2⟩ := fin_ev n C bs hx (by omega) acc oa (by omega) (pos : Int) (j : Int)
    exact ⟨acc, R, h1, oa, by omega, ev_step (fun _ => barbicanref14_Decode.l0.eq_2 ..) (ev_if_neg (by omega) h2)⟩
  | c :: cs, acc, pos, j, hc, hp, hj, ha, oa => by
    obtain ⟨c1, c2, c3⟩ := drop_cons hc
    cases hd : bs.drop pos with
    | nil =>
      have := drop_nil hd
      obtain ⟨R, h1, h2⟩ := fin_ev n C bs hx (by omega) acc oa (by omega) (pos : Int) (j : Int)
      refine ⟨acc, R, h1, oa, by omega, ev_step (fun _ => barbicanref14_Decode.l0.eq_2 ..) (ev_if_pos (by omega) ?_)⟩
      rw [show decide ((pos : Int) < (bs.length : Int)) = false by simp; omega]
      exact h2
    | cons b t =>
      obtain ⟨d1, d2, d3⟩ := drop_cons hd
      have htl : t.length + (pos + 1) = bs.length := by rw [← d3, List.length_drop]; omega
      obtain ⟨v, m, h1, h2, h3⟩ := takes_any c b t (fun x h => hx x (by rw [← d3] at h; exact List.mem_of_mem_drop h)) (by omega)
      obtain ⟨acc', R, g1, g2, g3, g4⟩ := ry_any n C bs hx hl hC cs (acc ++ [v]) (pos + 1 + m) (j + 1) c3 (by omega) (by omega) (by simp only [List.length_append, List.length_cons, List.length_nil]; omega) (fun w hw => (List.mem_append.1 hw).elim (oa w) (fun h => by simp only [List.mem_cons, List.mem_nil_iff, or_false] at h; rw [h]; exact h2))
      exact ⟨acc', R, g1, g2, g3, ry_round n C bs (by omega) (by omega) c j c1 c2 acc (by omega) pos b t hd v m (by omega) h1 R g4⟩
/-- At a value's own bytes that value is taken. -/
theorem takes_read (c : S36) (v : S38) (ov : OKv v) (hv : fitErr c v = none) (rest : List Int) (hr : ∀ b ∈ rest, 0 ≤ b ∧ b ≤ 255) (hl : rest.length ≤ 1000000000000) : ∃ b t m, encV v = b :: t ∧ m = t.length ∧ Takes c b (t ++ rest) v m := by
  obtain ⟨ev, kv⟩ := fit_none hv
  obtain ⟨av, bv, cv, dv, sv, _⟩ := vErr_none ev
  have hnil : (⟨#[]⟩ : ByteArray).toList = [] := by rw [toList_data]
  by_cases h0 : v.f0 = 0
  · exact ⟨0, [], 0, by unfold encV; rw [if_pos h0], rfl, Or.inl ⟨by decide, null_eq ev h0, rfl⟩⟩
  · have hk : v.f0 = c.f1 := by rcases kv with kv | kv; exact absurd kv.1 h0; exact kv.2
    by_cases h1 : v.f0 = 1
    · have e2 : v.f2 = ⟨#[]⟩ := ba_eq (by rw [cv (by omega), hnil])
      refine ⟨1, uvar (zz v.f1), _, by unfold encV; rw [if_neg h0, if_pos h1], rfl, Or.inr (Or.inl ⟨rfl, by omega, ?_, 0, ref_int_read v.f1 rest ov.1 hr (by omega)⟩)⟩
      exact s38_eq h1 rfl (by rw [e2]) (dv (by omega))
    · by_cases h2 : v.f0 = 2
      · obtain ⟨e, he⟩ := ref_text_read v.f2 rest sv hr hl
        refine ⟨1, uvar v.f2.size ++ bytesOf v.f2, (uvar v.f2.size).length + v.f2.size, by unfold encV; rw [if_neg h0, if_neg h1, if_pos h2], by simp only [List.length_append, bytesOf_length], Or.inr (Or.inr (Or.inl ⟨rfl, by omega, ?_, e, by rw [List.append_assoc]; exact he⟩))⟩
        exact s38_eq h2 (bv (by omega)) rfl (dv (by omega))
      · have h3 : v.f0 = 3 := by omega
        have e2 : v.f2 = ⟨#[]⟩ := ba_eq (by rw [cv (by omega), hnil])
        by_cases h4 : v.f3 = true
        · refine ⟨1, [1], 1, by unfold encV; rw [if_neg h0, if_neg h1, if_neg h2, if_pos h4], rfl, Or.inr (Or.inr (Or.inr (Or.inl ⟨rfl, by omega, rfl, ?_⟩)))⟩
          exact s38_eq h3 (bv (by omega)) (by rw [e2]) h4
        · refine ⟨1, [0], 1, by unfold encV; rw [if_neg h0, if_neg h1, if_neg h2, if_neg h4], rfl, Or.inr (Or.inr (Or.inr (Or.inl ⟨rfl, by omega, rfl, ?_⟩)))⟩
          exact s38_eq h3 (bv (by omega)) (by rw [e2]) (by simpa using h4)
theorem ry_read (n : ByteArray) (C : List S36) (hC : C.length ≤ 1048576) (V : List S38) (hV : chk C V = none) (hl : (encL V).length ≤ 1048576) (oV : ∀ v ∈ V, OKv v) (hB : bulk V ≤ 1099511627776) : ∀ (cs : List S36) (vs acc : List S38) (pos j : Nat), C.drop j = cs → acc ++ vs = V → vs.length = cs.length → chkL cs vs = none → acc.length = j → (encL V).drop pos = encL vs → pos ≤ (encL V).length → Ev (fun k => barbicanref14_Decode.l0 k (encL V) acc (pos : Int) (j : Int) n C) (V, 0)
  | [], [], acc, pos, j, hc, ha, hlen, hk, hj, hd, hp => by
    have := drop_nil hc
    rw [List.append_nil] at ha
    subst ha
    have hlc : acc.length = C.length := by
      refine Classical.byContradiction fun hn => ?_
      unfold chk at hV
      rw [if_neg hn] at hV; cases hV
    have he := ref_encode_ev n C acc (by omega) oV (by omega) hB
    unfold encR at he
    rw [hV] at he
    refine ev_step (fun _ => barbicanref14_Decode.l0.eq_2 ..) (ev_if_neg (by omega) ?_)
    refine ev_step (fun _ => barbicanref14_Decode.j1.eq_2 ..) ?_
    exact ev_if_neg (by decide) (ev_bind he (ev_if_pos rfl (ev_if_pos rfl (ev_some _))))
  | [], _ :: _, acc, pos, j, hc, ha, hlen, hk, hj, hd, hp => by cases hlen
  | c :: cs, [], acc, pos, j, hc, ha, hlen, hk, hj, hd, hp => by cases hlen
  | c :: cs, v :: vs, acc, pos, j, hc, ha, hlen, hk, hj, hd, hp => by
    obtain ⟨c1, c2, c3⟩ := drop_cons hc
    simp only [chkL] at hk
    cases e1 : fitErr c v with
    | some e => rw [e1] at hk; cases hk
    | none =>
      rw [e1] at hk
      have hvm : v ∈ V := by rw [← ha]; exact List.mem_append.2 (Or.inr List.mem_cons_self)
      have hsum : pos + (encL (v :: vs)).length = (encL V).length := by rw [← hd, List.length_drop]; omega
      have hs2 : (encL (v :: vs)).length = (encV v).length + (encL vs).length := List.length_append
      obtain ⟨b, t, m, h1, h2, h3⟩ := takes_read c v (oV v hvm) e1 (encL vs) (encL_range vs) (by omega)
      have hd2 : (encL V).drop pos = b :: (t ++ encL vs) := by rw [hd]; show encV v ++ encL vs = _; rw [h1]; rfl
      have hlt : (encV v).length = t.length + 1 := by rw [h1]; rfl
      have hd3 : (encL V).drop (pos + 1 + m) = encL vs := by
        rw [← List.drop_drop, (drop_cons hd2).2.2, h2, List.drop_left' rfl]
      refine ry_round n C (encL V) (by omega) (by omega) c j c1 c2 acc (by omega) pos b (t ++ encL vs) hd2 v m (by omega) h3 (V, 0) ?_
      exact ry_read n C hC V hV hl oV hB cs vs (acc ++ [v]) (pos + 1 + m) (j + 1) c3 (by rw [List.append_assoc]; exact ha) (by simpa using hlen) hk (by simp only [List.length_append, List.length_cons, List.length_nil]; omega) hd3 (by omega)
theorem barbicanlaw14_RowBytes_pure : barbicanlaw14_RowBytes_Pure := by
  intro n C V B hn hC hV hB ht
  have hcl := ry_cols_of (C := C)
  obtain ⟨oV, lV, bV⟩ := ry_ok_of hV (by omega)
  have hBl : B.length ≤ 1048576 := by
    have : (B.map fun _ => 1).sum = B.length := by
      clear hB ht
      induction B with
      | nil => rfl
      | cons b bs ih => simp only [List.map_cons, List.sum_cons, List.length_cons, ih]; omega
    omega
  have hx : ∀ b ∈ B, 0 ≤ b ∧ b ≤ 255 := by
    intro b hb
    have := hB b hb
    simp [Lit.wf, IntKind.min, IntKind.max, IntKind.bits, IntKind.signed] at this
    omega
  refine ev_exists (g := fun k => barbicanlaw14_RowBytes.f k n C V B) ?_
  unfold barbicanlaw14_RowBytes.f
  refine ev_if_pos (by simp only [List.length_nil]; omega) ?_
  rw [twin_eq (by omega)]
  simp only [Option.bind_some, List.nil_append]
  refine ev_bind (encode_ev n C V (by omega) oV (by omega) (by omega)) ?_
  refine ev_bind (ref_encode_ev n C V (by omega) oV (by omega) (by omega)) ?_
  obtain ⟨R, hR1, hR2⟩ := decode_any n C B (by omega) hx (by omega)
  refine ev_bind hR1 ?_
  have hQ : ∃ Q, Ev (fun k => barbicanref14_Decode.f k n C B) Q ∧ Q = (R.1, (R.2).getD 0) := by
    obtain ⟨acc', Q, f1, f2, f3, f4⟩ := ry_any n C B hx hBl (by omega) C [] 0 0 rfl (by omega) (by omega) rfl (fun v hv => (by cases hv))
    refine ⟨Q, f4, ?_⟩
    rcases hR2 with rfl | ⟨vs, rfl, rfl, h3, h4⟩
    · rcases f1 with ⟨g1, g2, _⟩ | ⟨_, rfl⟩
      · have hb4 := bulk4 acc' f2
        have := decode_ev n C acc' (by omega) g1 (by omega) (fun v hv => ok4 (f2 v hv))
        rw [g2] at this
        have := ev_uniq this hR1
        cases this
      · rfl
    · have part : vs.length = C.length ∧ chkL C vs = none := by
        unfold chk at h3
        by_cases hl : vs.length = C.length
        · rw [if_pos hl] at h3; exact ⟨hl, h3⟩
        · rw [if_neg hl] at h3; cases h3
      have hb2 := bulk4 vs (fun v hv => ⟨(h4 v hv).1, chkL_sizes C vs part.1 part.2 v hv⟩)
      have := ry_read n C (by omega) vs h3 hBl h4 (by omega) C vs [] 0 0 rfl rfl part.1 part.2 rfl rfl (by omega)
      exact ev_uniq f4 this
  obtain ⟨Q, hQ1, rfl⟩ := hQ
  refine ev_bind hQ1 (ev_if_pos rfl ?_)
  refine ev_bind (a := (encR C V).2.getD 0) (ev_some _) (ev_if_pos rfl ?_)
  have hRl : R.1.length < 9223372036854775807 := by
    rcases hR2 with rfl | ⟨vs, rfl, _, h3, _⟩
    · decide
    · unfold chk at h3
      by_cases hl : vs.length = C.length
      · show vs.length < _; omega
      · rw [if_neg hl] at h3; cases h3
  obtain ⟨t, ht1, ht2⟩ := values_ev R.1 R.1 hRl
  have htt : t = true := ht1.2 rfl
  subst htt
  refine ev_bind ht2 (ev_if_pos rfl ?_)
  refine ev_bind (a := R.2.getD 0) (ev_some _) (ev_if_pos rfl (ev_if_pos (by first | trivial | rfl) ?_))
  exact ev_bind sure_ev (ev_some _)
end Go.Proofs.YtljadejgdbemoaaDoor.R
