/- row.Decode: back from a row's bytes, and an error at any other bytes. -/
import Derived.Test.YtljadejgdbemoaaDoorPyXRowE
set_option linter.unusedVariables false
set_option linter.unusedSimpArgs false
namespace Go.Proofs.YtljadejgdbemoaaDoor.R
open Go.RowKit Go.Proofs.YtljadejgdbemoaaDoorW.PrintWords Go.Proofs.YtljadejgdbemoaaDoorW.PrintLast Go.Proofs.YtljadejgdbemoaaDoorX

theorem null_eq {v : S38} (h : vErr v.f0 v.f1 v.f2 v.f3 = none) (h0 : v.f0 = 0) : v = ⟨0, 0, ⟨#[]⟩, false⟩ := by
  obtain ⟨av, bv, cv, dv, _, _⟩ := vErr_none h
  exact s38_eq h0 (bv (by omega)) (by rw [cv (by omega), toList_data]) (dv (by omega))
/-- One round of row.Decode, at a byte that is 0 or 1. -/
theorem dec_round (n : ByteArray) (C : List S36) (c : S36) (j : Nat) (hc : C[j]? = some c) (hj : j < C.length) (hC : C.length < 1099511627776) (acc : List S38) (ha : acc.length < 3518437208883) (b : Int) (bs : List Int) (R : List S38 × Option Int)
    (hbad : ¬ (b = 0 ∨ b = 1) → R = ([], some 3)) (hb : 0 ≤ b)
    (hnull : b = 0 → Ev (fun k => row_Decode.l0 k bs (acc ++ [⟨0, 0, ⟨#[]⟩, false⟩]) C (C.length : Int) ((j + 1 : Nat) : Int) n C) R)
    (hone : b = 1 → ∃ (v : S38) (m : Int) (e : Option Int), Ev (fun k => row_one.f k c.f1 bs) (v.f0, v.f1, v.f2, v.f3, m, e) ∧ ((e ≠ none ∨ v.f0 ≠ c.f1) ∧ R = ([], some 3) ∨ e = none ∧ v.f0 = c.f1 ∧ 0 ≤ m ∧ m ≤ (bs.length : Int) ∧ Ev (fun k => row_Decode.l0 k (bs.drop m.toNat) (acc ++ [v]) C (C.length : Int) ((j + 1 : Nat) : Int) n C) R)) :
    Ev (fun k => row_Decode.l0 k (b :: bs) acc C (C.length : Int) (j : Int) n C) R := by
  refine ev_step (fun _ => row_Decode.l0.eq_2 ..) ?_
  have el : ((b :: bs).length : Int) > 0 := by simp only [List.length_cons]; omega
  have er : rd (b :: bs) 0 = b := rfl
  simp only [show (j : Int) < (C.length : Int) by omega, show 0 ≤ (j : Int) by omega, if_true, show ¬ (((b :: bs).length : Int) = 0) by omega, if_false, show (0 : Int) < ((b :: bs).length : Int) from el, er, rd36_at hc]
  refine ev_step (fun _ => row_Decode.j1.eq_2 ..) ?_
  by_cases hb1 : b > 1
  · rw [hbad (by omega), show decide (b > 1) = true by simpa using hb1]
    simp only [if_true]; exact ev_some _
  · rw [show decide (b > 1) = false by simpa using hb1]
    simp only [Bool.false_eq_true, if_false, show (0 : Int) < ((b :: bs).length : Int) from el, show (1 : Int) ≤ ((b :: bs).length : Int) by omega, if_true, er, List.drop_succ_cons, List.drop_zero, Option.bind_some, value_Null.f, ha, wrap_succ (j := j) (by omega)]
    by_cases h1 : b = 1
    · simp only [h1, if_true]
      obtain ⟨v, m, e, ho, hR⟩ := hone h1
      refine ev_bind ho ?_
      rcases hR with ⟨hbad2, rfl⟩ | ⟨he, hf, hm0, hm1, hgo⟩
      · by_cases he : e.isNone = true
        · have hf : v.f0 ≠ c.f1 := by
            rcases hbad2 with h | h
            · exact absurd (by cases e <;> simp_all) h
            · exact h
          simp only [he, if_true, hf, if_false]; exact ev_some _
        · simp only [he, if_false]; exact ev_some _
      · subst he
        have hv : (⟨c.f1, v.f1, v.f2, v.f3⟩ : S38) = v := by rw [← hf]
        simp only [Option.isNone_none, if_true, hf, hm0, hm1, hv]
        exact hgo
    · simp only [h1, if_false]
      exact hnull (by omega)
theorem dec_nil (n : ByteArray) (C : List S36) (j : Nat) (hj : j < C.length) (hC : C.length < 1099511627776) (acc : List S38) : Ev (fun k => row_Decode.l0 k [] acc C (C.length : Int) (j : Int) n C) ([], some 3) := by
  refine ev_step (fun _ => row_Decode.l0.eq_2 ..) ?_
  simp only [show (j : Int) < (C.length : Int) by omega, show 0 ≤ (j : Int) by omega, if_true]
  refine ev_if_pos (by rfl) ?_
  refine ev_step (fun _ => row_Decode.j1.eq_2 ..) ?_
  simp only [if_true]; exact ev_some _
/-- Back from a row's bytes. -/
theorem dec_loop (n : ByteArray) (C : List S36) (hC : C.length < 1099511627776) (V : List S38) (hV : chk C V = none) (hB : bulk V ≤ 1099511627776) (oV : ∀ v ∈ V, OKv v) : ∀ (cs : List S36) (vs acc : List S38) (j : Nat), C.drop j = cs → acc ++ vs = V → vs.length = cs.length → chkL cs vs = none → acc.length ≤ j → (∀ v ∈ vs, OKv v) → Ev (fun k => row_Decode.l0 k (encL vs) acc C (C.length : Int) (j : Int) n C) (V, none)
  | [], [], acc, j, hc, ha, hl, hk, hj, ov => by
    have := drop_nil hc
    refine ev_step (fun _ => row_Decode.l0.eq_2 ..) ?_
    simp only [show ¬ ((j : Int) < (C.length : Int)) by omega, if_false, encL, List.length_nil, show ¬ (((0 : Nat) : Int) > 0) by omega]
    rw [List.append_nil] at ha
    rw [ha]
    refine ev_bind (check_ev n C V (by omega)) ?_
    rw [hV]
    exact ev_some _
  | [], _ :: _, acc, j, hc, ha, hl, hk, hj, ov => by cases hl
  | c :: cs, [], acc, j, hc, ha, hl, hk, hj, ov => by cases hl
  | c :: cs, v :: vs, acc, j, hc, ha, hl, hk, hj, ov => by
    obtain ⟨c1, c2, c3⟩ := drop_cons hc
    have ovv := ov v List.mem_cons_self
    have ovs : ∀ x ∈ vs, OKv x := fun x hx => ov x (List.mem_cons_of_mem _ hx)
    simp only [chkL] at hk
    cases e1 : fitErr c v with
    | some e => rw [e1] at hk; cases hk
    | none =>
      rw [e1] at hk
      have ih := dec_loop n C hC V hV hB oV cs vs (acc ++ [v]) (j + 1) c3 (by rw [List.append_assoc]; exact ha) (by simpa using hl) hk (by simp only [List.length_append, List.length_cons, List.length_nil]; omega) ovs
      have hbulk : bulk vs ≤ bulk V := by
        have hb : ∀ (a b : List S38), bulk (a ++ b) = bulk a + bulk b := by
          intro a b
          induction a with
          | nil => simp [bulk]
          | cons x xs ih => simp only [List.cons_append, bulk, ih]; omega
        rw [← ha, hb]; simp only [bulk]; omega
      have hlen := encL_length vs ovs
      obtain ⟨ev, kv⟩ := fit_none e1
      by_cases h0 : v.f0 = 0
      · have hv := null_eq ev h0
        have he : encL (v :: vs) = 0 :: encL vs := by show encV v ++ encL vs = _; unfold encV; rw [if_pos h0]; rfl
        rw [he]
        refine dec_round n C c j c1 c2 hC acc (by omega) 0 (encL vs) (V, none) (fun h => absurd (Or.inl rfl) h) (by decide) (fun _ => ?_) (fun h => absurd h (by decide))
        rw [← hv]; exact ih
      · obtain ⟨e, he, ho⟩ := one_dec c v ovv e1 h0 (encL vs) (encL_range vs) (by omega)
        have he2 : encL (v :: vs) = 1 :: (e ++ encL vs) := by show encV v ++ encL vs = _; rw [he]; rfl
        rw [he2]
        refine dec_round n C c j c1 c2 hC acc (by omega) 1 (e ++ encL vs) (V, none) (fun h => absurd (Or.inr rfl) h) (by decide) (fun h => absurd h (by decide)) (fun _ => ⟨v, (e.length : Int), none, ho, Or.inr ⟨rfl, ?_, by omega, by simp only [List.length_append]; omega, ?_⟩⟩)
        · rcases kv with kv | kv
          · exact absurd kv.1 h0
          · exact kv.2
        · rw [Int.toNat_natCast, List.drop_left' rfl]; exact ih
/-- row.Decode gives back what row.Encode was handed. -/
theorem decode_ev (n : ByteArray) (C : List S36) (V : List S38) (hC : C.length < 1099511627776) (hV : chk C V = none) (hB : bulk V ≤ 1099511627776) (oV : ∀ v ∈ V, OKv v) : Ev (fun k => row_Decode.f k n C (encL V)) (V, none) := by
  have h : V.length = C.length ∧ chkL C V = none := by
    unfold chk at hV
    by_cases hl : V.length = C.length
    · rw [if_pos hl] at hV; exact ⟨hl, hV⟩
    · rw [if_neg hl] at hV; cases hV
  exact dec_loop n C hC V hV hB oV C V [] 0 rfl rfl h.1 h.2 (Nat.le_refl _) oV
/-- At any bytes: an error, or the values whose bytes these are. -/
theorem dec_any (n : ByteArray) (C : List S36) (hC : C.length < 1099511627776) : ∀ (cs : List S36) (bs : List Int) (acc : List S38) (j : Nat), C.drop j = cs → (∀ b ∈ bs, 0 ≤ b ∧ b ≤ 255) → bs.length ≤ 1099511627776 → acc.length ≤ j → ∃ R, Ev (fun k => row_Decode.l0 k bs acc C (C.length : Int) (j : Int) n C) R ∧ (R = ([], some 3) ∨ ∃ vs, R = (acc ++ vs, none) ∧ bs = encL vs ∧ chk C (acc ++ vs) = none ∧ ∀ v ∈ vs, OKv v)
  | [], bs, acc, j, hc, hx, hl, hj => by
    have := drop_nil hc
    by_cases hb : (bs.length : Int) > 0
    · refine ⟨([], some 3), ev_step (fun _ => row_Decode.l0.eq_2 ..) ?_, Or.inl rfl⟩
      simp only [show ¬ ((j : Int) < (C.length : Int)) by omega, if_false, hb, if_true]; exact ev_some _
    · have hnil : bs = [] := List.eq_nil_of_length_eq_zero (by omega)
      subst hnil
      cases h : chk C acc with
      | some e =>
        refine ⟨([], some 3), ev_step (fun _ => row_Decode.l0.eq_2 ..) ?_, Or.inl rfl⟩
        simp only [show ¬ ((j : Int) < (C.length : Int)) by omega, if_false, hb]
        refine ev_bind (check_ev n C acc (by omega)) ?_
        rw [h]; exact ev_some _
      | none =>
        refine ⟨(acc, none), ev_step (fun _ => row_Decode.l0.eq_2 ..) ?_, Or.inr ⟨[], by rw [List.append_nil], rfl, by rw [List.append_nil]; exact h, fun v hv => (by cases hv)⟩⟩
        simp only [show ¬ ((j : Int) < (C.length : Int)) by omega, if_false, hb]
        refine ev_bind (check_ev n C acc (by omega)) ?_
        rw [h]; exact ev_some _
  | c :: cs, [], acc, j, hc, hx, hl, hj => ⟨_, dec_nil n C j (drop_cons hc).2.1 hC acc, Or.inl rfl⟩
  | c :: cs, b :: bs, acc, j, hc, hx, hl, hj => by
    obtain ⟨c1, c2, c3⟩ := drop_cons hc
    have hb := hx b List.mem_cons_self
    have hxs : ∀ x ∈ bs, 0 ≤ x ∧ x ≤ 255 := fun x h => hx x (List.mem_cons_of_mem _ h)
    simp only [List.length_cons] at hl
    have step := fun R => dec_round n C c j c1 c2 hC acc (by omega) b bs R
    by_cases h0 : b = 0
    · obtain ⟨R, hR1, hR2⟩ := dec_any n C hC cs bs (acc ++ [⟨0, 0, ⟨#[]⟩, false⟩]) (j + 1) c3 hxs (by omega) (by simp only [List.length_append, List.length_cons, List.length_nil]; omega)
      refine ⟨R, step R (fun h => absurd (Or.inl h0) h) hb.1 (fun _ => hR1) (fun h => absurd h (by omega)), hR2.imp id ?_⟩
      rintro ⟨vs, rfl, rfl, h3, h4⟩
      refine ⟨⟨0, 0, ⟨#[]⟩, false⟩ :: vs, by rw [List.append_assoc]; rfl, by rw [h0]; rfl, by rw [List.append_assoc] at h3; exact h3, ?_⟩
      intro v hv
      rcases List.mem_cons.1 hv with rfl | hv
      · exact ⟨⟨by show (-9223372036854775808 : Int) ≤ 0; omega, by show (0 : Int) ≤ 9223372036854775807; omega⟩, by show (0 : Nat) ≤ _; omega⟩
      · exact h4 v hv
    · by_cases h1 : b = 1
      · obtain ⟨v, m, e, ho, hR⟩ := one_any c.f1 bs hxs (by omega)
        rcases hR with he | ⟨rfl, ov, x, rest, rfl, hv, rfl⟩
        · exact ⟨([], some 3), step _ (fun _ => rfl) hb.1 (fun h => absurd h h0) (fun _ => ⟨v, m, e, ho, Or.inl ⟨Or.inl he, rfl⟩⟩), Or.inl rfl⟩
        · by_cases hf : v.f0 = c.f1
          · obtain ⟨R, hR1, hR2⟩ := dec_any n C hC cs rest (acc ++ [v]) (j + 1) c3 (fun y h => hxs y (List.mem_append.2 (Or.inr h))) (by simp only [List.length_append] at hl; omega) (by simp only [List.length_append, List.length_cons, List.length_nil]; omega)
            refine ⟨R, step R (fun h => absurd (Or.inr h1) h) hb.1 (fun h => absurd h h0) (fun _ => ⟨v, _, none, ho, Or.inr ⟨rfl, hf, by omega, by simp only [List.length_append]; omega, ?_⟩⟩), hR2.imp id ?_⟩
            · rw [Int.toNat_natCast, List.drop_left' rfl]; exact hR1
            · rintro ⟨vs, rfl, rfl, h3, h4⟩
              refine ⟨v :: vs, by rw [List.append_assoc]; rfl, ?_, by rw [List.append_assoc] at h3; exact h3, ?_⟩
              · show b :: (x ++ encL vs) = encV v ++ encL vs
                rw [hv, h1]; rfl
              · intro w hw
                rcases List.mem_cons.1 hw with rfl | hw
                · exact ov
                · exact h4 w hw
          · exact ⟨([], some 3), step _ (fun _ => rfl) hb.1 (fun h => absurd h h0) (fun _ => ⟨v, _, none, ho, Or.inl ⟨Or.inr hf, rfl⟩⟩), Or.inl rfl⟩
      · exact ⟨([], some 3), step _ (fun _ => rfl) hb.1 (fun h => absurd h h0) (fun h => absurd h h1), Or.inl rfl⟩
theorem decode_any (n : ByteArray) (C : List S36) (bs : List Int) (hC : C.length < 1099511627776) (hx : ∀ b ∈ bs, 0 ≤ b ∧ b ≤ 255) (hl : bs.length ≤ 1099511627776) : ∃ R, Ev (fun k => row_Decode.f k n C bs) R ∧ (R = ([], some 3) ∨ ∃ vs, R = (vs, none) ∧ bs = encL vs ∧ chk C vs = none ∧ ∀ v ∈ vs, OKv v) := by
  obtain ⟨R, h1, h2⟩ := dec_any n C hC C bs [] 0 rfl hx hl (Nat.le_refl _)
  exact ⟨R, h1, h2⟩
end Go.Proofs.YtljadejgdbemoaaDoor.R
