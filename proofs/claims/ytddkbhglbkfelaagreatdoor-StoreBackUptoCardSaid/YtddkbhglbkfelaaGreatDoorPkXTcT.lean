/- A reader's text and number; the way back from a row's bytes. -/
import Derived.Test.YtddkbhglbkfelaaGreatDoorPkXTbT
set_option linter.unusedVariables false
set_option linter.unusedSimpArgs false
namespace Go.Proofs.YtddkbhglbkfelaaGreatDoor.T
open Go.RowKit Go.Proofs.YtddkbhglbkfelaaGreatDoorW.PrintWords Go.Proofs.YtddkbhglbkfelaaGreatDoorW.PrintLast Go.Proofs.YtddkbhglbkfelaaGreatDoorX
theorem s38_eq {v w : S63} (h0 : v.f0 = w.f0) (h1 : v.f1 = w.f1) (h2 : v.f2.toList = w.f2.toList) (h3 : v.f3 = w.f3) : v = w := by
  cases v; cases w
  simp only at h0 h1 h2 h3
  rw [h0, h1, ba_eq h2, h3]
theorem encV_range {v : S63} : ∀ b ∈ encV v, 0 ≤ b ∧ b ≤ 255 := by
  intro b hb
  unfold encV at hb
  split at hb
  · simp only [List.mem_cons, List.mem_nil_iff, or_false] at hb; omega
  · rcases List.mem_cons.1 hb with rfl | hb
    · omega
    · split at hb
      · exact uvar_range _ b hb
      · split at hb
        · rcases List.mem_append.1 hb with hb | hb
          · exact uvar_range _ b hb
          · exact bytesOf_range _ b hb
        · split at hb <;> (simp only [List.mem_cons, List.mem_nil_iff, or_false] at hb; omega)
theorem encL_range : ∀ (vs : List S63), ∀ b ∈ encL vs, 0 ≤ b ∧ b ≤ 255
  | [], b, hb => by cases hb
  | v :: vs, b, hb => by
    rcases List.mem_append.1 hb with hb | hb
    · exact encV_range b hb
    · exact encL_range vs b hb
theorem null_eq {v : S63} (h : vErr v.f0 v.f1 v.f2 v.f3 = none) (h0 : v.f0 = 0) : v = ⟨0, 0, ⟨#[]⟩, false⟩ := by
  obtain ⟨av, bv, cv, dv, _, _⟩ := vErr_none h
  exact s38_eq h0 (bv (by omega)) (by rw [cv (by omega), toList_data]) (dv (by omega))
/-- One round of row.Decode, at a byte that is 0 or 1. -/
theorem dec_round (n : ByteArray) (C : List S118) (c : S118) (j : Nat) (hc : C[j]? = some c) (hj : j < C.length) (hC : C.length < 1099511627776) (acc : List S63) (ha : acc.length < 3518437208883) (b : Int) (bs : List Int) (R : List S63 × Option Int)
    (hbad : ¬ (b = 0 ∨ b = 1) → R = ([], some 3)) (hb : 0 ≤ b)
    (hnull : b = 0 → Ev (fun k => row_Decode.l0 k bs (acc ++ [⟨0, 0, ⟨#[]⟩, false⟩]) C (C.length : Int) ((j + 1 : Nat) : Int) n C) R)
    (hone : b = 1 → ∃ (v : S63) (m : Int) (e : Option Int), Ev (fun k => row_one.f k c.f1 bs) (v.f0, v.f1, v.f2, v.f3, m, e) ∧ ((e ≠ none ∨ v.f0 ≠ c.f1) ∧ R = ([], some 3) ∨ e = none ∧ v.f0 = c.f1 ∧ 0 ≤ m ∧ m ≤ (bs.length : Int) ∧ Ev (fun k => row_Decode.l0 k (bs.drop m.toNat) (acc ++ [v]) C (C.length : Int) ((j + 1 : Nat) : Int) n C) R)) :
    Ev (fun k => row_Decode.l0 k (b :: bs) acc C (C.length : Int) (j : Int) n C) R := by
  refine ev_step (fun _ => row_Decode.l0.eq_2 ..) ?_
  have el : ((b :: bs).length : Int) > 0 := by simp only [List.length_cons]; omega
  have er : rd (b :: bs) 0 = b := rfl
  simp only [show (j : Int) < (C.length : Int) by omega, show 0 ≤ (j : Int) by omega, if_true, show ¬ (((b :: bs).length : Int) = 0) by omega, if_false, show (0 : Int) < ((b :: bs).length : Int) from el, er, rd36_at hc]
  refine ev_step (fun _ => row_Decode.j1.eq_2 ..) ?_
  by_cases hb1 : b > 1
  · rw [hbad (by omega), show decide (b > 1) = true by simpa using hb1]
    simp only [if_true]; exact ev_some _
  · rw [show decide (b > 1) = false by simpa using hb1]
    simp only [Bool.false_eq_true, if_false, show (0 : Int) < ((b :: bs).length : Int) from el, show (1 : Int) ≤ ((b :: bs).length : Int) by omega, if_true, er, List.drop_succ_cons, List.drop_zero, Option.bind_some, value_Null.f, ha, wrap_succ (j := j) (by omega)]
    by_cases h1 : b = 1
    · simp only [h1, if_true]
      obtain ⟨v, m, e, ho, hR⟩ := hone h1
      refine ev_bind ho ?_
      rcases hR with ⟨hbad2, rfl⟩ | ⟨he, hf, hm0, hm1, hgo⟩
      · by_cases he : e.isNone = true
        · have hf : v.f0 ≠ c.f1 := by
            rcases hbad2 with h | h
            · exact absurd (by cases e <;> simp_all) h
            · exact h
          simp only [he, if_true, hf, if_false]; exact ev_some _
        · simp only [he, if_false]; exact ev_some _
      · subst he
        have hv : (⟨c.f1, v.f1, v.f2, v.f3⟩ : S63) = v := by rw [← hf]
        simp only [Option.isNone_none, if_true, hf, hm0, hm1, hv]
        exact hgo
    · simp only [h1, if_false]
      exact hnull (by omega)
/-- Back from a row's bytes. -/
theorem rdec_loop (n : ByteArray) (C : List S118) (hC : C.length < 1099511627776) (V : List S63) (hV : chk C V = none) (hB : bulk V ≤ 1099511627776) (oV : ∀ v ∈ V, OKv v) : ∀ (cs : List S118) (vs acc : List S63) (j : Nat), C.drop j = cs → acc ++ vs = V → vs.length = cs.length → chkL cs vs = none → acc.length ≤ j → (∀ v ∈ vs, OKv v) → Ev (fun k => row_Decode.l0 k (encL vs) acc C (C.length : Int) (j : Int) n C) (V, none)
  | [], [], acc, j, hc, ha, hl, hk, hj, ov => by
    have := drop_nil hc
    refine ev_step (fun _ => row_Decode.l0.eq_2 ..) ?_
    simp only [show ¬ ((j : Int) < (C.length : Int)) by omega, if_false, encL, List.length_nil, show ¬ (((0 : Nat) : Int) > 0) by omega]
    rw [List.append_nil] at ha
    rw [ha]
    refine ev_bind (check_ev n C V (by omega)) ?_
    rw [hV]
    exact ev_some _
  | [], _ :: _, acc, j, hc, ha, hl, hk, hj, ov => by cases hl
  | c :: cs, [], acc, j, hc, ha, hl, hk, hj, ov => by cases hl
  | c :: cs, v :: vs, acc, j, hc, ha, hl, hk, hj, ov => by
    obtain ⟨c1, c2, c3⟩ := drop_cons hc
    have ovv := ov v List.mem_cons_self
    have ovs : ∀ x ∈ vs, OKv x := fun x hx => ov x (List.mem_cons_of_mem _ hx)
    simp only [chkL] at hk
    cases e1 : fitErr c v with
    | some e => rw [e1] at hk; cases hk
    | none =>
      rw [e1] at hk
      have ih := rdec_loop n C hC V hV hB oV cs vs (acc ++ [v]) (j + 1) c3 (by rw [List.append_assoc]; exact ha) (by simpa using hl) hk (by simp only [List.length_append, List.length_cons, List.length_nil]; omega) ovs
      have hbulk : bulk vs ≤ bulk V := by
        have hb : ∀ (a b : List S63), bulk (a ++ b) = bulk a + bulk b := by
          intro a b
          induction a with
          | nil => simp [bulk]
          | cons x xs ih => simp only [List.cons_append, bulk, ih]; omega
        rw [← ha, hb]; simp only [bulk]; omega
      have hlen := encL_length vs ovs
      obtain ⟨ev, kv⟩ := fit_none e1
      by_cases h0 : v.f0 = 0
      · have hv := null_eq ev h0
        have he : encL (v :: vs) = 0 :: encL vs := by show encV v ++ encL vs = _; unfold encV; rw [if_pos h0]; rfl
        rw [he]
        refine dec_round n C c j c1 c2 hC acc (by omega) 0 (encL vs) (V, none) (fun h => absurd (Or.inl rfl) h) (by decide) (fun _ => ?_) (fun h => absurd h (by decide))
        rw [← hv]; exact ih
      · obtain ⟨e, he, ho⟩ := one_dec c v ovv e1 h0 (encL vs) (encL_range vs) (by omega)
        have he2 : encL (v :: vs) = 1 :: (e ++ encL vs) := by show encV v ++ encL vs = _; rw [he]; rfl
        rw [he2]
        refine dec_round n C c j c1 c2 hC acc (by omega) 1 (e ++ encL vs) (V, none) (fun h => absurd (Or.inr rfl) h) (by decide) (fun h => absurd h (by decide)) (fun _ => ⟨v, (e.length : Int), none, ho, Or.inr ⟨rfl, ?_, by omega, by simp only [List.length_append]; omega, ?_⟩⟩)
        · rcases kv with kv | kv
          · exact absurd kv.1 h0
          · exact kv.2
        · rw [Int.toNat_natCast, List.drop_left' rfl]; exact ih
/-- row.Decode gives back what row.Encode was handed. -/
theorem rdecode_ev (n : ByteArray) (C : List S118) (V : List S63) (hC : C.length < 1099511627776) (hV : chk C V = none) (hB : bulk V ≤ 1099511627776) (oV : ∀ v ∈ V, OKv v) : Ev (fun k => row_Decode.f k n C (encL V)) (V, none) := by
  have h : V.length = C.length ∧ chkL C V = none := by
    unfold chk at hV
    by_cases hl : V.length = C.length
    · rw [if_pos hl] at hV; exact ⟨hl, hV⟩
    · rw [if_neg hl] at hV; cases hV
  exact rdec_loop n C hC V hV hB oV C V [] 0 rfl rfl h.1 h.2 (Nat.le_refl _) oV
def Bytes (l : List Int) : Prop := ∀ b ∈ l, 0 ≤ b ∧ b ≤ 255
def tx (s : ByteArray) : List Int := uvar s.size ++ bytesOf s
theorem tx_pos (s : ByteArray) : 1 ≤ (tx s).length := by
  unfold tx
  rw [List.length_append]
  have : 1 ≤ (uvar s.size).length := by rw [uvar]; split <;> simp
  omega
theorem tx_eq (s : ByteArray) (r : List Int) : uvar s.size ++ (bytesOf s ++ r) = tx s ++ r := by rw [tx, List.append_assoc]
theorem tx_len (s : ByteArray) : (((uvar s.size).length + s.size : Nat) : Int) = ((tx s).length : Int) := by rw [tx, List.length_append, bytesOf_length]
theorem tx_bytes (s : ByteArray) : Bytes (tx s) := fun b hb => by
  rcases List.mem_append.1 hb with h | h
  · exact uvar_range _ b h
  · exact bytesOf_range s b h
theorem bytes_app {a b : List Int} (ha : Bytes a) (hb : Bytes b) : Bytes (a ++ b) := fun x hx => (List.mem_append.1 hx).elim (ha x) (hb x)
/-- A text that may be as long as all there is. -/
theorem text_one (x : List Int) (hx : Bytes x) (hl : x.length ≤ 1099511627776) :
    (∃ q, Ev (fun k => pack_Text.f k x (x.length : Int)) ((⟨#[]⟩ : ByteArray), 0, some q)) ∨
    ∃ (s : ByteArray) (rest : List Int), x = tx s ++ rest ∧ Ev (fun k => pack_Text.f k x (x.length : Int)) (s, ((tx s).length : Int), none) := by
  have e1 : IntKind.u64.wrap (x.length : Int) = (x.length : Int) := u64_wrap_id (by omega) (by omega)
  have h0 : ¬ (x.length : Int) < 0 := by omega
  unfold pack_Text.f
  obtain ⟨⟨r1, r2, r3⟩, g1, h2⟩ := uint_any0 x hx
  rcases h2 with ⟨rfl, rfl, h3⟩ | ⟨m, rest, hxe, hr_, hm⟩
  · cases r3 with
    | none => exact absurd rfl h3
    | some q => exact Or.inl ⟨q, ev_if_neg h0 (ev_bind g1 (ev_if_neg (by simp) (ev_some _)))⟩
  · rw [hr_] at g1
    have hlen : x.length = (uvar m).length + rest.length := by rw [hxe, List.length_append]
    have e2 : wrap64 ((x.length : Int) - ((uvar m).length : Int)) = ((rest.length : Nat) : Int) := by unfold wrap64; omega
    have e3 : IntKind.u64.wrap ((rest.length : Nat) : Int) = ((rest.length : Nat) : Int) := u64_wrap_id (by omega) (by omega)
    by_cases a1 : (m : Int) > (x.length : Int)
    · exact Or.inl ⟨2, ev_if_neg h0 (ev_bind g1 (ev_if_pos rfl (ev_if_pos (by rw [e1]; exact a1) (ev_some _))))⟩
    · by_cases a2 : (m : Int) > ((rest.length : Nat) : Int)
      · exact Or.inl ⟨12, ev_if_neg h0 (ev_bind g1 (ev_if_pos rfl (ev_if_neg (by rw [e1]; exact a1) (ev_if_pos (by simp only [e2, e3]; exact a2) (ev_some _)))))⟩
      · have e4 : wrap64 (m : Int) = (m : Int) := by unfold wrap64; omega
        have e5 : wrap64 (((uvar m).length : Int) + (m : Int)) = (((uvar m).length + m : Nat) : Int) := by unfold wrap64; omega
        have hr : ∀ b ∈ rest.take m, 0 ≤ b ∧ b ≤ 255 := fun b hb => hx b (by rw [hxe]; exact List.mem_append_right _ (List.mem_of_mem_take hb))
        have e6 : (x.take ((uvar m).length + m)).drop (uvar m).length = rest.take m := by rw [hxe, List.take_length_add_append, List.drop_left' rfl]
        have hs : (strOfNums (rest.take m)).size = m := by rw [str_size, List.length_take]; omega
        refine Or.inr ⟨strOfNums (rest.take m), rest.drop m, ?_, ?_⟩
        · rw [tx, List.append_assoc, hs, bytes_str hr, List.take_append_drop]; exact hxe
        · rw [← tx_len, hs]
          refine ev_if_neg h0 (ev_bind g1 (ev_if_pos rfl (ev_if_neg (by rw [e1]; exact a1) (ev_if_neg (by simp only [e2, e3]; exact a2) ?_))))
          simp only [e4, e5, show (0 : Int) ≤ ((uvar m).length : Int) by omega, show ((uvar m).length : Int) ≤ (((uvar m).length + m : Nat) : Int) by omega, show (((uvar m).length + m : Nat) : Int) ≤ (x.length : Int) by omega, if_true, Int.toNat_natCast, e6]
          exact ev_some _
theorem text_two (s : ByteArray) (r : List Int) (hr : Bytes r) (hl : (tx s ++ r).length ≤ 1099511627776) : Ev (fun k => pack_Text.f k (tx s ++ r) ((tx s ++ r).length : Int)) (s, ((tx s).length : Int), none) := by
  have hll : (tx s ++ r).length = (uvar s.size).length + (s.size + r.length) := by rw [tx, List.append_assoc, List.length_append, List.length_append, bytesOf_length]
  rw [hll] at hl ⊢
  have g1 := uint_dec s.size (bytesOf s ++ r) (by omega) (bytes_app (bytesOf_range s) hr)
  rw [tx_eq] at g1
  have e1 : IntKind.u64.wrap (((uvar s.size).length + (s.size + r.length) : Nat) : Int) = (((uvar s.size).length + (s.size + r.length) : Nat) : Int) := u64_wrap_id (by omega) (by omega)
  have e2 : wrap64 (((uvar s.size).length + (s.size + r.length) : Nat) - ((uvar s.size).length : Int)) = ((s.size + r.length : Nat) : Int) := by unfold wrap64; omega
  have e3 : IntKind.u64.wrap ((s.size + r.length : Nat) : Int) = ((s.size + r.length : Nat) : Int) := u64_wrap_id (by omega) (by omega)
  have e4 : wrap64 (s.size : Int) = (s.size : Int) := by unfold wrap64; omega
  have e5 : wrap64 (((uvar s.size).length : Int) + (s.size : Int)) = (((uvar s.size).length + s.size : Nat) : Int) := by unfold wrap64; omega
  have e6 : ((tx s ++ r).take ((uvar s.size).length + s.size)).drop (uvar s.size).length = bytesOf s := by
    rw [tx, List.append_assoc, List.take_length_add_append, List.drop_left' rfl, List.take_append_of_le_length (by rw [bytesOf_length]; omega), List.take_of_length_le (by rw [bytesOf_length]; omega)]
  rw [← tx_len]
  unfold pack_Text.f
  rw [hll]
  refine ev_if_neg (by omega) (ev_bind g1 (ev_if_pos rfl (ev_if_neg (by rw [e1]; show ¬ ((s.size : Int) > _); omega) (ev_if_neg (by simp only [e2, e3]; show ¬ ((s.size : Int) > _); omega) ?_))))
  simp only [e4, e5, show (0 : Int) ≤ ((uvar s.size).length : Int) by omega, show ((uvar s.size).length : Int) ≤ (((uvar s.size).length + s.size : Nat) : Int) by omega, show (((uvar s.size).length + s.size : Nat) : Int) ≤ (((uvar s.size).length + (s.size + r.length) : Nat) : Int) by omega, if_true, Int.toNat_natCast, e6, str_bytes]
  exact ev_some _
theorem rtext_dec (s : ByteArray) (r : List Int) (hr : Bytes r) (hl : (tx s ++ r).length ≤ 1099511627776) : Ev (fun k => rd_text k (tx s ++ r) false) (r, false, s) := by
  have hlen : (tx s).length ≤ (tx s ++ r).length := by rw [List.length_append]; omega
  unfold rd_text
  refine ev_bind (text_two s r hr hl) (ev_if_neg (by decide) (ev_if_pos rfl (ev_if_pos (show (0 : Int) ≤ ((tx s).length : Int) by omega) (ev_if_pos (show ((tx s).length : Int) ≤ ((tx s ++ r).length : Int) by omega) ?_))))
  show Ev (fun _ => some ((tx s ++ r).drop (((tx s).length : Nat) : Int).toNat, false, s)) _
  rw [Int.toNat_natCast, List.drop_left' rfl]; exact ev_some _
theorem rtext_bad (x : List Int) (hx : Bytes x) (hl : x.length ≤ 1099511627776) : Ev (fun k => rd_text k x true) (x, true, (⟨#[]⟩ : ByteArray)) := by
  unfold rd_text
  rcases text_one x hx hl with ⟨q, h1⟩ | ⟨s, r, _, h1⟩
  · exact ev_bind h1 (ev_if_pos rfl (ev_some _))
  · exact ev_bind h1 (ev_if_pos rfl (ev_some _))
theorem ruint_bad (x : List Int) (most : Int) (hx : Bytes x) : Ev (fun k => rd_uint k x true most) (x, true, 0) := by
  unfold rd_uint
  obtain ⟨r, h1, _⟩ := uint_any0 x hx
  exact ev_bind h1 (ev_if_pos rfl (ev_some _))
theorem ruint_dec (m : Nat) (r : List Int) (most : Int) (hm : (m : Int) ≤ most) (h64 : m ≤ 9223372036854775807) (hr : Bytes r) : Ev (fun k => rd_uint k (uvar m ++ r) false most) (r, false, (m : Int)) := by
  have hlen : ((uvar m ++ r).length : Int) = (uvar m).length + r.length := by rw [List.length_append]; omega
  have ew : wrap64 (m : Int) = (m : Int) := by unfold wrap64; omega
  unfold rd_uint
  refine ev_bind (uint_dec m r (by omega) hr) (ev_if_neg (by decide) (ev_if_pos rfl (ev_if_neg (show ¬ ((m : Int) > most) by omega) (ev_if_pos (show (0 : Int) ≤ ((uvar m).length : Int) by omega) (ev_if_pos (show ((uvar m).length : Int) ≤ ((uvar m ++ r).length : Int) by omega) ?_)))))
  show Ev (fun _ => some ((uvar m ++ r).drop (((uvar m).length : Nat) : Int).toNat, false, wrap64 (m : Int))) _
  rw [Int.toNat_natCast, List.drop_left' rfl, ew]; exact ev_some _
end Go.Proofs.YtddkbhglbkfelaaGreatDoor.T
