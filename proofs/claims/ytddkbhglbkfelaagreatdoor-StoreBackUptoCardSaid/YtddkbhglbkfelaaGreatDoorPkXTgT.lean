/- The catalog, and a write, there and back. -/
import Derived.Test.YtddkbhglbkfelaaGreatDoorPkXTfT
set_option linter.unusedVariables false
set_option linter.unusedSimpArgs false
namespace Go.Proofs.YtddkbhglbkfelaaGreatDoor.T
open Go.RowKit Go.Proofs.YtddkbhglbkfelaaGreatDoorW.PrintWords Go.Proofs.YtddkbhglbkfelaaGreatDoorW.PrintLast Go.Proofs.YtddkbhglbkfelaaGreatDoorX

theorem rd59_at {xs : List S59} {j : Nat} {c : S59} (h : xs[j]? = some c) : rd_T59 xs (j : Int) = c := by
  unfold rd_T59; rw [Int.toNat_natCast, List.getD_eq_getElem?_getD, h]; rfl
/-- What is known of a table. -/
def TOK (t : S59) : Prop := t.f0.size ≤ 1048576 ∧ t.f1.length ≤ 1048576 ∧ ∀ c ∈ t.f1, c.f0.size ≤ 1048576
theorem column_some (c : S118) (l : List S118) (h : c.f0.size ≤ 1048576) : ∃ e, Ev (fun k => table_column.f k c.f0 c.f1 c.f2 c.f3 l) e := by
  unfold table_column.f
  exact ⟨_, ev_bind (name_ev c.f0 h) (ev_some _)⟩
theorem check_loop_some (n : ByteArray) (C : List S118) (hb : C.length ≤ 1048576) (hC : ∀ c ∈ C, c.f0.size ≤ 1048576) : ∀ (cs : List S118) (j : Nat) (x : Int), C.drop j = cs → ∃ e, Ev (fun k => table_Check.l0 k x C (C.length : Int) (j : Int) n C) e
  | [], j, x, hd => by
    have := drop_nil hd
    by_cases hx : x = 0
    · exact ⟨_, ev_step (fun _ => table_Check.l0.eq_2 ..) (ev_if_neg (by omega) (ev_if_pos hx (ev_some _)))⟩
    · exact ⟨_, ev_step (fun _ => table_Check.l0.eq_2 ..) (ev_if_neg (by omega) (ev_if_neg hx (ev_some _)))⟩
  | c :: cs, j, x, hd => by
    obtain ⟨h1, h2, h3⟩ := drop_cons hd
    obtain ⟨e, he⟩ := column_some c (C.take (j : Int).toNat) (hC c (List.mem_of_getElem? h1))
    have st : ∀ {R}, Ev (fun k => if e.isNone = true then (if c.f2 = true then (table_Check.l0 k (wrap64 (x + 1)) C (C.length : Int) (wrap64 ((j : Int) + 1)) n C) else (table_Check.l0 k x C (C.length : Int) (wrap64 ((j : Int) + 1)) n C)) else (some (some (e.getD 0)))) R → Ev (fun k => table_Check.l0 k x C (C.length : Int) (j : Int) n C) R := by
      intro R hR
      refine ev_step (fun _ => table_Check.l0.eq_2 ..) (ev_if_pos (by omega) (ev_if_pos (by omega) (ev_if_pos (by omega) (ev_if_pos (by omega) ?_))))
      rw [rd36_at h1]
      exact ev_bind he hR
    rw [wrap_succ (j := j) (by omega)] at st
    cases e with
    | some q => exact ⟨_, st (ev_if_neg (by simp) (ev_some _))⟩
    | none =>
      by_cases hk : c.f2 = true
      · obtain ⟨r, hr⟩ := check_loop_some n C hb hC cs (j + 1) (wrap64 (x + 1)) h3
        exact ⟨r, st (ev_if_pos rfl (ev_if_pos hk hr))⟩
      · obtain ⟨r, hr⟩ := check_loop_some n C hb hC cs (j + 1) x h3
        exact ⟨r, st (ev_if_pos rfl (ev_if_neg hk hr))⟩
theorem check_some (t : S59) (h : TOK t) : ∃ e, Ev (fun k => table_Check.f k t.f0 t.f1) e := by
  unfold table_Check.f
  have hn := name_ev t.f0 h.1
  cases e : nameOk t.f0 with
  | false => rw [e] at hn; exact ⟨_, ev_bind hn (ev_if_neg (by decide) (ev_some _))⟩
  | true =>
    rw [e] at hn
    by_cases h0 : (t.f1.length : Int) = 0
    · exact ⟨_, ev_bind hn (ev_if_pos rfl (ev_if_pos h0 (ev_some _)))⟩
    · by_cases h1 : (t.f1.length : Int) > 16
      · exact ⟨_, ev_bind hn (ev_if_pos rfl (ev_if_neg h0 (ev_if_pos h1 (ev_some _))))⟩
      · obtain ⟨r, hr⟩ := check_loop_some t.f0 t.f1 h.2.1 h.2.2 t.f1 0 0 rfl
        exact ⟨r, ev_bind hn (ev_if_pos rfl (ev_if_neg h0 (ev_if_neg h1 hr)))⟩
theorem own_eq (t : S59) (h : TOK t) : table_own.f t.f0 t.f1 = some (t.f0, t.f1) := by
  unfold table_own.f clone_Column.f
  rw [if_pos (by have := h.2.1; omega)]; rfl
theorem nw_l1_some (tl : List S59) (h : ∀ t ∈ tl, TOK t) : ∀ (ts : List S59) (j : Nat), tl.drop j = ts → ∃ e, Ev (fun k => nw_l1 tl k j) e
  | [], j, hd => by
    have := drop_nil hd
    exact ⟨_, ev_step (fun _ => nw_l1.eq_2 ..) (ev_if_neg (by omega) (ev_some _))⟩
  | t :: ts, j, hd => by
    obtain ⟨h1, h2, h3⟩ := drop_cons hd
    obtain ⟨e, he⟩ := check_some t (h t (List.mem_of_getElem? h1))
    obtain ⟨r, hr⟩ := nw_l1_some tl h ts (j + 1) h3
    have st : ∀ {R}, Ev (fun k => if e.isNone = true then nw_l1 tl k (j + 1) else some e) R → Ev (fun k => nw_l1 tl k j) R := by
      intro R hR
      refine ev_step (fun _ => nw_l1.eq_2 ..) (ev_if_pos h2 ?_)
      rw [rd59_at h1]
      exact ev_bind he hR
    cases e with
    | some q => exact ⟨_, st (ev_if_neg (by simp) (ev_some _))⟩
    | none => exact ⟨r, st (ev_if_pos rfl hr)⟩
theorem nw_l2_some (tl : List S59) (h : ∀ t ∈ tl, TOK t) : ∀ (ts : List S59) (j : Nat), tl.drop j = ts → ∃ e, Ev (fun k => nw_l2 tl k j) e
  | [], j, hd => by
    have := drop_nil hd
    exact ⟨_, ev_step (fun _ => nw_l2.eq_2 ..) (ev_if_neg (by omega) (ev_some _))⟩
  | t :: ts, j, hd => by
    obtain ⟨h1, h2, h3⟩ := drop_cons hd
    have ht := h t (List.mem_of_getElem? h1)
    obtain ⟨r, hr⟩ := nw_l2_some tl h ts (j + 1) h3
    have st : ∀ {R}, Ev (fun k => if (findN (tl.take j) t.f0).isSome = true then some (some 9) else (table_own.f t.f0 t.f1).bind fun _ => nw_l2 tl k (j + 1)) R → Ev (fun k => nw_l2 tl k j) R := by
      intro R hR
      refine ev_step (fun _ => nw_l2.eq_2 ..) (ev_if_pos h2 ?_)
      rw [rd59_at h1]
      exact ev_if_pos (by have := ht.1; omega) hR
    by_cases hf : (findN (tl.take j) t.f0).isSome = true
    · exact ⟨_, st (ev_if_pos hf (ev_some _))⟩
    · refine ⟨r, st (ev_if_neg hf ?_)⟩
      rw [own_eq t ht]
      exact hr
/-- The law's catalog: there is an answer, and where it is yes there are few tables. -/
theorem law_cat (tl : List S59) (h : ∀ t ∈ tl, TOK t) (hl : tl.length ≤ 1048576) : ∃ ok, Ev (fun k => lawcat.f k tl) ok ∧ (ok = true → tl.length ≤ 32) := by
  have hall : tl.all (fun t => decide (t.f1.length * 32 ≤ 140737488355328)) = true ∧ tl.length * 40 ≤ 140737488355328 := by
    refine ⟨List.all_eq_true.2 fun t ht => decide_eq_true ?_, by omega⟩
    have := (h t ht).2.1
    omega
  have hN : ∃ e, Ev (fun k => table_New.f k tl) e ∧ (e = none → tl.length ≤ 32) := by
    unfold table_New.f
    by_cases h32 : (tl.length : Int) > 32
    · exact ⟨_, ev_if_pos h32 (ev_some _), fun hh => by cases hh⟩
    · obtain ⟨e1, g1⟩ := nw_l1_some tl h tl 0 rfl
      obtain ⟨e2, g2⟩ := nw_l2_some tl h tl 0 rfl
      cases e1 with
      | some q => exact ⟨_, ev_if_neg h32 (ev_bind g1 (ev_if_neg (by simp) (ev_some _))), fun _ => by omega⟩
      | none => exact ⟨_, ev_if_neg h32 (ev_bind g1 (ev_if_pos rfl g2)), fun _ => by omega⟩
  obtain ⟨e, he, h32⟩ := hN
  refine ⟨e.isNone, ?_, fun hh => h32 (by simpa using hh)⟩
  unfold lawcat.f
  exact ev_if_pos hall (ev_bind he (ev_some _))
/-! ### a key -/
theorem keyPos_range : ∀ (cs : List S118) (j : Nat), ∀ p ∈ keyPos cs j, (j : Int) ≤ p ∧ p < (j : Int) + cs.length
  | [], _, p, hp => by cases hp
  | c :: cs, j, p, hp => by
    have ih := keyPos_range cs (j + 1)
    rw [List.length_cons]
    unfold keyPos at hp
    split at hp
    · rcases List.mem_cons.1 hp with rfl | hp
      · omega
      · have := ih p hp; omega
    · have := ih p hp; omega
theorem keyof_loop (n : ByteArray) (C : List S118) (V : List S63) (P : List Int) (hV : LOK V) (hl : V.length = P.length) (hP : ∀ p ∈ P, 0 ≤ p ∧ p < (C.length : Int)) : ∀ (ps : List Int) (j : Nat), P.drop j = ps → ∃ R, Ev (fun k => row_KeyOf.l0 k V P (P.length : Int) (j : Int) n C) R ∧ (R.2 = none → R = ordR V)
  | [], j, hd => by
    have := drop_nil hd
    exact ⟨ordR V, ev_step (fun _ => row_KeyOf.l0.eq_2 ..) (ev_if_neg (by omega) (ev_bind (order_ev V hV.1 (by have := hV.2.1; omega) hV.2.2) (ev_some _))), fun _ => rfl⟩
  | p :: ps, j, hd => by
    obtain ⟨h1, h2, h3⟩ := drop_cons hd
    obtain ⟨p0, p1⟩ := hP p (List.mem_of_getElem? h1)
    have hV1 := hV.2.1
    obtain ⟨v, hv⟩ : ∃ v, V[j]? = some v := ⟨V[j], List.getElem?_eq_getElem (by omega)⟩
    obtain ⟨r, hr, hr2⟩ := keyof_loop n C V P hV hl hP ps (j + 1) h3
    have st : ∀ {R}, Ev (fun k => if (vErr v.f0 v.f1 v.f2 v.f3).isNone = true then (if 0 ≤ p then (if p < (C.length : Int) then (if v.f0 = (rd_T118 C p).f1 then (if v.f0 = 0 then (some ((⟨#[]⟩ : ByteArray), some 7)) else (row_KeyOf.l0 k V P (P.length : Int) ((j + 1 : Nat) : Int) n C)) else (some ((⟨#[]⟩ : ByteArray), some 7))) else none) else none) else (some ((⟨#[]⟩ : ByteArray), some ((vErr v.f0 v.f1 v.f2 v.f3).getD 0)))) R → Ev (fun k => row_KeyOf.l0 k V P (P.length : Int) (j : Int) n C) R := by
      intro R hR
      refine ev_step (fun _ => row_KeyOf.l0.eq_2 ..) (ev_if_pos (by omega) (ev_if_pos (by omega) (ev_if_pos (by omega) (ev_if_pos (by omega) ?_))))
      rw [rd38_at hv, rdn_at h1, wrap_succ (j := j) (by omega)]
      exact ev_bind (valid_ev ..) hR
    by_cases he : (vErr v.f0 v.f1 v.f2 v.f3).isNone = true
    · by_cases hk : v.f0 = (rd_T118 C p).f1
      · by_cases h0 : v.f0 = 0
        · exact ⟨_, st (ev_if_pos he (ev_if_pos p0 (ev_if_pos p1 (ev_if_pos hk (ev_if_pos h0 (ev_some _)))))), fun hh => by cases hh⟩
        · exact ⟨r, st (ev_if_pos he (ev_if_pos p0 (ev_if_pos p1 (ev_if_pos hk (ev_if_neg h0 hr))))), hr2⟩
      · exact ⟨_, st (ev_if_pos he (ev_if_pos p0 (ev_if_pos p1 (ev_if_neg hk (ev_some _))))), fun hh => by cases hh⟩
    · exact ⟨_, st (ev_if_neg he (ev_some _)), fun hh => by cases hh⟩
theorem keyof_ev (n : ByteArray) (C : List S118) (V : List S63) (hV : LOK V) (hC : C.length ≤ 1048576) : ∃ R, Ev (fun k => row_KeyOf.f k n C V) R ∧ (R.2 = none → R = ordR V) := by
  unfold row_KeyOf.f
  have hk := keys_ev n C (by omega)
  by_cases hl : (V.length : Int) = ((keyPos C 0).length : Int)
  · obtain ⟨R, h1, h2⟩ := keyof_loop n C V (keyPos C 0) hV (by omega) (fun p hp => by have := keyPos_range C 0 p hp; omega) (keyPos C 0) 0 rfl
    exact ⟨R, ev_bind hk (ev_if_pos hl h1), h2⟩
  · exact ⟨_, ev_bind hk (ev_if_neg hl (ev_some _)), fun hh => by cases hh⟩
/-! ### a write -/
theorem findN_at : ∀ (tl : List S59) (s : ByteArray) (i : Nat), findN tl s = some i → ∃ t, tl[i]? = some t ∧ t.f0 = s
  | [], _, _, h => by simp [findN] at h
  | t :: r, s, i, h => by
    unfold findN at h
    by_cases c : t.f0 = s
    · rw [if_pos c] at h; cases h; exact ⟨t, rfl, c⟩
    · rw [if_neg c] at h
      obtain ⟨j, hj, rfl⟩ := Option.map_eq_some_iff.1 h
      obtain ⟨u, h1, h2⟩ := findN_at r s j hj
      exact ⟨u, by simpa using h1, h2⟩
theorem table_at {tl : List S59} {i : Nat} {t : S59} (h : tl[i]? = some t) (ht : TOK t) : cat_Table.f tl (i : Int) = some (t.f0, t.f1, none) := by
  have hi : i < tl.length := by
    rcases Nat.lt_or_ge i tl.length with h1 | h1
    · exact h1
    · rw [List.getElem?_eq_none h1] at h; cases h
  unfold cat_Table.f
  rw [if_pos ⟨by omega, by omega⟩, rd59_at h, own_eq t ht]; rfl
theorem count_ev (n : Nat) (x : List Int) (hn : n < 18446744073709551616) (hx : x.length ≤ 1099511627776) : Ev (fun k => store_count.f k x (n : Int)) (x ++ uvar n) := by
  unfold store_count.f
  rw [u64_wrap_id (by omega) (by omega)]
  exact ev_bind (uint_ev n x hn hx) (ev_some _)
theorem byte_dec (b : Int) (r : List Int) (h1 : b ≤ 1) : rd_byte (b :: r) false 1 = (r, false, b) := by
  unfold rd_byte
  rw [if_neg (by decide), if_neg (by simp only [List.length_cons]; omega), if_neg (by show ¬ b > 1; omega)]
  rfl
def wsz (w : S68) : Nat := 70100 + bulk w.f2
/-- What a write's bytes are: the reader gives it back. -/
def Back (tl : List S59) (w : S68) (e : List Int) : Prop :=
  Bytes e ∧ 1 ≤ e.length ∧ e.length ≤ wsz w ∧ ∀ r, Bytes r → (e ++ r).length ≤ 1099511627776 → Ev (fun k => rd_write k tl (e ++ r) false) (r, false, w)
theorem find_none (tl : List S59) (nm : ByteArray) (hn : nm.size ≤ 1048576) (hf : findN tl nm = none) : store_find.f tl nm = some (0, (⟨#[]⟩ : ByteArray), [], some 30) := by
  unfold store_find.f cat_Find.f
  rw [if_pos (by omega), hf]
  rfl
theorem find_some (tl : List S59) (nm : ByteArray) (hn : nm.size ≤ 1048576) (i : Nat) (t : S59) (hf : findN tl nm = some i) (ht : tl[i]? = some t) (tok : TOK t) : store_find.f tl nm = some ((i : Int), t.f0, t.f1, none) := by
  unfold store_find.f cat_Find.f
  rw [if_pos (by omega), hf]
  show (cat_Table.f tl (i : Int)).bind _ = _
  rw [table_at ht tok]
  rfl
theorem key_write (k : Nat) (x : List Int) (i : Nat) (t : S59) (tl : List S59) (w : S68) (hs : store_find.f tl w.f0 = some ((i : Int), t.f0, t.f1, none)) (hd : w.f1 = true) :
    store_write.f k x tl w.f0 w.f1 w.f2 = (store_count.f k x (i : Int)).bind fun t347 => (row_KeyOf.f k t.f0 t.f1 w.f2).bind fun bt350 => if bt350.2.isNone = true then (if t347.length < 140737488355328 then (pack_AppendText.f k (t347 ++ [1]) bt350.1).bind fun t356 => some (t356, none) else none) else some (([] : List Int), some (bt350.2.getD 0)) := by
  rw [hd, store_write.f, hs, Option.bind_some]
  rw [if_pos (show (none : Option Int).isNone = true from rfl)]
  refine congrArg _ (funext fun t347 => ?_)
  exact if_pos rfl
theorem row_write (k : Nat) (x : List Int) (i : Nat) (t : S59) (tl : List S59) (w : S68) (hs : store_find.f tl w.f0 = some ((i : Int), t.f0, t.f1, none)) (hd : w.f1 = false) :
    store_write.f k x tl w.f0 w.f1 w.f2 = (store_count.f k x (i : Int)).bind fun t347 => (row_Encode.f k t.f0 t.f1 w.f2).bind fun bt359 => if bt359.2.isNone = true then (if t347.length < 140737488355328 then (pack_AppendText.f k (t347 ++ [0]) (strOfNums bt359.1)).bind fun t367 => some (t367, none) else none) else some (([] : List Int), some (bt359.2.getD 0)) := by
  rw [hd, store_write.f, hs, Option.bind_some]
  rw [if_pos (show (none : Option Int).isNone = true from rfl)]
  refine congrArg _ (funext fun t347 => ?_)
  exact if_neg Bool.false_ne_true
theorem assoc_ (x u : List Int) (b : Int) (s : ByteArray) : x ++ u ++ [b] ++ (uvar s.size ++ bytesOf s) = x ++ (u ++ b :: tx s) := by
  rw [tx]; simp only [List.append_assoc, List.singleton_append, List.cons_append, List.nil_append]
theorem bcons {b : Int} {l : List Int} (h0 : 0 ≤ b) (h1 : b ≤ 255) (h : Bytes l) : Bytes (b :: l) := fun y hy => by
  rcases List.mem_cons.1 hy with rfl | hy
  · exact ⟨h0, h1⟩
  · exact h y hy
theorem key_both (tl : List S59) (w : S68) (i : Nat) (t : S59) (ht : tl[i]? = some t) (hnm : t.f0 = w.f0) (tok : TOK t) (hi : i < 32) (hs : store_find.f tl w.f0 = some ((i : Int), t.f0, t.f1, none)) (hV : LOK w.f2) (hd : w.f1 = true) (x : List Int) (hx : x.length ≤ 549755813888) :
    ∃ R, Ev (fun k => store_write.f k x tl w.f0 w.f1 w.f2) R ∧ (R.2.isSome = true ∨ R.2 = none ∧ ∃ e, R.1 = x ++ e ∧ Back tl w e) := by
  have h10 := uvar_len64 (n := i) (by omega)
  have hcnt := count_ev i x (by omega) (by omega)
  have hxl : (x ++ uvar i).length ≤ 549755813898 := by rw [List.length_append]; omega
  simp only [key_write _ x i t tl w hs hd]
  obtain ⟨⟨R1, R2⟩, k1, k2⟩ := keyof_ev t.f0 t.f1 w.f2 hV tok.2.1
  cases R2 with
  | some q => exact ⟨([], some q), ev_bind hcnt (ev_bind k1 (ev_if_neg (by simp) (ev_some _))), Or.inl rfl⟩
  | none =>
    have hord := k2 rfl
    have hR : (ordR w.f2).2 = none := by rw [← hord]
    have h1R : (ordR w.f2).1 = R1 := by rw [← hord]
    have hsz := ord_size hR
    have hts : (tx (ordR w.f2).1).length ≤ 70000 := line_len hR
    have hrv := fun r hr hl => rvalues_dec hR hV.1 r hr hl
    rw [h1R] at hsz hts hrv
    have htx := text_ev R1 (x ++ uvar i ++ [1]) (by omega) (by rw [List.length_append, List.length_singleton]; omega)
    refine ⟨(x ++ uvar i ++ [1] ++ (uvar R1.size ++ bytesOf R1), none), ev_bind hcnt (ev_bind k1 (ev_if_pos rfl (ev_if_pos (by omega) (ev_bind htx (ev_some _))))), Or.inr ⟨rfl, uvar i ++ 1 :: tx R1, assoc_ x _ 1 _, ?_⟩⟩
    have hb2 : Bytes (1 :: tx R1) := bcons (by decide) (by decide) (tx_bytes _)
    refine ⟨bytes_app (uvar_range i) hb2, by rw [List.length_append, List.length_cons]; omega, by unfold wsz; rw [List.length_append, List.length_cons]; omega, fun r hr hl => ?_⟩
    have hl' : (tx R1 ++ r).length ≤ 1099511627776 := by
      simp only [List.length_append, List.length_cons] at hl ⊢; omega
    have hb3 : Bytes (1 :: tx R1 ++ r) := bytes_app hb2 hr
    unfold rd_write
    rw [List.append_assoc]
    refine ev_bind (ruint_dec i _ 32 (by omega) (by omega) hb3) ?_
    simp only [table_at ht tok, List.cons_append, Option.bind_some, Option.isNone_none, if_true, byte_dec 1 _ (Int.le_refl _)]
    refine ev_if_pos rfl (ev_bind (hrv r hr hl') (ev_bind k1 ?_))
    have e : (⟨t.f0, true, w.f2⟩ : S68) = w := by rw [hnm, ← hd]
    rw [e]
    exact ev_some _
theorem row_both (tl : List S59) (w : S68) (i : Nat) (t : S59) (ht : tl[i]? = some t) (hnm : t.f0 = w.f0) (tok : TOK t) (hi : i < 32) (hs : store_find.f tl w.f0 = some ((i : Int), t.f0, t.f1, none)) (hV : LOK w.f2) (hd : w.f1 = false) (x : List Int) (hx : x.length ≤ 549755813888) :
    ∃ R, Ev (fun k => store_write.f k x tl w.f0 w.f1 w.f2) R ∧ (R.2.isSome = true ∨ R.2 = none ∧ ∃ e, R.1 = x ++ e ∧ Back tl w e) := by
  have hV2 := hV.2.1
  have h10 := uvar_len64 (n := i) (by omega)
  have hcnt := count_ev i x (by omega) (by omega)
  have hxl : (x ++ uvar i).length ≤ 549755813898 := by rw [List.length_append]; omega
  simp only [row_write _ x i t tl w hs hd]
  have henc := encode_ev t.f0 t.f1 w.f2 (by have := tok.2.1; omega) hV.1 (by omega) hV.2.2
  cases hc : chk t.f1 w.f2 with
  | some q =>
    have e : encR t.f1 w.f2 = ([], some q) := by unfold encR; rw [hc]
    rw [e] at henc
    exact ⟨([], some q), ev_bind hcnt (ev_bind henc (ev_if_neg (by simp) (ev_some _))), Or.inl rfl⟩
  | none =>
    have e : encR t.f1 w.f2 = (encL w.f2, none) := by unfold encR; rw [hc]
    rw [e] at henc
    have hsz : (strOfNums (encL w.f2)).size = (encL w.f2).length := str_size _
    have hlen := encL_length w.f2 hV.1
    have hbk := hV.2.2
    have hbs := bytes_str (encL_range w.f2)
    generalize hS : strOfNums (encL w.f2) = s at *
    have h11 := uvar_len64 (n := s.size) (by omega)
    have htx := text_ev s (x ++ uvar i ++ [0]) (by omega) (by rw [List.length_append, List.length_singleton]; omega)
    refine ⟨(x ++ uvar i ++ [0] ++ (uvar s.size ++ bytesOf s), none), ev_bind hcnt (ev_bind henc (ev_if_pos rfl (ev_if_pos (by omega) (by rw [hS]; exact ev_bind htx (ev_some _))))), Or.inr ⟨rfl, uvar i ++ 0 :: tx s, assoc_ x _ 0 _, ?_⟩⟩
    have hb2 : Bytes (0 :: tx s) := bcons (by decide) (by decide) (tx_bytes _)
    have hts : (tx s).length ≤ 10 + bulk w.f2 := by rw [tx, List.length_append, bytesOf_length]; omega
    refine ⟨bytes_app (uvar_range i) hb2, by rw [List.length_append, List.length_cons]; omega, by unfold wsz; rw [List.length_append, List.length_cons]; omega, fun r hr hl => ?_⟩
    have hl' : (tx s ++ r).length ≤ 1099511627776 := by
      simp only [List.length_append, List.length_cons] at hl ⊢; omega
    have hb3 : Bytes (0 :: tx s ++ r) := bytes_app hb2 hr
    have hrow : Ev (fun k => rd_row k (tx s ++ r) false t.f0 t.f1) (r, false, w.f2) := by
      unfold rd_row
      refine ev_bind (rtext_dec _ r hr hl') (ev_if_pos (show s.size ≤ 9223372036854775807 by omega) ?_)
      refine ev_bind (a := (w.f2, none)) ?_ (ev_some _)
      show Ev (fun k => row_Decode.f k t.f0 t.f1 (bytesOf s)) _
      rw [hbs]
      exact rdecode_ev t.f0 t.f1 w.f2 (by have := tok.2.1; omega) hc hbk hV.1
    unfold rd_write
    rw [List.append_assoc]
    refine ev_bind (ruint_dec i _ 32 (by omega) (by omega) hb3) ?_
    simp only [table_at ht tok, List.cons_append, Option.bind_some, Option.isNone_none, if_true, byte_dec 0 _ (by decide)]
    refine ev_if_neg (by decide) (ev_bind hrow ?_)
    have e : (⟨t.f0, false, w.f2⟩ : S68) = w := by rw [hnm, ← hd]
    rw [e]
    exact ev_some _
theorem write_both (tl : List S59) (htl : ∀ t ∈ tl, TOK t) (h32 : tl.length ≤ 32) (w : S68) (hn : w.f0.size ≤ 1048576) (hV : LOK w.f2) (x : List Int) (hx : x.length ≤ 549755813888) :
    ∃ R, Ev (fun k => store_write.f k x tl w.f0 w.f1 w.f2) R ∧ (R.2.isSome = true ∨ R.2 = none ∧ ∃ e, R.1 = x ++ e ∧ Back tl w e) := by
  cases hf : findN tl w.f0 with
  | none =>
    refine ⟨([], some 30), ?_, Or.inl rfl⟩
    unfold store_write.f
    rw [find_none tl w.f0 hn hf]
    exact ev_some _
  | some i =>
    obtain ⟨t, ht, hnm⟩ := findN_at tl w.f0 i hf
    have tok := htl t (List.mem_of_getElem? ht)
    have hi : i < 32 := by
      rcases Nat.lt_or_ge i tl.length with h1 | h1
      · omega
      · rw [List.getElem?_eq_none h1] at ht; cases ht
    have hs := find_some tl w.f0 hn i t hf ht tok
    by_cases hd : w.f1 = true
    · exact key_both tl w i t ht hnm tok hi hs hV hd x hx
    · exact row_both tl w i t ht hnm tok hi hs hV (by simpa using hd) x hx
end Go.Proofs.YtddkbhglbkfelaaGreatDoor.T
