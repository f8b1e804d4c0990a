/- Names, the bytes of what is let down, and what stands in the bytes of some values. -/
import Derived.Test.YtddkbhglbkfelaaGreatDoorPkXTcT
set_option linter.unusedVariables false
set_option linter.unusedSimpArgs false
namespace Go.Proofs.YtddkbhglbkfelaaGreatDoor.T
open Go.RowKit Go.Proofs.YtddkbhglbkfelaaGreatDoorW.PrintWords Go.Proofs.YtddkbhglbkfelaaGreatDoorW.PrintLast Go.Proofs.YtddkbhglbkfelaaGreatDoorX
def resv (a : ByteArray) : Bool := (table_Reserved.f a).getD false
theorem resv_eq (a : ByteArray) (hs : a.size ≤ 1048576) : table_Reserved.f a = some (resv a) := by
  have h : ∃ b, table_Reserved.f a = some b := by
    unfold table_Reserved.f strings_Contains.f strings_Index.f
    by_cases h0 : a.toList = ([] : List UInt8)
    · exact ⟨_, if_pos h0⟩
    · rw [if_neg h0, if_pos (show a.size < 4294967281 by omega)]
      simp only [Option.bind_some]
      split
      · exact ⟨_, rfl⟩
      · have es : ((⟨#[32]⟩ : ByteArray) ++ a).size = 1 + a.size := by rw [ByteArray.size_append]; rfl
        rw [if_pos (by omega), if_pos (by rw [es]; omega)]
        split
        case isFalse hJ => exact absurd (by decide +kernel) hJ
        exact ⟨_, rfl⟩
  obtain ⟨b, hb⟩ := h
  unfold resv
  rw [hb]; rfl
def nmOk : Nat → List UInt8 → Bool
  | _, [] => true
  | i, c :: cs => ((97 ≤ c.toNat && c.toNat ≤ 122) || (decide (0 < i) && (c.toNat == 95 || (48 ≤ c.toNat && c.toNat ≤ 57)))) && nmOk (i + 1) cs
def nameOk (a : ByteArray) : Bool := decide (1 ≤ a.size) && decide (a.size ≤ 32) && !(resv a) && nmOk 0 a.data.toList
theorem name_loop (a : ByteArray) (hs : a.size ≤ 1048576) : ∀ (cs : List UInt8) (i : Nat), a.data.toList.drop i = cs → Ev (fun k => table_Name.l0 k a (a.size : Int) (i : Int)) (nmOk i cs)
  | [], i, hd => by
    have := drop_nil hd
    rw [size_data] at this
    exact ev_step (fun _ => table_Name.l0.eq_2 ..) (ev_if_neg (by omega) (ev_some _))
  | c :: cs, i, hd => by
    obtain ⟨h1, h2, h3⟩ := drop_cons hd
    rw [size_data] at h2
    have ih := name_loop a hs cs (i + 1) h3
    refine ev_step (fun _ => table_Name.l0.eq_2 ..) (ev_if_pos (by omega) (ev_if_pos (by omega) (ev_if_pos (by omega) ?_)))
    rw [bt_at hd, wrap_succ (j := i) (by omega)]
    unfold nmOk
    have tail : ¬ (97 ≤ c.toNat ∧ c.toNat ≤ 122) → Ev (fun k => if (i : Int) = 0 then (some false) else (if (c.toNat : Int) = 95 then (table_Name.l0 k a (a.size : Int) ((i + 1 : Nat) : Int)) else (if (c.toNat : Int) < 48 then (some false) else (if (c.toNat : Int) > 57 then (some false) else (table_Name.l0 k a (a.size : Int) ((i + 1 : Nat) : Int)))))) (((97 ≤ c.toNat && c.toNat ≤ 122) || (decide (0 < i) && (c.toNat == 95 || (48 ≤ c.toNat && c.toNat ≤ 57)))) && nmOk (i + 1) cs) := by
      intro hn
      have en : (decide (97 ≤ c.toNat) && decide (c.toNat ≤ 122)) = false := by rw [← Bool.decide_and]; exact decide_eq_false hn
      rw [en, Bool.false_or]
      by_cases i0 : i = 0
      · subst i0; exact ev_if_pos rfl (ev_some _)
      · refine ev_if_neg (by omega) ?_
        rw [decide_eq_true (show 0 < i by omega), Bool.true_and]
        by_cases c95 : c.toNat = 95
        · rw [show (c.toNat == 95) = true from beq_iff_eq.2 c95, Bool.true_or, Bool.true_and]
          exact ev_if_pos (by omega) ih
        · rw [show (c.toNat == 95) = false from beq_eq_false_iff_ne.2 c95, Bool.false_or]
          refine ev_if_neg (by omega) ?_
          by_cases c48 : c.toNat < 48
          · rw [decide_eq_false (show ¬ 48 ≤ c.toNat by omega), Bool.false_and, Bool.false_and]
            exact ev_if_pos (by omega) (ev_some _)
          · refine ev_if_neg (by omega) ?_
            rw [decide_eq_true (show 48 ≤ c.toNat by omega), Bool.true_and]
            by_cases c57 : c.toNat > 57
            · rw [decide_eq_false (show ¬ c.toNat ≤ 57 by omega), Bool.false_and]
              exact ev_if_pos (by omega) (ev_some _)
            · rw [decide_eq_true (show c.toNat ≤ 57 by omega), Bool.true_and]
              exact ev_if_neg (by omega) ih
    by_cases c97 : (c.toNat : Int) ≥ 97
    · refine ev_if_pos c97 ?_
      by_cases c122 : (c.toNat : Int) ≤ 122
      · refine ev_if_pos c122 ?_
        rw [decide_eq_true (show 97 ≤ c.toNat by omega), decide_eq_true (show c.toNat ≤ 122 by omega), Bool.and_self, Bool.true_or, Bool.true_and]
        exact ih
      · exact ev_if_neg c122 (tail (by omega))
    · exact ev_if_neg c97 (tail (by omega))
theorem name_ev (a : ByteArray) (hs : a.size ≤ 1048576) : Ev (fun k => table_Name.f k a) (nameOk a) := by
  unfold table_Name.f nameOk
  by_cases h1 : (a.size : Int) < 1
  · rw [decide_eq_false (show ¬ 1 ≤ a.size by omega), Bool.false_and, Bool.false_and, Bool.false_and]
    exact ev_if_pos h1 (ev_step (fun _ => table_Name.j0.eq_2 ..) (ev_if_pos rfl (ev_some _)))
  · rw [decide_eq_true (show 1 ≤ a.size by omega), Bool.true_and]
    refine ev_if_neg h1 ?_
    by_cases h2 : (a.size : Int) > 32
    · rw [decide_eq_false (show ¬ a.size ≤ 32 by omega), Bool.false_and, Bool.false_and]
      exact ev_if_pos h2 (ev_step (fun _ => table_Name.j0.eq_2 ..) (ev_if_pos rfl (ev_some _)))
    · rw [decide_eq_true (show a.size ≤ 32 by omega), Bool.true_and]
      refine ev_if_neg h2 ?_
      rw [resv_eq a hs]
      simp only [Option.bind_some]
      cases h : resv a with
      | true => exact ev_step (fun _ => table_Name.j0.eq_2 ..) (ev_if_pos rfl (ev_some _))
      | false => exact ev_step (fun _ => table_Name.j0.eq_2 ..) (ev_if_neg (by decide) (name_loop a hs _ 0 rfl))
theorem valL_none : ∀ (vs : List S63), valL vs = none → ∀ v ∈ vs, vErr v.f0 v.f1 v.f2 v.f3 = none
  | [], _, v, hv => by cases hv
  | w :: vs, h, v, hv => by
    simp only [valL] at h
    cases e : vErr w.f0 w.f1 w.f2 w.f3 with
    | some _ => rw [e] at h; cases h
    | none =>
      rw [e] at h
      rcases List.mem_cons.1 hv with rfl | hv
      · exact e
      · exact valL_none vs h v hv
theorem ord_ok {V : List S63} (h : (ordR V).2 = none) : valL V = none ∧ V.length ≤ 16 ∧ (ordR V).1 = strOfNums (kencL V) := by
  unfold ordR at h ⊢
  cases e : valL V with
  | some q => rw [e] at h; cases h
  | none =>
    rw [e] at h
    by_cases hl : (V.length : Int) > 16
    · simp only [hl, if_true] at h; cases h
    · simp only [hl, if_false]; refine ⟨?_, by omega, ?_⟩ <;> trivial
theorem kencL_len : ∀ (V : List S63), (∀ v ∈ V, v.f2.size ≤ 4096) → (kencL V).length ≤ 4108 * V.length
  | [], _ => by simp [kencL]
  | v :: vs, h => by
    have a := h v List.mem_cons_self
    have b := kencL_len vs (fun x hx => h x (List.mem_cons_of_mem _ hx))
    have c := kenc_length v
    simp only [kencL, List.length_append, List.length_cons]; omega
theorem ord_size {V : List S63} (h : (ordR V).2 = none) : (ordR V).1.size ≤ 65728 := by
  obtain ⟨h1, h2, h3⟩ := ord_ok h
  rw [h3, str_size]
  have := kencL_len V (fun v hv => (vErr_none (valL_none V h1 v hv)).2.2.2.2.1)
  omega
/-- What is let down, line by line. -/
def encLs : List (List S63) → List Int → List Int × Option Int
  | [], x => (x, none)
  | V :: r, x => match (ordR V).2 with | some e => ([], some e) | none => encLs r (x ++ (uvar (ordR V).1.size ++ bytesOf (ordR V).1))
def encE (a : ByteArray) (L : List (List S63)) : List Int × Option Int := if nameOk a = true then encLs L ([2] ++ (uvar a.size ++ bytesOf a) ++ uvar L.length) else ([], some 30)
def LOK (V : List S63) : Prop := (∀ v ∈ V, OKv v) ∧ V.length ≤ 1048576 ∧ bulk V ≤ 1099511627776
theorem rdL_at {xs : List (List S63)} {j : Nat} {c : List S63} (h : xs[j]? = some c) : rd_L9 xs (j : Int) = c := by
  unfold rd_L9; rw [Int.toNat_natCast, List.getD_eq_getElem?_getD, h]; rfl
theorem line_len {V : List S63} (h : (ordR V).2 = none) : (uvar (ordR V).1.size ++ bytesOf (ordR V).1).length ≤ 70000 := by
  have a := ord_size h
  have b := uvar_len64 (n := (ordR V).1.size) (by omega)
  rw [List.length_append, bytesOf_length]; omega
theorem enc_loop (L : List (List S63)) (hL : ∀ V ∈ L, LOK V) (hb : L.length ≤ 1048576) : ∀ (r : List (List S63)) (j : Nat) (x : List Int), L.drop j = r → x.length + 70000 * r.length ≤ 1099511627776 → Ev (fun k => store_EncodeEntry.l0 k x L (L.length : Int) (j : Int)) (encLs r x)
  | [], j, x, hd, hx => by
    have := drop_nil hd
    exact ev_step (fun _ => store_EncodeEntry.l0.eq_2 ..) (ev_if_neg (by omega) (ev_some _))
  | V :: r, j, x, hd, hx => by
    obtain ⟨h1, h2, h3⟩ := drop_cons hd
    have hV := hL V (List.mem_of_getElem? h1)
    rw [List.length_cons] at hx
    refine ev_step (fun _ => store_EncodeEntry.l0.eq_2 ..) (ev_if_pos (by omega) (ev_if_pos (by omega) (ev_if_pos (by omega) ?_)))
    rw [rdL_at h1, wrap_succ (j := j) (by omega)]
    refine ev_bind (order_ev V hV.1 (by have := hV.2.1; omega) hV.2.2) ?_
    unfold encLs
    cases h : (ordR V).2 with
    | some e => exact ev_if_neg (by simp) (ev_some _)
    | none =>
      have hl := line_len h
      refine ev_if_pos rfl (ev_bind (text_ev (ordR V).1 x (by have := ord_size h; omega) (by omega)) ?_)
      exact enc_loop L hL hb r (j + 1) _ h3 (by rw [List.length_append]; omega)
theorem enc_ev (a : ByteArray) (L : List (List S63)) (ha : a.size ≤ 1048576) (hL : ∀ V ∈ L, LOK V) (hb : L.length ≤ 1048576) : Ev (fun k => store_EncodeEntry.f k a L) (encE a L) := by
  unfold store_EncodeEntry.f encE
  refine ev_bind (name_ev a ha) ?_
  cases h : nameOk a with
  | false => exact ev_if_neg (by decide) (ev_some _)
  | true =>
    have h10 := uvar_len64 (n := a.size) (by omega)
    have h11 := uvar_len64 (n := L.length) (by omega)
    refine ev_if_pos rfl (ev_bind (text_ev a [2] (by omega) (by simp)) ?_)
    refine ev_bind (a := ([2] ++ (uvar a.size ++ bytesOf a)) ++ uvar L.length) ?_ ?_
    · unfold store_count.f
      rw [u64_wrap_id (by omega) (by omega)]
      exact ev_bind (uint_ev L.length _ (by omega) (by simp only [List.length_append, List.length_cons, List.length_nil, bytesOf_length]; omega)) (ev_some _)
    · exact enc_loop L hL hb L 0 _ rfl (by simp only [List.length_append, List.length_cons, List.length_nil, bytesOf_length]; omega)
end Go.Proofs.YtddkbhglbkfelaaGreatDoor.T
