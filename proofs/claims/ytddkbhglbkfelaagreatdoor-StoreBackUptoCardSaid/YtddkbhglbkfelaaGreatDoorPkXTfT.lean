/- Values back from their bytes; an entry back from its bytes. -/
import Derived.Test.YtddkbhglbkfelaaGreatDoorPkXTeT
set_option linter.unusedVariables false
set_option linter.unusedSimpArgs false
namespace Go.Proofs.YtddkbhglbkfelaaGreatDoor.T
open Go.RowKit Go.Proofs.YtddkbhglbkfelaaGreatDoorW.PrintWords Go.Proofs.YtddkbhglbkfelaaGreatDoorW.PrintLast Go.Proofs.YtddkbhglbkfelaaGreatDoorX
theorem plain_ne {s : ByteArray} (h : plainT s = true) : ∀ x ∈ bytesOf s, x ≠ 0 := fun x hx => by have := plain_range h x hx; omega
theorem nums_cons (c : UInt8) (r : List UInt8) : nums (c :: r) = (c.toNat : Int) :: nums r := rfl
theorem one_back (v : S63) (hv : vErr v.f0 v.f1 v.f2 v.f3 = none) (ov : OKv v) (c : UInt8) (r : List UInt8) (t : List Int) (h : nums (c :: r) = kenc v ++ t) : hdV c r = v ∧ nums (tlV c r) = t := by
  obtain ⟨av, bv, cv, dv, _, pv⟩ := vErr_none hv
  unfold kenc at h
  rw [nums_cons, List.cons_append] at h
  injection h with hc h
  have hcl := c.toNat_lt
  rcases av with a0 | a0 | a0 | a0
  · have : c = 1 := u8_nat.2 (by show c.toNat = 1; omega)
    subst this
    rw [if_neg (by omega), if_neg (by omega), if_neg (by omega), List.nil_append] at h
    exact ⟨(null_eq hv a0).symm, h⟩
  · have : c = 2 := u8_nat.2 (by show c.toNat = 2; omega)
    subst this
    rw [if_pos a0] at h
    have hl : 8 ≤ r.length := by
      have := congrArg List.length h
      rw [List.length_append, be_length] at this
      unfold nums at this
      rw [List.length_map] at this
      omega
    have e : nums r = nums (r.take 8) ++ nums (r.drop 8) := by unfold nums; rw [← List.map_append, List.take_append_drop]
    rw [e] at h
    have hlen : (nums (r.take 8)).length = (be 8 (v.f1 + 9223372036854775808)).length := by unfold nums; rw [List.length_map, List.length_take, be_length]; omega
    obtain ⟨h1, h2⟩ := List.append_inj h hlen
    have hb := be_num (r.take 8) 0 0
    rw [List.length_take, Nat.min_eq_left hl, Nat.zero_add] at hb
    have hlt := numF_lt (r.take 8) 0
    rw [List.length_take, Nat.min_eq_left hl] at hlt
    have e8 : (0 + 1) * 256 ^ 8 = 18446744073709551616 := by decide
    rw [e8] at hlt
    have hx := be_inj 8 ((numF 0 (r.take 8) : Nat) : Int) (v.f1 + 9223372036854775808) (by omega) (by rw [show (256 : Int) ^ 8 = 18446744073709551616 by decide]; omega) (by have := ov.1; omega) (by rw [show (256 : Int) ^ 8 = 18446744073709551616 by decide]; have := ov.1; omega) (by rw [hb]; simp only [be, List.nil_append]; exact h1)
    refine ⟨s38_eq a0.symm ?_ (show (⟨#[]⟩ : ByteArray).toList = _ by rw [cv (by omega)]; decide +kernel) (dv (by omega)).symm, h2⟩
    show ((numF 0 (r.take 8) : Nat) : Int) - 9223372036854775808 = v.f1
    omega
  · have : c = 3 := u8_nat.2 (by show c.toNat = 3; omega)
    subst this
    rw [if_neg (by omega), if_pos a0, nums_bytes, List.append_assoc] at h
    have hs := plain_ne pv
    rw [nums_bytes] at hs
    have key : ∀ (p r : List UInt8), (∀ x ∈ nums p, x ≠ 0) → nums r = nums p ++ ([0] ++ t) → r.takeWhile isB0 = p ∧ nums (r.drop (p.length + 1)) = t := by
      intro p
      induction p with
      | nil =>
        intro r _ h
        cases r with
        | nil => cases h
        | cons d r =>
          rw [nums_cons] at h
          injection h with h1 h2
          have : d = 0 := u8_nat.2 (by show d.toNat = 0; omega)
          subst this
          exact ⟨rfl, h2⟩
      | cons x p ih =>
        intro r hp h
        cases r with
        | nil => cases h
        | cons d r =>
          rw [nums_cons, nums_cons] at h
          injection h with h1 h2
          have : d = x := u8_nat.2 (by omega)
          subst this
          obtain ⟨i1, i2⟩ := ih r (fun y hy => hp y (List.mem_cons_of_mem _ hy)) h2
          have hd : isB0 d = true := by
            simp only [isB0, bne_iff_ne]
            rintro rfl
            exact hp 0 List.mem_cons_self rfl
          exact ⟨by rw [List.takeWhile_cons, if_pos hd, i1], i2⟩
    obtain ⟨k1, k2⟩ := key v.f2.data.toList r hs h
    refine ⟨s38_eq a0.symm (bv (by omega)).symm ?_ (dv (by omega)).symm, ?_⟩
    · show (⟨(r.takeWhile isB0).toArray⟩ : ByteArray).toList = _
      rw [k1, toList_data]
    · show nums (r.drop ((r.takeWhile isB0).length + 1)) = t
      rw [k1]; exact k2
  · have : c = 4 := u8_nat.2 (by show c.toNat = 4; omega)
    subst this
    rw [if_neg (by omega), if_neg (by omega), if_pos a0] at h
    have hz : (⟨#[]⟩ : ByteArray).toList = v.f2.toList := by rw [cv (by omega)]; decide +kernel
    cases r with
    | nil => cases hf : v.f3 <;> (rw [hf] at h; cases h)
    | cons d r =>
      rw [nums_cons] at h
      cases hf : v.f3 with
      | true =>
        rw [hf] at h
        injection h with h1 h2
        have : d = 1 := u8_nat.2 (by show d.toNat = 1; omega)
        subst this
        exact ⟨s38_eq a0.symm (bv (by omega)).symm hz hf.symm, h2⟩
      | false =>
        rw [hf] at h
        injection h with h1 h2
        have : d = 0 := u8_nat.2 (by show d.toNat = 0; omega)
        subst this
        exact ⟨s38_eq a0.symm (bv (by omega)).symm hz hf.symm, h2⟩
theorem prs_back : ∀ (V : List S63) (n : Nat) (b : List UInt8), valL V = none → (∀ v ∈ V, OKv v) → nums b = kencL V → b.length ≤ n → prs n b = V
  | [], n, b, _, _, h, _ => by
    cases b with
    | nil => cases n <;> rfl
    | cons c b => cases h
  | v :: V, n, [], _, _, h, _ => by cases h
  | v :: V, 0, c :: r, _, _, _, hl => by simp at hl
  | v :: V, n + 1, c :: r, hv, ov, h, hl => by
    rw [List.length_cons] at hl
    simp only [valL] at hv
    cases e : vErr v.f0 v.f1 v.f2 v.f3 with
    | some q => rw [e] at hv; cases hv
    | none =>
      rw [e] at hv
      obtain ⟨h1, h2⟩ := one_back v e (ov v List.mem_cons_self) c r (kencL V) h
      rw [prs, h1, prs_back V n (tlV c r) hv (fun x hx => ov x (List.mem_cons_of_mem _ hx)) h2 (by have := tl_len c r; omega)]
theorem tx_back {V : List S63} (hV : (ordR V).2 = none) (ov : ∀ v ∈ V, OKv v) : txV (ordR V).1 = V := by
  obtain ⟨a, b, c⟩ := ord_ok hV
  unfold txV
  refine prs_back V _ _ a ov ?_ (by rw [size_data]; exact Nat.le_refl _)
  rw [c, ← nums_bytes, bytes_str (kencL_range _)]
theorem ord_back {V : List S63} (hV : (ordR V).2 = none) (ov : ∀ v ∈ V, OKv v) : Ev (fun k => order_Decode.f k (ordR V).1) (V, none) := by
  have h := decode_ev (ordR V).1 (by have := ord_size hV; omega)
  have e := tx_back hV ov
  rwa [if_pos ((tx_iff _).2 (by rw [e]; exact ⟨hV, rfl⟩)), e] at h
theorem rvalues_dec {V : List S63} (hV : (ordR V).2 = none) (ov : ∀ v ∈ V, OKv v) (r : List Int) (hr : Bytes r) (hl : (tx (ordR V).1 ++ r).length ≤ 1099511627776) : Ev (fun k => rd_values k (tx (ordR V).1 ++ r) false) (r, false, V) := by
  unfold rd_values
  exact ev_bind (rtext_dec _ r hr hl) (ev_bind (ord_back hV ov) (ev_some _))
/-! ### an entry -/
def FS : ByteArray × List (List S63) × Option Int := ((⟨#[]⟩ : ByteArray), [], some 3)
theorem tail_bad (k : Nat) (l : List Int) (view : ByteArray) (acc : List (List S63)) : rd_tail k l true view acc = some (l, true, view, acc) := if_pos rfl
theorem loop_bad (n : Nat) (view : ByteArray) (i : Nat) (l : List Int) (acc : List (List S63)) : Ev (fun k => rd_loop (n : Int) view k (i : Int) l true acc) (l, true, view, acc) := by
  refine ev_step (fun _ => rd_loop.eq_2 ..) ?_
  by_cases h : (i : Int) < (n : Int)
  · refine ev_if_pos h (ev_if_pos rfl ?_); simp only [tail_bad]; exact ev_some _
  · refine ev_if_neg h ?_; simp only [tail_bad]; exact ev_some _
/-- Bytes whose first is no 2: no entry. -/
theorem entry_one (b : List Int) (hx : Bytes b) (hl : b.length ≤ 1099511627776) : Ev (fun k => store_DecodeEntry.f k (1 :: b)) FS := by
  have e : rd_byte (1 :: b) false 2 = (b, false, 1) := by
    unfold rd_byte
    rw [if_neg (by decide), if_neg (by simp only [List.length_cons]; omega), if_neg (by show ¬ (1 : Int) > 2; decide)]
    rfl
  unfold store_DecodeEntry.f rd_entry
  rw [e]
  refine ev_bind (a := (b, true, (⟨#[]⟩ : ByteArray), [])) (ev_bind (rtext_bad _ hx hl) (ev_bind (ruint_bad _ _ hx) ?_)) (ev_if_pos rfl (ev_some _))
  exact loop_bad 0 _ 0 _ []
def lines (Vs : List (List S63)) : List Int := Vs.flatMap fun V => tx (ordR V).1
theorem lines_cons (V : List S63) (Vs : List (List S63)) : lines (V :: Vs) = tx (ordR V).1 ++ lines Vs := rfl
theorem lines_len : ∀ Vs : List (List S63), Vs.length ≤ (lines Vs).length
  | [] => Nat.zero_le _
  | V :: Vs => by
    have := lines_len Vs
    have := tx_pos (ordR V).1
    rw [lines_cons, List.length_append, List.length_cons]; omega
theorem lines_bytes : ∀ Vs : List (List S63), Bytes (lines Vs)
  | [], _, h => by cases h
  | V :: Vs, b, h => by
    rw [lines_cons] at h
    rcases List.mem_append.1 h with h | h
    · exact tx_bytes _ b h
    · exact lines_bytes Vs b h
theorem lines_most : ∀ Vs : List (List S63), (∀ V ∈ Vs, (ordR V).2 = none) → (lines Vs).length ≤ 70000 * Vs.length
  | [], _ => Nat.zero_le _
  | V :: Vs, h => by
    have a := line_len (h V List.mem_cons_self)
    have b := lines_most Vs (fun W hW => h W (List.mem_cons_of_mem _ hW))
    rw [lines_cons, List.length_append, List.length_cons, tx]; omega
theorem encLs_of : ∀ (Vs : List (List S63)) (x : List Int), (encLs Vs x).2 = none → (∀ V ∈ Vs, (ordR V).2 = none) ∧ (encLs Vs x).1 = x ++ lines Vs
  | [], x, _ => ⟨fun _ h => (by cases h), by rw [encLs, lines, List.flatMap_nil, List.append_nil]⟩
  | V :: Vs, x, h => by
    rw [encLs] at h ⊢
    cases e : (ordR V).2 with
    | some q => rw [e] at h; cases h
    | none =>
      rw [e] at h
      obtain ⟨h1, h2⟩ := encLs_of Vs _ h
      refine ⟨fun W hW => ?_, ?_⟩
      · rcases List.mem_cons.1 hW with rfl | hW
        · exact e
        · exact h1 W hW
      · show (encLs Vs (x ++ tx (ordR V).1)).1 = _
        rw [lines_cons, ← List.append_assoc]; exact h2
theorem encLs_bad : ∀ (Vs : List (List S63)) (x : List Int), (encLs Vs x).2.isSome = true → (encLs Vs x).1 = []
  | [], x, h => by cases h
  | V :: Vs, x, h => by
    rw [encLs] at h ⊢
    cases e : (ordR V).2 with
    | some q => rfl
    | none => rw [e] at h; exact encLs_bad Vs _ h
theorem loop_dec (view : ByteArray) (hv : view.size ≤ 1048576) (n : Nat) (hn : n ≤ 1048576) : ∀ (Vs : List (List S63)) (i : Nat) (acc : List (List S63)), i + Vs.length = n → acc.length + Vs.length ≤ 1048576 → (∀ V ∈ Vs, (ordR V).2 = none ∧ LOK V) → Ev (fun k => rd_loop (n : Int) view k (i : Int) (lines Vs) false acc) ([], !(nameOk view), view, acc ++ Vs)
  | [], i, acc, hi, ha, h => by
    rw [List.append_nil]
    refine ev_step (fun _ => rd_loop.eq_2 ..) (ev_if_neg (by simp at hi; omega) ?_)
    unfold rd_tail
    exact ev_if_neg (by decide) (ev_bind (name_ev view hv) (ev_some _))
  | V :: Vs, i, acc, hi, ha, h => by
    rw [List.length_cons] at hi ha
    have hV := h V List.mem_cons_self
    have hm := lines_most (V :: Vs) (fun W hW => (h W hW).1)
    rw [List.length_cons] at hm
    refine ev_step (fun _ => rd_loop.eq_2 ..) (ev_if_pos (by omega) (ev_if_neg (by decide) (ev_if_pos (by omega) (ev_bind (rvalues_dec hV.1 hV.2.1 (lines Vs) (lines_bytes Vs) (by rw [← lines_cons]; omega)) ?_))))
    rw [wrap_succ (j := i) (by omega)]
    have := loop_dec view hv n hn Vs (i + 1) (acc ++ [V]) (by omega) (by rw [List.length_append, List.length_singleton]; omega) (fun W hW => h W (List.mem_cons_of_mem _ hW))
    rwa [List.append_assoc, List.singleton_append] at this
theorem entry_back (a : ByteArray) (L : List (List S63)) (ha : a.size ≤ 1048576) (hL : ∀ V ∈ L, LOK V) (hb : L.length ≤ 1048576) (h : (encE a L).2 = none) : Ev (fun k => store_DecodeEntry.f k (encE a L).1) (a, L, none) ∧ ∃ z, (encE a L).1 = 2 :: z ∧ Bytes z ∧ z.length ≤ 1099511627776 := by
  unfold encE at h ⊢
  cases hn : nameOk a with
  | false => rw [hn] at h; cases h
  | true =>
    rw [hn] at h
    simp only [if_true] at h ⊢
    obtain ⟨h1, h2⟩ := encLs_of L _ h
    rw [h2]
    have e : ([2] ++ (uvar a.size ++ bytesOf a) ++ uvar L.length ++ lines L : List Int) = 2 :: (tx a ++ (uvar L.length ++ lines L)) := by
      rw [tx]; simp only [List.append_assoc, List.singleton_append, List.cons_append, List.nil_append]
    rw [e]
    have h10 := uvar_len64 (n := a.size) (by omega)
    have h11 := uvar_len64 (n := L.length) (by omega)
    have hm := lines_most L h1
    have hB2 : Bytes (uvar L.length ++ lines L) := bytes_app (uvar_range _) (lines_bytes L)
    have hl : (tx a ++ (uvar L.length ++ lines L)).length ≤ 1099511627776 := by simp only [tx, List.length_append, bytesOf_length]; omega
    have eb : rd_byte (2 :: (tx a ++ (uvar L.length ++ lines L))) false 2 = ((tx a ++ (uvar L.length ++ lines L)), false, 2) := by
      unfold rd_byte
      rw [if_neg (by decide), if_neg (by simp only [List.length_cons]; omega), if_neg (by show ¬ (2 : Int) > 2; decide)]
      rfl
    refine ⟨?_, _, rfl, bytes_app (tx_bytes a) hB2, hl⟩
    unfold store_DecodeEntry.f rd_entry
    rw [eb]
    refine ev_bind (a := ([], false, a, L)) (ev_bind (rtext_dec a _ hB2 hl) (ev_bind (ruint_dec L.length (lines L) _ ?_ (by omega) (lines_bytes L)) ?_)) (ev_if_neg (show ¬ (false = true) by decide) (ev_if_pos rfl (ev_some _)))
    · show (L.length : Int) ≤ ((uvar L.length ++ lines L).length : Int)
      have := lines_len L
      rw [List.length_append]; omega
    · have := loop_dec a ha L.length hb L 0 [] (by omega) (by rw [List.length_nil]; omega) (fun V hV => ⟨h1 V hV, hL V hV⟩)
      rw [hn, List.nil_append] at this
      exact this
end Go.Proofs.YtddkbhglbkfelaaGreatDoor.T
