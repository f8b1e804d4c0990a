/- What the walks of row.KeyOf, row.Text and of the reference's Keys, Key, KeyOf, Text compute, told plainly. -/
import Derived.Test.YtljadejgdbemoaaGreatDoorPqXCKC
import Derived.Test.YtljadejgdbemoaaGreatDoorPqXCTC
set_option linter.unusedVariables false
set_option linter.unusedSimpArgs false
namespace Go.Proofs.YtljadejgdbemoaaGreatDoor.C
open Go.RowKit Go.Proofs.YtljadejgdbemoaaGreatDoorW.PrintWords Go.Proofs.YtljadejgdbemoaaGreatDoorW.PrintLast Go.Proofs.YtljadejgdbemoaaGreatDoorX
/-! ### the reference's Keys -/
theorem ref_keys_loop (n : ByteArray) (C : List S86) (hb : C.length < 1099511627776) : ∀ (cs : List S86) (j : Nat) (x : List Int), C.drop j = cs → x.length + cs.length < 1099511627776 → Ev (fun k => barbicanref14_Keys.l0 k x (j : Int) n C) (x ++ keyPos cs j)
  | [], j, x, hc, hx => by
    have := drop_nil hc
    refine ev_step (fun _ => barbicanref14_Keys.l0.eq_2 ..) (ev_if_neg (by omega) ?_)
    rw [keyPos, List.append_nil]
    exact ev_some _
  | c :: cs, j, x, hc, hx => by
    obtain ⟨c1, c2, c3⟩ := drop_cons hc
    simp only [List.length_cons] at hx
    refine ev_step (fun _ => barbicanref14_Keys.l0.eq_2 ..) (ev_if_pos (by omega) (ev_if_pos (by omega) ?_))
    rw [rd36_at c1, wrap_succ (j := j) (by omega), keyPos]
    by_cases h : c.f2 = true
    · rw [if_pos h]
      refine ev_if_pos h (ev_if_pos (by omega) ?_)
      have := ref_keys_loop n C hb cs (j + 1) (x ++ [(j : Int)]) c3 (by simp only [List.length_append, List.length_cons, List.length_nil]; omega)
      rw [List.append_assoc] at this
      exact this
    · rw [if_neg h]
      exact ev_if_neg h (ref_keys_loop n C hb cs (j + 1) x c3 (by omega))
theorem ref_keys_ev (n : ByteArray) (C : List S86) (hb : C.length < 1099511627776) : Ev (fun k => barbicanref14_Keys.f k n C) (keyPos C 0) :=
  ref_keys_loop n C hb C 0 [] rfl (by simpa using hb)
/-! ### the reference's Encode of keys -/
theorem xor128 : ∀ i : Fin 256, Go.bits .xor .u8 (i.val : Int) 128 = ((i.val : Int) + 128) % 256 := by decide +kernel
theorem xor128' {m : Int} (h0 : 0 ≤ m) (h1 : m < 256) : Go.bits .xor .u8 m 128 = (m + 128) % 256 := by
  have := xor128 ⟨m.toNat, by omega⟩
  simpa [Int.toNat_of_nonneg h0] using this
theorem shr_lit (x : Int) (n : Nat) (h : n ≤ 64) : shr .u64 x ((n : Nat) : Int) = x / 2 ^ n := by
  unfold shr
  rw [Int.toNat_natCast, Nat.min_eq_left (by simp [IntKind.bits]; omega)]
theorem l2_step (k : Nat) (V : List S23) (x : List Int) (j : Int) (i : Nat) (a b : Int) (s : ByteArray) (t : Bool) (hi : i ≤ 7) (hx : x.length < 140737488355328) :
    barbicanref06_Encode.l2 (k + 1) V x j (i : Int) a b s t = barbicanref06_Encode.l2 k V (x ++ [if i = 7 then Go.bits .xor .u8 ((IntKind.u64.wrap b / 2 ^ (8 * i)) % 256) 128 else (IntKind.u64.wrap b / 2 ^ (8 * i)) % 256]) j ((i : Int) - 1) a b s t := by
  rw [barbicanref06_Encode.l2.eq_2]
  have h1 : wrap64 (8 * (i : Int)) = ((8 * i : Nat) : Int) := by unfold wrap64; omega
  have h2 : IntKind.u64.wrap ((8 * i : Nat) : Int) = ((8 * i : Nat) : Int) := u64_wrap_id (by omega) (by omega)
  have h3 : wrap64 ((i : Int) - 1) = (i : Int) - 1 := by unfold wrap64; omega
  rw [h1, h2, h3, shr_lit _ _ (by omega), if_pos (by omega), if_pos (by omega)]
  by_cases h7 : i = 7
  · rw [if_pos (by omega), if_pos hx, if_pos h7]
  · rw [if_neg (by omega), if_pos hx, if_neg h7]
theorem l2_end (k : Nat) (V : List S23) (x : List Int) (j : Int) (a b : Int) (s : ByteArray) (t : Bool) : barbicanref06_Encode.l2 (k + 1) V x j (-1) a b s t = barbicanref06_Encode.l1 k V x (wrap64 (j + 1)) := by
  rw [barbicanref06_Encode.l2.eq_2, if_neg (by decide)]
theorem be8_words {b : Int} (h0 : -9223372036854775808 ≤ b) (h1 : b ≤ 9223372036854775807) :
    be 8 (b + 9223372036854775808) = [Go.bits .xor .u8 ((IntKind.u64.wrap b / 2 ^ 56) % 256) 128, (IntKind.u64.wrap b / 2 ^ 48) % 256, (IntKind.u64.wrap b / 2 ^ 40) % 256, (IntKind.u64.wrap b / 2 ^ 32) % 256, (IntKind.u64.wrap b / 2 ^ 24) % 256, (IntKind.u64.wrap b / 2 ^ 16) % 256, (IntKind.u64.wrap b / 2 ^ 8) % 256, (IntKind.u64.wrap b / 2 ^ 0) % 256] := by
  rw [be8_eq, u64_wrap, xor128' (by omega) (by omega)]
  have p56 : (2 : Int) ^ 56 = 72057594037927936 := by decide
  have p48 : (2 : Int) ^ 48 = 281474976710656 := by decide
  have p40 : (2 : Int) ^ 40 = 1099511627776 := by decide
  have p32 : (2 : Int) ^ 32 = 4294967296 := by decide
  have p24 : (2 : Int) ^ 24 = 16777216 := by decide
  have p16 : (2 : Int) ^ 16 = 65536 := by decide
  have p8 : (2 : Int) ^ 8 = 256 := by decide
  have p0 : (2 : Int) ^ 0 = 1 := by decide
  rw [p56, p48, p40, p32, p24, p16, p8, p0]
  simp only [List.cons.injEq, and_true]
  refine ⟨?_, ?_, ?_, ?_, ?_, ?_, ?_, ?_⟩ <;> omega
theorem l2_all (V : List S23) (x : List Int) (j : Int) (a b : Int) (s : ByteArray) (t : Bool) (h0 : -9223372036854775808 ≤ b) (h1 : b ≤ 9223372036854775807) (hx : x.length ≤ 1099511627776) (r : ByteArray × Int)
    (h : Ev (fun k => barbicanref06_Encode.l1 k V (x ++ be 8 (b + 9223372036854775808)) (wrap64 (j + 1))) r) : Ev (fun k => barbicanref06_Encode.l2 k V x j 7 a b s t) r := by
  rw [be8_words h0 h1] at h
  have st : ∀ (i : Nat) (y : List Int) (r : ByteArray × Int), i ≤ 7 → y.length < 140737488355328 → Ev (fun k => barbicanref06_Encode.l2 k V (y ++ [if i = 7 then Go.bits .xor .u8 ((IntKind.u64.wrap b / 2 ^ (8 * i)) % 256) 128 else (IntKind.u64.wrap b / 2 ^ (8 * i)) % 256]) j ((i : Int) - 1) a b s t) r → Ev (fun k => barbicanref06_Encode.l2 k V y j (i : Int) a b s t) r :=
    fun i y r hi hy hr => ev_step (fun k => l2_step k V y j i a b s t hi hy) hr
  have lz : ∀ (y : List Int) (z : Int), (y ++ [z]).length = y.length + 1 := fun y z => by simp
  refine st 7 _ _ (by omega) (by omega) ?_
  refine st 6 _ _ (by omega) (by rw [lz]; omega) ?_
  refine st 5 _ _ (by omega) (by rw [lz, lz]; omega) ?_
  refine st 4 _ _ (by omega) (by rw [lz, lz, lz]; omega) ?_
  refine st 3 _ _ (by omega) (by rw [lz, lz, lz, lz]; omega) ?_
  refine st 2 _ _ (by omega) (by rw [lz, lz, lz, lz, lz]; omega) ?_
  refine st 1 _ _ (by omega) (by rw [lz, lz, lz, lz, lz, lz]; omega) ?_
  refine st 0 _ _ (by omega) (by rw [lz, lz, lz, lz, lz, lz, lz]; omega) ?_
  refine ev_step (fun k => l2_end k V _ j a b s t) ?_
  simp only [List.append_assoc, List.cons_append, List.nil_append]
  exact h
theorem ref_order_loop1 (V : List S23) (hV : ∀ v ∈ V, OKv v) (hk3 : ∀ v ∈ V, v.f0 = 0 ∨ v.f0 = 1 ∨ v.f0 = 2 ∨ v.f0 = 3) (hb : V.length < 9223372036854775807) : ∀ (vs : List S23) (j : Nat) (x : List Int), V.drop j = vs → x.length + bulk vs ≤ 1099511627776 → Ev (fun k => barbicanref06_Encode.l1 k V x (j : Int)) (strOfNums (x ++ kencL vs), 0)
  | [], j, x, hd, hx => by
    have := drop_nil hd
    refine ev_step (fun _ => barbicanref06_Encode.l1.eq_2 ..) (ev_if_neg (by omega) ?_)
    rw [kencL, List.append_nil]
    exact ev_some _
  | v :: vs, j, x, hd, hx => by
    obtain ⟨v1, v2, v3⟩ := drop_cons hd
    have hv := hV v (List.mem_of_getElem? v1)
    have hk := hk3 v (List.mem_of_getElem? v1)
    have hl := kenc_length v
    simp only [bulk] at hx
    refine ev_step (fun _ => barbicanref06_Encode.l1.eq_2 ..) (ev_if_pos (by omega) (ev_if_pos (by omega) (ev_if_pos (by omega) ?_)))
    have hw : wrap64 (v.f0 + 1) % 256 = (v.f0 + 1) % 256 := by unfold wrap64; omega
    rw [rd38_at v1, hw]
    refine ev_bind_some ?_
    have go : ∀ (e : List Int), kenc v = e → Ev (fun k => barbicanref06_Encode.l1 k V (x ++ e) (wrap64 ((j : Int) + 1))) (strOfNums (x ++ kencL (v :: vs)), 0) := by
      intro e he
      subst he
      rw [wrap_succ (j := j) (by omega)]
      have := ref_order_loop1 V hV hk3 hb vs (j + 1) (x ++ kenc v) v3 (by rw [List.length_append]; omega)
      rw [List.append_assoc] at this
      exact this
    by_cases h1 : v.f0 = 1
    · refine ev_if_pos h1 (l2_all V _ _ _ _ _ _ hv.1.1 hv.1.2 (by simp only [List.length_append, List.length_cons, List.length_nil]; omega) _ ?_)
      rw [List.append_assoc]
      exact go _ (by unfold kenc; rw [if_pos h1]; rfl)
    refine ev_if_neg h1 ?_
    by_cases h2 : v.f0 = 2
    · have hs := hv.2
      refine ev_if_pos h2 (ev_if_pos (by simp only [List.length_append, List.length_cons, List.length_nil]; omega) (ev_bind_some (ev_if_pos (by simp only [List.length_append, List.length_cons, List.length_nil, bytesOf_length]; omega) ?_)))
      rw [List.append_assoc, List.append_assoc]
      exact go _ (by unfold kenc; rw [if_neg h1, if_pos h2]; rfl)
    refine ev_if_neg h2 ?_
    by_cases h3 : v.f0 = 3
    · refine ev_if_pos h3 ?_
      by_cases h4 : v.f3 = true
      · refine ev_if_pos h4 (ev_if_pos (by simp only [List.length_append, List.length_cons, List.length_nil]; omega) ?_)
        rw [List.append_assoc]
        exact go _ (by unfold kenc; rw [if_neg h1, if_neg h2, if_pos h3, if_pos h4]; rfl)
      · refine ev_if_neg h4 (ev_if_pos (by simp only [List.length_append, List.length_cons, List.length_nil]; omega) ?_)
        rw [List.append_assoc]
        exact go _ (by unfold kenc; rw [if_neg h1, if_neg h2, if_pos h3, if_neg h4]; rfl)
    · exact ev_if_neg h3 (go _ (by unfold kenc; rw [if_neg h1, if_neg h2, if_neg h3]))
theorem valL_none : ∀ (vs : List S23), valL vs = none → ∀ v ∈ vs, vErr v.f0 v.f1 v.f2 v.f3 = none
  | [], _, v, hv => by cases hv
  | w :: vs, h, v, hv => by
    simp only [valL] at h
    cases e : vErr w.f0 w.f1 w.f2 w.f3 with
    | some _ => rw [e] at h; cases h
    | none =>
      rw [e] at h
      rcases List.mem_cons.1 hv with rfl | hv
      · exact e
      · exact valL_none vs h v hv
theorem some_ne {e : Int} {a b : Int} {s : ByteArray} {t : Bool} (h : vErr a b s t = some e) : e ≠ 0 := fun hh => by
  have := (vErr_code a b s t).1 (by rw [h]; exact hh)
  rw [h] at this; cases this
theorem ref_order_loop0 (V : List S23) (hV : ∀ v ∈ V, OKv v) (hb : V.length < 9223372036854775807) (R : ByteArray × Int) (h1 : ¬ (V.length : Int) > 16 → valL V = none → Ev (fun k => barbicanref06_Encode.l1 k V ([] : List Int) 0) R) :
    ∀ (vs : List S23) (j : Nat), V.drop j = vs → (valL vs = none → valL V = none) → Ev (fun k => barbicanref06_Encode.l0 k V (j : Int)) (match valL vs with | some e => (⟨#[]⟩, e) | none => if (V.length : Int) > 16 then (⟨#[]⟩, 2) else R)
  | [], j, hd, hn => by
    have := drop_nil hd
    refine ev_step (fun _ => barbicanref06_Encode.l0.eq_2 ..) (ev_if_neg (by omega) ?_)
    simp only [valL]
    by_cases h : (V.length : Int) > 16
    · rw [if_pos h]; exact ev_if_pos h (ev_some _)
    · rw [if_neg h]; exact ev_if_neg h (h1 h (hn rfl))
  | v :: vs, j, hd, hn => by
    obtain ⟨v1, v2, v3⟩ := drop_cons hd
    have hv := hV v (List.mem_of_getElem? v1)
    refine ev_step (fun _ => barbicanref06_Encode.l0.eq_2 ..) (ev_if_pos (by omega) (ev_if_pos (by omega) ?_))
    rw [rd38_at v1]
    refine ev_bind (ref_valid_ev v.f0 v.f1 v.f2 v.f3 (by have := hv.2; omega)) ?_
    simp only [valL] at hn ⊢
    cases h : vErr v.f0 v.f1 v.f2 v.f3 with
    | some e => exact ev_if_neg (show ¬ (some e : Option Int).getD 0 = 0 from some_ne h) (ev_some _)
    | none =>
      rw [h] at hn
      refine ev_if_pos rfl ?_
      rw [wrap_succ (j := j) (by omega)]
      exact ref_order_loop0 V hV hb R h1 vs (j + 1) v3 hn
theorem ref_order_ev (V : List S23) (hV : ∀ v ∈ V, OKv v) (hb : V.length < 9223372036854775807) (hk : bulk V ≤ 1099511627776) : Ev (fun k => barbicanref06_Encode.f k V) ((ordR V).1, (ordR V).2.getD 0) := by
  have h1 : ¬ (V.length : Int) > 16 → valL V = none → Ev (fun k => barbicanref06_Encode.l1 k V ([] : List Int) 0) (strOfNums (kencL V), 0) := fun _ hn =>
    ref_order_loop1 V hV (fun v hv => (vErr_none (valL_none V hn v hv)).1) hb V 0 [] rfl (by simpa using hk)
  have := ref_order_loop0 V hV hb _ h1 V 0 rfl (fun h => h)
  unfold ordR
  cases h : valL V with
  | some e => rw [h] at this; exact this
  | none =>
    rw [h] at this
    by_cases h16 : (V.length : Int) > 16
    · simp only [h16, if_true] at this ⊢; exact this
    · simp only [h16, if_false] at this ⊢; exact this
/-! ### the reference's Key -/
theorem ref_key_loop (n : ByteArray) (C : List S86) (V : List S23) (hb : V.length < 1099511627776) (hl : V.length = C.length) (R : ByteArray × Int) (T : List S23) (hR : Ev (fun k => barbicanref06_Encode.f k T) R) :
    ∀ (cs : List S86) (vs : List S23) (j : Nat) (x : List S23), C.drop j = cs → V.drop j = vs → x ++ keyVals cs vs = T → x.length + vs.length ≤ 1099511627776 → Ev (fun k => barbicanref14_Key.l0 k V x (j : Int) n C) R
  | cs, [], j, x, hc, hv, hx, hz => by
    have := drop_nil hv
    refine ev_step (fun _ => barbicanref14_Key.l0.eq_2 ..) (ev_if_neg (by omega) ?_)
    have e : x = T := by
      rw [← hx]
      cases cs <;> simp [keyVals]
    rw [e]
    exact ev_bind hR (ev_some _)
  | [], v :: vs, j, x, hc, hv, hx, hz => by
    have := drop_nil hc
    obtain ⟨v1, v2, v3⟩ := drop_cons hv
    omega
  | c :: cs, v :: vs, j, x, hc, hv, hx, hz => by
    obtain ⟨c1, c2, c3⟩ := drop_cons hc
    obtain ⟨v1, v2, v3⟩ := drop_cons hv
    simp only [List.length_cons] at hz
    refine ev_step (fun _ => barbicanref14_Key.l0.eq_2 ..) (ev_if_pos (by omega) (ev_if_pos (by omega) (ev_if_pos (by omega) ?_)))
    rw [rd36_at c1, rd38_at v1, wrap_succ (j := j) (by omega)]
    by_cases h : c.f2 = true
    · refine ev_if_pos h (ev_if_pos (by omega) ?_)
      refine ref_key_loop n C V hb hl R T hR cs vs (j + 1) (x ++ [v]) c3 v3 ?_ (by simp only [List.length_append, List.length_cons, List.length_nil]; omega)
      rw [keyVals, if_pos h] at hx
      rw [List.append_assoc]; exact hx
    · refine ev_if_neg h (ref_key_loop n C V hb hl R T hR cs vs (j + 1) x c3 v3 ?_ (by omega))
      rw [keyVals, if_neg h] at hx
      exact hx
theorem ref_key_ev (n : ByteArray) (C : List S86) (V : List S23) (hC : C.length < 1099511627776) (hV : ∀ v ∈ V, OKv v) (hb : V.length < 1099511627776) (hk : bulk V ≤ 1099511627776) : Ev (fun k => barbicanref14_Key.f k n C V) ((keyR C V).1, (keyR C V).2.getD 0) := by
  unfold barbicanref14_Key.f keyR
  refine ev_bind (ref_check_ev n C V (by omega) hV) ?_
  cases h : chk C V with
  | some e =>
    have hz : ¬ (some e : Option Int).getD 0 = 0 := fun hh => by
      have := (chk_none C V).1 (by rw [h]; exact hh)
      rw [h] at this; cases this
    exact ev_if_neg hz (ev_some _)
  | none =>
    have hl : V.length = C.length := by
      unfold chk at h
      by_cases hl : V.length = C.length
      · exact hl
      · rw [if_neg hl] at h; cases h
    have hkb := keyVals_bulk C V
    refine ev_if_pos rfl ?_
    exact ref_key_loop n C V hb hl _ (keyVals C V) (ref_order_ev _ (fun v hv => hV v (keyVals_mem C V v hv)) (by omega) (by omega)) C V 0 [] rfl rfl rfl (by simp only [List.length_nil]; omega)
/-! ### KeyOf -/
def kofE (C : List S86) : List Int → List S23 → Option Int
  | p :: ps, v :: vs => match vErr v.f0 v.f1 v.f2 v.f3 with | some e => some e | none => if v.f0 = (rd_T86 C p).f1 then (if v.f0 = 0 then some 7 else kofE C ps vs) else some 7
  | _, _ => none
def kofR (C : List S86) (V : List S23) : ByteArray × Option Int :=
  if V.length = (keyPos C 0).length then (match kofE C (keyPos C 0) V with | some e => (⟨#[]⟩, some e) | none => ordR V) else (⟨#[]⟩, some 1)
theorem keyPos_range (C : List S86) : ∀ (cs : List S86) (j : Nat), C.drop j = cs → ∀ p ∈ keyPos cs j, 0 ≤ p ∧ p < (C.length : Int)
  | [], j, _, p, hp => by cases hp
  | c :: cs, j, hc, p, hp => by
    obtain ⟨c1, c2, c3⟩ := drop_cons hc
    rw [keyPos] at hp
    split at hp
    · rcases List.mem_cons.1 hp with rfl | hp
      · omega
      · exact keyPos_range C cs (j + 1) c3 p hp
    · exact keyPos_range C cs (j + 1) c3 p hp
theorem kof_loop (n : ByteArray) (C : List S86) (V : List S23) (P : List Int) (hP : ∀ p ∈ P, 0 ≤ p ∧ p < (C.length : Int)) (hb : P.length < 1099511627776) (hl : V.length = P.length) (R : ByteArray × Option Int) (hR : Ev (fun k => order_Encode.f k V) R) :
    ∀ (ps : List Int) (vs : List S23) (j : Nat), P.drop j = ps → V.drop j = vs → Ev (fun k => row_KeyOf.l0 k V P (P.length : Int) (j : Int) n C) (match kofE C ps vs with | some e => (⟨#[]⟩, some e) | none => R)
  | [], vs, j, hp, hv => by
    have := drop_nil hp
    refine ev_step (fun _ => row_KeyOf.l0.eq_2 ..) (ev_if_neg (by omega) ?_)
    simp only [kofE]
    exact ev_bind hR (ev_some _)
  | p :: ps, [], j, hp, hv => by
    have := drop_nil hv
    obtain ⟨p1, p2, p3⟩ := drop_cons hp
    omega
  | p :: ps, v :: vs, j, hp, hv => by
    obtain ⟨p1, p2, p3⟩ := drop_cons hp
    obtain ⟨v1, v2, v3⟩ := drop_cons hv
    have hpr := hP p (List.mem_of_getElem? p1)
    refine ev_step (fun _ => row_KeyOf.l0.eq_2 ..) (ev_if_pos (by omega) (ev_if_pos (by omega) (ev_if_pos (by omega) (ev_if_pos (by omega) ?_))))
    rw [rd38_at v1, rdn_at p1, wrap_succ (j := j) (by omega)]
    refine ev_bind (valid_ev v.f0 v.f1 v.f2 v.f3) ?_
    simp only [kofE]
    cases h : vErr v.f0 v.f1 v.f2 v.f3 with
    | some e => exact ev_if_neg (by simp) (ev_some _)
    | none =>
      refine ev_if_pos rfl (ev_if_pos hpr.1 (ev_if_pos hpr.2 ?_))
      by_cases h1 : v.f0 = (rd_T86 C p).f1
      · rw [if_pos h1]
        refine ev_if_pos h1 ?_
        by_cases h0 : v.f0 = 0
        · rw [if_pos h0]; exact ev_if_pos h0 (ev_some _)
        · rw [if_neg h0]
          exact ev_if_neg h0 (kof_loop n C V P hP hb hl R hR ps vs (j + 1) p3 v3)
      · rw [if_neg h1]; exact ev_if_neg h1 (ev_some _)
theorem kof_ev (n : ByteArray) (C : List S86) (V : List S23) (hC : C.length < 1099511627776) (hV : ∀ v ∈ V, OKv v) (hb : V.length < 1099511627776) (hk : bulk V ≤ 1099511627776) : Ev (fun k => row_KeyOf.f k n C V) (kofR C V) := by
  have hkl := keyPos_length C 0
  unfold row_KeyOf.f kofR
  refine ev_bind (keys_ev n C hC) ?_
  by_cases h : V.length = (keyPos C 0).length
  · rw [if_pos h]
    refine ev_if_pos (by omega) ?_
    exact kof_loop n C V _ (keyPos_range C C 0 rfl) (by omega) h _ (order_ev V hV (by omega) hk) _ V 0 rfl rfl
  · rw [if_neg h]
    exact ev_if_neg (by omega) (ev_some _)
theorem ref_kof_loop (n : ByteArray) (C : List S86) (V : List S23) (hV : ∀ v ∈ V, OKv v) (P : List Int) (hP : ∀ p ∈ P, 0 ≤ p ∧ p < (C.length : Int)) (hb : P.length < 1099511627776) (hl : V.length = P.length) (R : ByteArray × Option Int) (hR : Ev (fun k => barbicanref06_Encode.f k V) (R.1, R.2.getD 0)) :
    ∀ (ps : List Int) (vs : List S23) (j : Nat), P.drop j = ps → V.drop j = vs → Ev (fun k => barbicanref14_KeyOf.l0 k V P (j : Int) n C) ((match kofE C ps vs with | some e => ((⟨#[]⟩ : ByteArray), some e) | none => R).1, (match kofE C ps vs with | some e => ((⟨#[]⟩ : ByteArray), some e) | none => R).2.getD 0)
  | [], vs, j, hp, hv => by
    have := drop_nil hp
    refine ev_step (fun _ => barbicanref14_KeyOf.l0.eq_2 ..) (ev_if_neg (by omega) ?_)
    simp only [kofE]
    exact ev_bind hR (ev_some _)
  | p :: ps, [], j, hp, hv => by
    have := drop_nil hv
    obtain ⟨p1, p2, p3⟩ := drop_cons hp
    omega
  | p :: ps, v :: vs, j, hp, hv => by
    obtain ⟨p1, p2, p3⟩ := drop_cons hp
    obtain ⟨v1, v2, v3⟩ := drop_cons hv
    have hpr := hP p (List.mem_of_getElem? p1)
    have ov := hV v (List.mem_of_getElem? v1)
    refine ev_step (fun _ => barbicanref14_KeyOf.l0.eq_2 ..) (ev_if_pos (by omega) (ev_if_pos (by omega) ?_))
    rw [rd38_at v1, rdn_at p1, wrap_succ (j := j) (by omega)]
    refine ev_bind (ref_valid_ev v.f0 v.f1 v.f2 v.f3 (by have := ov.2; omega)) ?_
    simp only [kofE]
    cases h : vErr v.f0 v.f1 v.f2 v.f3 with
    | some e => exact ev_if_neg (show ¬ (some e : Option Int).getD 0 = 0 from some_ne h) (ev_some _)
    | none =>
      refine ev_if_pos rfl (ev_if_pos (by omega) (ev_if_pos hpr.1 (ev_if_pos hpr.2 ?_)))
      by_cases h1 : v.f0 = (rd_T86 C p).f1
      · rw [if_pos h1]
        refine ev_if_pos h1 ?_
        by_cases h0 : v.f0 = 0
        · rw [if_pos h0]; exact ev_if_pos h0 (ev_some _)
        · rw [if_neg h0]
          exact ev_if_neg h0 (ref_kof_loop n C V hV P hP hb hl R hR ps vs (j + 1) p3 v3)
      · rw [if_neg h1]; exact ev_if_neg h1 (ev_some _)
theorem ref_kof_ev (n : ByteArray) (C : List S86) (V : List S23) (hC : C.length < 1099511627776) (hV : ∀ v ∈ V, OKv v) (hb : V.length < 1099511627776) (hk : bulk V ≤ 1099511627776) : Ev (fun k => barbicanref14_KeyOf.f k n C V) ((kofR C V).1, (kofR C V).2.getD 0) := by
  have hkl := keyPos_length C 0
  unfold barbicanref14_KeyOf.f kofR
  refine ev_bind (ref_keys_ev n C hC) ?_
  by_cases h : V.length = (keyPos C 0).length
  · rw [if_pos h]
    refine ev_if_pos (by omega) ?_
    exact ref_kof_loop n C V hV _ (keyPos_range C C 0 rfl) (by omega) h _ (ref_order_ev V hV (by omega) hk) _ V 0 rfl rfl
  · rw [if_neg h]
    exact ev_if_neg (by omega) (ev_some _)
/-! ### Text -/
def txtR (V : List S23) : ByteArray × Option Int := match valL V with | some e => (⟨#[]⟩, some e) | none => (⟨(Lib.join (V.map litL) [44, 32]).toArray⟩, none)
theorem join_len : ∀ (V : List S23), (∀ v ∈ V, (litL v).length ≤ 8200) → (Lib.joinTail [44, 32] (V.map litL)).length ≤ 8202 * V.length
  | [], _ => by simp [Lib.joinTail]
  | v :: vs, h => by
    have a := h v List.mem_cons_self
    have b := join_len vs (fun x hx => h x (List.mem_cons_of_mem _ hx))
    simp only [Lib.joinTail, List.map_cons, List.flatten_cons, List.length_append, List.length_cons, List.length_nil] at b ⊢
    omega
theorem join_len' (V : List S23) (h : ∀ v ∈ V, (litL v).length ≤ 8200) : (Lib.join (V.map litL) [44, 32]).length ≤ 8202 * V.length := by
  cases V with
  | nil => simp [Lib.join_nil]
  | cons v vs =>
    have a := h v List.mem_cons_self
    have b := join_len vs (fun x hx => h x (List.mem_cons_of_mem _ hx))
    rw [List.map_cons, Lib.join_cons, List.length_append]
    simp only [List.length_cons]; omega
theorem text_loop (V : List S23) (hV : ∀ v ∈ V, OKv v) (hb : V.length ≤ 1099511627) (T : List ByteArray) (hT : T.length ≤ 1099511627) (hj : (Lib.join (T.map (·.data.toList)) [44, 32]).length ≤ 140737488355328) :
    ∀ (vs : List S23) (j : Nat) (x : List ByteArray), V.drop j = vs → (valL vs = none → x ++ vs.map (fun v => (⟨(litL v).toArray⟩ : ByteArray)) = T) → x.length + vs.length ≤ 1099511627 →
      Ev (fun k => row_Text.l0 k x V (V.length : Int) (j : Int)) (match valL vs with | some e => (⟨#[]⟩, some e) | none => (⟨(Lib.join (T.map (·.data.toList)) [44, 32]).toArray⟩, none))
  | [], j, x, hd, hx, hz => by
    have := drop_nil hd
    refine ev_step (fun _ => row_Text.l0.eq_2 ..) (ev_if_neg (by omega) ?_)
    have e : x = T := by have := hx rfl; simpa using this
    subst e
    simp only [valL]
    unfold strings_Join.f
    rw [if_pos ⟨by omega, hj⟩]
    exact ev_some _
  | v :: vs, j, x, hd, hx, hz => by
    obtain ⟨v1, v2, v3⟩ := drop_cons hd
    have ov := hV v (List.mem_of_getElem? v1)
    simp only [List.length_cons] at hz
    refine ev_step (fun _ => row_Text.l0.eq_2 ..) (ev_if_pos (by omega) (ev_if_pos (by omega) (ev_if_pos (by omega) ?_)))
    rw [rd38_at v1, wrap_succ (j := j) (by omega)]
    refine ev_bind (ev_at 2 fun k => print_eq k ov) ?_
    simp only [valL] at hx ⊢
    unfold prR
    cases h : vErr v.f0 v.f1 v.f2 v.f3 with
    | some e => exact ev_if_neg (by simp) (ev_some _)
    | none =>
      rw [h] at hx
      refine ev_if_pos rfl (ev_if_pos (by omega) ?_)
      refine text_loop V hV hb T hT hj vs (j + 1) (x ++ [⟨(litL v).toArray⟩]) v3 (fun hn => ?_) (by simp only [List.length_append, List.length_cons, List.length_nil]; omega)
      have := hx hn
      rw [List.append_assoc]; exact this
theorem text_ev (V : List S23) (hV : ∀ v ∈ V, OKv v) (hb : V.length ≤ 1048576) : Ev (fun k => row_Text.f k V) (txtR V) := by
  have hm : (V.map (fun v => (⟨(litL v).toArray⟩ : ByteArray))).map (·.data.toList) = V.map litL := by
    rw [List.map_map]; rfl
  unfold row_Text.f txtR
  cases h : valL V with
  | some e =>
    have := text_loop V hV (by omega) [] (by decide) (by decide) V 0 [] rfl (fun hn => by rw [h] at hn; cases hn) (by simp only [List.length_nil]; omega)
    rw [h] at this
    exact this
  | none =>
    have hl := join_len' V (fun v hv => lit_len (hV v hv) (valL_none V h v hv))
    have := text_loop V hV (by omega) (V.map (fun v => (⟨(litL v).toArray⟩ : ByteArray))) (by rw [List.length_map]; omega) (by rw [hm]; omega) V 0 [] rfl (fun _ => rfl) (by simp only [List.length_nil]; omega)
    rw [h, hm] at this
    exact this
theorem ref_text_loop (V : List S23) (hV : ∀ v ∈ V, OKv v) (hb : V.length ≤ 1048576) :
    ∀ (vs : List S23) (j : Nat) (x : List UInt8), V.drop j = vs → 1 ≤ j → x.length + 8202 * vs.length ≤ 1099511627776 →
      Ev (fun k => barbicanref14_Text.l0 k V ⟨x.toArray⟩ (j : Int)) (match valL vs with | some e => (⟨#[]⟩, e) | none => (⟨(x ++ Lib.joinTail [44, 32] (vs.map litL)).toArray⟩, 0))
  | [], j, x, hd, h1, hz => by
    have := drop_nil hd
    refine ev_step (fun _ => barbicanref14_Text.l0.eq_2 ..) (ev_if_neg (by omega) ?_)
    simp only [valL]
    have e : x ++ Lib.joinTail [44, 32] (([] : List S23).map litL) = x := by simp [Lib.joinTail]
    rw [e]
    exact ev_some _
  | v :: vs, j, x, hd, h1, hz => by
    obtain ⟨v1, v2, v3⟩ := drop_cons hd
    have ov := hV v (List.mem_of_getElem? v1)
    simp only [List.length_cons] at hz
    refine ev_step (fun _ => barbicanref14_Text.l0.eq_2 ..) (ev_if_pos (by omega) (ev_if_pos (by omega) ?_))
    rw [rd38_at v1, wrap_succ (j := j) (by omega)]
    refine ev_bind (refprint_ev ov) ?_
    simp only [valL]
    unfold prR
    cases h : vErr v.f0 v.f1 v.f2 v.f3 with
    | some e => exact ev_if_neg (show ¬ (some e : Option Int).getD 0 = 0 from some_ne h) (ev_some _)
    | none =>
      have hl := lit_len ov h
      have e2 : (⟨x.toArray⟩ : ByteArray) ++ (⟨#[44, 32]⟩ : ByteArray) = ⟨(x ++ [44, 32]).toArray⟩ := app_mk x [44, 32]
      refine ev_if_pos rfl (ev_if_pos (by omega) ?_)
      rw [e2, mk_size, mk_size, mk_size, app_mk]
      refine ev_if_pos (by omega) (ev_if_pos (by simp only [List.length_append, List.length_cons, List.length_nil]; omega) ?_)
      have := ref_text_loop V hV hb vs (j + 1) (x ++ [44, 32] ++ litL v) v3 (by omega) (by simp only [List.length_append, List.length_cons, List.length_nil]; omega)
      have e3 : x ++ Lib.joinTail [44, 32] ((v :: vs).map litL) = x ++ [44, 32] ++ litL v ++ Lib.joinTail [44, 32] (vs.map litL) := by simp [Lib.joinTail]
      rw [e3]
      exact this
theorem ref_text_ev (V : List S23) (hV : ∀ v ∈ V, OKv v) (hb : V.length ≤ 1048576) : Ev (fun k => barbicanref14_Text.f k V) ((txtR V).1, (txtR V).2.getD 0) := by
  unfold barbicanref14_Text.f txtR
  cases V with
  | nil =>
    refine ev_step (fun _ => barbicanref14_Text.l0.eq_2 ..) (ev_if_neg (by simp) ?_)
    exact ev_some _
  | cons v vs =>
    have ov := hV v List.mem_cons_self
    simp only [List.length_cons] at hb
    have hr : rd_T23 (v :: vs) 0 = v := rfl
    refine ev_step (fun _ => barbicanref14_Text.l0.eq_2 ..) (ev_if_pos (by simp only [List.length_cons]; omega) (ev_if_pos (by omega) ?_))
    rw [hr]
    refine ev_bind (refprint_ev ov) ?_
    simp only [valL]
    unfold prR
    cases h : vErr v.f0 v.f1 v.f2 v.f3 with
    | some e => exact ev_if_neg (show ¬ (some e : Option Int).getD 0 = 0 from some_ne h) (ev_some _)
    | none =>
      have hl := lit_len ov h
      have e1 : (⟨#[]⟩ : ByteArray) ++ (⟨(litL v).toArray⟩ : ByteArray) = ⟨(litL v).toArray⟩ := app_mk [] _
      have ez : (⟨#[]⟩ : ByteArray).size = 0 := rfl
      have ew : wrap64 (0 + 1) = ((1 : Nat) : Int) := by unfold wrap64; omega
      refine ev_if_pos rfl (ev_if_neg (by omega) (ev_if_pos (by rw [ez, mk_size]; omega) ?_))
      rw [e1, ew]
      have := ref_text_loop (v :: vs) hV (by simp only [List.length_cons]; omega) vs 1 (litL v) rfl (by omega) (by omega)
      cases hv : valL vs with
      | some e => rw [hv] at this; exact this
      | none =>
        rw [hv] at this
        simp only [List.map_cons, Lib.join_cons] at this ⊢
        exact this
/-! ### lists of numbers -/
theorem ints_loop (A : List Int) (hb : A.length < 9223372036854775807) : ∀ (xs : List Int) (j : Nat), A.drop j = xs → Ev (fun k => barbicanlaw14_ints.l0 k A A (j : Int)) true
  | [], j, hd => by
    have := drop_nil hd
    exact ev_step (fun _ => barbicanlaw14_ints.l0.eq_2 ..) (ev_if_neg (by omega) (ev_some _))
  | a :: xs, j, hd => by
    obtain ⟨a1, a2, a3⟩ := drop_cons hd
    refine ev_step (fun _ => barbicanlaw14_ints.l0.eq_2 ..) (ev_if_pos (by omega) (ev_if_pos (by omega) (ev_if_pos (by omega) (ev_if_pos rfl ?_))))
    rw [wrap_succ (j := j) (by omega)]
    exact ints_loop A hb xs (j + 1) a3
theorem ints_ev (A : List Int) (hb : A.length < 9223372036854775807) : Ev (fun k => barbicanlaw14_ints.f k A A) true := by
  unfold barbicanlaw14_ints.f
  exact ev_if_pos rfl (ints_loop A hb A 0 rfl)
end Go.Proofs.YtljadejgdbemoaaGreatDoor.C
