/- The bytes of what is let down, for both. -/
import Derived.Test.YtddkbhglbkfelaaDoorPsXScE
set_option linter.unusedVariables false
set_option linter.unusedSimpArgs false
namespace Go.Proofs.YtddkbhglbkfelaaDoor.E
open Go.RowKit Go.Proofs.YtddkbhglbkfelaaDoorW.PrintWords Go.Proofs.YtddkbhglbkfelaaDoorW.PrintLast Go.Proofs.YtddkbhglbkfelaaDoorX

theorem ord_code (V : List S72) : (ordR V).2.getD 0 = 0 ↔ (ordR V).2 = none := by
  unfold ordR
  cases h : valL V with
  | some e =>
    refine ⟨fun hh => ?_, fun hh => by cases hh⟩
    have hne : ∀ (W : List S72) (e : Int), valL W = some e → e ≠ 0 := by
      intro W
      induction W with
      | nil => intro e h; cases h
      | cons w W ih =>
        intro e h
        simp only [valL] at h
        cases hw : vErr w.f0 w.f1 w.f2 w.f3 with
        | some q => rw [hw] at h; injection h with h; rw [← h]; exact some_ne hw
        | none => rw [hw] at h; exact ih e h
    exact absurd hh (hne V e h)
  | none =>
    by_cases hl : (V.length : Int) > 16
    · simp only [hl, if_true]; decide
    · simp only [hl, if_false]; simp
theorem ord_ok {V : List S72} (h : (ordR V).2 = none) : valL V = none ∧ V.length ≤ 16 ∧ (ordR V).1 = strOfNums (kencL V) := by
  unfold ordR at h ⊢
  cases e : valL V with
  | some q => rw [e] at h; cases h
  | none =>
    rw [e] at h
    by_cases hl : (V.length : Int) > 16
    · simp only [hl, if_true] at h; cases h
    · simp only [hl, if_false]; refine ⟨?_, by omega, ?_⟩ <;> trivial
theorem kencL_len : ∀ (V : List S72), (∀ v ∈ V, v.f2.size ≤ 4096) → (kencL V).length ≤ 4108 * V.length
  | [], _ => by simp [kencL]
  | v :: vs, h => by
    have a := h v List.mem_cons_self
    have b := kencL_len vs (fun x hx => h x (List.mem_cons_of_mem _ hx))
    have c := kenc_length v
    simp only [kencL, List.length_append, List.length_cons]; omega
theorem ord_size {V : List S72} (h : (ordR V).2 = none) : (ordR V).1.size ≤ 65728 := by
  obtain ⟨h1, h2, h3⟩ := ord_ok h
  rw [h3, str_size]
  have := kencL_len V (fun v hv => (vErr_none (valL_none V h1 v hv)).2.2.2.2.1)
  omega
/-- What is let down, line by line. -/
def encLs : List (List S72) → List Int → List Int × Option Int
  | [], x => (x, none)
  | V :: r, x => match (ordR V).2 with | some e => ([], some e) | none => encLs r (x ++ (uvar (ordR V).1.size ++ bytesOf (ordR V).1))
def encE (a : ByteArray) (L : List (List S72)) : List Int × Option Int := if nameOk a = true then encLs L ([2] ++ (uvar a.size ++ bytesOf a) ++ uvar L.length) else ([], some 30)
def LOK (V : List S72) : Prop := (∀ v ∈ V, OKv v) ∧ V.length ≤ 1048576 ∧ bulk V ≤ 1099511627776
theorem rdL_at {xs : List (List S72)} {j : Nat} {c : List S72} (h : xs[j]? = some c) : rd_L5 xs (j : Int) = c := by
  unfold rd_L5; rw [Int.toNat_natCast, List.getD_eq_getElem?_getD, h]; rfl
theorem line_len {V : List S72} (h : (ordR V).2 = none) : (uvar (ordR V).1.size ++ bytesOf (ordR V).1).length ≤ 70000 := by
  have a := ord_size h
  have b := uvar_len64 (n := (ordR V).1.size) (by omega)
  rw [List.length_append, bytesOf_length]; omega
theorem enc_loop (L : List (List S72)) (hL : ∀ V ∈ L, LOK V) (hb : L.length ≤ 1048576) : ∀ (r : List (List S72)) (j : Nat) (x : List Int), L.drop j = r → x.length + 70000 * r.length ≤ 1099511627776 → Ev (fun k => store_EncodeEntry.l0 k x L (L.length : Int) (j : Int)) (encLs r x)
  | [], j, x, hd, hx => by
    have := drop_nil hd
    exact ev_step (fun _ => store_EncodeEntry.l0.eq_2 ..) (ev_if_neg (by omega) (ev_some _))
  | V :: r, j, x, hd, hx => by
    obtain ⟨h1, h2, h3⟩ := drop_cons hd
    have hV := hL V (List.mem_of_getElem? h1)
    rw [List.length_cons] at hx
    refine ev_step (fun _ => store_EncodeEntry.l0.eq_2 ..) (ev_if_pos (by omega) (ev_if_pos (by omega) (ev_if_pos (by omega) ?_)))
    rw [rdL_at h1, wrap_succ (j := j) (by omega)]
    refine ev_bind (order_ev V hV.1 (by have := hV.2.1; omega) hV.2.2) ?_
    unfold encLs
    cases h : (ordR V).2 with
    | some e => exact ev_if_neg (by simp) (ev_some _)
    | none =>
      have hl := line_len h
      refine ev_if_pos rfl (ev_bind (text_ev (ordR V).1 x (by have := ord_size h; omega) (by omega)) ?_)
      exact enc_loop L hL hb r (j + 1) _ h3 (by rw [List.length_append]; omega)
theorem enc_ev (a : ByteArray) (L : List (List S72)) (ha : a.size ≤ 1048576) (hL : ∀ V ∈ L, LOK V) (hb : L.length ≤ 1048576) : Ev (fun k => store_EncodeEntry.f k a L) (encE a L) := by
  unfold store_EncodeEntry.f encE
  refine ev_bind (name_ev a ha) ?_
  cases h : nameOk a with
  | false => exact ev_if_neg (by decide) (ev_some _)
  | true =>
    have h10 := uvar_len64 (n := a.size) (by omega)
    have h11 := uvar_len64 (n := L.length) (by omega)
    refine ev_if_pos rfl (ev_bind (text_ev a [2] (by omega) (by simp)) ?_)
    refine ev_bind (a := ([2] ++ (uvar a.size ++ bytesOf a)) ++ uvar L.length) ?_ ?_
    · unfold store_count.f
      rw [u64_wrap_id (by omega) (by omega)]
      exact ev_bind (uint_ev L.length _ (by omega) (by simp only [List.length_append, List.length_cons, List.length_nil, bytesOf_length]; omega)) (ev_some _)
    · exact enc_loop L hL hb L 0 _ rfl (by simp only [List.length_append, List.length_cons, List.length_nil, bytesOf_length]; omega)
theorem ref_enc_loop (a : ByteArray) (L : List (List S72)) (hL : ∀ V ∈ L, LOK V) (hb : L.length ≤ 1048576) : ∀ (r : List (List S72)) (j : Nat) (x : List Int), L.drop j = r → x.length + 70000 * r.length ≤ 1099511627776 → Ev (fun k => barbicanref26_EncodeEntry.l0 k x (j : Int) a L) ((encLs r x).1, (encLs r x).2.getD 0)
  | [], j, x, hd, hx => by
    have := drop_nil hd
    exact ev_step (fun _ => barbicanref26_EncodeEntry.l0.eq_2 ..) (ev_if_neg (by omega) (ev_some _))
  | V :: r, j, x, hd, hx => by
    obtain ⟨h1, h2, h3⟩ := drop_cons hd
    have hV := hL V (List.mem_of_getElem? h1)
    rw [List.length_cons] at hx
    refine ev_step (fun _ => barbicanref26_EncodeEntry.l0.eq_2 ..) (ev_if_pos (by omega) (ev_if_pos (by omega) ?_))
    rw [rdL_at h1, wrap_succ (j := j) (by omega)]
    refine ev_bind (ref_order_ev V hV.1 (by have := hV.2.1; omega) hV.2.2) ?_
    unfold encLs
    cases h : (ordR V).2 with
    | some e => exact ev_if_neg (show ¬ (some e : Option Int).getD 0 = 0 from fun hh => by have := (ord_code V).1 (by rw [h]; exact hh); rw [h] at this; cases this) (ev_some _)
    | none =>
      have hl := line_len h
      refine ev_if_pos rfl (ev_bind (ref_texts (ordR V).1 (by have := ord_size h; omega)) (ev_if_pos (by omega) ?_))
      exact ref_enc_loop a L hL hb r (j + 1) _ h3 (by rw [List.length_append]; omega)
theorem ref_enc_ev (a : ByteArray) (L : List (List S72)) (ha : a.size ≤ 1048576) (hL : ∀ V ∈ L, LOK V) (hb : L.length ≤ 1048576) : Ev (fun k => barbicanref26_EncodeEntry.f k a L) ((encE a L).1, (encE a L).2.getD 0) := by
  unfold barbicanref26_EncodeEntry.f encE
  refine ev_bind (ref_name_ev a ha) ?_
  cases h : nameOk a with
  | false => exact ev_if_neg (by decide) (ev_some _)
  | true =>
    have h10 := uvar_len64 (n := a.size) (by omega)
    have h11 := uvar_len64 (n := L.length) (by omega)
    have hy : ([2] ++ (uvar a.size ++ bytesOf a) : List Int).length ≤ 1048600 := by simp only [List.length_append, List.length_cons, List.length_nil, bytesOf_length]; omega
    refine ev_if_pos rfl (ev_bind_some (ev_bind (ref_texts a (by omega)) (ev_if_pos (by rw [← List.length_append]; omega) ?_)))
    refine ev_bind (a := ([2] ++ (uvar a.size ++ bytesOf a)) ++ uvar L.length) ?_ ?_
    · unfold barbicanref26_counts.f
      refine ev_if_pos (by rw [List.length_nil]; omega) ?_
      rw [List.nil_append]
      refine ev_step (fun _ => barbicanref26_counts.l0.eq_2 ..) (ev_if_pos (by show (0 : Int) < 1; decide) (ev_if_pos (by decide) ?_))
      rw [show rd [(L.length : Int)] 0 = (L.length : Int) from rfl, u64_wrap_id (by omega) (by omega)]
      refine ev_bind (ref_uints L.length (by omega)) (ev_if_pos (by omega) ?_)
      exact ev_step (fun _ => barbicanref26_counts.l0.eq_2 ..) (ev_if_neg (by rw [show wrap64 (0 + 1) = 1 by decide +kernel]; show ¬ (1 : Int) < 1; decide) (ev_some _))
    · exact ref_enc_loop a L hL hb L 0 _ rfl (by rw [List.length_append]; omega)
end Go.Proofs.YtddkbhglbkfelaaDoor.E
/- What stands in the bytes of some values, for both: order.Decode. -/
set_option linter.unusedVariables false
set_option linter.unusedSimpArgs false
namespace Go.Proofs.YtddkbhglbkfelaaDoor.E
open Go.RowKit Go.Proofs.YtddkbhglbkfelaaDoorW.PrintWords Go.Proofs.YtddkbhglbkfelaaDoorW.PrintLast Go.Proofs.YtddkbhglbkfelaaDoorX

theorem ext_mid (a : ByteArray) (i j : Nat) : (a.extract i j).data.toList = (a.data.toList.drop i).take (j - i) := by
  rw [ByteArray.data_extract, Array.toList_extract, List.extract_eq_take_drop]
theorem ext_end (a : ByteArray) (i : Nat) : (a.extract i a.size).data.toList = a.data.toList.drop i := by
  rw [ext_mid, List.take_of_length_le]
  rw [List.length_drop, size_data]; exact Nat.le_refl _
theorem ba_list {a : ByteArray} {l : List UInt8} (h : a.data.toList = l) : a = ⟨l.toArray⟩ := ba_eq (by rw [toList_data, toList_data, h])
theorem empty_list (a : ByteArray) : a.toList = ([] : List UInt8) ↔ a.data.toList = [] := by rw [toList_data]
/-! ### eight bytes -/
def numF (v : Nat) (l : List UInt8) : Nat := l.foldl (fun a c => a * 256 + c.toNat) v
theorem numF_cons (v : Nat) (c : UInt8) (l : List UInt8) : numF v (c :: l) = numF (v * 256 + c.toNat) l := rfl
theorem be_num : ∀ (l : List UInt8) (v m : Nat), be (m + l.length) (numF v l : Int) = be m (v : Int) ++ l.map (fun c => (c.toNat : Int))
  | [], v, m => by simp [numF]
  | c :: l, v, m => by
    have hc := c.toNat_lt
    rw [numF_cons, List.length_cons, show m + (l.length + 1) = (m + 1) + l.length by omega, be_num l (v * 256 + c.toNat) (m + 1)]
    have e1 : (((v * 256 + c.toNat : Nat) : Int) / 256) = (v : Int) := by omega
    have e2 : (((v * 256 + c.toNat : Nat) : Int) % 256) = (c.toNat : Int) := by omega
    rw [be, e1, e2, List.append_assoc]; rfl
theorem numF_lt : ∀ (l : List UInt8) (v : Nat), numF v l < (v + 1) * 256 ^ l.length
  | [], v => by simp [numF]
  | c :: l, v => by
    have hc := c.toNat_lt
    have := numF_lt l (v * 256 + c.toNat)
    rw [numF_cons, List.length_cons, Nat.pow_succ, ← Nat.mul_assoc, Nat.mul_right_comm]
    exact Nat.lt_of_lt_of_le this (Nat.mul_le_mul_right _ (by omega))
theorem pow8 {n : Nat} (h : n ≤ 8) : 256 ^ n ≤ 18446744073709551616 := by
  have := Nat.pow_le_pow_right (show 0 < 256 by decide) h
  exact Nat.le_trans this (by decide)
theorem u64_shl_or {v b : Nat} (hv : v * 256 + b < 18446744073709551616) (hb : b < 256) : Go.bits .or .u64 (IntKind.u64.wrap ((v : Int) * 256)) (IntKind.u64.wrap (b : Int)) = ((v * 256 + b : Nat) : Int) := by
  have hA : v * 256 < 18446744073709551616 := Nat.lt_of_le_of_lt (Nat.le_add_right _ _) hv
  have hB : b < 18446744073709551616 := Nat.lt_trans hb (by decide)
  have h1 : (BitVec.ofInt 64 ((v * 256 : Nat) : Int)).toNat = v * 256 := ofInt_nat64 hA
  have h2 : (BitVec.ofInt 64 (b : Int)).toNat = b := ofInt_nat64 hB
  rw [show ((v : Int) * 256) = ((v * 256 : Nat) : Int) by omega, u64_wrap_id (by omega) (by omega), u64_wrap_id (by omega) (by omega), u64_or, h1, h2]
  congr 1
  have := Nat.shiftLeft_add_eq_or_of_lt (i := 8) hb v
  rw [Nat.shiftLeft_eq] at this
  exact this.symm
theorem xor_back {n : Nat} (h : n < 18446744073709551616) : wrap64 (Go.bits .xor .u64 (n : Int) 9223372036854775808) = (n : Int) - 9223372036854775808 := by
  have hw : -9223372036854775808 ≤ wrap64 (n : Int) ∧ wrap64 (n : Int) ≤ 9223372036854775807 := by unfold wrap64; omega
  have := u64_xor_top hw.1 hw.2
  have e : IntKind.u64.wrap (wrap64 (n : Int)) = (n : Int) := by rw [u64_wrap]; unfold wrap64; omega
  rw [e] at this
  rw [this]; unfold wrap64; omega
theorem number_loop (a : ByteArray) (h8 : a.size ≤ 8) : ∀ (cs : List UInt8) (i v : Nat), a.data.toList.drop i = cs → v < 256 ^ i → Ev (fun k => order_number.l0 k a (v : Int) (a.size : Int) (i : Int)) ((numF v cs : Nat) : Int)
  | [], i, v, hd, hv => by
    have := drop_nil hd
    rw [size_data] at this
    exact ev_step (fun _ => order_number.l0.eq_2 ..) (ev_if_neg (by omega) (ev_some _))
  | c :: cs, i, v, hd, hv => by
    obtain ⟨h1, h2, h3⟩ := drop_cons hd
    rw [size_data] at h2
    have hc := c.toNat_lt
    have hp : 256 ^ (i + 1) = 256 ^ i * 256 := Nat.pow_succ ..
    have h88 := pow8 (n := i + 1) (by omega)
    refine ev_step (fun _ => order_number.l0.eq_2 ..) (ev_if_pos (by omega) (ev_if_pos (by omega) (ev_if_pos (by omega) ?_)))
    rw [bt_at hd, wrap_succ (j := i) (by omega), u64_shl_or (by omega) (by omega), numF_cons]
    exact number_loop a h8 cs (i + 1) _ h3 (by omega)
/-! ### one value's bytes -/
def isB0 (c : UInt8) : Bool := c != 0
def hdV (c : UInt8) (r : List UInt8) : S72 :=
  if c = 2 then ⟨1, (numF 0 (r.take 8) : Int) - 9223372036854775808, ⟨#[]⟩, false⟩ else if c = 3 then ⟨2, 0, ⟨(r.takeWhile isB0).toArray⟩, false⟩ else if c = 4 then ⟨3, 0, ⟨#[]⟩, r.head? == some 1⟩ else ⟨(c.toNat : Int) - 1, 0, ⟨#[]⟩, false⟩
def tlV (c : UInt8) (r : List UInt8) : List UInt8 :=
  if c = 2 then r.drop 8 else if c = 3 then r.drop ((r.takeWhile isB0).length + 1) else if c = 4 then r.drop 1 else r
def okV (c : UInt8) (r : List UInt8) : Bool :=
  if c = 2 then decide (8 ≤ r.length) else if c = 3 then decide ((0 : UInt8) ∈ r) else if c = 4 then (r.head? == some 0 || r.head? == some 1) else c == 1
theorem tl_len (c : UInt8) (r : List UInt8) : (tlV c r).length ≤ r.length := by
  unfold tlV; repeat' split
  all_goals (try rw [List.length_drop]); omega
def prs : Nat → List UInt8 → List S72
  | 0, _ => []
  | _ + 1, [] => []
  | n + 1, c :: r => hdV c r :: prs n (tlV c r)
def wfB : Nat → List UInt8 → Bool
  | 0, _ => true
  | _ + 1, [] => true
  | n + 1, c :: r => okV c r && wfB n (tlV c r)
theorem kind_of (c : UInt8) : wrap64 (wrap64 (c.toNat : Int) - 1) = (c.toNat : Int) - 1 := by have := c.toNat_lt; unfold wrap64; omega
theorem u8_nat {c d : UInt8} : c = d ↔ c.toNat = d.toNat := ⟨fun h => h ▸ rfl, fun h => UInt8.toNat_inj.1 h⟩
theorem tw_mem : ∀ (r : List UInt8), (0 : UInt8) ∈ r → r = r.takeWhile isB0 ++ 0 :: r.drop ((r.takeWhile isB0).length + 1)
  | [], h => by cases h
  | c :: r, h => by
    by_cases hc : c = 0
    · subst hc; simp [isB0]
    · have : isB0 c = true := by simp [isB0, hc]
      rcases List.mem_cons.1 h with h | h
      · exact absurd h.symm hc
      · have := tw_mem r h
        rw [List.takeWhile_cons, if_pos ‹_›, List.length_cons, List.drop_succ_cons, List.cons_append, ← this]
theorem tw_no (r : List UInt8) : (0 : UInt8) ∉ r.takeWhile isB0 := fun h => by
  have := List.all_takeWhile (p := isB0) (l := r)
  have := List.all_eq_true.1 this 0 h
  cases this
theorem index_zero : ∀ (p q : List UInt8), (0 : UInt8) ∉ p → Lib.index (p ++ 0 :: q) [0] = p.length
  | [], q, _ => by simp [Lib.index]
  | c :: p, q, h => by
    have hc : ¬ (0 : UInt8) = c := fun e => h (e ▸ List.mem_cons_self)
    have ih := index_zero p q (fun m => h (List.mem_cons_of_mem _ m))
    rw [List.cons_append, Lib.index, if_neg (by simp [hc]), ih, if_neg (by first | (simp; done) | (simp; omega)), List.length_cons]
    omega
theorem cut_zero (r : List UInt8) : Lib.cut r [0] = if (0 : UInt8) ∈ r then (r.takeWhile isB0, r.drop ((r.takeWhile isB0).length + 1), true) else (r, [], false) := by
  unfold Lib.cut
  by_cases h : (0 : UInt8) ∈ r
  · have e := tw_mem r h
    have hi : Lib.index r [0] = ((r.takeWhile isB0).length : Int) := by
      have := index_zero (r.takeWhile isB0) (r.drop ((r.takeWhile isB0).length + 1)) (tw_no r)
      rwa [← e] at this
    rw [if_pos h, hi, if_pos (by omega), Int.toNat_natCast]
    congr 1
    exact (List.prefix_iff_eq_take.1 (List.takeWhile_prefix isB0 (l := r))).symm
  · rw [if_neg h, if_neg]
    intro hh
    obtain ⟨p, q, e⟩ := (index_infix _ _).1 hh
    exact h (by rw [e]; simp)
theorem one_ev (a : ByteArray) (c : UInt8) (r : List UInt8) (ha : a.data.toList = c :: r) (hs : a.size ≤ 1048577) :
    (okV c r = true → Ev (fun k => order_one.f k a) ((hdV c r).f0, (hdV c r).f1, (hdV c r).f2, (hdV c r).f3, ⟨(tlV c r).toArray⟩, true)) ∧
    (okV c r = false → ∃ v0 v1 v2 v3 t, Ev (fun k => order_one.f k a) (v0, v1, v2, v3, t, false)) := by
  have hsz : a.size = r.length + 1 := by rw [← size_data, ha, List.length_cons]
  have hb : bt a 0 = (c.toNat : Int) := by have := bt_at (s := a) (i := 0) (c := c) (cs := r) (by rw [ha]; rfl); exact this
  have hr : (a.extract 1 a.size).data.toList = r := by rw [ext_end, ha]; rfl
  have hrs : (a.extract 1 a.size).size = r.length := by rw [← size_data, hr]
  have hc := c.toNat_lt
  have h0 : 0 < (a.size : Int) := by omega
  have h1 : 1 ≤ (a.size : Int) := by omega
  unfold order_one.f
  rw [hb, kind_of]
  have E : ∀ {R : Int × Int × ByteArray × Bool × ByteArray × Bool} {g : Nat → Option (Int × Int × ByteArray × Bool × ByteArray × Bool)}, Ev g R → Ev (fun k => if 0 < (a.size : Int) then (if 1 ≤ (a.size : Int) then g k else none) else none) R := fun h => ev_if_pos h0 (ev_if_pos h1 h)
  by_cases k1 : c = 1
  · subst k1
    refine ⟨fun _ => E (ev_if_pos (by decide) ?_), fun h => absurd h (by simp [okV])⟩
    rw [ba_list hr]
    exact ev_some _
  by_cases k2 : c = 2
  · subst k2
    constructor
    · intro h
      have h8 : 8 ≤ r.length := by simpa [okV] using h
      refine E (ev_if_neg (by decide) (ev_if_pos (by decide) (ev_if_neg (by omega) (ev_if_pos (by decide) (ev_if_pos (by omega) ?_)))))
      have ht : ((a.extract 1 a.size).extract 0 8).data.toList = r.take 8 := by rw [ext_mid, hr]; rfl
      have hts : ((a.extract 1 a.size).extract 0 8).size = 8 := by rw [← size_data, ht, List.length_take]; omega
      refine ev_bind (a := ((numF 0 (r.take 8) : Nat) : Int)) ?_ ?_
      · unfold order_number.f
        have := number_loop ((a.extract 1 a.size).extract 0 8) (by omega) (r.take 8) 0 0 (by rw [ht]; rfl) (by decide)
        exact this
      · have hlt := numF_lt (r.take 8) 0
        rw [List.length_take, Nat.min_eq_left h8] at hlt
        have e8 : (0 + 1) * 256 ^ 8 = 18446744073709551616 := by decide
        rw [xor_back (by omega), ba_list (a := (a.extract 1 a.size).extract 8 (a.extract 1 a.size).size) (l := r.drop 8) (by rw [ext_end, hr])]
        exact ev_some _
    · intro h
      have h8 : ¬ 8 ≤ r.length := by simpa [okV] using h
      exact ⟨0, 0, ⟨#[]⟩, false, ⟨#[]⟩, E (ev_if_neg (by decide) (ev_if_pos (by decide) (ev_if_pos (by omega) (ev_some _))))⟩
  by_cases k3 : c = 3
  · subst k3
    have hcut : strings_Cut.f (a.extract 1 a.size) (⟨#[0]⟩ : ByteArray) = some ((⟨(Lib.cut r [0]).1.toArray⟩ : ByteArray), (⟨(Lib.cut r [0]).2.1.toArray⟩ : ByteArray), (Lib.cut r [0]).2.2) := by
      unfold strings_Cut.f
      rw [if_pos (by omega), hr]
    constructor
    · intro h
      have hm : (0 : UInt8) ∈ r := by simpa [okV] using h
      refine E (ev_if_neg (by decide) (ev_if_neg (by decide) (ev_if_pos (by decide) ?_)))
      rw [hcut, cut_zero, if_pos hm]
      exact ev_some _
    · intro h
      have hm : ¬ (0 : UInt8) ∈ r := by simpa [okV] using h
      refine ⟨2, 0, ⟨r.toArray⟩, false, ⟨#[]⟩, E (ev_if_neg (by decide) (ev_if_neg (by decide) (ev_if_pos (by decide) ?_)))⟩
      rw [hcut, cut_zero, if_neg hm]
      exact ev_some _
  by_cases k4 : c = 4
  · subst k4
    cases r with
    | nil =>
      refine ⟨fun h => absurd h (by simp [okV]), fun _ => ⟨0, 0, ⟨#[]⟩, false, ⟨#[]⟩, E (ev_if_neg (by decide) (ev_if_neg (by decide) (ev_if_neg (by decide) (ev_if_pos (by decide) (ev_if_pos ((empty_list _).2 hr) ?_)))))⟩⟩
      exact ev_step (fun _ => order_one.j0.eq_2 ..) (ev_if_pos rfl (ev_some _))
    | cons d r =>
      rw [List.length_cons] at hrs
      have hd : bt (a.extract 1 a.size) 0 = (d.toNat : Int) := by have := bt_at (s := a.extract 1 a.size) (i := 0) (c := d) (cs := r) (by rw [hr]; rfl); exact this
      have hne : ¬ (a.extract 1 a.size).toList = ([] : List UInt8) := fun e => by rw [(empty_list _).1 e] at hr; cases hr
      have hd' := d.toNat_lt
      constructor
      · intro h
        have hdd : d = 0 ∨ d = 1 := by simpa [okV] using h
        refine E (ev_if_neg (by decide) (ev_if_neg (by decide) (ev_if_neg (by decide) (ev_if_pos (by decide) (ev_if_neg hne (ev_if_pos (by omega) ?_))))))
        rw [hd]
        have hx : decide ((d.toNat : Int) > 1) = false := decide_eq_false (by rcases hdd with rfl | rfl <;> decide)
        rw [hx]
        refine ev_step (fun _ => order_one.j0.eq_2 ..) (ev_if_neg (by decide) (ev_if_pos (by omega) ?_))
        rw [hd]
        unfold value_Bool.f
        refine ev_bind_some (ev_if_pos (by omega) ?_)
        rw [ba_list (a := (a.extract 1 a.size).extract 1 (a.extract 1 a.size).size) (l := r) (by rw [ext_end, hr]; rfl)]
        have hv : (((d.toNat : Int) == 1) : Bool) = ((d :: r).head? == some 1) := by rcases hdd with rfl | rfl <;> rfl
        rw [hv]
        exact ev_some _
      · intro h
        have hdd : ¬ (d = 0 ∨ d = 1) := by simpa [okV] using h
        refine ⟨0, 0, ⟨#[]⟩, false, ⟨#[]⟩, E (ev_if_neg (by decide) (ev_if_neg (by decide) (ev_if_neg (by decide) (ev_if_pos (by decide) (ev_if_neg hne (ev_if_pos (by omega) ?_))))))⟩
        rw [hd]
        have hx : decide ((d.toNat : Int) > 1) = true := decide_eq_true (by
          have : ¬ d.toNat = 0 := fun e => hdd (Or.inl (u8_nat.2 e))
          have : ¬ d.toNat = 1 := fun e => hdd (Or.inr (u8_nat.2 e))
          omega)
        rw [hx]
        exact ev_step (fun _ => order_one.j0.eq_2 ..) (ev_if_pos rfl (ev_some _))
  · have n1 : ¬ c.toNat = 1 := fun e => k1 (u8_nat.2 e)
    have n2 : ¬ c.toNat = 2 := fun e => k2 (u8_nat.2 e)
    have n3 : ¬ c.toNat = 3 := fun e => k3 (u8_nat.2 e)
    have n4 : ¬ c.toNat = 4 := fun e => k4 (u8_nat.2 e)
    refine ⟨fun h => absurd h (by simp [okV, k1, k2, k3, k4]), fun _ => ⟨0, 0, ⟨#[]⟩, false, ⟨#[]⟩, E (ev_if_neg (by omega) (ev_if_neg (by omega) (ev_if_neg (by omega) (ev_if_neg (by omega) (ev_some _)))))⟩⟩
end Go.Proofs.YtddkbhglbkfelaaDoor.E
