/- What stands in the bytes of some values, for both. -/
import Derived.Test.YtddkbhglbkfelaaDoorPsXSdE
set_option linter.unusedVariables false
set_option linter.unusedSimpArgs false
namespace Go.Proofs.YtddkbhglbkfelaaDoor.E
open Go.RowKit Go.Proofs.YtddkbhglbkfelaaDoorW.PrintWords Go.Proofs.YtddkbhglbkfelaaDoorW.PrintLast Go.Proofs.YtddkbhglbkfelaaDoorX

theorem dec_loop : ∀ (n : Nat) (b : List UInt8) (acc : List S72), b.length ≤ n → b.length ≤ 1048576 → acc.length ≤ 16 → Ev (fun k => order_Decode.l0 k ⟨b.toArray⟩ acc) (if valL (prs n b) = none ∧ acc.length + (prs n b).length ≤ 16 ∧ wfB n b = true then (acc ++ prs n b, none) else ([], some 3))
  | n, [], acc, _, _, ha => by
    have e : prs n [] = [] ∧ wfB n [] = true := by cases n <;> exact ⟨rfl, rfl⟩
    rw [e.1, e.2, if_pos ⟨rfl, by simpa using ha, rfl⟩, List.append_nil]
    exact ev_step (fun _ => order_Decode.l0.eq_2 ..) (ev_if_pos ((empty_list _).2 rfl) (ev_some _))
  | 0, c :: r, _, h, _, _ => by simp at h
  | n + 1, c :: r, acc, h, h2, ha => by
    rw [List.length_cons] at h h2
    have hsz : (⟨(c :: r).toArray⟩ : ByteArray).size = r.length + 1 := by rw [← size_data]; rfl
    obtain ⟨o1, o2⟩ := one_ev ⟨(c :: r).toArray⟩ c r rfl (by omega)
    have hne : ¬ (⟨(c :: r).toArray⟩ : ByteArray).toList = ([] : List UInt8) := fun e => by have := (empty_list _).1 e; cases this
    rw [show prs (n + 1) (c :: r) = hdV c r :: prs n (tlV c r) from rfl, show wfB (n + 1) (c :: r) = (okV c r && wfB n (tlV c r)) from rfl]
    by_cases ho : okV c r = true
    case neg =>
      have ho := Bool.eq_false_iff.mpr ho
      obtain ⟨v0, v1, v2, v3, t, hv⟩ := o2 ho
      rw [if_neg (by simp [ho])]
      exact ev_step (fun _ => order_Decode.l0.eq_2 ..) (ev_if_neg hne (ev_bind hv (ev_if_neg Bool.false_ne_true (ev_some _))))
    case pos =>
      refine ev_step (fun _ => order_Decode.l0.eq_2 ..) (ev_if_neg hne (ev_bind (o1 ho) (ev_if_pos rfl (ev_bind (valid_ev ..) ?_))))
      cases hv : vErr (hdV c r).f0 (hdV c r).f1 (hdV c r).f2 (hdV c r).f3 with
      | some e =>
        rw [if_neg (by simp [valL, hv])]
        exact ev_if_neg (by simp) (ev_some _)
      | none =>
        refine ev_if_pos rfl ?_
        by_cases h16 : (acc.length : Int) = 16
        · rw [if_neg (by rw [List.length_cons]; omega)]
          exact ev_if_pos h16 (ev_some _)
        · refine ev_if_neg h16 (ev_if_pos (by omega) ?_)
          have ih := dec_loop n (tlV c r) (acc ++ [hdV c r]) (by have := tl_len c r; omega) (by have := tl_len c r; omega) (by rw [List.length_append]; simp; omega)
          have e : (valL (prs n (tlV c r)) = none ∧ (acc ++ [hdV c r]).length + (prs n (tlV c r)).length ≤ 16 ∧ wfB n (tlV c r) = true) ↔ (valL (hdV c r :: prs n (tlV c r)) = none ∧ acc.length + (hdV c r :: prs n (tlV c r)).length ≤ 16 ∧ (okV c r && wfB n (tlV c r)) = true) := by
            simp only [valL, hv, ho, Bool.true_and, List.length_append, List.length_cons, List.length_nil]
            constructor
            · rintro ⟨a, b, c⟩; exact ⟨a, by omega, c⟩
            · rintro ⟨a, b, c⟩; exact ⟨a, by omega, c⟩
          rw [List.append_assoc, List.singleton_append] at ih
          by_cases hc : valL (prs n (tlV c r)) = none ∧ (acc ++ [hdV c r]).length + (prs n (tlV c r)).length ≤ 16 ∧ wfB n (tlV c r) = true
          · rw [if_pos hc] at ih; rw [if_pos (e.1 hc)]; exact ih
          · rw [if_neg hc] at ih; rw [if_neg (fun h => hc (e.2 h))]; exact ih
/-- What stands in a text's bytes; whether it was written just so. -/
def txV (s : ByteArray) : List S72 := prs s.size s.data.toList
def txOk (s : ByteArray) : Prop := valL (txV s) = none ∧ (txV s).length ≤ 16 ∧ wfB s.size s.data.toList = true
open Classical in
theorem decode_ev (s : ByteArray) (hs : s.size ≤ 1048576) : Ev (fun k => order_Decode.f k s) (if txOk s then (txV s, none) else ([], some 3)) := by
  have h := dec_loop s.size s.data.toList [] (by rw [size_data]; exact Nat.le_refl _) (by rw [size_data]; exact hs) (by simp)
  unfold order_Decode.f
  have e : (⟨s.data.toList.toArray⟩ : ByteArray) = s := rfl
  rw [e] at h
  simp only [List.length_nil, Nat.zero_add, List.nil_append] at h
  unfold txOk txV
  by_cases hc : valL (prs s.size s.data.toList) = none ∧ (prs s.size s.data.toList).length ≤ 16 ∧ wfB s.size s.data.toList = true
  · rw [if_pos hc] at h ⊢; exact h
  · rw [if_neg hc] at h ⊢; exact h
def nums (b : List UInt8) : List Int := b.map fun c => (c.toNat : Int)
theorem ok_enc {c : UInt8} {r : List UInt8} (h : okV c r = true) : kenc (hdV c r) ++ nums (tlV c r) = nums (c :: r) := by
  unfold okV at h
  unfold hdV tlV kenc nums
  by_cases k2 : c = 2
  · subst k2
    have h8 : 8 ≤ r.length := by simpa using h
    simp only [if_true]
    have hb := be_num (r.take 8) 0 0
    rw [List.length_take, Nat.min_eq_left h8, Nat.zero_add] at hb
    rw [show ((numF 0 (r.take 8) : Nat) : Int) - 9223372036854775808 + 9223372036854775808 = ((numF 0 (r.take 8) : Nat) : Int) by omega, hb]
    simp only [be, List.nil_append]
    rw [List.cons_append, ← List.map_append, List.take_append_drop]
    rfl
  by_cases k3 : c = 3
  · subst k3
    have hm : (0 : UInt8) ∈ r := by simpa using h
    simp only [if_true, show ¬ (3 : UInt8) = 2 by decide, if_false, show ¬ (2 : Int) = 1 by decide]
    have e := tw_mem r hm
    rw [List.cons_append, List.map_cons]
    congr 1
    rw [List.append_assoc]
    conv => rhs; rw [e]
    rw [List.map_append, List.map_cons]
    rfl
  by_cases k4 : c = 4
  · subst k4
    simp only [if_true, show ¬ (4 : UInt8) = 2 by decide, show ¬ (4 : UInt8) = 3 by decide, if_false, show ¬ (3 : Int) = 1 by decide, show ¬ (3 : Int) = 2 by decide] at h ⊢
    cases r with
    | nil => simp at h
    | cons d r =>
      have hdd : d = 0 ∨ d = 1 := by simpa using h
      rcases hdd with rfl | rfl <;> rfl
  · simp only [k2, k3, k4, if_false] at h ⊢
    have k1 : c = 1 := by simpa using h
    subst k1
    rfl
theorem enc_ok {c : UInt8} {r : List UInt8} {t : List Int} (hv : vErr (hdV c r).f0 (hdV c r).f1 (hdV c r).f2 (hdV c r).f3 = none) (h : kenc (hdV c r) ++ t = nums (c :: r)) : okV c r = true := by
  have hk := (vErr_none hv).1
  unfold okV
  unfold hdV kenc nums at h
  unfold hdV at hk
  by_cases k2 : c = 2
  · subst k2
    simp only [if_true] at h ⊢
    have := congrArg List.length h
    simp only [List.length_append, List.length_cons, be_length, List.length_map] at this
    exact decide_eq_true (by omega)
  by_cases k3 : c = 3
  · subst k3
    simp only [if_true, show ¬ (3 : UInt8) = 2 by decide, if_false, show ¬ (2 : Int) = 1 by decide] at h ⊢
    rw [List.cons_append, List.map_cons] at h
    injection h with _ h
    have hz : (0 : Int) ∈ r.map (fun c => (c.toNat : Int)) := by rw [← h]; simp
    obtain ⟨d, hd, e⟩ := List.mem_map.1 hz
    have : d = 0 := u8_nat.2 (by show d.toNat = 0; omega)
    exact decide_eq_true (this ▸ hd)
  by_cases k4 : c = 4
  · subst k4
    simp only [if_true, show ¬ (4 : UInt8) = 2 by decide, show ¬ (4 : UInt8) = 3 by decide, if_false, show ¬ (3 : Int) = 1 by decide, show ¬ (3 : Int) = 2 by decide] at h ⊢
    cases r with
    | nil =>
      have := congrArg List.length h
      simp at this
      all_goals (split at this <;> simp at this)
    | cons d r =>
      rw [List.cons_append, List.map_cons, List.map_cons] at h
      injection h with _ h
      by_cases d1 : d = 1
      · subst d1; rfl
      · have hf : ((d :: r).head? == some 1) = false := by simp [d1]
        rw [hf] at h ⊢
        simp only [Bool.false_eq_true, if_false, List.singleton_append] at h
        injection h with h _
        have : d = 0 := u8_nat.2 (by show d.toNat = 0; omega)
        subst this; rfl
  · simp only [k2, k3, k4, if_false] at hk ⊢
    have hc := c.toNat_lt
    have n2 : ¬ c.toNat = 2 := fun e => k2 (u8_nat.2 e)
    have n3 : ¬ c.toNat = 3 := fun e => k3 (u8_nat.2 e)
    have n4 : ¬ c.toNat = 4 := fun e => k4 (u8_nat.2 e)
    have : c = 1 := u8_nat.2 (by show c.toNat = 1; omega)
    subst this; rfl
theorem wf_iff : ∀ (n : Nat) (b : List UInt8), b.length ≤ n → valL (prs n b) = none → (wfB n b = true ↔ kencL (prs n b) = nums b)
  | n, [], _, _ => by
    have e : prs n [] = [] ∧ wfB n [] = true := by cases n <;> exact ⟨rfl, rfl⟩
    rw [e.1, e.2]; exact ⟨fun _ => rfl, fun _ => rfl⟩
  | 0, c :: r, h, _ => by simp at h
  | n + 1, c :: r, h, hv => by
    rw [List.length_cons] at h
    simp only [prs, wfB, valL, kencL] at hv ⊢
    cases e : vErr (hdV c r).f0 (hdV c r).f1 (hdV c r).f2 (hdV c r).f3 with
    | some q => rw [e] at hv; cases hv
    | none =>
      rw [e] at hv
      have ih := wf_iff n (tlV c r) (by have := tl_len c r; omega) hv
      rw [Bool.and_eq_true, ih]
      constructor
      · rintro ⟨a, b⟩; rw [b]; exact ok_enc a
      · intro a
        have ho := enc_ok e a
        refine ⟨ho, ?_⟩
        rw [← ok_enc ho] at a
        exact List.append_cancel_left a
theorem tx_iff (s : ByteArray) : txOk s ↔ (ordR (txV s)).2 = none ∧ (ordR (txV s)).1 = s := by
  have hsz : s.data.toList.length ≤ s.size := by rw [size_data]; exact Nat.le_refl _
  constructor
  · rintro ⟨h1, h2, h3⟩
    have := (wf_iff s.size s.data.toList hsz h1).1 h3
    have hl : ¬ ((txV s).length : Int) > 16 := by omega
    unfold ordR
    simp only [h1, hl, if_false]
    refine ⟨trivial, ?_⟩
    rw [show kencL (txV s) = bytesOf s from this, str_bytes]
  · rintro ⟨h1, h2⟩
    obtain ⟨a, b, c⟩ := ord_ok h1
    refine ⟨a, b, (wf_iff s.size s.data.toList hsz a).2 ?_⟩
    rw [c] at h2
    have := congrArg bytesOf h2
    rw [bytes_str (kencL_range _)] at this
    exact this
end Go.Proofs.YtddkbhglbkfelaaDoor.E
/- What stands in the bytes of some values: the reference's. -/
set_option linter.unusedVariables false
set_option linter.unusedSimpArgs false
namespace Go.Proofs.YtddkbhglbkfelaaDoor.E
open Go.RowKit Go.Proofs.YtddkbhglbkfelaaDoorW.PrintWords Go.Proofs.YtddkbhglbkfelaaDoorW.PrintLast Go.Proofs.YtddkbhglbkfelaaDoorX

theorem bulk_app : ∀ (V W : List S72), bulk (V ++ W) = bulk V + bulk W
  | [], W => by simp [bulk]
  | v :: V, W => by rw [List.cons_append, bulk, bulk, bulk_app V W]; omega
theorem u64_shl_add {v b : Nat} (hv : v * 256 + b < 18446744073709551616) : IntKind.u64.wrap (IntKind.u64.wrap ((v : Int) * 256) + IntKind.u64.wrap (b : Int)) = ((v * 256 + b : Nat) : Int) := by
  rw [u64_wrap, u64_wrap, u64_wrap]; omega
theorem l1_loop (a : ByteArray) (hs : a.size ≤ 1048576) (acc : List S72) (hacc : acc.length < 3518437208883) (f0 f1 : Int) (f2 : ByteArray) (f3 : Bool) (R : List S72 × Int) : ∀ (m i v : Nat) (b : List UInt8), a.data.toList.drop i = b → m ≤ 8 → v < 256 ^ (8 - m) → i ≤ a.size + 1 →
    Ev (fun k => barbicanref06_Decode.l0 k a (acc ++ [(⟨f0, wrap64 (Go.bits .xor .u64 ((numF v (b.take m) : Nat) : Int) 9223372036854775808), f2, f3⟩ : S72)]) ((i + min m b.length : Nat) : Int)) R → Ev (fun k => barbicanref06_Decode.l1 k a acc (i : Int) (v : Int) ((8 - m : Nat) : Int) f0 f1 f2 f3) R
  | 0, i, v, b, hd, hm, hv, hi, hR => by
    rw [Nat.zero_min, Nat.add_zero, List.take_zero] at hR
    exact ev_step (fun _ => barbicanref06_Decode.l1.eq_2 ..) (ev_if_neg (by omega) (ev_if_pos (by omega) hR))
  | m + 1, i, v, [], hd, hm, hv, hi, hR => by
    have := drop_nil hd
    rw [size_data] at this
    rw [List.take_nil, List.length_nil, Nat.min_zero, Nat.add_zero] at hR
    exact ev_step (fun _ => barbicanref06_Decode.l1.eq_2 ..) (ev_if_pos (by omega) (ev_if_neg (by omega) (ev_if_pos (by omega) hR)))
  | m + 1, i, v, c :: cs, hd, hm, hv, hi, hR => by
    obtain ⟨h1, h2, h3⟩ := drop_cons hd
    rw [size_data] at h2
    have hc := c.toNat_lt
    have hp : 256 ^ (8 - m) = 256 ^ (8 - (m + 1)) * 256 := by rw [← Nat.pow_succ]; congr 1; omega
    have h88 := pow8 (n := 8 - m) (by omega)
    refine ev_step (fun _ => barbicanref06_Decode.l1.eq_2 ..) (ev_if_pos (by omega) (ev_if_pos (by omega) (ev_if_pos (by omega) ?_)))
    rw [bt_at hd, wrap_succ (j := i) (by omega), u64_shl_add (by omega), wrap_succ (j := 8 - (m + 1)) (by omega), show 8 - (m + 1) + 1 = 8 - m by omega]
    refine l1_loop a hs acc hacc f0 f1 f2 f3 R m (i + 1) (v * 256 + c.toNat) cs h3 (by omega) (by omega) (by omega) ?_
    rw [List.take_succ_cons, numF_cons, List.length_cons] at hR
    rw [show i + 1 + min m cs.length = i + min (m + 1) (cs.length + 1) by omega]
    exact hR
theorem l2_loop (a : ByteArray) (hs : a.size ≤ 1048576) (acc : List S72) (hacc : acc.length < 3518437208883) (s : Nat) (f0 f1 : Int) (f2 : ByteArray) (f3 : Bool) (R : List S72 × Int) : ∀ (b : List UInt8) (i : Nat), a.data.toList.drop i = b → s ≤ i → i ≤ a.size →
    Ev (fun k => barbicanref06_Decode.l0 k a (acc ++ [(⟨f0, f1, a.extract s (i + (b.takeWhile isB0).length), f3⟩ : S72)]) ((i + (b.takeWhile isB0).length + 1 : Nat) : Int)) R → Ev (fun k => barbicanref06_Decode.l2 k a acc (i : Int) (s : Int) f0 f1 f2 f3) R
  | [], i, hd, hsi, hi, hR => by
    have := drop_nil hd
    rw [size_data] at this
    simp only [List.takeWhile_nil, List.length_nil, Nat.add_zero] at hR
    refine ev_step (fun _ => barbicanref06_Decode.l2.eq_2 ..) (ev_if_neg (by omega) (ev_if_pos (by omega) (ev_if_pos (by omega) (ev_if_pos (by omega) (ev_if_pos (by omega) ?_)))))
    rw [Int.toNat_natCast, Int.toNat_natCast, wrap_succ (j := i) (by omega)]
    exact hR
  | c :: cs, i, hd, hsi, hi, hR => by
    obtain ⟨h1, h2, h3⟩ := drop_cons hd
    rw [size_data] at h2
    have hc := c.toNat_lt
    refine ev_step (fun _ => barbicanref06_Decode.l2.eq_2 ..) (ev_if_pos (by omega) (ev_if_pos (by omega) ?_))
    rw [bt_at hd, wrap_succ (j := i) (by omega)]
    by_cases c0 : c = 0
    · subst c0
      refine ev_if_pos (by decide) (ev_if_pos (by omega) (ev_if_pos (by omega) (ev_if_pos (by omega) (ev_if_pos (by omega) ?_))))
      rw [Int.toNat_natCast, Int.toNat_natCast]
      have e : ((0 : UInt8) :: cs).takeWhile isB0 = [] := rfl
      rw [e] at hR
      exact hR
    · have hb : isB0 c = true := by simp [isB0, c0]
      refine ev_if_neg (fun e => c0 (u8_nat.2 (by show c.toNat = 0; omega))) ?_
      refine l2_loop a hs acc hacc s f0 f1 f2 f3 R cs (i + 1) h3 (by omega) (by omega) ?_
      rw [List.takeWhile_cons, if_pos hb, List.length_cons] at hR
      rw [show i + 1 + (cs.takeWhile isB0).length = i + ((cs.takeWhile isB0).length + 1) by omega]
      exact hR
open Classical in
noncomputable def decR (x : ByteArray) (V : List S72) : List S72 × Int := if (ordR V).2 = none ∧ (ordR V).1 = x then (V, 0) else ([], 3)
theorem hd_ok (c : UInt8) (r : List UInt8) (hr : r.length ≤ 1048576) : OKv (hdV c r) ∧ (hdV c r).f2.size + 12 * (tlV c r).length ≤ 12 * r.length := by
  have hc := c.toNat_lt
  have hlt := numF_lt (r.take 8) 0
  have h8 := pow8 (n := (r.take 8).length) (by rw [List.length_take]; omega)
  have he : (⟨#[]⟩ : ByteArray).size = 0 := rfl
  have htw : (r.takeWhile isB0).length ≤ r.length := (List.takeWhile_prefix isB0).length_le
  have hsz : (⟨(r.takeWhile isB0).toArray⟩ : ByteArray).size = (r.takeWhile isB0).length := by rw [← size_data]
  unfold hdV tlV OKv
  by_cases k2 : c = 2
  · simp only [k2, if_true, he, List.length_drop]; omega
  by_cases k3 : c = 3
  · simp only [k3, if_true, show ¬ (3 : UInt8) = 2 by decide, if_false, hsz, List.length_drop]; omega
  by_cases k4 : c = 4
  · simp only [k4, if_true, show ¬ (4 : UInt8) = 2 by decide, show ¬ (4 : UInt8) = 3 by decide, if_false, he, List.length_drop]; omega
  · simp only [k2, k3, k4, if_false, he]; omega
theorem ref_dec_loop (a : ByteArray) (hs : a.size ≤ 1048576) : ∀ (n i : Nat) (acc : List S72) (b : List UInt8), a.data.toList.drop i = b → b.length ≤ n → (∀ v ∈ acc, OKv v) → acc.length + b.length ≤ 1048576 → bulk acc + 12 * b.length ≤ 12582912 → i ≤ a.size + 1 → Ev (fun k => barbicanref06_Decode.l0 k a acc (i : Int)) (decR a (acc ++ prs n b))
  | n, i, acc, [], hd, _, hv, hl, hb, hi => by
    have := drop_nil hd
    rw [size_data] at this
    have e : prs n [] = [] := by cases n <;> rfl
    rw [e, List.append_nil]
    refine ev_step (fun _ => barbicanref06_Decode.l0.eq_2 ..) (ev_if_neg (by omega) (ev_bind (ref_order_ev acc hv (by omega) (by omega)) ?_))
    by_cases h1 : (ordR acc).2 = none
    · refine ev_if_pos ((ord_code acc).2 h1) ?_
      by_cases h2 : (ordR acc).1 = a
      · rw [show decR a acc = (acc, 0) from if_pos ⟨h1, h2⟩]; exact ev_if_pos (by rw [h2]) (ev_some _)
      · rw [show decR a acc = ([], 3) from if_neg (fun h => h2 h.2)]; exact ev_if_neg (fun h => h2 (ba_eq h)) (ev_some _)
    · rw [show decR a acc = ([], 3) from if_neg (fun h => h1 h.1)]; exact ev_if_neg (fun h => h1 ((ord_code acc).1 h)) (ev_some _)
  | 0, i, acc, c :: r, _, h, _, _, _, _ => by simp at h
  | n + 1, i, acc, c :: r, hd, hn, hv, hl, hb, hi => by
    obtain ⟨h1, h2, h3⟩ := drop_cons hd
    rw [size_data] at h2
    rw [List.length_cons] at hn hl hb
    have hc := c.toNat_lt
    have hlen : r.length = a.size - (i + 1) := by rw [← h3, List.length_drop, size_data]
    obtain ⟨o1, o2⟩ := hd_ok c r (by omega)
    have ht := tl_len c r
    rw [show prs (n + 1) (c :: r) = hdV c r :: prs n (tlV c r) from rfl]
    have ih : ∀ (j : Nat), a.data.toList.drop j = tlV c r → j ≤ a.size + 1 → Ev (fun k => barbicanref06_Decode.l0 k a (acc ++ [hdV c r]) (j : Int)) (decR a (acc ++ hdV c r :: prs n (tlV c r))) := by
      intro j hj hj2
      have := ref_dec_loop a hs n j (acc ++ [hdV c r]) (tlV c r) hj (by omega) (fun v hm => by
        rcases List.mem_append.1 hm with h | h
        · exact hv v h
        · rw [List.mem_singleton.1 h]; exact o1) (by rw [List.length_append]; simp; omega) (by rw [bulk_app]; simp only [bulk]; omega) hj2
      rwa [List.append_assoc, List.singleton_append] at this
    have dd : ∀ m, a.data.toList.drop (i + 1 + m) = r.drop m := fun m => by rw [← h3, List.drop_drop]
    refine ev_step (fun _ => barbicanref06_Decode.l0.eq_2 ..) (ev_if_pos (by omega) (ev_if_pos (by omega) ?_))
    rw [bt_at hd, kind_of, wrap_succ (j := i) (by omega)]
    by_cases k2 : c = 2
    · subst k2
      refine ev_if_pos (by decide) ?_
      refine l1_loop a hs acc (by omega) _ _ _ _ _ 8 (i + 1) 0 r h3 (by omega) (by decide) (by omega) ?_
      have e8 := numF_lt (r.take 8) 0
      have p8 := pow8 (n := (r.take 8).length) (by rw [List.length_take]; omega)
      rw [xor_back (by omega)]
      refine ih _ ?_ (by omega)
      rw [dd]
      show r.drop (min 8 r.length) = r.drop 8
      by_cases h : 8 ≤ r.length
      · rw [Nat.min_eq_left h]
      · rw [Nat.min_eq_right (by omega), List.drop_length, List.drop_eq_nil_of_le (by omega)]
    by_cases k3 : c = 3
    · subst k3
      refine ev_if_neg (by decide) (ev_if_pos (by decide) ?_)
      refine l2_loop a hs acc (by omega) (i + 1) _ _ _ _ _ r (i + 1) h3 (Nat.le_refl _) (by omega) ?_
      have ex : a.extract (i + 1) (i + 1 + (r.takeWhile isB0).length) = ⟨(r.takeWhile isB0).toArray⟩ := ba_list (by
        rw [ext_mid, h3, Nat.add_sub_cancel_left]
        exact (List.prefix_iff_eq_take.1 (List.takeWhile_prefix isB0 (l := r))).symm)
      rw [ex]
      have htw : (r.takeWhile isB0).length ≤ r.length := (List.takeWhile_prefix isB0).length_le
      rw [Nat.add_assoc (i + 1)]
      exact ih _ (by rw [dd]; rfl) (by omega)
    by_cases k4 : c = 4
    · subst k4
      refine ev_if_neg (by decide) (ev_if_neg (by decide) (ev_if_pos (by decide) ?_))
      rw [wrap_succ (j := i + 1) (by omega)]
      cases r with
      | nil =>
        rw [List.length_nil] at hlen
        refine ev_if_neg (by omega) (ev_if_pos (by omega) ?_)
        exact ih (i + 1 + 1) (by rw [dd]; rfl) (by omega)
      | cons d r =>
        rw [List.length_cons] at hlen
        have hd' := d.toNat_lt
        refine ev_if_pos (by omega) (ev_if_pos (by omega) (ev_if_pos (by omega) ?_))
        rw [bt_at h3]
        have hv1 : (((d.toNat : Int) == 1) : Bool) = ((d :: r).head? == some 1) := by
          by_cases d1 : d = 1
          · subst d1; rfl
          · have : ¬ d.toNat = 1 := fun e => d1 (u8_nat.2 e)
            rw [show ((d.toNat : Int) == 1) = false from beq_eq_false_iff_ne.2 (by omega)]
            simp [d1]
        rw [hv1]
        exact ih (i + 1 + 1) (by rw [dd]; rfl) (by omega)
    · have n2 : ¬ c.toNat = 2 := fun e => k2 (u8_nat.2 e)
      have n3 : ¬ c.toNat = 3 := fun e => k3 (u8_nat.2 e)
      have n4 : ¬ c.toNat = 4 := fun e => k4 (u8_nat.2 e)
      refine ev_if_neg (by omega) (ev_if_neg (by omega) (ev_if_neg (by omega) (ev_if_pos (by omega) ?_)))
      have e : hdV c r = ⟨(c.toNat : Int) - 1, 0, ⟨#[]⟩, false⟩ := by unfold hdV; simp only [k2, k3, k4, if_false]
      have e2 : tlV c r = r := by unfold tlV; simp only [k2, k3, k4, if_false]
      rw [← e]
      exact ih (i + 1) (by rw [h3, e2]) (by omega)
theorem ref_decode_ev (s : ByteArray) (hs : s.size ≤ 1048576) : Ev (fun k => barbicanref06_Decode.f k s) (decR s (txV s)) := by
  have h := ref_dec_loop s hs s.size 0 [] s.data.toList rfl (by rw [size_data]; exact Nat.le_refl _) (fun _ h => by cases h) (by rw [size_data]; simpa using hs) (by rw [size_data]; simp only [bulk]; omega) (by omega)
  exact h
theorem prs_ok : ∀ (n : Nat) (b : List UInt8), b.length ≤ 1048576 → (∀ v ∈ prs n b, OKv v) ∧ (prs n b).length ≤ b.length ∧ bulk (prs n b) ≤ 12 * b.length
  | 0, b, _ => ⟨fun _ h => (by cases h), Nat.zero_le _, Nat.zero_le _⟩
  | n + 1, [], _ => ⟨fun _ h => (by cases h), Nat.zero_le _, Nat.zero_le _⟩
  | n + 1, c :: r, h => by
    rw [List.length_cons] at h
    obtain ⟨o1, o2⟩ := hd_ok c r (by omega)
    have ht := tl_len c r
    obtain ⟨a, b, d⟩ := prs_ok n (tlV c r) (by omega)
    rw [show prs (n + 1) (c :: r) = hdV c r :: prs n (tlV c r) from rfl]
    refine ⟨fun v hv => ?_, ?_, ?_⟩
    · rcases List.mem_cons.1 hv with rfl | hv
      · exact o1
      · exact a v hv
    · rw [List.length_cons, List.length_cons]; omega
    · rw [bulk, List.length_cons]; omega
theorem tx_LOK (s : ByteArray) (hs : s.size ≤ 1048576) : LOK (txV s) := by
  obtain ⟨a, b, c⟩ := prs_ok s.size s.data.toList (by rw [size_data]; exact hs)
  rw [size_data] at b c
  exact ⟨a, by unfold txV; omega, by unfold txV; omega⟩
end Go.Proofs.YtddkbhglbkfelaaDoor.E
