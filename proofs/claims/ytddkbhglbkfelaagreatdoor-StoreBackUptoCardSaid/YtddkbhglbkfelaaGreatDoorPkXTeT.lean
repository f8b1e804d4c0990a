/- What stands in the bytes of some values: order.Decode. -/
import Derived.Test.YtddkbhglbkfelaaGreatDoorPkXTdT
import Derived.Lib.IndexMore
set_option linter.unusedVariables false
set_option linter.unusedSimpArgs false
namespace Go.Proofs.YtddkbhglbkfelaaGreatDoor.T
open Go.RowKit Go.Proofs.YtddkbhglbkfelaaGreatDoorW.PrintWords Go.Proofs.YtddkbhglbkfelaaGreatDoorW.PrintLast Go.Proofs.YtddkbhglbkfelaaGreatDoorX
theorem index_infix (s sub : List UInt8) : 0 ≤ Lib.index s sub ↔ ∃ p q, s = p ++ (sub ++ q) := by
  rcases Lib.index_spec s sub with ⟨h1, h2⟩ | ⟨i, h1, h2, h3, _⟩
  · refine ⟨fun h => by omega, ?_⟩
    rintro ⟨p, q, rfl⟩
    have := h2 p.length (by rw [List.length_append]; omega)
    rw [Lib.occAt, List.drop_left' rfl] at this
    rw [List.isPrefixOf_iff_prefix.2 (List.prefix_append sub q)] at this
    cases this
  · refine ⟨fun _ => ?_, fun _ => by omega⟩
    obtain ⟨q, hq⟩ := List.isPrefixOf_iff_prefix.1 h3
    exact ⟨s.take i, q, by rw [hq, List.take_append_drop]⟩
theorem ext_mid (a : ByteArray) (i j : Nat) : (a.extract i j).data.toList = (a.data.toList.drop i).take (j - i) := by
  rw [ByteArray.data_extract, Array.toList_extract, List.extract_eq_take_drop]
theorem ext_end (a : ByteArray) (i : Nat) : (a.extract i a.size).data.toList = a.data.toList.drop i := by
  rw [ext_mid, List.take_of_length_le]
  rw [List.length_drop, size_data]; exact Nat.le_refl _
theorem ba_list {a : ByteArray} {l : List UInt8} (h : a.data.toList = l) : a = ⟨l.toArray⟩ := ba_eq (by rw [toList_data, toList_data, h])
theorem empty_list (a : ByteArray) : a.toList = ([] : List UInt8) ↔ a.data.toList = [] := by rw [toList_data]
def numF (v : Nat) (l : List UInt8) : Nat := l.foldl (fun a c => a * 256 + c.toNat) v
theorem numF_cons (v : Nat) (c : UInt8) (l : List UInt8) : numF v (c :: l) = numF (v * 256 + c.toNat) l := rfl
theorem be_num : ∀ (l : List UInt8) (v m : Nat), be (m + l.length) (numF v l : Int) = be m (v : Int) ++ l.map (fun c => (c.toNat : Int))
  | [], v, m => by simp [numF]
  | c :: l, v, m => by
    have hc := c.toNat_lt
    rw [numF_cons, List.length_cons, show m + (l.length + 1) = (m + 1) + l.length by omega, be_num l (v * 256 + c.toNat) (m + 1)]
    have e1 : (((v * 256 + c.toNat : Nat) : Int) / 256) = (v : Int) := by omega
    have e2 : (((v * 256 + c.toNat : Nat) : Int) % 256) = (c.toNat : Int) := by omega
    rw [be, e1, e2, List.append_assoc]; rfl
theorem numF_lt : ∀ (l : List UInt8) (v : Nat), numF v l < (v + 1) * 256 ^ l.length
  | [], v => by simp [numF]
  | c :: l, v => by
    have hc := c.toNat_lt
    have := numF_lt l (v * 256 + c.toNat)
    rw [numF_cons, List.length_cons, Nat.pow_succ, ← Nat.mul_assoc, Nat.mul_right_comm]
    exact Nat.lt_of_lt_of_le this (Nat.mul_le_mul_right _ (by omega))
theorem pow8 {n : Nat} (h : n ≤ 8) : 256 ^ n ≤ 18446744073709551616 := by
  have := Nat.pow_le_pow_right (show 0 < 256 by decide) h
  exact Nat.le_trans this (by decide)
theorem u64_shl_or {v b : Nat} (hv : v * 256 + b < 18446744073709551616) (hb : b < 256) : Go.bits .or .u64 (IntKind.u64.wrap ((v : Int) * 256)) (IntKind.u64.wrap (b : Int)) = ((v * 256 + b : Nat) : Int) := by
  have hA : v * 256 < 18446744073709551616 := Nat.lt_of_le_of_lt (Nat.le_add_right _ _) hv
  have hB : b < 18446744073709551616 := Nat.lt_trans hb (by decide)
  have h1 : (BitVec.ofInt 64 ((v * 256 : Nat) : Int)).toNat = v * 256 := ofInt_nat64 hA
  have h2 : (BitVec.ofInt 64 (b : Int)).toNat = b := ofInt_nat64 hB
  rw [show ((v : Int) * 256) = ((v * 256 : Nat) : Int) by omega, u64_wrap_id (by omega) (by omega), u64_wrap_id (by omega) (by omega), u64_or, h1, h2]
  congr 1
  have := Nat.shiftLeft_add_eq_or_of_lt (i := 8) hb v
  rw [Nat.shiftLeft_eq] at this
  exact this.symm
theorem xor_back {n : Nat} (h : n < 18446744073709551616) : wrap64 (Go.bits .xor .u64 (n : Int) 9223372036854775808) = (n : Int) - 9223372036854775808 := by
  have hw : -9223372036854775808 ≤ wrap64 (n : Int) ∧ wrap64 (n : Int) ≤ 9223372036854775807 := by unfold wrap64; omega
  have := u64_xor_top hw.1 hw.2
  have e : IntKind.u64.wrap (wrap64 (n : Int)) = (n : Int) := by rw [u64_wrap]; unfold wrap64; omega
  rw [e] at this
  rw [this]; unfold wrap64; omega
theorem number_loop (a : ByteArray) (h8 : a.size ≤ 8) : ∀ (cs : List UInt8) (i v : Nat), a.data.toList.drop i = cs → v < 256 ^ i → Ev (fun k => order_number.l0 k a (v : Int) (a.size : Int) (i : Int)) ((numF v cs : Nat) : Int)
  | [], i, v, hd, hv => by
    have := drop_nil hd
    rw [size_data] at this
    exact ev_step (fun _ => order_number.l0.eq_2 ..) (ev_if_neg (by omega) (ev_some _))
  | c :: cs, i, v, hd, hv => by
    obtain ⟨h1, h2, h3⟩ := drop_cons hd
    rw [size_data] at h2
    have hc := c.toNat_lt
    have hp : 256 ^ (i + 1) = 256 ^ i * 256 := Nat.pow_succ ..
    have h88 := pow8 (n := i + 1) (by omega)
    refine ev_step (fun _ => order_number.l0.eq_2 ..) (ev_if_pos (by omega) (ev_if_pos (by omega) (ev_if_pos (by omega) ?_)))
    rw [bt_at hd, wrap_succ (j := i) (by omega), u64_shl_or (by omega) (by omega), numF_cons]
    exact number_loop a h8 cs (i + 1) _ h3 (by omega)
def isB0 (c : UInt8) : Bool := c != 0
def hdV (c : UInt8) (r : List UInt8) : S63 :=
  if c = 2 then ⟨1, (numF 0 (r.take 8) : Int) - 9223372036854775808, ⟨#[]⟩, false⟩ else if c = 3 then ⟨2, 0, ⟨(r.takeWhile isB0).toArray⟩, false⟩ else if c = 4 then ⟨3, 0, ⟨#[]⟩, r.head? == some 1⟩ else ⟨(c.toNat : Int) - 1, 0, ⟨#[]⟩, false⟩
def tlV (c : UInt8) (r : List UInt8) : List UInt8 :=
  if c = 2 then r.drop 8 else if c = 3 then r.drop ((r.takeWhile isB0).length + 1) else if c = 4 then r.drop 1 else r
def okV (c : UInt8) (r : List UInt8) : Bool :=
  if c = 2 then decide (8 ≤ r.length) else if c = 3 then decide ((0 : UInt8) ∈ r) else if c = 4 then (r.head? == some 0 || r.head? == some 1) else c == 1
theorem tl_len (c : UInt8) (r : List UInt8) : (tlV c r).length ≤ r.length := by
  unfold tlV; repeat' split
  all_goals (try rw [List.length_drop]); omega
def prs : Nat → List UInt8 → List S63
  | 0, _ => []
  | _ + 1, [] => []
  | n + 1, c :: r => hdV c r :: prs n (tlV c r)
def wfB : Nat → List UInt8 → Bool
  | 0, _ => true
  | _ + 1, [] => true
  | n + 1, c :: r => okV c r && wfB n (tlV c r)
theorem kind_of (c : UInt8) : wrap64 (wrap64 (c.toNat : Int) - 1) = (c.toNat : Int) - 1 := by have := c.toNat_lt; unfold wrap64; omega
theorem u8_nat {c d : UInt8} : c = d ↔ c.toNat = d.toNat := ⟨fun h => h ▸ rfl, fun h => UInt8.toNat_inj.1 h⟩
theorem tw_mem : ∀ (r : List UInt8), (0 : UInt8) ∈ r → r = r.takeWhile isB0 ++ 0 :: r.drop ((r.takeWhile isB0).length + 1)
  | [], h => by cases h
  | c :: r, h => by
    by_cases hc : c = 0
    · subst hc; simp [isB0]
    · have : isB0 c = true := by simp [isB0, hc]
      rcases List.mem_cons.1 h with h | h
      · exact absurd h.symm hc
      · have := tw_mem r h
        rw [List.takeWhile_cons, if_pos ‹_›, List.length_cons, List.drop_succ_cons, List.cons_append, ← this]
theorem tw_no (r : List UInt8) : (0 : UInt8) ∉ r.takeWhile isB0 := fun h => by
  have := List.all_takeWhile (p := isB0) (l := r)
  have := List.all_eq_true.1 this 0 h
  cases this
theorem index_zero : ∀ (p q : List UInt8), (0 : UInt8) ∉ p → Lib.index (p ++ 0 :: q) [0] = p.length
  | [], q, _ => by simp [Lib.index]
  | c :: p, q, h => by
    have hc : ¬ (0 : UInt8) = c := fun e => h (e ▸ List.mem_cons_self)
    have ih := index_zero p q (fun m => h (List.mem_cons_of_mem _ m))
    rw [List.cons_append, Lib.index, if_neg (by simp [hc]), ih, if_neg (by first | (simp; done) | (simp; omega)), List.length_cons]
    omega
theorem cut_zero (r : List UInt8) : Lib.cut r [0] = if (0 : UInt8) ∈ r then (r.takeWhile isB0, r.drop ((r.takeWhile isB0).length + 1), true) else (r, [], false) := by
  unfold Lib.cut
  by_cases h : (0 : UInt8) ∈ r
  · have e := tw_mem r h
    have hi : Lib.index r [0] = ((r.takeWhile isB0).length : Int) := by
      have := index_zero (r.takeWhile isB0) (r.drop ((r.takeWhile isB0).length + 1)) (tw_no r)
      rwa [← e] at this
    rw [if_pos h, hi, if_pos (by omega), Int.toNat_natCast]
    congr 1
    exact (List.prefix_iff_eq_take.1 (List.takeWhile_prefix isB0 (l := r))).symm
  · rw [if_neg h, if_neg]
    intro hh
    obtain ⟨p, q, e⟩ := (index_infix _ _).1 hh
    exact h (by rw [e]; simp)
theorem one_ev (a : ByteArray) (c : UInt8) (r : List UInt8) (ha : a.data.toList = c :: r) (hs : a.size ≤ 1048577) :
    (okV c r = true → Ev (fun k => order_one.f k a) ((hdV c r).f0, (hdV c r).f1, (hdV c r).f2, (hdV c r).f3, ⟨(tlV c r).toArray⟩, true)) ∧
    (okV c r = false → ∃ v0 v1 v2 v3 t, Ev (fun k => order_one.f k a) (v0, v1, v2, v3, t, false)) := by
  have hsz : a.size = r.length + 1 := by rw [← size_data, ha, List.length_cons]
  have hb : bt a 0 = (c.toNat : Int) := by have := bt_at (s := a) (i := 0) (c := c) (cs := r) (by rw [ha]; rfl); exact this
  have hr : (a.extract 1 a.size).data.toList = r := by rw [ext_end, ha]; rfl
  have hrs : (a.extract 1 a.size).size = r.length := by rw [← size_data, hr]
  have hc := c.toNat_lt
  have h0 : 0 < (a.size : Int) := by omega
  have h1 : 1 ≤ (a.size : Int) := by omega
  unfold order_one.f
  rw [hb, kind_of]
  have E : ∀ {R : Int × Int × ByteArray × Bool × ByteArray × Bool} {g : Nat → Option (Int × Int × ByteArray × Bool × ByteArray × Bool)}, Ev g R → Ev (fun k => if 0 < (a.size : Int) then (if 1 ≤ (a.size : Int) then g k else none) else none) R := fun h => ev_if_pos h0 (ev_if_pos h1 h)
  by_cases k1 : c = 1
  · subst k1
    refine ⟨fun _ => E (ev_if_pos (by decide) ?_), fun h => absurd h (by simp [okV])⟩
    rw [ba_list hr]
    exact ev_some _
  by_cases k2 : c = 2
  · subst k2
    constructor
    · intro h
      have h8 : 8 ≤ r.length := by simpa [okV] using h
      refine E (ev_if_neg (by decide) (ev_if_pos (by decide) (ev_if_neg (by omega) (ev_if_pos (by decide) (ev_if_pos (by omega) ?_)))))
      have ht : ((a.extract 1 a.size).extract 0 8).data.toList = r.take 8 := by rw [ext_mid, hr]; rfl
      have hts : ((a.extract 1 a.size).extract 0 8).size = 8 := by rw [← size_data, ht, List.length_take]; omega
      refine ev_bind (a := ((numF 0 (r.take 8) : Nat) : Int)) ?_ ?_
      · unfold order_number.f
        have := number_loop ((a.extract 1 a.size).extract 0 8) (by omega) (r.take 8) 0 0 (by rw [ht]; rfl) (by decide)
        exact this
      · have hlt := numF_lt (r.take 8) 0
        rw [List.length_take, Nat.min_eq_left h8] at hlt
        have e8 : (0 + 1) * 256 ^ 8 = 18446744073709551616 := by decide
        rw [xor_back (by omega), ba_list (a := (a.extract 1 a.size).extract 8 (a.extract 1 a.size).size) (l := r.drop 8) (by rw [ext_end, hr])]
        exact ev_some _
    · intro h
      have h8 : ¬ 8 ≤ r.length := by simpa [okV] using h
      exact ⟨0, 0, ⟨#[]⟩, false, ⟨#[]⟩, E (ev_if_neg (by decide) (ev_if_pos (by decide) (ev_if_pos (by omega) (ev_some _))))⟩
  by_cases k3 : c = 3
  · subst k3
    have hcut : strings_Cut.f (a.extract 1 a.size) (⟨#[0]⟩ : ByteArray) = some ((⟨(Lib.cut r [0]).1.toArray⟩ : ByteArray), (⟨(Lib.cut r [0]).2.1.toArray⟩ : ByteArray), (Lib.cut r [0]).2.2) := by
      unfold strings_Cut.f
      rw [if_pos (by omega), hr]
    constructor
    · intro h
      have hm : (0 : UInt8) ∈ r := by simpa [okV] using h
      refine E (ev_if_neg (by decide) (ev_if_neg (by decide) (ev_if_pos (by decide) ?_)))
      rw [hcut, cut_zero, if_pos hm]
      exact ev_some _
    · intro h
      have hm : ¬ (0 : UInt8) ∈ r := by simpa [okV] using h
      refine ⟨2, 0, ⟨r.toArray⟩, false, ⟨#[]⟩, E (ev_if_neg (by decide) (ev_if_neg (by decide) (ev_if_pos (by decide) ?_)))⟩
      rw [hcut, cut_zero, if_neg hm]
      exact ev_some _
  by_cases k4 : c = 4
  · subst k4
    cases r with
    | nil =>
      refine ⟨fun h => absurd h (by simp [okV]), fun _ => ⟨0, 0, ⟨#[]⟩, false, ⟨#[]⟩, E (ev_if_neg (by decide) (ev_if_neg (by decide) (ev_if_neg (by decide) (ev_if_pos (by decide) (ev_if_pos ((empty_list _).2 hr) ?_)))))⟩⟩
      exact ev_step (fun _ => order_one.j0.eq_2 ..) (ev_if_pos rfl (ev_some _))
    | cons d r =>
      rw [List.length_cons] at hrs
      have hd : bt (a.extract 1 a.size) 0 = (d.toNat : Int) := by have := bt_at (s := a.extract 1 a.size) (i := 0) (c := d) (cs := r) (by rw [hr]; rfl); exact this
      have hne : ¬ (a.extract 1 a.size).toList = ([] : List UInt8) := fun e => by rw [(empty_list _).1 e] at hr; cases hr
      have hd' := d.toNat_lt
      constructor
      · intro h
        have hdd : d = 0 ∨ d = 1 := by simpa [okV] using h
        refine E (ev_if_neg (by decide) (ev_if_neg (by decide) (ev_if_neg (by decide) (ev_if_pos (by decide) (ev_if_neg hne (ev_if_pos (by omega) ?_))))))
        rw [hd]
        have hx : decide ((d.toNat : Int) > 1) = false := decide_eq_false (by rcases hdd with rfl | rfl <;> decide)
        rw [hx]
        refine ev_step (fun _ => order_one.j0.eq_2 ..) (ev_if_neg (by decide) (ev_if_pos (by omega) ?_))
        rw [hd]
        unfold value_Bool.f
        refine ev_bind_some (ev_if_pos (by omega) ?_)
        rw [ba_list (a := (a.extract 1 a.size).extract 1 (a.extract 1 a.size).size) (l := r) (by rw [ext_end, hr]; rfl)]
        have hv : (((d.toNat : Int) == 1) : Bool) = ((d :: r).head? == some 1) := by rcases hdd with rfl | rfl <;> rfl
        rw [hv]
        exact ev_some _
      · intro h
        have hdd : ¬ (d = 0 ∨ d = 1) := by simpa [okV] using h
        refine ⟨0, 0, ⟨#[]⟩, false, ⟨#[]⟩, E (ev_if_neg (by decide) (ev_if_neg (by decide) (ev_if_neg (by decide) (ev_if_pos (by decide) (ev_if_neg hne (ev_if_pos (by omega) ?_))))))⟩
        rw [hd]
        have hx : decide ((d.toNat : Int) > 1) = true := decide_eq_true (by
          have : ¬ d.toNat = 0 := fun e => hdd (Or.inl (u8_nat.2 e))
          have : ¬ d.toNat = 1 := fun e => hdd (Or.inr (u8_nat.2 e))
          omega)
        rw [hx]
        exact ev_step (fun _ => order_one.j0.eq_2 ..) (ev_if_pos rfl (ev_some _))
  · have n1 : ¬ c.toNat = 1 := fun e => k1 (u8_nat.2 e)
    have n2 : ¬ c.toNat = 2 := fun e => k2 (u8_nat.2 e)
    have n3 : ¬ c.toNat = 3 := fun e => k3 (u8_nat.2 e)
    have n4 : ¬ c.toNat = 4 := fun e => k4 (u8_nat.2 e)
    refine ⟨fun h => absurd h (by simp [okV, k1, k2, k3, k4]), fun _ => ⟨0, 0, ⟨#[]⟩, false, ⟨#[]⟩, E (ev_if_neg (by omega) (ev_if_neg (by omega) (ev_if_neg (by omega) (ev_if_neg (by omega) (ev_some _)))))⟩⟩
theorem dec_loop : ∀ (n : Nat) (b : List UInt8) (acc : List S63), b.length ≤ n → b.length ≤ 1048576 → acc.length ≤ 16 → Ev (fun k => order_Decode.l0 k ⟨b.toArray⟩ acc) (if valL (prs n b) = none ∧ acc.length + (prs n b).length ≤ 16 ∧ wfB n b = true then (acc ++ prs n b, none) else ([], some 3))
  | n, [], acc, _, _, ha => by
    have e : prs n [] = [] ∧ wfB n [] = true := by cases n <;> exact ⟨rfl, rfl⟩
    rw [e.1, e.2, if_pos ⟨rfl, by simpa using ha, rfl⟩, List.append_nil]
    exact ev_step (fun _ => order_Decode.l0.eq_2 ..) (ev_if_pos ((empty_list _).2 rfl) (ev_some _))
  | 0, c :: r, _, h, _, _ => by simp at h
  | n + 1, c :: r, acc, h, h2, ha => by
    rw [List.length_cons] at h h2
    have hsz : (⟨(c :: r).toArray⟩ : ByteArray).size = r.length + 1 := by rw [← size_data]; rfl
    obtain ⟨o1, o2⟩ := one_ev ⟨(c :: r).toArray⟩ c r rfl (by omega)
    have hne : ¬ (⟨(c :: r).toArray⟩ : ByteArray).toList = ([] : List UInt8) := fun e => by have := (empty_list _).1 e; cases this
    rw [show prs (n + 1) (c :: r) = hdV c r :: prs n (tlV c r) from rfl, show wfB (n + 1) (c :: r) = (okV c r && wfB n (tlV c r)) from rfl]
    by_cases ho : okV c r = true
    case neg =>
      have ho := Bool.eq_false_iff.mpr ho
      obtain ⟨v0, v1, v2, v3, t, hv⟩ := o2 ho
      rw [if_neg (by simp [ho])]
      exact ev_step (fun _ => order_Decode.l0.eq_2 ..) (ev_if_neg hne (ev_bind hv (ev_if_neg Bool.false_ne_true (ev_some _))))
    case pos =>
      refine ev_step (fun _ => order_Decode.l0.eq_2 ..) (ev_if_neg hne (ev_bind (o1 ho) (ev_if_pos rfl (ev_bind (valid_ev ..) ?_))))
      cases hv : vErr (hdV c r).f0 (hdV c r).f1 (hdV c r).f2 (hdV c r).f3 with
      | some e =>
        rw [if_neg (by simp [valL, hv])]
        exact ev_if_neg (by simp) (ev_some _)
      | none =>
        refine ev_if_pos rfl ?_
        by_cases h16 : (acc.length : Int) = 16
        · rw [if_neg (by rw [List.length_cons]; omega)]
          exact ev_if_pos h16 (ev_some _)
        · refine ev_if_neg h16 (ev_if_pos (by omega) ?_)
          have ih := dec_loop n (tlV c r) (acc ++ [hdV c r]) (by have := tl_len c r; omega) (by have := tl_len c r; omega) (by rw [List.length_append]; simp; omega)
          have e : (valL (prs n (tlV c r)) = none ∧ (acc ++ [hdV c r]).length + (prs n (tlV c r)).length ≤ 16 ∧ wfB n (tlV c r) = true) ↔ (valL (hdV c r :: prs n (tlV c r)) = none ∧ acc.length + (hdV c r :: prs n (tlV c r)).length ≤ 16 ∧ (okV c r && wfB n (tlV c r)) = true) := by
            simp only [valL, hv, ho, Bool.true_and, List.length_append, List.length_cons, List.length_nil]
            constructor
            · rintro ⟨a, b, c⟩; exact ⟨a, by omega, c⟩
            · rintro ⟨a, b, c⟩; exact ⟨a, by omega, c⟩
          rw [List.append_assoc, List.singleton_append] at ih
          by_cases hc : valL (prs n (tlV c r)) = none ∧ (acc ++ [hdV c r]).length + (prs n (tlV c r)).length ≤ 16 ∧ wfB n (tlV c r) = true
          · rw [if_pos hc] at ih; rw [if_pos (e.1 hc)]; exact ih
          · rw [if_neg hc] at ih; rw [if_neg (fun h => hc (e.2 h))]; exact ih
/-- What stands in a text's bytes; whether it was written just so. -/
def txV (s : ByteArray) : List S63 := prs s.size s.data.toList
def txOk (s : ByteArray) : Prop := valL (txV s) = none ∧ (txV s).length ≤ 16 ∧ wfB s.size s.data.toList = true
open Classical in
theorem decode_ev (s : ByteArray) (hs : s.size ≤ 1048576) : Ev (fun k => order_Decode.f k s) (if txOk s then (txV s, none) else ([], some 3)) := by
  have h := dec_loop s.size s.data.toList [] (by rw [size_data]; exact Nat.le_refl _) (by rw [size_data]; exact hs) (by simp)
  unfold order_Decode.f
  have e : (⟨s.data.toList.toArray⟩ : ByteArray) = s := rfl
  rw [e] at h
  simp only [List.length_nil, Nat.zero_add, List.nil_append] at h
  unfold txOk txV
  by_cases hc : valL (prs s.size s.data.toList) = none ∧ (prs s.size s.data.toList).length ≤ 16 ∧ wfB s.size s.data.toList = true
  · rw [if_pos hc] at h ⊢; exact h
  · rw [if_neg hc] at h ⊢; exact h
def nums (b : List UInt8) : List Int := b.map fun c => (c.toNat : Int)
theorem nums_bytes (s : ByteArray) : bytesOf s = nums s.data.toList := rfl
theorem ok_enc {c : UInt8} {r : List UInt8} (h : okV c r = true) : kenc (hdV c r) ++ nums (tlV c r) = nums (c :: r) := by
  unfold okV at h
  unfold hdV tlV kenc nums
  by_cases k2 : c = 2
  · subst k2
    have h8 : 8 ≤ r.length := by simpa using h
    simp only [if_true]
    have hb := be_num (r.take 8) 0 0
    rw [List.length_take, Nat.min_eq_left h8, Nat.zero_add] at hb
    rw [show ((numF 0 (r.take 8) : Nat) : Int) - 9223372036854775808 + 9223372036854775808 = ((numF 0 (r.take 8) : Nat) : Int) by omega, hb]
    simp only [be, List.nil_append]
    rw [List.cons_append, ← List.map_append, List.take_append_drop]
    rfl
  by_cases k3 : c = 3
  · subst k3
    have hm : (0 : UInt8) ∈ r := by simpa using h
    simp only [if_true, show ¬ (3 : UInt8) = 2 by decide, if_false, show ¬ (2 : Int) = 1 by decide]
    have e := tw_mem r hm
    rw [List.cons_append, List.map_cons]
    congr 1
    rw [List.append_assoc]
    conv => rhs; rw [e]
    rw [List.map_append, List.map_cons]
    rfl
  by_cases k4 : c = 4
  · subst k4
    simp only [if_true, show ¬ (4 : UInt8) = 2 by decide, show ¬ (4 : UInt8) = 3 by decide, if_false, show ¬ (3 : Int) = 1 by decide, show ¬ (3 : Int) = 2 by decide] at h ⊢
    cases r with
    | nil => simp at h
    | cons d r =>
      have hdd : d = 0 ∨ d = 1 := by simpa using h
      rcases hdd with rfl | rfl <;> rfl
  · simp only [k2, k3, k4, if_false] at h ⊢
    have k1 : c = 1 := by simpa using h
    subst k1
    rfl
theorem enc_ok {c : UInt8} {r : List UInt8} {t : List Int} (hv : vErr (hdV c r).f0 (hdV c r).f1 (hdV c r).f2 (hdV c r).f3 = none) (h : kenc (hdV c r) ++ t = nums (c :: r)) : okV c r = true := by
  have hk := (vErr_none hv).1
  unfold okV
  unfold hdV kenc nums at h
  unfold hdV at hk
  by_cases k2 : c = 2
  · subst k2
    simp only [if_true] at h ⊢
    have := congrArg List.length h
    simp only [List.length_append, List.length_cons, be_length, List.length_map] at this
    exact decide_eq_true (by omega)
  by_cases k3 : c = 3
  · subst k3
    simp only [if_true, show ¬ (3 : UInt8) = 2 by decide, if_false, show ¬ (2 : Int) = 1 by decide] at h ⊢
    rw [List.cons_append, List.map_cons] at h
    injection h with _ h
    have hz : (0 : Int) ∈ r.map (fun c => (c.toNat : Int)) := by rw [← h]; simp
    obtain ⟨d, hd, e⟩ := List.mem_map.1 hz
    have : d = 0 := u8_nat.2 (by show d.toNat = 0; omega)
    exact decide_eq_true (this ▸ hd)
  by_cases k4 : c = 4
  · subst k4
    simp only [if_true, show ¬ (4 : UInt8) = 2 by decide, show ¬ (4 : UInt8) = 3 by decide, if_false, show ¬ (3 : Int) = 1 by decide, show ¬ (3 : Int) = 2 by decide] at h ⊢
    cases r with
    | nil =>
      have := congrArg List.length h
      simp at this
      all_goals (split at this <;> simp at this)
    | cons d r =>
      rw [List.cons_append, List.map_cons, List.map_cons] at h
      injection h with _ h
      by_cases d1 : d = 1
      · subst d1; rfl
      · have hf : ((d :: r).head? == some 1) = false := by simp [d1]
        rw [hf] at h ⊢
        simp only [Bool.false_eq_true, if_false, List.singleton_append] at h
        injection h with h _
        have : d = 0 := u8_nat.2 (by show d.toNat = 0; omega)
        subst this; rfl
  · simp only [k2, k3, k4, if_false] at hk ⊢
    have hc := c.toNat_lt
    have n2 : ¬ c.toNat = 2 := fun e => k2 (u8_nat.2 e)
    have n3 : ¬ c.toNat = 3 := fun e => k3 (u8_nat.2 e)
    have n4 : ¬ c.toNat = 4 := fun e => k4 (u8_nat.2 e)
    have : c = 1 := u8_nat.2 (by show c.toNat = 1; omega)
    subst this; rfl
theorem wf_iff : ∀ (n : Nat) (b : List UInt8), b.length ≤ n → valL (prs n b) = none → (wfB n b = true ↔ kencL (prs n b) = nums b)
  | n, [], _, _ => by
    have e : prs n [] = [] ∧ wfB n [] = true := by cases n <;> exact ⟨rfl, rfl⟩
    rw [e.1, e.2]; exact ⟨fun _ => rfl, fun _ => rfl⟩
  | 0, c :: r, h, _ => by simp at h
  | n + 1, c :: r, h, hv => by
    rw [List.length_cons] at h
    simp only [prs, wfB, valL, kencL] at hv ⊢
    cases e : vErr (hdV c r).f0 (hdV c r).f1 (hdV c r).f2 (hdV c r).f3 with
    | some q => rw [e] at hv; cases hv
    | none =>
      rw [e] at hv
      have ih := wf_iff n (tlV c r) (by have := tl_len c r; omega) hv
      rw [Bool.and_eq_true, ih]
      constructor
      · rintro ⟨a, b⟩; rw [b]; exact ok_enc a
      · intro a
        have ho := enc_ok e a
        refine ⟨ho, ?_⟩
        rw [← ok_enc ho] at a
        exact List.append_cancel_left a
theorem tx_iff (s : ByteArray) : txOk s ↔ (ordR (txV s)).2 = none ∧ (ordR (txV s)).1 = s := by
  have hsz : s.data.toList.length ≤ s.size := by rw [size_data]; exact Nat.le_refl _
  constructor
  · rintro ⟨h1, h2, h3⟩
    have := (wf_iff s.size s.data.toList hsz h1).1 h3
    have hl : ¬ ((txV s).length : Int) > 16 := by omega
    unfold ordR
    simp only [h1, hl, if_false]
    refine ⟨trivial, ?_⟩
    rw [show kencL (txV s) = bytesOf s from this, str_bytes]
  · rintro ⟨h1, h2⟩
    obtain ⟨a, b, c⟩ := ord_ok h1
    refine ⟨a, b, (wf_iff s.size s.data.toList hsz a).2 ?_⟩
    rw [c] at h2
    have := congrArg bytesOf h2
    rw [bytes_str (kencL_range _)] at this
    exact this
end Go.Proofs.YtddkbhglbkfelaaGreatDoor.T
