import Derived.Test.YtddkbhglbkfelaaGreatDoorPkTx0
import Derived.Test.YtddkbhglbkfelaaGreatDoorPkTx5
namespace Go.Proofs.YtddkbhglbkfelaaGreatDoor.T
open Go.RowKit Go.Proofs.YtddkbhglbkfelaaGreatDoorW.PrintWords Go.Proofs.YtddkbhglbkfelaaGreatDoorW.PrintLast Go.Proofs.YtddkbhglbkfelaaGreatDoorW.PrintMore Go.Proofs.YtddkbhglbkfelaaGreatDoorX
attribute [local go_sem] max2_int min2_int max_two min_two max_three min_three max_four min_four
set_option linter.unusedVariables false
set_option linter.unusedSimpArgs false

/-! ### order_one: function 92 -/
def order_one.j0 : Nat → ByteArray → Bool → Option (Int × Int × ByteArray × Bool × ByteArray × Bool)
 | 0, _, _ => none
 | k + 1, x6, x55 => if x55 = true then ((value_Null.f).bind fun bt163 => (some (bt163.1, bt163.2.1, bt163.2.2.1, bt163.2.2.2, (⟨#[]⟩ : ByteArray), false))) else (if 0 < (x6.size : Int) then ((value_Bool.f ((bt x6 0) == 1)).bind fun bt167 => (if 1 ≤ (x6.size : Int) then (some (bt167.1, bt167.2.1, bt167.2.2.1, bt167.2.2.2, x6.extract 1 x6.size, true)) else (none))) else (none))
def order_one.f (k : Nat) (a0 : ByteArray) : Option (Int × Int × ByteArray × Bool × ByteArray × Bool) := if 0 < (a0.size : Int) then (if 1 ≤ (a0.size : Int) then (if (wrap64 ((wrap64 (bt a0 0)) - 1)) = 0 then ((value_Null.f).bind fun bt143 => (some (bt143.1, bt143.2.1, bt143.2.2.1, bt143.2.2.2, a0.extract 1 a0.size, true))) else (if (wrap64 ((wrap64 (bt a0 0)) - 1)) = 1 then (if ((a0.extract 1 a0.size).size : Int) < 8 then ((value_Null.f).bind fun bt147 => (some (bt147.1, bt147.2.1, bt147.2.2.1, bt147.2.2.2, (⟨#[]⟩ : ByteArray), false))) else (if 0 ≤ 8 then (if 8 ≤ ((a0.extract 1 a0.size).size : Int) then ((order_number.f k ((a0.extract 1 a0.size).extract 0 8)).bind fun t151 => ((value_Int.f (wrap64 (Go.bits .xor .u64 t151 9223372036854775808))).bind fun bt152 => (some (bt152.1, bt152.2.1, bt152.2.2.1, bt152.2.2.2, (a0.extract 1 a0.size).extract 8 (a0.extract 1 a0.size).size, true)))) else (none)) else (none))) else (if (wrap64 ((wrap64 (bt a0 0)) - 1)) = 2 then ((strings_Cut.f (a0.extract 1 a0.size) (⟨#[0]⟩ : ByteArray)).bind fun bt156 => ((value_Text.f bt156.1).bind fun bt159 => (some (bt159.1, bt159.2.1, bt159.2.2.1, bt159.2.2.2, bt156.2.1, bt156.2.2)))) else (if (wrap64 ((wrap64 (bt a0 0)) - 1)) = 3 then (if (a0.extract 1 a0.size).toList = ([] : List UInt8) then (order_one.j0 k (a0.extract 1 a0.size) true) else (if 0 < ((a0.extract 1 a0.size).size : Int) then (order_one.j0 k (a0.extract 1 a0.size) (decide ((bt (a0.extract 1 a0.size) 0) > 1))) else (none))) else ((value_Null.f).bind fun bt171 => (some (bt171.1, bt171.2.1, bt171.2.2.1, bt171.2.2.2, (⟨#[]⟩ : ByteArray), false))))))) else (none)) else (none)
theorem order_one.mono_l : ∀ k, (∀ y0 y1, LeO (order_one.j0 k y0 y1) (order_one.j0 (k + 1) y0 y1))
 | 0 => fun _ _ r h => by simp [order_one.j0] at h
 | k + 1 => by
  have ih0 := order_one.mono_l k
  ·intro y0 y1
   unfold order_one.j0
   repeat' first
   | (with_reducible exact ih0 _ _)
   | (with_reducible exact order_number.mono _ _)
   | (with_reducible exact LeO.refl _)
   | (with_reducible exact LeO.none _)
   | (with_reducible refine LeO.ite ?_ ?_)
   | (with_reducible refine LeO.bind ?_ (fun _ => ?_))
   | exact ih0 _ _
   | exact order_number.mono _ _
   | exact LeO.none _
   | refine LeO.ite ?_ ?_
   | refine LeO.bind ?_ (fun _ => ?_)
theorem order_one.mono : ∀ a0 k, LeO (order_one.f k a0) (order_one.f (k + 1) a0) := by
 intro a0 k
 have ih0 := order_one.mono_l k
 unfold order_one.f
 repeat' first
   | (with_reducible exact ih0 _ _)
   | (with_reducible exact order_number.mono _ _)
   | (with_reducible exact LeO.refl _)
   | (with_reducible exact LeO.none _)
   | (with_reducible refine LeO.ite ?_ ?_)
   | (with_reducible refine LeO.bind ?_ (fun _ => ?_))
   | exact ih0 _ _
   | exact order_number.mono _ _
   | exact LeO.none _
   | refine LeO.ite ?_ ?_
   | refine LeO.bind ?_ (fun _ => ?_)
def order_one.T1 : Bool × List (List Nat × List Nat) := (true, [([], []), ([0], [0]), ([1], [1]), ([2], [2]), ([], []), ([4], [4]), ([3, 0, 1, 2, 3], [3]), ([5, 6, 0, 1, 2, 3, 4, 5, 6], [5])])
def order_one.B1 : List Nat := [0, 1, 3, 7, 0, 16, 15, 127]
theorem order_one.tab1 : rtab .any (opsOf Tryz.f92 1) = order_one.T1 := by kernel_rfl
theorem order_one.bits1 : waitsOk order_one.T1.2 order_one.B1 = true := by kernel_rfl
def order_one.T8 : Bool × List (List Nat × List Nat) := (true, [([], []), ([0], [0]), ([1], [1]), ([2], [2]), ([3], [3]), ([4, 2], [4]), ([], []), ([6], [6]), ([5, 5, 0, 1, 2, 3, 4, 5], [5]), ([7, 8, 0, 1, 2, 3, 4, 5, 6, 7, 8], [7]), ([9, 0, 1, 2, 3, 4, 5, 6, 7, 8, 9], [])])
def order_one.B8 : List Nat := [0, 1, 3, 7, 15, 31, 0, 64, 63, 511, 1023]
theorem order_one.tab8 : rtab .any (opsOf Tryz.f92 8) = order_one.T8 := by kernel_rfl
theorem order_one.bits8 : waitsOk order_one.T8.2 order_one.B8 = true := by kernel_rfl
def order_one.T15 : Bool × List (List Nat × List Nat) := (true, [([], []), ([0], [0]), ([1], [1]), ([2], [2]), ([], []), ([4], [4]), ([3, 3, 0, 1, 2, 3], [3]), ([5, 6, 0, 1, 2, 3, 4, 5, 6], [5]), ([7, 0, 1, 2, 3, 4, 5, 6, 7], [])])
def order_one.B15 : List Nat := [0, 1, 3, 7, 0, 16, 15, 127, 255]
theorem order_one.tab15 : rtab .any (opsOf Tryz.f92 15) = order_one.T15 := by kernel_rfl
theorem order_one.bits15 : waitsOk order_one.T15.2 order_one.B15 = true := by kernel_rfl
set_option maxHeartbeats 8000000 in
set_option maxRecDepth 100000 in
theorem order_one.calls (k : Nat) (a0 : ByteArray) (r1 : Int) (r2 : Int) (r3 : ByteArray) (r4 : Bool) (r5 : ByteArray) (r6 : Bool) (w : World) (hG : GW w) (h : order_one.f k a0 = some (r1, r2, r3, r4, r5, r6)) :
  Calls Tryz.prog 92 #[.string a0] w fun e w' => e = .returned (.tuple #[.agg #[.int .i64 r1, .int .i64 r2, .string r3, .bool r4], .string r5, .bool r6]) ∧ Below w.heap.size w w' := by
 have hu63 := Tryz.underlying63
 have HB := Aside0.mk (Below.refl w.heap.size w)
 have HG := Aside0.mk hG
 clear hG
 obtain ⟨y_, hy_⟩ : ∃ y_ : ByteArray, a0.extract 1 a0.size = y_ := ⟨_, rfl⟩
 have H : (if 0 < (a0.size : Int) then (if 1 ≤ (a0.size : Int) then (if (wrap64 ((wrap64 (bt a0 0)) - 1)) = 0 then ((value_Null.f).bind fun bt143 => (some (bt143.1, bt143.2.1, bt143.2.2.1, bt143.2.2.2, a0.extract 1 a0.size, true))) else (if (wrap64 ((wrap64 (bt a0 0)) - 1)) = 1 then (if ((a0.extract 1 a0.size).size : Int) < 8 then ((value_Null.f).bind fun bt147 => (some (bt147.1, bt147.2.1, bt147.2.2.1, bt147.2.2.2, (⟨#[]⟩ : ByteArray), false))) else (if 0 ≤ 8 then (if 8 ≤ ((a0.extract 1 a0.size).size : Int) then ((order_number.f k ((a0.extract 1 a0.size).extract 0 8)).bind fun t151 => ((value_Int.f (wrap64 (Go.bits .xor .u64 t151 9223372036854775808))).bind fun bt152 => (some (bt152.1, bt152.2.1, bt152.2.2.1, bt152.2.2.2, (a0.extract 1 a0.size).extract 8 (a0.extract 1 a0.size).size, true)))) else (none)) else (none))) else (if (wrap64 ((wrap64 (bt a0 0)) - 1)) = 2 then ((strings_Cut.f (a0.extract 1 a0.size) (⟨#[0]⟩ : ByteArray)).bind fun bt156 => ((value_Text.f bt156.1).bind fun bt159 => (some (bt159.1, bt159.2.1, bt159.2.2.1, bt159.2.2.2, bt156.2.1, bt156.2.2)))) else (if (wrap64 ((wrap64 (bt a0 0)) - 1)) = 3 then (if (a0.extract 1 a0.size).toList = ([] : List UInt8) then (order_one.j0 k (a0.extract 1 a0.size) true) else (if 0 < ((a0.extract 1 a0.size).size : Int) then (order_one.j0 k (a0.extract 1 a0.size) (decide ((bt (a0.extract 1 a0.size) 0) > 1))) else (none))) else ((value_Null.f).bind fun bt171 => (some (bt171.1, bt171.2.1, bt171.2.2.1, bt171.2.2.2, (⟨#[]⟩ : ByteArray), false))))))) else (none)) else (none)) = some (r1, r2, r3, r4, r5, r6) := h
 rw [hy_] at H
 clear h
 have c2 : 0 < (a0.size : Int) := Classical.byContradiction fun c2 => by rw [if_neg c2] at H; exact absurd H (by simp)
 rw [if_pos c2] at H
 have c2b0 := dcT c2
 have c2b1 : decide (0 < a0.size) = true := decide_eq_true (by omega)
 clear c2
 have c4 : 1 ≤ (a0.size : Int) := Classical.byContradiction fun c4 => by rw [if_neg c4] at H; exact absurd H (by simp)
 rw [if_pos c4] at H
 have c4b0 := eq_true c4
 have c4b1 : decide (1 ≤ (a0.size : Int)) = true := decide_eq_true c4
 clear c4
 by_cases c5 : (wrap64 ((wrap64 (bt a0 0)) - 1)) = 0
 ·rw [if_pos c5] at H
  have ⟨c5b0, c5b1⟩ := eqT c5
  clear c5
  obtain ⟨⟨t143, t144, t145, t146⟩, A6, H⟩ := bn_ H; (try dsimp only at H)
  obtain ⟨rfl, rfl, rfl, rfl, rfl, rfl⟩ := so6 H
  go_enter Tryz.func92, Tryz.ntmps92
  try go_wp2_with (first | ((with_reducible refine qgd (N := 2) rfl ?_); refine qB_ 2 #[.int .i64 0, .int .i64 0, .string (⟨#[]⟩ : ByteArray), .bool false] 63 ?_; intro gb142 hg w7 hbox hb; have BK142 := Aside0.mk (hbox); have GW142 := gE_ hg HB; have GE142 := gE_ hg HB; replace HB := bS_ HB hb; clear hb hbox hg))
  replace BK142 := kD_ BK142
  replace HB := bD_ HB
  have p3 : 0 ≤ (0 : Int) := (by omega)
  have q3 : 0 < a0.size := (by have : (0 : Int) < (a0.size : Int) := ode_; omega)
  have hx3 : ∀ h : 0 < a0.size, ((a0[0]'h).toNat : Int) = bt a0 0 := bt_at a0 0
  clear p3
  have qi3 : (0 < (a0.size : Int)) = True := eq_true (ode_)
  replace q3 := eq_true q3
  refine start_ (n := 8) (S := fun w' => True) (ds := []) #[false, false, false, false, false, false, false, false] (by kernel_rfl) rfl rfl trivial (fun hHeld => ?_); refine with_tabW order_one.tab1 order_one.bits1 (fun HT_ HW_ => ?_)
  generalize w7.drew = w8 at BK142 HB hHeld ⊢
  refine pu_ 0 (some 10) HT_ ?_
  refine pu_ 4 (some 14) HT_ ?_
  refine pu_ 5 (some 15) HT_ ?_
  refine take_ (i := 1) (N := some 11) (v := ?_) (a' := ?_) #[true, true, false, false, true, true, false, false] rfl rfl (take_ofW HT_.out HW_.out (by kernel_rfl)) (fun _ _ _ h => h) (Or.inl ⟨by rfl, ?_⟩) hHeld ?_ ?_
  rotate_left
  ·intro w' _
   go_simp
   with_reducible rfl
  rotate_left
  ·simp only [Act.put, List.setIfInBounds_toArray, List.set_cons_zero, List.set_cons_succ, i64_w, i32_w]
   rfl
  refine pu_ 2 (some 12) HT_ ?_
  refine pu_ 3 (some 13) HT_ ?_
  refine pu_ 6 (some 5) HT_ ?_
  refine pu_ 7 (some 6) HT_ ?_
  refine done_ (done_of HT_.out (by kernel_rfl)) ?_
  try go_wp2_with (first | ((with_reducible refine qgc (f := 90) rfl ?_); refine gL_ (some 19) Tryz.func90 #[] ?_; (with_reducible refine (value_Null.calls  t143 t144 t145 t146 _ A6.out).mono ?_); rintro e w9 ⟨rfl, hb⟩; refine ⟨_, rfl, ?_⟩; replace BK142 := kB_ BK142 hb; replace HB := bS_ HB hb; clear hb; obtain ⟨hcz10_0, hcz10_1, hcz10_2, hcz10_3, hfz10_0, hfz10_1, hfz10_2, hfz10_3⟩ := zf4_ BK142))
  refine bodyPost_ret (results_ctt rfl _ _ gb142 63 #[.int .i64 t143, .int .i64 t144, .string t145, .bool t146] (0, 0) _ rfl (bp_ BK142) Tryz.underlying63 rfl (by kernel_rfl)) rfl ?_
  exact ⟨fr_, bw_ HB.out⟩
 rw [if_neg c5] at H
 have ⟨c5b0, c5b1⟩ := eqF c5
 by_cases c11 : (wrap64 ((wrap64 (bt a0 0)) - 1)) = 1
 ·rw [if_pos c11] at H
  have ⟨c11b0, c11b1⟩ := eqT c11
  clear c11
  by_cases c12 : (y_.size : Int) < 8
  ·rw [if_pos c12] at H
   have c12b0 := dcT c12
   have c12b1 : decide (y_.size < 8) = true := decide_eq_true (by omega)
   clear c12
   obtain ⟨⟨t147, t148, t149, t150⟩, A13, H⟩ := bn_ H; (try dsimp only at H)
   obtain ⟨rfl, rfl, rfl, rfl, rfl, rfl⟩ := so6 H
   go_enter Tryz.func92, Tryz.ntmps92
   try go_wp2_with (first | ((with_reducible refine qgd (N := 2) rfl ?_); refine qB_ 2 #[.int .i64 0, .int .i64 0, .string (⟨#[]⟩ : ByteArray), .bool false] 63 ?_; intro gb142 hg w14 hbox hb; have BK142 := Aside0.mk (hbox); have GW142 := gE_ hg HB; have GE142 := gE_ hg HB; replace HB := bS_ HB hb; clear hb hbox hg))
   replace BK142 := kD_ BK142
   replace HB := bD_ HB
   have p3 : 0 ≤ (0 : Int) := (by omega)
   have q3 : 0 < a0.size := (by have : (0 : Int) < (a0.size : Int) := ode_; omega)
   have hx3 : ∀ h : 0 < a0.size, ((a0[0]'h).toNat : Int) = bt a0 0 := bt_at a0 0
   clear p3
   have qi3 : (0 < (a0.size : Int)) = True := eq_true (ode_)
   replace q3 := eq_true q3
   refine start_ (n := 8) (S := fun w' => True) (ds := []) #[false, false, false, false, false, false, false, false] (by kernel_rfl) rfl rfl trivial (fun hHeld => ?_); refine with_tabW order_one.tab1 order_one.bits1 (fun HT_ HW_ => ?_)
   generalize w14.drew = w15 at BK142 HB hHeld ⊢
   refine pu_ 0 (some 10) HT_ ?_
   refine pu_ 4 (some 14) HT_ ?_
   refine pu_ 5 (some 15) HT_ ?_
   refine take_ (i := 1) (N := some 11) (v := ?_) (a' := ?_) #[true, true, false, false, true, true, false, false] rfl rfl (take_ofW HT_.out HW_.out (by kernel_rfl)) (fun _ _ _ h => h) (Or.inl ⟨by rfl, ?_⟩) hHeld ?_ ?_
   rotate_left
   ·intro w' _
    go_simp
    with_reducible rfl
   rotate_left
   ·simp only [Act.put, List.setIfInBounds_toArray, List.set_cons_zero, List.set_cons_succ, i64_w, i32_w]
    rfl
   refine pu_ 2 (some 12) HT_ ?_
   refine pu_ 3 (some 13) HT_ ?_
   refine pu_ 6 (some 5) HT_ ?_
   refine pu_ 7 (some 6) HT_ ?_
   refine done_ (done_of HT_.out (by kernel_rfl)) ?_
   try go_wp2_with (first | ((with_reducible refine qgc (f := 90) rfl ?_); refine gL_ (some 26) Tryz.func90 #[] ?_; (with_reducible refine (value_Null.calls  t147 t148 t149 t150 _ A13.out).mono ?_); rintro e w16 ⟨rfl, hb⟩; refine ⟨_, rfl, ?_⟩; replace BK142 := kB_ BK142 hb; replace HB := bS_ HB hb; clear hb; obtain ⟨hcz17_0, hcz17_1, hcz17_2, hcz17_3, hfz17_0, hfz17_1, hfz17_2, hfz17_3⟩ := zf4_ BK142))
   refine bodyPost_ret (results_ctt rfl _ _ gb142 63 #[.int .i64 t147, .int .i64 t148, .string t149, .bool t150] (0, 0) _ rfl (bp_ BK142) Tryz.underlying63 rfl (by kernel_rfl)) rfl ?_
   exact ⟨fr_, bw_ HB.out⟩
  rw [if_neg c12] at H
  have c12b0 := dcF c12
  have c12b1 : decide (y_.size < 8) = false := decide_eq_false (by omega)
  clear c12
  have c18 : 0 ≤ 8 := Classical.byContradiction fun c18 => by rw [if_neg c18] at H; exact absurd H (by simp)
  rw [if_pos c18] at H
  have c18b0 := eq_true c18
  have c18b1 : decide (0 ≤ 8) = true := decide_eq_true c18
  clear c18
  have c19 : 8 ≤ (y_.size : Int) := Classical.byContradiction fun c19 => by rw [if_neg c19] at H; exact absurd H (by simp)
  rw [if_pos c19] at H
  have c19b0 := eq_true c19
  have c19b1 : decide (8 ≤ (y_.size : Int)) = true := decide_eq_true c19
  clear c19
  obtain ⟨t151, A20, H⟩ := bn_ H; (try dsimp only at H)
  obtain ⟨⟨t152, t153, t154, t155⟩, A21, H⟩ := bn_ H; (try dsimp only at H)
  have c22b0 := eq_true (ode_ : 8 ≤ (y_.size : Int))
  obtain ⟨rfl, rfl, rfl, rfl, rfl, rfl⟩ := so6 H
  go_enter Tryz.func92, Tryz.ntmps92
  try go_wp2_with (first | ((with_reducible refine qgd (N := 2) rfl ?_); refine qB_ 2 #[.int .i64 0, .int .i64 0, .string (⟨#[]⟩ : ByteArray), .bool false] 63 ?_; intro gb142 hg w23 hbox hb; have BK142 := Aside0.mk (hbox); have GW142 := gE_ hg HB; have GE142 := gE_ hg HB; replace HB := bS_ HB hb; clear hb hbox hg))
  replace BK142 := kD_ BK142
  replace HB := bD_ HB
  have p3 : 0 ≤ (0 : Int) := (by omega)
  have q3 : 0 < a0.size := (by have : (0 : Int) < (a0.size : Int) := ode_; omega)
  have hx3 : ∀ h : 0 < a0.size, ((a0[0]'h).toNat : Int) = bt a0 0 := bt_at a0 0
  clear p3
  have qi3 : (0 < (a0.size : Int)) = True := eq_true (ode_)
  replace q3 := eq_true q3
  refine start_ (n := 8) (S := fun w' => True) (ds := []) #[false, false, false, false, false, false, false, false] (by kernel_rfl) rfl rfl trivial (fun hHeld => ?_); refine with_tabW order_one.tab1 order_one.bits1 (fun HT_ HW_ => ?_)
  generalize w23.drew = w24 at BK142 HB hHeld ⊢
  refine pu_ 0 (some 10) HT_ ?_
  refine pu_ 4 (some 14) HT_ ?_
  refine pu_ 5 (some 15) HT_ ?_
  refine take_ (i := 1) (N := some 11) (v := ?_) (a' := ?_) #[true, true, false, false, true, true, false, false] rfl rfl (take_ofW HT_.out HW_.out (by kernel_rfl)) (fun _ _ _ h => h) (Or.inl ⟨by rfl, ?_⟩) hHeld ?_ ?_
  rotate_left
  ·intro w' _
   go_simp
   with_reducible rfl
  rotate_left
  ·simp only [Act.put, List.setIfInBounds_toArray, List.set_cons_zero, List.set_cons_succ, i64_w, i32_w]
   rfl
  refine pu_ 2 (some 12) HT_ ?_
  refine pu_ 3 (some 13) HT_ ?_
  refine pu_ 6 (some 5) HT_ ?_
  refine pu_ 7 (some 6) HT_ ?_
  refine done_ (done_of HT_.out (by kernel_rfl)) ?_
  try go_wp2
  replace BK142 := kD_ BK142
  replace HB := bD_ HB
  refine start_ (n := 11) (S := fun w' => True) (ds := []) #[false, false, false, false, false, false, false, false, false, false, false] (by kernel_rfl) rfl rfl trivial (fun hHeld => ?_); refine with_tabW order_one.tab8 order_one.bits8 (fun HT_ HW_ => ?_)
  generalize w24.drew = w25 at BK142 HB hHeld ⊢
  refine pu_ 0 (some 27) HT_ ?_
  refine pu_ 1 (some 28) HT_ ?_
  refine pu_ 6 (some 33) HT_ ?_
  refine pu_ 7 (some 34) HT_ ?_
  refine one_ (i := 2) (N := some 29) #[true, true, true, false, false, false, true, true, false, false, false] rfl rfl (one_of HT_.out (by kernel_rfl)) (by decide) (fun K hK => ?_)
  refine goes_ Tryz.func100 (by kernel_rfl) rfl #[.string (y_.extract 0 8)] (by rfl) rfl rfl (by (try simp only [List.map_toArray, List.map_cons, List.map_nil]); first | done | rfl | (simp only [List.length_drop, List.length_take]; rfl)) ?_
  with_reducible refine (order_number.calls k (y_.extract 0 8) t151 _ A20.out).mono ?_
  rintro e w' ⟨rfl, ⟨nd, rfl⟩⟩
  refine ⟨_, rfl, ?_⟩
  refine hK.out _ _ trivial (fun hHeld => ?_)
  clear hK K
  refine norm_ (a' := ?_) ?_ ?_
  rotate_left
  ·show Act.put _ (some 29) _ = _
   simp only [Act.put, List.setIfInBounds_toArray, List.set_cons_zero, List.set_cons_succ, i64_w, i32_w]
   rfl
  refine pu_ 3 (some 30) HT_ ?_
  refine pu_ 4 (some 31) HT_ ?_
  refine one_ (i := 5) (N := some 32) #[true, true, true, true, true, true, true, true, false, false, false] rfl rfl (one_of HT_.out (by kernel_rfl)) (by decide) (fun K hK => ?_)
  refine goes_ Tryz.func97 (by kernel_rfl) rfl #[.int .i64 (wrap64 (Go.bits .xor .u64 t151 9223372036854775808))] (by rfl) rfl rfl (by (try simp only [List.map_toArray, List.map_cons, List.map_nil]); first | done | rfl | (simp only [List.length_drop, List.length_take]; rfl)) ?_
  with_reducible refine (value_Int.calls (wrap64 (Go.bits .xor .u64 t151 9223372036854775808)) t152 t153 t154 t155 _ A21.out).mono ?_
  rintro e w26 ⟨rfl, hb⟩
  refine ⟨_, rfl, ?_⟩
  replace BK142 := kB_ BK142 hb
  replace HB := bS_ HB hb
  (try clear hb)
  refine hK.out _ _ trivial (fun hHeld => ?_)
  clear hK K
  refine norm_ (a' := ?_) ?_ ?_
  rotate_left
  ·show Act.put _ (some 32) _ = _
   simp only [Act.put, List.setIfInBounds_toArray, List.set_cons_zero, List.set_cons_succ, i64_w, i32_w]
   rfl
  refine one_ (i := 8) (N := none) #[true, true, true, true, true, true, true, true, true, false, false] rfl rfl (one_of HT_.out (by kernel_rfl)) (by decide) (fun K hK => ?_)
  have hs27 : w26.cell? ⟨gb142, 0, none⟩ = some (.int .i64 0) := (qkc BK142.out 0).trans rfl
  have hfs27 := qkf BK142.out 0
  have hs28 : w26.cell? ⟨gb142, 1, none⟩ = some (.int .i64 0) := (qkc BK142.out 1).trans rfl
  have hfs28 := qkf BK142.out 1
  have hs29 : w26.cell? ⟨gb142, 2, none⟩ = some (.string (⟨#[]⟩ : ByteArray)) := (qkc BK142.out 2).trans rfl
  have hfs29 := qkf BK142.out 2
  have hs30 : w26.cell? ⟨gb142, 3, none⟩ = some (.bool false) := (qkc BK142.out 3).trans rfl
  have hfs30 := qkf BK142.out 3
  refine skip_ (w1 := ?_) ?sh1 ?sh2 ?_ ?_
  case sh1 => rfl
  case sh2 => rfl
  rotate_left
  ·go_simp
   rfl
  refine hK.out _ _ trivial (fun hHeld => ?_)
  clear hK K
  refine pu_ 9 (some 3) HT_ ?_
  refine pu_ 10 (some 4) HT_ ?_
  refine done_ (done_of HT_.out (by kernel_rfl)) ?_
  try go_wp2
  refine bodyPost_ret (results_ctt rfl _ _ gb142 63 #[.int .i64 t152, .int .i64 t153, .string t154, .bool t155] (0, 0) _ rfl (bp_ BK142) Tryz.underlying63 rfl (by kernel_rfl)) rfl ?_
  exact ⟨fr_, bw_ HB.out⟩
 rw [if_neg c11] at H
 have ⟨c11b0, c11b1⟩ := eqF c11
 by_cases c31 : (wrap64 ((wrap64 (bt a0 0)) - 1)) = 2
 ·rw [if_pos c31] at H
  have ⟨c31b0, c31b1⟩ := eqT c31
  clear c31
  obtain ⟨⟨t156, t157, t158⟩, A32, H⟩ := bn_ H; (try dsimp only at H)
  obtain ⟨⟨t159, t160, t161, t162⟩, A33, H⟩ := bn_ H; (try dsimp only at H)
  obtain ⟨rfl, rfl, rfl, rfl, rfl, rfl⟩ := so6 H
  go_enter Tryz.func92, Tryz.ntmps92
  try go_wp2_with (first | ((with_reducible refine qgd (N := 2) rfl ?_); refine qB_ 2 #[.int .i64 0, .int .i64 0, .string (⟨#[]⟩ : ByteArray), .bool false] 63 ?_; intro gb142 hg w34 hbox hb; have BK142 := Aside0.mk (hbox); have GW142 := gE_ hg HB; have GE142 := gE_ hg HB; replace HB := bS_ HB hb; clear hb hbox hg))
  replace BK142 := kD_ BK142
  replace HB := bD_ HB
  have p3 : 0 ≤ (0 : Int) := (by omega)
  have q3 : 0 < a0.size := (by have : (0 : Int) < (a0.size : Int) := ode_; omega)
  have hx3 : ∀ h : 0 < a0.size, ((a0[0]'h).toNat : Int) = bt a0 0 := bt_at a0 0
  clear p3
  have qi3 : (0 < (a0.size : Int)) = True := eq_true (ode_)
  replace q3 := eq_true q3
  refine start_ (n := 8) (S := fun w' => True) (ds := []) #[false, false, false, false, false, false, false, false] (by kernel_rfl) rfl rfl trivial (fun hHeld => ?_); refine with_tabW order_one.tab1 order_one.bits1 (fun HT_ HW_ => ?_)
  generalize w34.drew = w35 at BK142 HB hHeld ⊢
  refine pu_ 0 (some 10) HT_ ?_
  refine pu_ 4 (some 14) HT_ ?_
  refine pu_ 5 (some 15) HT_ ?_
  refine take_ (i := 1) (N := some 11) (v := ?_) (a' := ?_) #[true, true, false, false, true, true, false, false] rfl rfl (take_ofW HT_.out HW_.out (by kernel_rfl)) (fun _ _ _ h => h) (Or.inl ⟨by rfl, ?_⟩) hHeld ?_ ?_
  rotate_left
  ·intro w' _
   go_simp
   with_reducible rfl
  rotate_left
  ·simp only [Act.put, List.setIfInBounds_toArray, List.set_cons_zero, List.set_cons_succ, i64_w, i32_w]
   rfl
  refine pu_ 2 (some 12) HT_ ?_
  refine pu_ 3 (some 13) HT_ ?_
  refine pu_ 6 (some 5) HT_ ?_
  refine pu_ 7 (some 6) HT_ ?_
  refine done_ (done_of HT_.out (by kernel_rfl)) ?_
  try go_wp2_with (first | ((with_reducible refine qgc (f := 101) rfl ?_); refine gL_ (some 39) Tryz.func101 #[.string y_, .string (⟨#[0]⟩ : ByteArray)] ?_; (with_reducible refine (strings_Cut.calls y_ (⟨#[0]⟩ : ByteArray) t156 t157 t158 _ ?side1 A32.out).mono ?_); (case side1 => exact GW_below HG.out (bw_ HB.out)); rintro e w36 ⟨rfl, hb⟩; refine ⟨_, rfl, ?_⟩; replace BK142 := kB_ BK142 hb; replace HB := bS_ HB hb; clear hb) | ((with_reducible refine qgc (f := 98) rfl ?_); refine gL_ (some 44) Tryz.func98 #[.string t156] ?_; (with_reducible refine (value_Text.calls t156 t159 t160 t161 t162 _ A33.out).mono ?_); rintro e w37 ⟨rfl, hb⟩; refine ⟨_, rfl, ?_⟩; replace BK142 := kB_ BK142 hb; replace HB := bS_ HB hb; clear hb; obtain ⟨hcz38_0, hcz38_1, hcz38_2, hcz38_3, hfz38_0, hfz38_1, hfz38_2, hfz38_3⟩ := zf4_ BK142))
  refine bodyPost_ret (results_ctt rfl _ _ gb142 63 #[.int .i64 t159, .int .i64 t160, .string t161, .bool t162] (0, 0) _ rfl (bp_ BK142) Tryz.underlying63 rfl (by kernel_rfl)) rfl ?_
  exact ⟨fr_, bw_ HB.out⟩
 rw [if_neg c31] at H
 have ⟨c31b0, c31b1⟩ := eqF c31
 by_cases c39 : (wrap64 ((wrap64 (bt a0 0)) - 1)) = 3
 ·rw [if_pos c39] at H
  have ⟨c39b0, c39b1⟩ := eqT c39
  clear c39
  have HC40 := Aside0.mk H
  clear H
  go_enter Tryz.func92, Tryz.ntmps92
  try go_wp2_with (first | ((with_reducible refine qgd (N := 2) rfl ?_); refine qB_ 2 #[.int .i64 0, .int .i64 0, .string (⟨#[]⟩ : ByteArray), .bool false] 63 ?_; intro gb142 hg w41 hbox hb; have BK142 := Aside0.mk (hbox); have GW142 := gE_ hg HB; have GE142 := gE_ hg HB; replace HB := bS_ HB hb; clear hb hbox hg))
  replace BK142 := kD_ BK142
  replace HB := bD_ HB
  have p3 : 0 ≤ (0 : Int) := (by omega)
  have q3 : 0 < a0.size := (by have : (0 : Int) < (a0.size : Int) := ode_; omega)
  have hx3 : ∀ h : 0 < a0.size, ((a0[0]'h).toNat : Int) = bt a0 0 := bt_at a0 0
  clear p3
  have qi3 : (0 < (a0.size : Int)) = True := eq_true (ode_)
  replace q3 := eq_true q3
  refine start_ (n := 8) (S := fun w' => True) (ds := []) #[false, false, false, false, false, false, false, false] (by kernel_rfl) rfl rfl trivial (fun hHeld => ?_); refine with_tabW order_one.tab1 order_one.bits1 (fun HT_ HW_ => ?_)
  generalize w41.drew = w42 at BK142 HB hHeld ⊢
  refine pu_ 0 (some 10) HT_ ?_
  refine pu_ 4 (some 14) HT_ ?_
  refine pu_ 5 (some 15) HT_ ?_
  refine take_ (i := 1) (N := some 11) (v := ?_) (a' := ?_) #[true, true, false, false, true, true, false, false] rfl rfl (take_ofW HT_.out HW_.out (by kernel_rfl)) (fun _ _ _ h => h) (Or.inl ⟨by rfl, ?_⟩) hHeld ?_ ?_
  rotate_left
  ·intro w' _
   go_simp
   with_reducible rfl
  rotate_left
  ·simp only [Act.put, List.setIfInBounds_toArray, List.set_cons_zero, List.set_cons_succ, i64_w, i32_w]
   rfl
  refine pu_ 2 (some 12) HT_ ?_
  refine pu_ 3 (some 13) HT_ ?_
  refine pu_ 6 (some 5) HT_ ?_
  refine pu_ 7 (some 6) HT_ ?_
  refine done_ (done_of HT_.out (by kernel_rfl)) ?_
  go_upto_region 13 with (fail)
  go_cut [55] (fun v55 wc => ∃ (kq : Nat) (x55_39 : Bool), v55 = .bool x55_39 ∧ Aside0 (order_one.j0 kq y_ x55_39 = some (r1, r2, r3, r4, r5, r6)) ∧ Aside0 (kq ≤ k) ∧ Aside0 (wc.heap[gb142]? = some (.cells #[.int .i64 0, .int .i64 0, .string (⟨#[]⟩ : ByteArray), .bool false] 63 (0, 0))) ∧ Aside0 (Below w.heap.size w wc))
  case first =>
   have H := HC40.out
   clear HC40
   by_cases c43 : y_.toList = ([] : List UInt8)
   ·rw [if_pos c43] at H
    have ⟨c43b0, c43b1⟩ := eqT c43
    clear c43
    (first | rw [c43b0] | (simp only [i64_w, i32_w]; rw [c43b0]) | skip)
    have H' := Aside0.mk H
    clear H
    go_wp2
    refine Met.intro ?_
    go_step
    (repeat apply Exists.intro)
    refine ⟨?rel, ?frm⟩
    case frm => first | rfl | (simp only [c2b0, c2b1, c5b0, c5b1, c11b0, c11b1, c31b0, c31b1, c39b0, c39b1, c43b0, c43b1]; first | done | rfl)
    case rel => exact ⟨_, (true), fe_, H', ⟨by first | omega | exact Nat.le_refl _⟩, ⟨bp_ BK142⟩, ⟨bw_ HB.out⟩⟩
   rw [if_neg c43] at H
   have ⟨c43b0, c43b1⟩ := eqF c43
   (first | rw [c43b0] | (simp only [i64_w, i32_w]; rw [c43b0]) | skip)
   have c44 : 0 < (y_.size : Int) := Classical.byContradiction fun c44 => by rw [if_neg c44] at H; exact absurd H (by simp)
   rw [if_pos c44] at H
   have c44b0 := dcT c44
   have c44b1 : decide (0 < y_.size) = true := decide_eq_true (by omega)
   clear c44
   have H' := Aside0.mk H
   clear H
   have p45 : 0 ≤ (0 : Int) := (by omega)
   have q45 : 0 < y_.size := (by have : (0 : Int) < (y_.size : Int) := ode_; omega)
   have hx45 : ∀ h : 0 < y_.size, ((y_[0]'h).toNat : Int) = bt y_ 0 := bt_at y_ 0
   clear p45
   have qi45 : (0 < (y_.size : Int)) = True := eq_true (ode_)
   replace q45 := eq_true q45
   go_wp2
   refine Met.intro ?_
   go_step
   (repeat apply Exists.intro)
   refine ⟨?rel, ?frm⟩
   case frm => first | rfl | (simp only [c2b0, c2b1, c5b0, c5b1, c11b0, c11b1, c31b0, c31b1, c39b0, c39b1, c43b0, c43b1, c44b0, c44b1]; first | done | rfl)
   case rel => exact ⟨_, (decide ((bt y_ 0) > 1)), fe_, H', ⟨by first | omega | exact Nat.le_refl _⟩, ⟨bp_ BK142⟩, ⟨bw_ HB.out⟩⟩
  clear HC40
  (try clear c2); (try clear c2b0); (try clear c2b1); (try clear p3); (try clear q3); (try clear hx3); (try clear qi3); (try clear c4)
  (try clear c5); (try clear c5b0); (try clear c5b1); (try clear c11); (try clear c11b0); (try clear c11b1)
  (try clear c12); (try clear c12b0); (try clear c12b1); (try clear c18); (try clear c18b0); (try clear c18b1); (try clear c19); (try clear c19b0); (try clear c19b1); (try clear c22b0); (try clear c31)
  (try clear c31b0); (try clear c31b1); (try clear c39); (try clear c39b0); (try clear c39b1); (try clear c43); (try clear c43b0); (try clear c43b1); (try clear c44); (try clear c44b0); (try clear c44b1); (try clear p45)
  (try clear q45); (try clear hx45); (try clear qi45); (try clear hcz10_0); (try clear hcz10_1); (try clear hcz10_2); (try clear hcz10_3); (try clear hcz17_0); (try clear hcz17_1); (try clear hcz17_2); (try clear hcz17_3); (try clear hcz38_0)
  (try clear hcz38_1); (try clear hcz38_2); (try clear hcz38_3); (try clear hfz10_0); (try clear hfz10_1); (try clear hfz10_2); (try clear hfz10_3); (try clear hfz17_0); (try clear hfz17_1); (try clear hfz17_2); (try clear hfz17_3); (try clear hfz38_0)
  (try clear hfz38_1); (try clear hfz38_2); (try clear hfz38_3); (try clear p3); (try clear p45); (try clear q3); (try clear q45)
  obtain ⟨kq, x55_39, rfl, HA, HJ39, BK142, HB⟩ := hcut
  cases kq with
  | zero => exact absurd HA.out (by simp [order_one.j0])
  | succ kj39 =>
   have H := HA.out
   clear HA
   simp only [order_one.j0] at H
   by_cases c46 : x55_39 = true
   ·subst c46
    rw [if_pos rfl] at H
    obtain ⟨⟨t163, t164, t165, t166⟩, A47, H⟩ := bn_ H; (try dsimp only at H)
    obtain ⟨rfl, rfl, rfl, rfl, rfl, rfl⟩ := so6 H
    go_wp2_with (first | ((with_reducible refine qgc (f := 90) rfl ?_); refine gL_ (some 56) Tryz.func90 #[] ?_; (with_reducible refine (value_Null.calls  t163 t164 t165 t166 _ A47.out).mono ?_); rintro e w48 ⟨rfl, hb⟩; refine ⟨_, rfl, ?_⟩; replace BK142 := kB_ BK142 hb; replace HB := bS_ HB hb; clear hb; obtain ⟨hcz49_0, hcz49_1, hcz49_2, hcz49_3, hfz49_0, hfz49_1, hfz49_2, hfz49_3⟩ := zf4_ BK142))
    refine bodyPost_ret (results_ctt rfl _ _ gb142 63 #[.int .i64 t163, .int .i64 t164, .string t165, .bool t166] (0, 0) _ rfl (bp_ BK142) Tryz.underlying63 rfl (by kernel_rfl)) rfl ?_
    exact ⟨fr_, bw_ HB.out⟩
   replace c46 := Bool.eq_false_iff.mpr c46
   subst c46
   rw [if_neg (show ¬ (false = true) by decide)] at H
   have c50 : 0 < (y_.size : Int) := Classical.byContradiction fun c50 => by rw [if_neg c50] at H; exact absurd H (by simp)
   rw [if_pos c50] at H
   have c50b0 := dcT c50
   have c50b1 : decide (0 < y_.size) = true := decide_eq_true (by omega)
   clear c50
   obtain ⟨⟨t167, t168, t169, t170⟩, A52, H⟩ := bn_ H; (try dsimp only at H)
   have c53 : 1 ≤ (y_.size : Int) := Classical.byContradiction fun c53 => by rw [if_neg c53] at H; exact absurd H (by simp)
   rw [if_pos c53] at H
   have c53b0 := eq_true c53
   have c53b1 : decide (1 ≤ (y_.size : Int)) = true := decide_eq_true c53
   clear c53
   obtain ⟨rfl, rfl, rfl, rfl, rfl, rfl⟩ := so6 H
   try go_wp2
   replace BK142 := kD_ BK142
   replace HB := bD_ HB
   have p51 : 0 ≤ (0 : Int) := (by omega)
   have q51 : 0 < y_.size := (by have : (0 : Int) < (y_.size : Int) := ode_; omega)
   have hx51 : ∀ h : 0 < y_.size, ((y_[0]'h).toNat : Int) = bt y_ 0 := bt_at y_ 0
   clear p51
   have qi51 : (0 < (y_.size : Int)) = True := eq_true (ode_)
   replace q51 := eq_true q51
   refine start_ (n := 9) (S := fun w' => True) (ds := []) #[false, false, false, false, false, false, false, false, false] (by kernel_rfl) rfl rfl trivial (fun hHeld => ?_); refine with_tabW order_one.tab15 order_one.bits15 (fun HT_ HW_ => ?_)
   generalize wc.drew = w54 at BK142 HB hHeld ⊢
   refine pu_ 0 (some 57) HT_ ?_
   refine pu_ 4 (some 61) HT_ ?_
   refine pu_ 5 (some 62) HT_ ?_
   refine take_ (i := 1) (N := some 58) (v := ?_) (a' := ?_) #[true, true, false, false, true, true, false, false, false] rfl rfl (take_ofW HT_.out HW_.out (by kernel_rfl)) (fun _ _ _ h => h) (Or.inl ⟨by rfl, ?_⟩) hHeld ?_ ?_
   rotate_left
   ·intro w' _
    go_simp
    with_reducible rfl
   rotate_left
   ·simp only [Act.put, List.setIfInBounds_toArray, List.set_cons_zero, List.set_cons_succ, i64_w, i32_w]
    rfl
   refine pu_ 2 (some 59) HT_ ?_
   refine one_ (i := 3) (N := some 60) #[true, true, true, true, true, true, false, false, false] rfl rfl (one_of HT_.out (by kernel_rfl)) (by decide) (fun K hK => ?_)
   refine goes_ Tryz.func99 (by kernel_rfl) rfl #[.bool ((bt y_ 0) == 1)] (by rfl) rfl rfl (by (try simp only [List.map_toArray, List.map_cons, List.map_nil]); first | done | rfl | (simp only [List.length_drop, List.length_take]; rfl)) ?_
   with_reducible refine (value_Bool.calls ((bt y_ 0) == 1) t167 t168 t169 t170 _ A52.out).mono ?_
   rintro e w55 ⟨rfl, hb⟩
   refine ⟨_, rfl, ?_⟩
   replace BK142 := kB_ BK142 hb
   replace HB := bS_ HB hb
   (try clear hb)
   refine hK.out _ _ trivial (fun hHeld => ?_)
   clear hK K
   refine norm_ (a' := ?_) ?_ ?_
   rotate_left
   ·show Act.put _ (some 60) _ = _
    simp only [Act.put, List.setIfInBounds_toArray, List.set_cons_zero, List.set_cons_succ, i64_w, i32_w]
    rfl
   refine one_ (i := 6) (N := none) #[true, true, true, true, true, true, true, false, false] rfl rfl (one_of HT_.out (by kernel_rfl)) (by decide) (fun K hK => ?_)
   have hs56 : w55.cell? ⟨gb142, 0, none⟩ = some (.int .i64 0) := (qkc BK142.out 0).trans rfl
   have hfs56 := qkf BK142.out 0
   have hs57 : w55.cell? ⟨gb142, 1, none⟩ = some (.int .i64 0) := (qkc BK142.out 1).trans rfl
   have hfs57 := qkf BK142.out 1
   have hs58 : w55.cell? ⟨gb142, 2, none⟩ = some (.string (⟨#[]⟩ : ByteArray)) := (qkc BK142.out 2).trans rfl
   have hfs58 := qkf BK142.out 2
   have hs59 : w55.cell? ⟨gb142, 3, none⟩ = some (.bool false) := (qkc BK142.out 3).trans rfl
   have hfs59 := qkf BK142.out 3
   refine skip_ (w1 := ?_) ?sh1 ?sh2 ?_ ?_
   case sh1 => rfl
   case sh2 => rfl
   rotate_left
   ·go_simp
    rfl
   refine hK.out _ _ trivial (fun hHeld => ?_)
   clear hK K
   refine pu_ 7 (some 3) HT_ ?_
   refine pu_ 8 (some 4) HT_ ?_
   refine done_ (done_of HT_.out (by kernel_rfl)) ?_
   try go_wp2
   refine bodyPost_ret (results_ctt rfl _ _ gb142 63 #[.int .i64 t167, .int .i64 t168, .string t169, .bool t170] (0, 0) _ rfl (bp_ BK142) Tryz.underlying63 rfl (by kernel_rfl)) rfl ?_
   exact ⟨fr_, bw_ HB.out⟩
 rw [if_neg c39] at H
 have ⟨c39b0, c39b1⟩ := eqF c39
 obtain ⟨⟨t171, t172, t173, t174⟩, A60, H⟩ := bn_ H; (try dsimp only at H)
 obtain ⟨rfl, rfl, rfl, rfl, rfl, rfl⟩ := so6 H
 go_enter Tryz.func92, Tryz.ntmps92
 try go_wp2_with (first | ((with_reducible refine qgd (N := 2) rfl ?_); refine qB_ 2 #[.int .i64 0, .int .i64 0, .string (⟨#[]⟩ : ByteArray), .bool false] 63 ?_; intro gb142 hg w61 hbox hb; have BK142 := Aside0.mk (hbox); have GW142 := gE_ hg HB; have GE142 := gE_ hg HB; replace HB := bS_ HB hb; clear hb hbox hg))
 replace BK142 := kD_ BK142
 replace HB := bD_ HB
 have p3 : 0 ≤ (0 : Int) := (by omega)
 have q3 : 0 < a0.size := (by have : (0 : Int) < (a0.size : Int) := ode_; omega)
 have hx3 : ∀ h : 0 < a0.size, ((a0[0]'h).toNat : Int) = bt a0 0 := bt_at a0 0
 clear p3
 have qi3 : (0 < (a0.size : Int)) = True := eq_true (ode_)
 replace q3 := eq_true q3
 refine start_ (n := 8) (S := fun w' => True) (ds := []) #[false, false, false, false, false, false, false, false] (by kernel_rfl) rfl rfl trivial (fun hHeld => ?_); refine with_tabW order_one.tab1 order_one.bits1 (fun HT_ HW_ => ?_)
 generalize w61.drew = w62 at BK142 HB hHeld ⊢
 refine pu_ 0 (some 10) HT_ ?_
 refine pu_ 4 (some 14) HT_ ?_
 refine pu_ 5 (some 15) HT_ ?_
 refine take_ (i := 1) (N := some 11) (v := ?_) (a' := ?_) #[true, true, false, false, true, true, false, false] rfl rfl (take_ofW HT_.out HW_.out (by kernel_rfl)) (fun _ _ _ h => h) (Or.inl ⟨by rfl, ?_⟩) hHeld ?_ ?_
 rotate_left
 ·intro w' _
  go_simp
  with_reducible rfl
 rotate_left
 ·simp only [Act.put, List.setIfInBounds_toArray, List.set_cons_zero, List.set_cons_succ, i64_w, i32_w]
  rfl
 refine pu_ 2 (some 12) HT_ ?_
 refine pu_ 3 (some 13) HT_ ?_
 refine pu_ 6 (some 5) HT_ ?_
 refine pu_ 7 (some 6) HT_ ?_
 refine done_ (done_of HT_.out (by kernel_rfl)) ?_
 try go_wp2_with (first | ((with_reducible refine qgc (f := 90) rfl ?_); refine gL_ (some 63) Tryz.func90 #[] ?_; (with_reducible refine (value_Null.calls  t171 t172 t173 t174 _ A60.out).mono ?_); rintro e w63 ⟨rfl, hb⟩; refine ⟨_, rfl, ?_⟩; replace BK142 := kB_ BK142 hb; replace HB := bS_ HB hb; clear hb; obtain ⟨hcz64_0, hcz64_1, hcz64_2, hcz64_3, hfz64_0, hfz64_1, hfz64_2, hfz64_3⟩ := zf4_ BK142))
 refine bodyPost_ret (results_ctt rfl _ _ gb142 63 #[.int .i64 t171, .int .i64 t172, .string t173, .bool t174] (0, 0) _ rfl (bp_ BK142) Tryz.underlying63 rfl (by kernel_rfl)) rfl ?_
 exact ⟨fr_, bw_ HB.out⟩

end Go.Proofs.YtddkbhglbkfelaaGreatDoor.T
