import Derived.Test.YtddkbhglbkfelaaGreatDoorPkTx0
import Derived.Test.YtddkbhglbkfelaaGreatDoorPkTx16
namespace Go.Proofs.YtddkbhglbkfelaaGreatDoor.T
open Go.RowKit Go.Proofs.YtddkbhglbkfelaaGreatDoorW.PrintWords Go.Proofs.YtddkbhglbkfelaaGreatDoorW.PrintLast Go.Proofs.YtddkbhglbkfelaaGreatDoorW.PrintMore Go.Proofs.YtddkbhglbkfelaaGreatDoorX
attribute [local go_sem] max2_int min2_int max_two min_two max_three min_three max_four min_four
set_option linter.unusedVariables false
set_option linter.unusedSimpArgs false

/-! ### barbicanlaw26_writes: function 14 -/
def barbicanlaw26_writes.l0 : Nat → List (S68) → List (S68) → Int → Option (Bool)
 | 0, _, _, _ => none
 | k + 1, x0, x1, x5 => if x5 < (x0.length : Int) then (if 0 ≤ x5 then (if x5 < (x1.length : Int) then (if ((rd_T68 x0 x5).f0).toList = ((rd_T68 x1 x5).f0).toList then (if (((rd_T68 x0 x5).f1) != ((rd_T68 x1 x5).f1)) = true then (some false) else ((barbicanlaw26_values.f k ((rd_T68 x0 x5).f2) ((rd_T68 x1 x5).f2)).bind fun t499 => (if t499 = true then (barbicanlaw26_writes.l0 k x0 x1 (wrap64 (x5 + 1))) else (some false)))) else (some false)) else (none)) else (none)) else (some true)
def barbicanlaw26_writes.f (k : Nat) (l0 : List (S68)) (l1 : List (S68)) : Option (Bool) := if (l0.length : Int) = (l1.length : Int) then (barbicanlaw26_writes.l0 k l0 l1 0) else (some false)
def barbicanlaw26_writes.T6 : Bool × List (List Nat × List Nat) := (true, [([], []), ([], []), ([0, 1], [0, 1]), ([2], [2]), ([3], [3]), ([], []), ([], []), ([5, 6], [5, 6]), ([7], [7]), ([8], [8]), ([4, 9], [4, 9]), ([10], [10]), ([11], [11]), ([11], [11]), ([12, 13, 11], [11, 12, 13]), ([14, 11], [11, 14]), ([15, 11], [11, 15]), ([11], [11]), ([11], [11]), ([17, 18, 11], [11, 17, 18]), ([19, 11], [11, 19]), ([20, 11], [11, 20]), ([16, 21, 11], [11, 16, 21]), ([11, 22], [11, 22]), ([23, 11], [23]), ([24], [24]), ([24], [24]), ([25, 26, 24], [24, 25, 26]), ([27, 24], [24, 27]), ([28, 24], [24, 28]), ([24], [24]), ([24], [24]), ([30, 31, 24], [24, 30, 31]), ([32, 24], [24, 32]), ([33, 24], [24, 33]), ([29, 34, 24, 24], [24, 29, 34]), ([35, 24], [24, 35]), ([24, 36], [24, 36])])
def barbicanlaw26_writes.B6 : List Nat := [0, 0, 3, 7, 15, 0, 0, 96, 224, 480, 1023, 2047, 4095, 4095, 16383, 32767, 65535, 4095, 4095, 397311, 921599, 1970175, 4194303, 8388607, 16777215, 33554431, 33554431, 134217727, 268435455, 536870911, 33554431, 33554431, 3254779903, 7549747199, 16139681791, 34359738367, 68719476735, 137438953471]
theorem barbicanlaw26_writes.tab6 : rtab .any (opsOf Tryz.f14 6) = barbicanlaw26_writes.T6 := by kernel_rfl
theorem barbicanlaw26_writes.bits6 : waitsOk barbicanlaw26_writes.T6.2 barbicanlaw26_writes.B6 = true := by kernel_rfl
set_option maxHeartbeats 8000000 in
set_option maxRecDepth 100000 in
theorem barbicanlaw26_writes.calls (k : Nat) (A0 : Option Addr) (c0 : Nat) (l0 : List (S68)) (A1 : Option Addr) (c1 : Nat) (l1 : List (S68)) (r : Bool) (w : World) (hr0 : Kd.C k68 w A0 l0.length l0) (hc0 : l0.length ≤ c0) (hr1 : Kd.C k68 w A1 l1.length l1) (hc1 : l1.length ≤ c1) (h : barbicanlaw26_writes.f k l0 l1 = some r) :
  Calls Tryz.prog 14 #[.slice A0 l0.length c0, .slice A1 l1.length c1] w fun e w' => e = .returned (.bool r) ∧ Below w.heap.size w w' := by
 have HR0 := Aside0.mk hr0
 have HC0 := Aside0.mk hc0
 clear hr0 hc0
 have HR1 := Aside0.mk hr1
 have HC1 := Aside0.mk hc1
 clear hr1 hc1
 have HB := Aside0.mk (Below.refl w.heap.size w)
 have H : (if (l0.length : Int) = (l1.length : Int) then (barbicanlaw26_writes.l0 k l0 l1 0) else (some false)) = some r := h
 clear h
 by_cases c3 : (l0.length : Int) = (l1.length : Int)
 ·rw [if_pos c3] at H
  have ⟨c3b0, c3b1⟩ := eqT c3
  have c3b2 : (l0.length == l1.length) = true := by first | simpa using c3 | (simp at c3 ⊢; omega)
  clear c3
  have H' := Aside0.mk H
  clear H
  go_enter Tryz.func14, Tryz.ntmps14
  go_wp2
  go_loopg [5] k (fun kq v5 w' => ∃ (x5_1 : Int), v5 = .int .i64 x5_1 ∧ Aside0 (barbicanlaw26_writes.l0 kq l0 l1 x5_1 = some r) ∧ Aside0 (kq ≤ k) ∧ Aside0 (Below w.heap.size w w'))
  case atStart => exact ⟨(0), fe_, H', ⟨Nat.le_refl _⟩, ⟨bw_ HB.out⟩⟩
  case round =>
   clear H'
   (try clear c1); (try clear c3); (try clear c3b0); (try clear c3b1); (try clear c3b2)
   obtain ⟨x5_1, rfl, HA, HK1, HB⟩ := hrel
   cases gk with
   | zero => exact absurd HA.out (by simp [barbicanlaw26_writes.l0])
   | succ k1 =>
    have H := HA.out
    clear HA
    simp only [barbicanlaw26_writes.l0] at H
    by_cases c4 : x5_1 < (l0.length : Int)
    ·rw [if_pos c4] at H
     have c4b0 := dcT c4
     clear c4
     have c5 : 0 ≤ x5_1 := Classical.byContradiction fun c5 => by rw [if_neg c5] at H; exact absurd H (by simp)
     rw [if_pos c5] at H
     have c5b0 := dcT c5
     clear c5
     have c6 : x5_1 < (l1.length : Int) := Classical.byContradiction fun c6 => by rw [if_neg c6] at H; exact absurd H (by simp)
     rw [if_pos c6] at H
     have c6b0 := dcT c6
     clear c6
     by_cases c7 : ((rd_T68 l0 x5_1).f0).toList = ((rd_T68 l1 x5_1).f0).toList
     ·rw [if_pos c7] at H
      have ⟨c7b0, c7b1⟩ := eqT c7
      clear c7
      by_cases c8 : (((rd_T68 l0 x5_1).f1) != ((rd_T68 l1 x5_1).f1)) = true
      ·rw [if_pos c8] at H
       have c8b0 : (((rd_T68 l0 x5_1).f1) != ((rd_T68 l1 x5_1).f1)) = true := c8
       (try (have c8b1 : decide (((rd_T68 l0 x5_1).f1) = ((rd_T68 l1 x5_1).f1)) = false := by simpa using c8))
       (try (have c8b2 : (((rd_T68 l0 x5_1).f1) == ((rd_T68 l1 x5_1).f1)) = false := by simpa using c8))
       (try (have c8b3 : ¬ (((rd_T68 l0 x5_1).f1) = ((rd_T68 l1 x5_1).f1)) := by simpa using c8))
       (try (have c8b4 : (!(((rd_T68 l0 x5_1).f1) == ((rd_T68 l1 x5_1).f1))) = true := by first | simpa using c8 | (have h_ := c8; revert h_; cases ((rd_T68 l0 x5_1).f1) <;> cases ((rd_T68 l1 x5_1).f1) <;> simp)))
       (try rw [c8b4])
       (try (have c8b5 : ((!((rd_T68 l0 x5_1).f1)) == ((rd_T68 l1 x5_1).f1)) = true := by first | (have h_ := c8; revert h_; cases ((rd_T68 l0 x5_1).f1) <;> cases ((rd_T68 l1 x5_1).f1) <;> simp; done) | simpa using c8))
       clear c8
       obtain rfl := Option.some.inj H
       try go_wp2
       replace HB := bD_ HB
       have p493 : 0 ≤ (x5_1 : Int) := ode_
       have q493 : x5_1 < (l0.length : Int) := ode_
       obtain ⟨ad493, A493_2, c493_2, e493, hx493_0, hx493_1, hx493_2, hl493_2, hi493_2⟩ := at_T68 HR0.out x5_1 p493 q493
       have hw493_2 := hx493_2
       have hw493_1 := hx493_1
       have hw493_0 := hx493_0
       cases e493
       replace hx493_0 := hc_ HB hx493_0
       replace hx493_1 := hc_ HB hx493_1
       replace hx493_2 := hc_ HB hx493_2
       have HR493_2 := Aside0.mk hi493_2
       have HC493_2 := Aside0.mk hl493_2
       clear hi493_2 hl493_2
       replace p493 := eq_true p493
       replace q493 := eq_true q493
       have p494 : 0 ≤ (x5_1 : Int) := ode_
       have q494 : x5_1 < (l1.length : Int) := ode_
       obtain ⟨ad494, A494_2, c494_2, e494, hx494_0, hx494_1, hx494_2, hl494_2, hi494_2⟩ := at_T68 HR1.out x5_1 p494 q494
       have hw494_2 := hx494_2
       have hw494_1 := hx494_1
       have hw494_0 := hx494_0
       cases e494
       replace hx494_0 := hc_ HB hx494_0
       replace hx494_1 := hc_ HB hx494_1
       replace hx494_2 := hc_ HB hx494_2
       have HR494_2 := Aside0.mk hi494_2
       have HC494_2 := Aside0.mk hl494_2
       clear hi494_2 hl494_2
       replace p494 := eq_true p494
       replace q494 := eq_true q494
       have p495 : 0 ≤ (x5_1 : Int) := ode_
       have q495 : x5_1 < (l0.length : Int) := ode_
       obtain ⟨ad495, A495_2, c495_2, e495, hx495_0, hx495_1, hx495_2, hl495_2, hi495_2⟩ := at_T68 HR0.out x5_1 p495 q495
       have hw495_2 := hx495_2
       have hw495_1 := hx495_1
       have hw495_0 := hx495_0
       obtain rfl : ad493 = ad495 := (by injection e495)
       replace hx495_0 := hc_ HB hx495_0
       replace hx495_1 := hc_ HB hx495_1
       replace hx495_2 := hc_ HB hx495_2
       have HR495_2 := Aside0.mk hi495_2
       have HC495_2 := Aside0.mk hl495_2
       clear hi495_2 hl495_2
       replace p495 := eq_true p495
       replace q495 := eq_true q495
       have ea_ := Option.some.inj (hx493_2.symm.trans hx495_2)
       injection ea_ with ea_ en_ ec_
       subst ea_
       subst ec_
       clear en_
       have p496 : 0 ≤ (x5_1 : Int) := ode_
       have q496 : x5_1 < (l1.length : Int) := ode_
       obtain ⟨ad496, A496_2, c496_2, e496, hx496_0, hx496_1, hx496_2, hl496_2, hi496_2⟩ := at_T68 HR1.out x5_1 p496 q496
       have hw496_2 := hx496_2
       have hw496_1 := hx496_1
       have hw496_0 := hx496_0
       obtain rfl : ad494 = ad496 := (by injection e496)
       replace hx496_0 := hc_ HB hx496_0
       replace hx496_1 := hc_ HB hx496_1
       replace hx496_2 := hc_ HB hx496_2
       have HR496_2 := Aside0.mk hi496_2
       have HC496_2 := Aside0.mk hl496_2
       clear hi496_2 hl496_2
       replace p496 := eq_true p496
       replace q496 := eq_true q496
       have ea_ := Option.some.inj (hx494_2.symm.trans hx496_2)
       injection ea_ with ea_ en_ ec_
       subst ea_
       subst ec_
       clear en_
       refine start_ (n := 38) (S := fun w' => w'.cell? (ad493.add ((x5_1).toNat * 3)) = some (.string ((rd_T68 l0 x5_1).f0)) ∧ w'.cell? ⟨(ad493.add ((x5_1).toNat * 3)).block, (ad493.add ((x5_1).toNat * 3)).off + 1, none⟩ = some (.bool ((rd_T68 l0 x5_1).f1)) ∧ w'.cell? ⟨(ad493.add ((x5_1).toNat * 3)).block, (ad493.add ((x5_1).toNat * 3)).off + 2, none⟩ = some (.slice A493_2 ((rd_T68 l0 x5_1).f2).length c493_2) ∧ w'.cell? (ad494.add ((x5_1).toNat * 3)) = some (.string ((rd_T68 l1 x5_1).f0)) ∧ w'.cell? ⟨(ad494.add ((x5_1).toNat * 3)).block, (ad494.add ((x5_1).toNat * 3)).off + 1, none⟩ = some (.bool ((rd_T68 l1 x5_1).f1)) ∧ w'.cell? ⟨(ad494.add ((x5_1).toNat * 3)).block, (ad494.add ((x5_1).toNat * 3)).off + 2, none⟩ = some (.slice A494_2 ((rd_T68 l1 x5_1).f2).length c494_2) ∧ w'.cell? (ad493.add ((x5_1).toNat * 3)) = some (.string ((rd_T68 l0 x5_1).f0)) ∧ w'.cell? ⟨(ad493.add ((x5_1).toNat * 3)).block, (ad493.add ((x5_1).toNat * 3)).off + 1, none⟩ = some (.bool ((rd_T68 l0 x5_1).f1)) ∧ w'.cell? ⟨(ad493.add ((x5_1).toNat * 3)).block, (ad493.add ((x5_1).toNat * 3)).off + 2, none⟩ = some (.slice A493_2 ((rd_T68 l0 x5_1).f2).length c493_2) ∧ w'.cell? (ad494.add ((x5_1).toNat * 3)) = some (.string ((rd_T68 l1 x5_1).f0)) ∧ w'.cell? ⟨(ad494.add ((x5_1).toNat * 3)).block, (ad494.add ((x5_1).toNat * 3)).off + 1, none⟩ = some (.bool ((rd_T68 l1 x5_1).f1)) ∧ w'.cell? ⟨(ad494.add ((x5_1).toNat * 3)).block, (ad494.add ((x5_1).toNat * 3)).off + 2, none⟩ = some (.slice A494_2 ((rd_T68 l1 x5_1).f2).length c494_2)) (ds := []) #[false, false, false, false, false, false, false, false, false, false, false, false, false, false, false, false, false, false, false, false, false, false, false, false, false, false, false, false, false, false, false, false, false, false, false, false, false, false] (by kernel_rfl) rfl rfl ⟨((HB.out.cell (World.block_lt_of_cell? w _ hw493_0)).trans hw493_0), ((HB.out.cell (World.block_lt_of_cell? w _ hw493_1)).trans hw493_1), ((HB.out.cell (World.block_lt_of_cell? w _ hw493_2)).trans hw493_2), ((HB.out.cell (World.block_lt_of_cell? w _ hw494_0)).trans hw494_0), ((HB.out.cell (World.block_lt_of_cell? w _ hw494_1)).trans hw494_1), ((HB.out.cell (World.block_lt_of_cell? w _ hw494_2)).trans hw494_2), ((HB.out.cell (World.block_lt_of_cell? w _ hw495_0)).trans hw495_0), ((HB.out.cell (World.block_lt_of_cell? w _ hw495_1)).trans hw495_1), ((HB.out.cell (World.block_lt_of_cell? w _ hw495_2)).trans hw495_2), ((HB.out.cell (World.block_lt_of_cell? w _ hw496_0)).trans hw496_0), ((HB.out.cell (World.block_lt_of_cell? w _ hw496_1)).trans hw496_1), ((HB.out.cell (World.block_lt_of_cell? w _ hw496_2)).trans hw496_2)⟩ (fun hHeld => ?_); refine with_tabW barbicanlaw26_writes.tab6 barbicanlaw26_writes.bits6 (fun HT_ HW_ => ?_)
       generalize wr.drew = w9 at HB HR493_2 HR494_2 HR495_2 HR496_2 hx493_0 hx493_1 hx493_2 hx494_0 hx494_1 hx494_2 hx495_0 hx495_1 hx495_2 hx496_0 hx496_1 hx496_2 hHeld ⊢
       refine pu_ 0 (some 17) HT_ ?_
       refine pu_ 1 (some 18) HT_ ?_
       refine pu_ 2 (some 19) HT_ ?_
       refine pu_ 3 (some 20) HT_ ?_
       refine pu_ 5 (some 22) HT_ ?_
       refine pu_ 6 (some 23) HT_ ?_
       refine pu_ 7 (some 24) HT_ ?_
       refine pu_ 8 (some 25) HT_ ?_
       refine take_ (i := 4) (N := some 21) (v := ?_) (a' := ?_) #[true, true, true, true, true, true, true, true, true, false, false, false, false, false, false, false, false, false, false, false, false, false, false, false, false, false, false, false, false, false, false, false, false, false, false, false, false, false] rfl rfl (take_ofW HT_.out HW_.out (by kernel_rfl)) (fun _ _ _ h => h) (Or.inl ⟨by rfl, ?_⟩) hHeld ?_ ?_
       rotate_left
       ·rintro w' ⟨s0, s1, s2, s3, s4, s5, s6, s7, s8, s9, s10, s11⟩
        go_simp
        with_reducible rfl
       rotate_left
       ·simp only [Act.put, List.setIfInBounds_toArray, List.set_cons_zero, List.set_cons_succ, i64_w, i32_w]
        rfl
       refine take_ (i := 9) (N := some 26) (v := ?_) (a' := ?_) #[true, true, true, true, true, true, true, true, true, true, false, false, false, false, false, false, false, false, false, false, false, false, false, false, false, false, false, false, false, false, false, false, false, false, false, false, false, false] rfl rfl (take_ofW HT_.out HW_.out (by kernel_rfl)) (fun _ _ _ h => h) (Or.inl ⟨by rfl, ?_⟩) hHeld ?_ ?_
       rotate_left
       ·rintro w' ⟨s0, s1, s2, s3, s4, s5, s6, s7, s8, s9, s10, s11⟩
        go_simp
        with_reducible rfl
       rotate_left
       ·simp only [Act.put, List.setIfInBounds_toArray, List.set_cons_zero, List.set_cons_succ, i64_w, i32_w]
        rfl
       refine pu_ 10 (some 27) HT_ ?_
       refine pu_ 11 (some 28) HT_ ?_
       refine pu_ 12 (some 29) HT_ ?_
       refine pu_ 13 (some 30) HT_ ?_
       refine pu_ 14 (some 31) HT_ ?_
       refine pu_ 15 (some 32) HT_ ?_
       refine pu_ 17 (some 34) HT_ ?_
       refine pu_ 18 (some 35) HT_ ?_
       refine pu_ 19 (some 36) HT_ ?_
       refine pu_ 20 (some 37) HT_ ?_
       refine take_ (i := 16) (N := some 33) (v := ?_) (a' := ?_) #[true, true, true, true, true, true, true, true, true, true, true, true, true, true, true, true, true, true, true, true, true, false, false, false, false, false, false, false, false, false, false, false, false, false, false, false, false, false] rfl rfl (take_ofW HT_.out HW_.out (by kernel_rfl)) (fun _ _ _ h => h) (Or.inl ⟨by rfl, ?_⟩) hHeld ?_ ?_
       rotate_left
       ·rintro w' ⟨s0, s1, s2, s3, s4, s5, s6, s7, s8, s9, s10, s11⟩
        go_simp
        with_reducible rfl
       rotate_left
       ·simp only [Act.put, List.setIfInBounds_toArray, List.set_cons_zero, List.set_cons_succ, i64_w, i32_w]
        rfl
       refine take_ (i := 21) (N := some 38) (v := ?_) (a' := ?_) #[true, true, true, true, true, true, true, true, true, true, true, true, true, true, true, true, true, true, true, true, true, true, false, false, false, false, false, false, false, false, false, false, false, false, false, false, false, false] rfl rfl (take_ofW HT_.out HW_.out (by kernel_rfl)) (fun _ _ _ h => h) (Or.inl ⟨by rfl, ?_⟩) hHeld ?_ ?_
       rotate_left
       ·rintro w' ⟨s0, s1, s2, s3, s4, s5, s6, s7, s8, s9, s10, s11⟩
        go_simp
        with_reducible rfl
       rotate_left
       ·simp only [Act.put, List.setIfInBounds_toArray, List.set_cons_zero, List.set_cons_succ, i64_w, i32_w]
        rfl
       refine pu_ 22 (some 39) HT_ ?_
       refine pu_ 23 (some 40) HT_ ?_
       refine pu_ 24 (some 41) HT_ ?_
       refine pure_ (i := 25) (N := some 42) (v := undef) (a' := ?_) #[true, true, true, true, true, true, true, true, true, true, true, true, true, true, true, true, true, true, true, true, true, true, true, true, true, true, false, false, false, false, false, false, false, false, false, false, false, false] rfl rfl (any_of HT_.out (by kernel_rfl)) (fun _ _ _ h => h) (Or.inr ⟨by rfl, rfl⟩) ?_ ?_
       rotate_left
       ·simp only [Act.put, List.setIfInBounds_toArray, List.set_cons_zero, List.set_cons_succ, i64_w, i32_w]
        rfl
       refine pure_ (i := 26) (N := some 43) (v := undef) (a' := ?_) #[true, true, true, true, true, true, true, true, true, true, true, true, true, true, true, true, true, true, true, true, true, true, true, true, true, true, true, false, false, false, false, false, false, false, false, false, false, false] rfl rfl (any_of HT_.out (by kernel_rfl)) (fun _ _ _ h => h) (Or.inr ⟨by rfl, rfl⟩) ?_ ?_
       rotate_left
       ·simp only [Act.put, List.setIfInBounds_toArray, List.set_cons_zero, List.set_cons_succ, i64_w, i32_w]
        rfl
       refine pure_ (i := 27) (N := some 44) (v := undef) (a' := ?_) #[true, true, true, true, true, true, true, true, true, true, true, true, true, true, true, true, true, true, true, true, true, true, true, true, true, true, true, true, false, false, false, false, false, false, false, false, false, false] rfl rfl (any_of HT_.out (by kernel_rfl)) (fun _ _ _ h => h) (Or.inr ⟨by rfl, rfl⟩) ?_ ?_
       rotate_left
       ·simp only [Act.put, List.setIfInBounds_toArray, List.set_cons_zero, List.set_cons_succ, i64_w, i32_w]
        rfl
       refine pure_ (i := 28) (N := some 45) (v := undef) (a' := ?_) #[true, true, true, true, true, true, true, true, true, true, true, true, true, true, true, true, true, true, true, true, true, true, true, true, true, true, true, true, true, false, false, false, false, false, false, false, false, false] rfl rfl (any_of HT_.out (by kernel_rfl)) (fun _ _ _ h => h) (Or.inr ⟨by rfl, rfl⟩) ?_ ?_
       rotate_left
       ·simp only [Act.put, List.setIfInBounds_toArray, List.set_cons_zero, List.set_cons_succ, i64_w, i32_w]
        rfl
       refine pure_ (i := 29) (N := some 46) (v := undef) (a' := ?_) #[true, true, true, true, true, true, true, true, true, true, true, true, true, true, true, true, true, true, true, true, true, true, true, true, true, true, true, true, true, true, false, false, false, false, false, false, false, false] rfl rfl (any_of HT_.out (by kernel_rfl)) (fun _ _ _ h => h) (Or.inr ⟨by rfl, rfl⟩) ?_ ?_
       rotate_left
       ·simp only [Act.put, List.setIfInBounds_toArray, List.set_cons_zero, List.set_cons_succ, i64_w, i32_w]
        rfl
       refine pure_ (i := 30) (N := some 47) (v := undef) (a' := ?_) #[true, true, true, true, true, true, true, true, true, true, true, true, true, true, true, true, true, true, true, true, true, true, true, true, true, true, true, true, true, true, true, false, false, false, false, false, false, false] rfl rfl (any_of HT_.out (by kernel_rfl)) (fun _ _ _ h => h) (Or.inr ⟨by rfl, rfl⟩) ?_ ?_
       rotate_left
       ·simp only [Act.put, List.setIfInBounds_toArray, List.set_cons_zero, List.set_cons_succ, i64_w, i32_w]
        rfl
       refine pure_ (i := 31) (N := some 48) (v := undef) (a' := ?_) #[true, true, true, true, true, true, true, true, true, true, true, true, true, true, true, true, true, true, true, true, true, true, true, true, true, true, true, true, true, true, true, true, false, false, false, false, false, false] rfl rfl (any_of HT_.out (by kernel_rfl)) (fun _ _ _ h => h) (Or.inr ⟨by rfl, rfl⟩) ?_ ?_
       rotate_left
       ·simp only [Act.put, List.setIfInBounds_toArray, List.set_cons_zero, List.set_cons_succ, i64_w, i32_w]
        rfl
       refine pure_ (i := 32) (N := some 49) (v := undef) (a' := ?_) #[true, true, true, true, true, true, true, true, true, true, true, true, true, true, true, true, true, true, true, true, true, true, true, true, true, true, true, true, true, true, true, true, true, false, false, false, false, false] rfl rfl (any_of HT_.out (by kernel_rfl)) (fun _ _ _ h => h) (Or.inr ⟨by rfl, rfl⟩) ?_ ?_
       rotate_left
       ·simp only [Act.put, List.setIfInBounds_toArray, List.set_cons_zero, List.set_cons_succ, i64_w, i32_w]
        rfl
       refine pure_ (i := 33) (N := some 50) (v := undef) (a' := ?_) #[true, true, true, true, true, true, true, true, true, true, true, true, true, true, true, true, true, true, true, true, true, true, true, true, true, true, true, true, true, true, true, true, true, true, false, false, false, false] rfl rfl (any_of HT_.out (by kernel_rfl)) (fun _ _ _ h => h) (Or.inr ⟨by rfl, rfl⟩) ?_ ?_
       rotate_left
       ·simp only [Act.put, List.setIfInBounds_toArray, List.set_cons_zero, List.set_cons_succ, i64_w, i32_w]
        rfl
       refine pure_ (i := 34) (N := some 51) (v := undef) (a' := ?_) #[true, true, true, true, true, true, true, true, true, true, true, true, true, true, true, true, true, true, true, true, true, true, true, true, true, true, true, true, true, true, true, true, true, true, true, false, false, false] rfl rfl (any_of HT_.out (by kernel_rfl)) (fun _ _ _ h => h) (Or.inr ⟨by rfl, rfl⟩) ?_ ?_
       rotate_left
       ·simp only [Act.put, List.setIfInBounds_toArray, List.set_cons_zero, List.set_cons_succ, i64_w, i32_w]
        rfl
       refine pure_ (i := 35) (N := some 52) (v := undef) (a' := ?_) #[true, true, true, true, true, true, true, true, true, true, true, true, true, true, true, true, true, true, true, true, true, true, true, true, true, true, true, true, true, true, true, true, true, true, true, true, false, false] rfl rfl (any_of HT_.out (by kernel_rfl)) (fun _ _ _ h => h) (Or.inr ⟨by rfl, rfl⟩) ?_ ?_
       rotate_left
       ·simp only [Act.put, List.setIfInBounds_toArray, List.set_cons_zero, List.set_cons_succ, i64_w, i32_w]
        rfl
       refine pure_ (i := 36) (N := some 53) (v := undef) (a' := ?_) #[true, true, true, true, true, true, true, true, true, true, true, true, true, true, true, true, true, true, true, true, true, true, true, true, true, true, true, true, true, true, true, true, true, true, true, true, true, false] rfl rfl (any_of HT_.out (by kernel_rfl)) (fun _ _ _ h => h) (Or.inr ⟨by rfl, rfl⟩) ?_ ?_
       rotate_left
       ·simp only [Act.put, List.setIfInBounds_toArray, List.set_cons_zero, List.set_cons_succ, i64_w, i32_w]
        rfl
       refine pu_ 37 (some 54) HT_ ?_
       refine done_ (done_of HT_.out (by kernel_rfl)) ?_
       try go_wp2
       go_ret
       exact ⟨fr_, bw_ HB.out⟩
      rw [if_neg c8] at H
      have c8b0 : (((rd_T68 l0 x5_1).f1) != ((rd_T68 l1 x5_1).f1)) = false := by simpa using c8
      (try (have c8b1 : decide (((rd_T68 l0 x5_1).f1) = ((rd_T68 l1 x5_1).f1)) = true := by simpa using c8))
      (try (have c8b2 : (((rd_T68 l0 x5_1).f1) == ((rd_T68 l1 x5_1).f1)) = true := by simpa using c8))
      (try (have c8b3 : (!(((rd_T68 l0 x5_1).f1) == ((rd_T68 l1 x5_1).f1))) = false := by first | simpa using c8 | (have h_ := c8; revert h_; cases ((rd_T68 l0 x5_1).f1) <;> cases ((rd_T68 l1 x5_1).f1) <;> simp)))
      (try rw [c8b3])
      (try (have c8b4 : ((!((rd_T68 l0 x5_1).f1)) == ((rd_T68 l1 x5_1).f1)) = false := by first | (have h_ := c8; revert h_; cases ((rd_T68 l0 x5_1).f1) <;> cases ((rd_T68 l1 x5_1).f1) <;> simp; done) | simpa using c8))
      clear c8
      obtain ⟨t499, A10, H⟩ := bn_ H; (try dsimp only at H)
      by_cases c11 : t499 = true
      ·subst c11
       rw [if_pos rfl] at H
       have H' := Aside0.mk H
       clear H
       try go_wp2
       replace HB := bD_ HB
       have p493 : 0 ≤ (x5_1 : Int) := ode_
       have q493 : x5_1 < (l0.length : Int) := ode_
       obtain ⟨ad493, A493_2, c493_2, e493, hx493_0, hx493_1, hx493_2, hl493_2, hi493_2⟩ := at_T68 HR0.out x5_1 p493 q493
       have hw493_2 := hx493_2
       have hw493_1 := hx493_1
       have hw493_0 := hx493_0
       cases e493
       replace hx493_0 := hc_ HB hx493_0
       replace hx493_1 := hc_ HB hx493_1
       replace hx493_2 := hc_ HB hx493_2
       have HR493_2 := Aside0.mk hi493_2
       have HC493_2 := Aside0.mk hl493_2
       clear hi493_2 hl493_2
       replace p493 := eq_true p493
       replace q493 := eq_true q493
       have p494 : 0 ≤ (x5_1 : Int) := ode_
       have q494 : x5_1 < (l1.length : Int) := ode_
       obtain ⟨ad494, A494_2, c494_2, e494, hx494_0, hx494_1, hx494_2, hl494_2, hi494_2⟩ := at_T68 HR1.out x5_1 p494 q494
       have hw494_2 := hx494_2
       have hw494_1 := hx494_1
       have hw494_0 := hx494_0
       cases e494
       replace hx494_0 := hc_ HB hx494_0
       replace hx494_1 := hc_ HB hx494_1
       replace hx494_2 := hc_ HB hx494_2
       have HR494_2 := Aside0.mk hi494_2
       have HC494_2 := Aside0.mk hl494_2
       clear hi494_2 hl494_2
       replace p494 := eq_true p494
       replace q494 := eq_true q494
       have p495 : 0 ≤ (x5_1 : Int) := ode_
       have q495 : x5_1 < (l0.length : Int) := ode_
       obtain ⟨ad495, A495_2, c495_2, e495, hx495_0, hx495_1, hx495_2, hl495_2, hi495_2⟩ := at_T68 HR0.out x5_1 p495 q495
       have hw495_2 := hx495_2
       have hw495_1 := hx495_1
       have hw495_0 := hx495_0
       obtain rfl : ad493 = ad495 := (by injection e495)
       replace hx495_0 := hc_ HB hx495_0
       replace hx495_1 := hc_ HB hx495_1
       replace hx495_2 := hc_ HB hx495_2
       have HR495_2 := Aside0.mk hi495_2
       have HC495_2 := Aside0.mk hl495_2
       clear hi495_2 hl495_2
       replace p495 := eq_true p495
       replace q495 := eq_true q495
       have ea_ := Option.some.inj (hx493_2.symm.trans hx495_2)
       injection ea_ with ea_ en_ ec_
       subst ea_
       subst ec_
       clear en_
       have p496 : 0 ≤ (x5_1 : Int) := ode_
       have q496 : x5_1 < (l1.length : Int) := ode_
       obtain ⟨ad496, A496_2, c496_2, e496, hx496_0, hx496_1, hx496_2, hl496_2, hi496_2⟩ := at_T68 HR1.out x5_1 p496 q496
       have hw496_2 := hx496_2
       have hw496_1 := hx496_1
       have hw496_0 := hx496_0
       obtain rfl : ad494 = ad496 := (by injection e496)
       replace hx496_0 := hc_ HB hx496_0
       replace hx496_1 := hc_ HB hx496_1
       replace hx496_2 := hc_ HB hx496_2
       have HR496_2 := Aside0.mk hi496_2
       have HC496_2 := Aside0.mk hl496_2
       clear hi496_2 hl496_2
       replace p496 := eq_true p496
       replace q496 := eq_true q496
       have ea_ := Option.some.inj (hx494_2.symm.trans hx496_2)
       injection ea_ with ea_ en_ ec_
       subst ea_
       subst ec_
       clear en_
       have p497 : 0 ≤ (x5_1 : Int) := ode_
       have q497 : x5_1 < (l0.length : Int) := ode_
       obtain ⟨ad497, A497_2, c497_2, e497, hx497_0, hx497_1, hx497_2, hl497_2, hi497_2⟩ := at_T68 HR0.out x5_1 p497 q497
       have hw497_2 := hx497_2
       have hw497_1 := hx497_1
       have hw497_0 := hx497_0
       obtain rfl : ad493 = ad497 := (by injection e497)
       replace hx497_0 := hc_ HB hx497_0
       replace hx497_1 := hc_ HB hx497_1
       replace hx497_2 := hc_ HB hx497_2
       have HR497_2 := Aside0.mk hi497_2
       have HC497_2 := Aside0.mk hl497_2
       clear hi497_2 hl497_2
       replace p497 := eq_true p497
       replace q497 := eq_true q497
       have ea_ := Option.some.inj (hx493_2.symm.trans hx497_2)
       injection ea_ with ea_ en_ ec_
       subst ea_
       subst ec_
       clear en_
       have p498 : 0 ≤ (x5_1 : Int) := ode_
       have q498 : x5_1 < (l1.length : Int) := ode_
       obtain ⟨ad498, A498_2, c498_2, e498, hx498_0, hx498_1, hx498_2, hl498_2, hi498_2⟩ := at_T68 HR1.out x5_1 p498 q498
       have hw498_2 := hx498_2
       have hw498_1 := hx498_1
       have hw498_0 := hx498_0
       obtain rfl : ad494 = ad498 := (by injection e498)
       replace hx498_0 := hc_ HB hx498_0
       replace hx498_1 := hc_ HB hx498_1
       replace hx498_2 := hc_ HB hx498_2
       have HR498_2 := Aside0.mk hi498_2
       have HC498_2 := Aside0.mk hl498_2
       clear hi498_2 hl498_2
       replace p498 := eq_true p498
       replace q498 := eq_true q498
       have ea_ := Option.some.inj (hx494_2.symm.trans hx498_2)
       injection ea_ with ea_ en_ ec_
       subst ea_
       subst ec_
       clear en_
       refine start_ (n := 38) (S := fun w' => w'.cell? (ad493.add ((x5_1).toNat * 3)) = some (.string ((rd_T68 l0 x5_1).f0)) ∧ w'.cell? ⟨(ad493.add ((x5_1).toNat * 3)).block, (ad493.add ((x5_1).toNat * 3)).off + 1, none⟩ = some (.bool ((rd_T68 l0 x5_1).f1)) ∧ w'.cell? ⟨(ad493.add ((x5_1).toNat * 3)).block, (ad493.add ((x5_1).toNat * 3)).off + 2, none⟩ = some (.slice A493_2 ((rd_T68 l0 x5_1).f2).length c493_2) ∧ w'.cell? (ad494.add ((x5_1).toNat * 3)) = some (.string ((rd_T68 l1 x5_1).f0)) ∧ w'.cell? ⟨(ad494.add ((x5_1).toNat * 3)).block, (ad494.add ((x5_1).toNat * 3)).off + 1, none⟩ = some (.bool ((rd_T68 l1 x5_1).f1)) ∧ w'.cell? ⟨(ad494.add ((x5_1).toNat * 3)).block, (ad494.add ((x5_1).toNat * 3)).off + 2, none⟩ = some (.slice A494_2 ((rd_T68 l1 x5_1).f2).length c494_2) ∧ w'.cell? (ad493.add ((x5_1).toNat * 3)) = some (.string ((rd_T68 l0 x5_1).f0)) ∧ w'.cell? ⟨(ad493.add ((x5_1).toNat * 3)).block, (ad493.add ((x5_1).toNat * 3)).off + 1, none⟩ = some (.bool ((rd_T68 l0 x5_1).f1)) ∧ w'.cell? ⟨(ad493.add ((x5_1).toNat * 3)).block, (ad493.add ((x5_1).toNat * 3)).off + 2, none⟩ = some (.slice A493_2 ((rd_T68 l0 x5_1).f2).length c493_2) ∧ w'.cell? (ad494.add ((x5_1).toNat * 3)) = some (.string ((rd_T68 l1 x5_1).f0)) ∧ w'.cell? ⟨(ad494.add ((x5_1).toNat * 3)).block, (ad494.add ((x5_1).toNat * 3)).off + 1, none⟩ = some (.bool ((rd_T68 l1 x5_1).f1)) ∧ w'.cell? ⟨(ad494.add ((x5_1).toNat * 3)).block, (ad494.add ((x5_1).toNat * 3)).off + 2, none⟩ = some (.slice A494_2 ((rd_T68 l1 x5_1).f2).length c494_2) ∧ w'.cell? (ad493.add ((x5_1).toNat * 3)) = some (.string ((rd_T68 l0 x5_1).f0)) ∧ w'.cell? ⟨(ad493.add ((x5_1).toNat * 3)).block, (ad493.add ((x5_1).toNat * 3)).off + 1, none⟩ = some (.bool ((rd_T68 l0 x5_1).f1)) ∧ w'.cell? ⟨(ad493.add ((x5_1).toNat * 3)).block, (ad493.add ((x5_1).toNat * 3)).off + 2, none⟩ = some (.slice A493_2 ((rd_T68 l0 x5_1).f2).length c493_2) ∧ w'.cell? (ad494.add ((x5_1).toNat * 3)) = some (.string ((rd_T68 l1 x5_1).f0)) ∧ w'.cell? ⟨(ad494.add ((x5_1).toNat * 3)).block, (ad494.add ((x5_1).toNat * 3)).off + 1, none⟩ = some (.bool ((rd_T68 l1 x5_1).f1)) ∧ w'.cell? ⟨(ad494.add ((x5_1).toNat * 3)).block, (ad494.add ((x5_1).toNat * 3)).off + 2, none⟩ = some (.slice A494_2 ((rd_T68 l1 x5_1).f2).length c494_2)) (ds := []) #[false, false, false, false, false, false, false, false, false, false, false, false, false, false, false, false, false, false, false, false, false, false, false, false, false, false, false, false, false, false, false, false, false, false, false, false, false, false] (by kernel_rfl) rfl rfl ⟨((HB.out.cell (World.block_lt_of_cell? w _ hw493_0)).trans hw493_0), ((HB.out.cell (World.block_lt_of_cell? w _ hw493_1)).trans hw493_1), ((HB.out.cell (World.block_lt_of_cell? w _ hw493_2)).trans hw493_2), ((HB.out.cell (World.block_lt_of_cell? w _ hw494_0)).trans hw494_0), ((HB.out.cell (World.block_lt_of_cell? w _ hw494_1)).trans hw494_1), ((HB.out.cell (World.block_lt_of_cell? w _ hw494_2)).trans hw494_2), ((HB.out.cell (World.block_lt_of_cell? w _ hw495_0)).trans hw495_0), ((HB.out.cell (World.block_lt_of_cell? w _ hw495_1)).trans hw495_1), ((HB.out.cell (World.block_lt_of_cell? w _ hw495_2)).trans hw495_2), ((HB.out.cell (World.block_lt_of_cell? w _ hw496_0)).trans hw496_0), ((HB.out.cell (World.block_lt_of_cell? w _ hw496_1)).trans hw496_1), ((HB.out.cell (World.block_lt_of_cell? w _ hw496_2)).trans hw496_2), ((HB.out.cell (World.block_lt_of_cell? w _ hw497_0)).trans hw497_0), ((HB.out.cell (World.block_lt_of_cell? w _ hw497_1)).trans hw497_1), ((HB.out.cell (World.block_lt_of_cell? w _ hw497_2)).trans hw497_2), ((HB.out.cell (World.block_lt_of_cell? w _ hw498_0)).trans hw498_0), ((HB.out.cell (World.block_lt_of_cell? w _ hw498_1)).trans hw498_1), ((HB.out.cell (World.block_lt_of_cell? w _ hw498_2)).trans hw498_2)⟩ (fun hHeld => ?_); refine with_tabW barbicanlaw26_writes.tab6 barbicanlaw26_writes.bits6 (fun HT_ HW_ => ?_)
       generalize wr.drew = w12 at HB HR493_2 HR494_2 HR495_2 HR496_2 HR497_2 HR498_2 hx493_0 hx493_1 hx493_2 hx494_0 hx494_1 hx494_2 hx495_0 hx495_1 hx495_2 hx496_0 hx496_1 hx496_2 hx497_0 hx497_1 hx497_2 hx498_0 hx498_1 hx498_2 hHeld ⊢
       refine pu_ 0 (some 17) HT_ ?_
       refine pu_ 1 (some 18) HT_ ?_
       refine pu_ 2 (some 19) HT_ ?_
       refine pu_ 3 (some 20) HT_ ?_
       refine pu_ 5 (some 22) HT_ ?_
       refine pu_ 6 (some 23) HT_ ?_
       refine pu_ 7 (some 24) HT_ ?_
       refine pu_ 8 (some 25) HT_ ?_
       refine take_ (i := 4) (N := some 21) (v := ?_) (a' := ?_) #[true, true, true, true, true, true, true, true, true, false, false, false, false, false, false, false, false, false, false, false, false, false, false, false, false, false, false, false, false, false, false, false, false, false, false, false, false, false] rfl rfl (take_ofW HT_.out HW_.out (by kernel_rfl)) (fun _ _ _ h => h) (Or.inl ⟨by rfl, ?_⟩) hHeld ?_ ?_
       rotate_left
       ·rintro w' ⟨s0, s1, s2, s3, s4, s5, s6, s7, s8, s9, s10, s11, s12, s13, s14, s15, s16, s17⟩
        go_simp
        with_reducible rfl
       rotate_left
       ·simp only [Act.put, List.setIfInBounds_toArray, List.set_cons_zero, List.set_cons_succ, i64_w, i32_w]
        rfl
       refine take_ (i := 9) (N := some 26) (v := ?_) (a' := ?_) #[true, true, true, true, true, true, true, true, true, true, false, false, false, false, false, false, false, false, false, false, false, false, false, false, false, false, false, false, false, false, false, false, false, false, false, false, false, false] rfl rfl (take_ofW HT_.out HW_.out (by kernel_rfl)) (fun _ _ _ h => h) (Or.inl ⟨by rfl, ?_⟩) hHeld ?_ ?_
       rotate_left
       ·rintro w' ⟨s0, s1, s2, s3, s4, s5, s6, s7, s8, s9, s10, s11, s12, s13, s14, s15, s16, s17⟩
        go_simp
        with_reducible rfl
       rotate_left
       ·simp only [Act.put, List.setIfInBounds_toArray, List.set_cons_zero, List.set_cons_succ, i64_w, i32_w]
        rfl
       refine pu_ 10 (some 27) HT_ ?_
       refine pu_ 11 (some 28) HT_ ?_
       refine pu_ 12 (some 29) HT_ ?_
       refine pu_ 13 (some 30) HT_ ?_
       refine pu_ 14 (some 31) HT_ ?_
       refine pu_ 15 (some 32) HT_ ?_
       refine pu_ 17 (some 34) HT_ ?_
       refine pu_ 18 (some 35) HT_ ?_
       refine pu_ 19 (some 36) HT_ ?_
       refine pu_ 20 (some 37) HT_ ?_
       refine take_ (i := 16) (N := some 33) (v := ?_) (a' := ?_) #[true, true, true, true, true, true, true, true, true, true, true, true, true, true, true, true, true, true, true, true, true, false, false, false, false, false, false, false, false, false, false, false, false, false, false, false, false, false] rfl rfl (take_ofW HT_.out HW_.out (by kernel_rfl)) (fun _ _ _ h => h) (Or.inl ⟨by rfl, ?_⟩) hHeld ?_ ?_
       rotate_left
       ·rintro w' ⟨s0, s1, s2, s3, s4, s5, s6, s7, s8, s9, s10, s11, s12, s13, s14, s15, s16, s17⟩
        go_simp
        with_reducible rfl
       rotate_left
       ·simp only [Act.put, List.setIfInBounds_toArray, List.set_cons_zero, List.set_cons_succ, i64_w, i32_w]
        rfl
       refine take_ (i := 21) (N := some 38) (v := ?_) (a' := ?_) #[true, true, true, true, true, true, true, true, true, true, true, true, true, true, true, true, true, true, true, true, true, true, false, false, false, false, false, false, false, false, false, false, false, false, false, false, false, false] rfl rfl (take_ofW HT_.out HW_.out (by kernel_rfl)) (fun _ _ _ h => h) (Or.inl ⟨by rfl, ?_⟩) hHeld ?_ ?_
       rotate_left
       ·rintro w' ⟨s0, s1, s2, s3, s4, s5, s6, s7, s8, s9, s10, s11, s12, s13, s14, s15, s16, s17⟩
        go_simp
        with_reducible rfl
       rotate_left
       ·simp only [Act.put, List.setIfInBounds_toArray, List.set_cons_zero, List.set_cons_succ, i64_w, i32_w]
        rfl
       refine pu_ 22 (some 39) HT_ ?_
       refine pu_ 23 (some 40) HT_ ?_
       refine pu_ 24 (some 41) HT_ ?_
       refine pu_ 25 (some 42) HT_ ?_
       refine pu_ 26 (some 43) HT_ ?_
       refine pu_ 27 (some 44) HT_ ?_
       refine pu_ 28 (some 45) HT_ ?_
       refine pu_ 30 (some 47) HT_ ?_
       refine pu_ 31 (some 48) HT_ ?_
       refine pu_ 32 (some 49) HT_ ?_
       refine pu_ 33 (some 50) HT_ ?_
       refine take_ (i := 29) (N := some 46) (v := ?_) (a' := ?_) #[true, true, true, true, true, true, true, true, true, true, true, true, true, true, true, true, true, true, true, true, true, true, true, true, true, true, true, true, true, true, true, true, true, true, false, false, false, false] rfl rfl (take_ofW HT_.out HW_.out (by kernel_rfl)) (fun _ _ _ h => h) (Or.inl ⟨by rfl, ?_⟩) hHeld ?_ ?_
       rotate_left
       ·rintro w' ⟨s0, s1, s2, s3, s4, s5, s6, s7, s8, s9, s10, s11, s12, s13, s14, s15, s16, s17⟩
        go_simp
        with_reducible rfl
       rotate_left
       ·simp only [Act.put, List.setIfInBounds_toArray, List.set_cons_zero, List.set_cons_succ, i64_w, i32_w]
        rfl
       refine take_ (i := 34) (N := some 51) (v := ?_) (a' := ?_) #[true, true, true, true, true, true, true, true, true, true, true, true, true, true, true, true, true, true, true, true, true, true, true, true, true, true, true, true, true, true, true, true, true, true, true, false, false, false] rfl rfl (take_ofW HT_.out HW_.out (by kernel_rfl)) (fun _ _ _ h => h) (Or.inl ⟨by rfl, ?_⟩) hHeld ?_ ?_
       rotate_left
       ·rintro w' ⟨s0, s1, s2, s3, s4, s5, s6, s7, s8, s9, s10, s11, s12, s13, s14, s15, s16, s17⟩
        go_simp
        with_reducible rfl
       rotate_left
       ·simp only [Act.put, List.setIfInBounds_toArray, List.set_cons_zero, List.set_cons_succ, i64_w, i32_w]
        rfl
       refine one_ (i := 35) (N := some 52) #[true, true, true, true, true, true, true, true, true, true, true, true, true, true, true, true, true, true, true, true, true, true, true, true, true, true, true, true, true, true, true, true, true, true, true, true, false, false] rfl rfl (one_of HT_.out (by kernel_rfl)) (by decide) (fun K hK => ?_)
       refine goes_ Tryz.func38 (by kernel_rfl) rfl #[.slice A493_2 ((rd_T68 l0 x5_1).f2).length c493_2, .slice A494_2 ((rd_T68 l1 x5_1).f2).length c494_2] (by rfl) rfl rfl (by (try simp only [List.map_toArray, List.map_cons, List.map_nil]); first | done | rfl | (simp only [List.length_drop, List.length_take]; rfl)) ?_
       with_reducible refine (barbicanlaw26_values.calls k1 _ _ ((rd_T68 l0 x5_1).f2) _ _ ((rd_T68 l1 x5_1).f2) true _ ?side1 ?side2 ?side3 ?side4 A10.out).mono ?_
       (case side1 => repeat (first | exact (Kd.C_below HR497_2.out HB.out) | (with_reducible refine Kd.C_alloc ?_ _) | (with_reducible refine Kd.C_drewN ?_ _) | (with_reducible refine Kd.C_drew ?_)))
       (case side2 => exact HC497_2.out)
       (case side3 => repeat (first | exact (Kd.C_below HR498_2.out HB.out) | (with_reducible refine Kd.C_alloc ?_ _) | (with_reducible refine Kd.C_drewN ?_ _) | (with_reducible refine Kd.C_drew ?_)))
       (case side4 => exact HC498_2.out)
       rintro e w' ⟨rfl, ⟨nd, rfl⟩⟩
       refine ⟨_, rfl, ?_⟩
       refine hK.out _ _ ⟨((HB.out.cell (World.block_lt_of_cell? w _ hw493_0)).trans hw493_0), ((HB.out.cell (World.block_lt_of_cell? w _ hw493_1)).trans hw493_1), ((HB.out.cell (World.block_lt_of_cell? w _ hw493_2)).trans hw493_2), ((HB.out.cell (World.block_lt_of_cell? w _ hw494_0)).trans hw494_0), ((HB.out.cell (World.block_lt_of_cell? w _ hw494_1)).trans hw494_1), ((HB.out.cell (World.block_lt_of_cell? w _ hw494_2)).trans hw494_2), ((HB.out.cell (World.block_lt_of_cell? w _ hw495_0)).trans hw495_0), ((HB.out.cell (World.block_lt_of_cell? w _ hw495_1)).trans hw495_1), ((HB.out.cell (World.block_lt_of_cell? w _ hw495_2)).trans hw495_2), ((HB.out.cell (World.block_lt_of_cell? w _ hw496_0)).trans hw496_0), ((HB.out.cell (World.block_lt_of_cell? w _ hw496_1)).trans hw496_1), ((HB.out.cell (World.block_lt_of_cell? w _ hw496_2)).trans hw496_2), ((HB.out.cell (World.block_lt_of_cell? w _ hw497_0)).trans hw497_0), ((HB.out.cell (World.block_lt_of_cell? w _ hw497_1)).trans hw497_1), ((HB.out.cell (World.block_lt_of_cell? w _ hw497_2)).trans hw497_2), ((HB.out.cell (World.block_lt_of_cell? w _ hw498_0)).trans hw498_0), ((HB.out.cell (World.block_lt_of_cell? w _ hw498_1)).trans hw498_1), ((HB.out.cell (World.block_lt_of_cell? w _ hw498_2)).trans hw498_2)⟩ (fun hHeld => ?_)
       clear hK K
       refine norm_ (a' := ?_) ?_ ?_
       rotate_left
       ·show Act.put _ (some 52) _ = _
        simp only [Act.put, List.setIfInBounds_toArray, List.set_cons_zero, List.set_cons_succ, i64_w, i32_w]
        rfl
       refine pu_ 36 (some 53) HT_ ?_
       refine pu_ 37 (some 54) HT_ ?_
       refine done_ (done_of HT_.out (by kernel_rfl)) ?_
       try go_wp2
       go_roundg k1
       case measure => have := HK1.out; omega
       case rel => exact ⟨(wrap64 (x5_1 + 1)), fe_, H', ⟨by have := HK1.out; omega⟩, ⟨bw_ HB.out⟩⟩
      replace c11 := Bool.eq_false_iff.mpr c11
      subst c11
      rw [if_neg (show ¬ (false = true) by decide)] at H
      obtain rfl := Option.some.inj H
      try go_wp2
      replace HB := bD_ HB
      have p493 : 0 ≤ (x5_1 : Int) := ode_
      have q493 : x5_1 < (l0.length : Int) := ode_
      obtain ⟨ad493, A493_2, c493_2, e493, hx493_0, hx493_1, hx493_2, hl493_2, hi493_2⟩ := at_T68 HR0.out x5_1 p493 q493
      have hw493_2 := hx493_2
      have hw493_1 := hx493_1
      have hw493_0 := hx493_0
      cases e493
      replace hx493_0 := hc_ HB hx493_0
      replace hx493_1 := hc_ HB hx493_1
      replace hx493_2 := hc_ HB hx493_2
      have HR493_2 := Aside0.mk hi493_2
      have HC493_2 := Aside0.mk hl493_2
      clear hi493_2 hl493_2
      replace p493 := eq_true p493
      replace q493 := eq_true q493
      have p494 : 0 ≤ (x5_1 : Int) := ode_
      have q494 : x5_1 < (l1.length : Int) := ode_
      obtain ⟨ad494, A494_2, c494_2, e494, hx494_0, hx494_1, hx494_2, hl494_2, hi494_2⟩ := at_T68 HR1.out x5_1 p494 q494
      have hw494_2 := hx494_2
      have hw494_1 := hx494_1
      have hw494_0 := hx494_0
      cases e494
      replace hx494_0 := hc_ HB hx494_0
      replace hx494_1 := hc_ HB hx494_1
      replace hx494_2 := hc_ HB hx494_2
      have HR494_2 := Aside0.mk hi494_2
      have HC494_2 := Aside0.mk hl494_2
      clear hi494_2 hl494_2
      replace p494 := eq_true p494
      replace q494 := eq_true q494
      have p495 : 0 ≤ (x5_1 : Int) := ode_
      have q495 : x5_1 < (l0.length : Int) := ode_
      obtain ⟨ad495, A495_2, c495_2, e495, hx495_0, hx495_1, hx495_2, hl495_2, hi495_2⟩ := at_T68 HR0.out x5_1 p495 q495
      have hw495_2 := hx495_2
      have hw495_1 := hx495_1
      have hw495_0 := hx495_0
      obtain rfl : ad493 = ad495 := (by injection e495)
      replace hx495_0 := hc_ HB hx495_0
      replace hx495_1 := hc_ HB hx495_1
      replace hx495_2 := hc_ HB hx495_2
      have HR495_2 := Aside0.mk hi495_2
      have HC495_2 := Aside0.mk hl495_2
      clear hi495_2 hl495_2
      replace p495 := eq_true p495
      replace q495 := eq_true q495
      have ea_ := Option.some.inj (hx493_2.symm.trans hx495_2)
      injection ea_ with ea_ en_ ec_
      subst ea_
      subst ec_
      clear en_
      have p496 : 0 ≤ (x5_1 : Int) := ode_
      have q496 : x5_1 < (l1.length : Int) := ode_
      obtain ⟨ad496, A496_2, c496_2, e496, hx496_0, hx496_1, hx496_2, hl496_2, hi496_2⟩ := at_T68 HR1.out x5_1 p496 q496
      have hw496_2 := hx496_2
      have hw496_1 := hx496_1
      have hw496_0 := hx496_0
      obtain rfl : ad494 = ad496 := (by injection e496)
      replace hx496_0 := hc_ HB hx496_0
      replace hx496_1 := hc_ HB hx496_1
      replace hx496_2 := hc_ HB hx496_2
      have HR496_2 := Aside0.mk hi496_2
      have HC496_2 := Aside0.mk hl496_2
      clear hi496_2 hl496_2
      replace p496 := eq_true p496
      replace q496 := eq_true q496
      have ea_ := Option.some.inj (hx494_2.symm.trans hx496_2)
      injection ea_ with ea_ en_ ec_
      subst ea_
      subst ec_
      clear en_
      have p497 : 0 ≤ (x5_1 : Int) := ode_
      have q497 : x5_1 < (l0.length : Int) := ode_
      obtain ⟨ad497, A497_2, c497_2, e497, hx497_0, hx497_1, hx497_2, hl497_2, hi497_2⟩ := at_T68 HR0.out x5_1 p497 q497
      have hw497_2 := hx497_2
      have hw497_1 := hx497_1
      have hw497_0 := hx497_0
      obtain rfl : ad493 = ad497 := (by injection e497)
      replace hx497_0 := hc_ HB hx497_0
      replace hx497_1 := hc_ HB hx497_1
      replace hx497_2 := hc_ HB hx497_2
      have HR497_2 := Aside0.mk hi497_2
      have HC497_2 := Aside0.mk hl497_2
      clear hi497_2 hl497_2
      replace p497 := eq_true p497
      replace q497 := eq_true q497
      have ea_ := Option.some.inj (hx493_2.symm.trans hx497_2)
      injection ea_ with ea_ en_ ec_
      subst ea_
      subst ec_
      clear en_
      have p498 : 0 ≤ (x5_1 : Int) := ode_
      have q498 : x5_1 < (l1.length : Int) := ode_
      obtain ⟨ad498, A498_2, c498_2, e498, hx498_0, hx498_1, hx498_2, hl498_2, hi498_2⟩ := at_T68 HR1.out x5_1 p498 q498
      have hw498_2 := hx498_2
      have hw498_1 := hx498_1
      have hw498_0 := hx498_0
      obtain rfl : ad494 = ad498 := (by injection e498)
      replace hx498_0 := hc_ HB hx498_0
      replace hx498_1 := hc_ HB hx498_1
      replace hx498_2 := hc_ HB hx498_2
      have HR498_2 := Aside0.mk hi498_2
      have HC498_2 := Aside0.mk hl498_2
      clear hi498_2 hl498_2
      replace p498 := eq_true p498
      replace q498 := eq_true q498
      have ea_ := Option.some.inj (hx494_2.symm.trans hx498_2)
      injection ea_ with ea_ en_ ec_
      subst ea_
      subst ec_
      clear en_
      refine start_ (n := 38) (S := fun w' => w'.cell? (ad493.add ((x5_1).toNat * 3)) = some (.string ((rd_T68 l0 x5_1).f0)) ∧ w'.cell? ⟨(ad493.add ((x5_1).toNat * 3)).block, (ad493.add ((x5_1).toNat * 3)).off + 1, none⟩ = some (.bool ((rd_T68 l0 x5_1).f1)) ∧ w'.cell? ⟨(ad493.add ((x5_1).toNat * 3)).block, (ad493.add ((x5_1).toNat * 3)).off + 2, none⟩ = some (.slice A493_2 ((rd_T68 l0 x5_1).f2).length c493_2) ∧ w'.cell? (ad494.add ((x5_1).toNat * 3)) = some (.string ((rd_T68 l1 x5_1).f0)) ∧ w'.cell? ⟨(ad494.add ((x5_1).toNat * 3)).block, (ad494.add ((x5_1).toNat * 3)).off + 1, none⟩ = some (.bool ((rd_T68 l1 x5_1).f1)) ∧ w'.cell? ⟨(ad494.add ((x5_1).toNat * 3)).block, (ad494.add ((x5_1).toNat * 3)).off + 2, none⟩ = some (.slice A494_2 ((rd_T68 l1 x5_1).f2).length c494_2) ∧ w'.cell? (ad493.add ((x5_1).toNat * 3)) = some (.string ((rd_T68 l0 x5_1).f0)) ∧ w'.cell? ⟨(ad493.add ((x5_1).toNat * 3)).block, (ad493.add ((x5_1).toNat * 3)).off + 1, none⟩ = some (.bool ((rd_T68 l0 x5_1).f1)) ∧ w'.cell? ⟨(ad493.add ((x5_1).toNat * 3)).block, (ad493.add ((x5_1).toNat * 3)).off + 2, none⟩ = some (.slice A493_2 ((rd_T68 l0 x5_1).f2).length c493_2) ∧ w'.cell? (ad494.add ((x5_1).toNat * 3)) = some (.string ((rd_T68 l1 x5_1).f0)) ∧ w'.cell? ⟨(ad494.add ((x5_1).toNat * 3)).block, (ad494.add ((x5_1).toNat * 3)).off + 1, none⟩ = some (.bool ((rd_T68 l1 x5_1).f1)) ∧ w'.cell? ⟨(ad494.add ((x5_1).toNat * 3)).block, (ad494.add ((x5_1).toNat * 3)).off + 2, none⟩ = some (.slice A494_2 ((rd_T68 l1 x5_1).f2).length c494_2) ∧ w'.cell? (ad493.add ((x5_1).toNat * 3)) = some (.string ((rd_T68 l0 x5_1).f0)) ∧ w'.cell? ⟨(ad493.add ((x5_1).toNat * 3)).block, (ad493.add ((x5_1).toNat * 3)).off + 1, none⟩ = some (.bool ((rd_T68 l0 x5_1).f1)) ∧ w'.cell? ⟨(ad493.add ((x5_1).toNat * 3)).block, (ad493.add ((x5_1).toNat * 3)).off + 2, none⟩ = some (.slice A493_2 ((rd_T68 l0 x5_1).f2).length c493_2) ∧ w'.cell? (ad494.add ((x5_1).toNat * 3)) = some (.string ((rd_T68 l1 x5_1).f0)) ∧ w'.cell? ⟨(ad494.add ((x5_1).toNat * 3)).block, (ad494.add ((x5_1).toNat * 3)).off + 1, none⟩ = some (.bool ((rd_T68 l1 x5_1).f1)) ∧ w'.cell? ⟨(ad494.add ((x5_1).toNat * 3)).block, (ad494.add ((x5_1).toNat * 3)).off + 2, none⟩ = some (.slice A494_2 ((rd_T68 l1 x5_1).f2).length c494_2)) (ds := []) #[false, false, false, false, false, false, false, false, false, false, false, false, false, false, false, false, false, false, false, false, false, false, false, false, false, false, false, false, false, false, false, false, false, false, false, false, false, false] (by kernel_rfl) rfl rfl ⟨((HB.out.cell (World.block_lt_of_cell? w _ hw493_0)).trans hw493_0), ((HB.out.cell (World.block_lt_of_cell? w _ hw493_1)).trans hw493_1), ((HB.out.cell (World.block_lt_of_cell? w _ hw493_2)).trans hw493_2), ((HB.out.cell (World.block_lt_of_cell? w _ hw494_0)).trans hw494_0), ((HB.out.cell (World.block_lt_of_cell? w _ hw494_1)).trans hw494_1), ((HB.out.cell (World.block_lt_of_cell? w _ hw494_2)).trans hw494_2), ((HB.out.cell (World.block_lt_of_cell? w _ hw495_0)).trans hw495_0), ((HB.out.cell (World.block_lt_of_cell? w _ hw495_1)).trans hw495_1), ((HB.out.cell (World.block_lt_of_cell? w _ hw495_2)).trans hw495_2), ((HB.out.cell (World.block_lt_of_cell? w _ hw496_0)).trans hw496_0), ((HB.out.cell (World.block_lt_of_cell? w _ hw496_1)).trans hw496_1), ((HB.out.cell (World.block_lt_of_cell? w _ hw496_2)).trans hw496_2), ((HB.out.cell (World.block_lt_of_cell? w _ hw497_0)).trans hw497_0), ((HB.out.cell (World.block_lt_of_cell? w _ hw497_1)).trans hw497_1), ((HB.out.cell (World.block_lt_of_cell? w _ hw497_2)).trans hw497_2), ((HB.out.cell (World.block_lt_of_cell? w _ hw498_0)).trans hw498_0), ((HB.out.cell (World.block_lt_of_cell? w _ hw498_1)).trans hw498_1), ((HB.out.cell (World.block_lt_of_cell? w _ hw498_2)).trans hw498_2)⟩ (fun hHeld => ?_); refine with_tabW barbicanlaw26_writes.tab6 barbicanlaw26_writes.bits6 (fun HT_ HW_ => ?_)
      generalize wr.drew = w13 at HB HR493_2 HR494_2 HR495_2 HR496_2 HR497_2 HR498_2 hx493_0 hx493_1 hx493_2 hx494_0 hx494_1 hx494_2 hx495_0 hx495_1 hx495_2 hx496_0 hx496_1 hx496_2 hx497_0 hx497_1 hx497_2 hx498_0 hx498_1 hx498_2 hHeld ⊢
      refine pu_ 0 (some 17) HT_ ?_
      refine pu_ 1 (some 18) HT_ ?_
      refine pu_ 2 (some 19) HT_ ?_
      refine pu_ 3 (some 20) HT_ ?_
      refine pu_ 5 (some 22) HT_ ?_
      refine pu_ 6 (some 23) HT_ ?_
      refine pu_ 7 (some 24) HT_ ?_
      refine pu_ 8 (some 25) HT_ ?_
      refine take_ (i := 4) (N := some 21) (v := ?_) (a' := ?_) #[true, true, true, true, true, true, true, true, true, false, false, false, false, false, false, false, false, false, false, false, false, false, false, false, false, false, false, false, false, false, false, false, false, false, false, false, false, false] rfl rfl (take_ofW HT_.out HW_.out (by kernel_rfl)) (fun _ _ _ h => h) (Or.inl ⟨by rfl, ?_⟩) hHeld ?_ ?_
      rotate_left
      ·rintro w' ⟨s0, s1, s2, s3, s4, s5, s6, s7, s8, s9, s10, s11, s12, s13, s14, s15, s16, s17⟩
       go_simp
       with_reducible rfl
      rotate_left
      ·simp only [Act.put, List.setIfInBounds_toArray, List.set_cons_zero, List.set_cons_succ, i64_w, i32_w]
       rfl
      refine take_ (i := 9) (N := some 26) (v := ?_) (a' := ?_) #[true, true, true, true, true, true, true, true, true, true, false, false, false, false, false, false, false, false, false, false, false, false, false, false, false, false, false, false, false, false, false, false, false, false, false, false, false, false] rfl rfl (take_ofW HT_.out HW_.out (by kernel_rfl)) (fun _ _ _ h => h) (Or.inl ⟨by rfl, ?_⟩) hHeld ?_ ?_
      rotate_left
      ·rintro w' ⟨s0, s1, s2, s3, s4, s5, s6, s7, s8, s9, s10, s11, s12, s13, s14, s15, s16, s17⟩
       go_simp
       with_reducible rfl
      rotate_left
      ·simp only [Act.put, List.setIfInBounds_toArray, List.set_cons_zero, List.set_cons_succ, i64_w, i32_w]
       rfl
      refine pu_ 10 (some 27) HT_ ?_
      refine pu_ 11 (some 28) HT_ ?_
      refine pu_ 12 (some 29) HT_ ?_
      refine pu_ 13 (some 30) HT_ ?_
      refine pu_ 14 (some 31) HT_ ?_
      refine pu_ 15 (some 32) HT_ ?_
      refine pu_ 17 (some 34) HT_ ?_
      refine pu_ 18 (some 35) HT_ ?_
      refine pu_ 19 (some 36) HT_ ?_
      refine pu_ 20 (some 37) HT_ ?_
      refine take_ (i := 16) (N := some 33) (v := ?_) (a' := ?_) #[true, true, true, true, true, true, true, true, true, true, true, true, true, true, true, true, true, true, true, true, true, false, false, false, false, false, false, false, false, false, false, false, false, false, false, false, false, false] rfl rfl (take_ofW HT_.out HW_.out (by kernel_rfl)) (fun _ _ _ h => h) (Or.inl ⟨by rfl, ?_⟩) hHeld ?_ ?_
      rotate_left
      ·rintro w' ⟨s0, s1, s2, s3, s4, s5, s6, s7, s8, s9, s10, s11, s12, s13, s14, s15, s16, s17⟩
       go_simp
       with_reducible rfl
      rotate_left
      ·simp only [Act.put, List.setIfInBounds_toArray, List.set_cons_zero, List.set_cons_succ, i64_w, i32_w]
       rfl
      refine take_ (i := 21) (N := some 38) (v := ?_) (a' := ?_) #[true, true, true, true, true, true, true, true, true, true, true, true, true, true, true, true, true, true, true, true, true, true, false, false, false, false, false, false, false, false, false, false, false, false, false, false, false, false] rfl rfl (take_ofW HT_.out HW_.out (by kernel_rfl)) (fun _ _ _ h => h) (Or.inl ⟨by rfl, ?_⟩) hHeld ?_ ?_
      rotate_left
      ·rintro w' ⟨s0, s1, s2, s3, s4, s5, s6, s7, s8, s9, s10, s11, s12, s13, s14, s15, s16, s17⟩
       go_simp
       with_reducible rfl
      rotate_left
      ·simp only [Act.put, List.setIfInBounds_toArray, List.set_cons_zero, List.set_cons_succ, i64_w, i32_w]
       rfl
      refine pu_ 22 (some 39) HT_ ?_
      refine pu_ 23 (some 40) HT_ ?_
      refine pu_ 24 (some 41) HT_ ?_
      refine pu_ 25 (some 42) HT_ ?_
      refine pu_ 26 (some 43) HT_ ?_
      refine pu_ 27 (some 44) HT_ ?_
      refine pu_ 28 (some 45) HT_ ?_
      refine pu_ 30 (some 47) HT_ ?_
      refine pu_ 31 (some 48) HT_ ?_
      refine pu_ 32 (some 49) HT_ ?_
      refine pu_ 33 (some 50) HT_ ?_
      refine take_ (i := 29) (N := some 46) (v := ?_) (a' := ?_) #[true, true, true, true, true, true, true, true, true, true, true, true, true, true, true, true, true, true, true, true, true, true, true, true, true, true, true, true, true, true, true, true, true, true, false, false, false, false] rfl rfl (take_ofW HT_.out HW_.out (by kernel_rfl)) (fun _ _ _ h => h) (Or.inl ⟨by rfl, ?_⟩) hHeld ?_ ?_
      rotate_left
      ·rintro w' ⟨s0, s1, s2, s3, s4, s5, s6, s7, s8, s9, s10, s11, s12, s13, s14, s15, s16, s17⟩
       go_simp
       with_reducible rfl
      rotate_left
      ·simp only [Act.put, List.setIfInBounds_toArray, List.set_cons_zero, List.set_cons_succ, i64_w, i32_w]
       rfl
      refine take_ (i := 34) (N := some 51) (v := ?_) (a' := ?_) #[true, true, true, true, true, true, true, true, true, true, true, true, true, true, true, true, true, true, true, true, true, true, true, true, true, true, true, true, true, true, true, true, true, true, true, false, false, false] rfl rfl (take_ofW HT_.out HW_.out (by kernel_rfl)) (fun _ _ _ h => h) (Or.inl ⟨by rfl, ?_⟩) hHeld ?_ ?_
      rotate_left
      ·rintro w' ⟨s0, s1, s2, s3, s4, s5, s6, s7, s8, s9, s10, s11, s12, s13, s14, s15, s16, s17⟩
       go_simp
       with_reducible rfl
      rotate_left
      ·simp only [Act.put, List.setIfInBounds_toArray, List.set_cons_zero, List.set_cons_succ, i64_w, i32_w]
       rfl
      refine one_ (i := 35) (N := some 52) #[true, true, true, true, true, true, true, true, true, true, true, true, true, true, true, true, true, true, true, true, true, true, true, true, true, true, true, true, true, true, true, true, true, true, true, true, false, false] rfl rfl (one_of HT_.out (by kernel_rfl)) (by decide) (fun K hK => ?_)
      refine goes_ Tryz.func38 (by kernel_rfl) rfl #[.slice A493_2 ((rd_T68 l0 x5_1).f2).length c493_2, .slice A494_2 ((rd_T68 l1 x5_1).f2).length c494_2] (by rfl) rfl rfl (by (try simp only [List.map_toArray, List.map_cons, List.map_nil]); first | done | rfl | (simp only [List.length_drop, List.length_take]; rfl)) ?_
      with_reducible refine (barbicanlaw26_values.calls k1 _ _ ((rd_T68 l0 x5_1).f2) _ _ ((rd_T68 l1 x5_1).f2) false _ ?side1 ?side2 ?side3 ?side4 A10.out).mono ?_
      (case side1 => repeat (first | exact (Kd.C_below HR497_2.out HB.out) | (with_reducible refine Kd.C_alloc ?_ _) | (with_reducible refine Kd.C_drewN ?_ _) | (with_reducible refine Kd.C_drew ?_)))
      (case side2 => exact HC497_2.out)
      (case side3 => repeat (first | exact (Kd.C_below HR498_2.out HB.out) | (with_reducible refine Kd.C_alloc ?_ _) | (with_reducible refine Kd.C_drewN ?_ _) | (with_reducible refine Kd.C_drew ?_)))
      (case side4 => exact HC498_2.out)
      rintro e w' ⟨rfl, ⟨nd, rfl⟩⟩
      refine ⟨_, rfl, ?_⟩
      refine hK.out _ _ ⟨((HB.out.cell (World.block_lt_of_cell? w _ hw493_0)).trans hw493_0), ((HB.out.cell (World.block_lt_of_cell? w _ hw493_1)).trans hw493_1), ((HB.out.cell (World.block_lt_of_cell? w _ hw493_2)).trans hw493_2), ((HB.out.cell (World.block_lt_of_cell? w _ hw494_0)).trans hw494_0), ((HB.out.cell (World.block_lt_of_cell? w _ hw494_1)).trans hw494_1), ((HB.out.cell (World.block_lt_of_cell? w _ hw494_2)).trans hw494_2), ((HB.out.cell (World.block_lt_of_cell? w _ hw495_0)).trans hw495_0), ((HB.out.cell (World.block_lt_of_cell? w _ hw495_1)).trans hw495_1), ((HB.out.cell (World.block_lt_of_cell? w _ hw495_2)).trans hw495_2), ((HB.out.cell (World.block_lt_of_cell? w _ hw496_0)).trans hw496_0), ((HB.out.cell (World.block_lt_of_cell? w _ hw496_1)).trans hw496_1), ((HB.out.cell (World.block_lt_of_cell? w _ hw496_2)).trans hw496_2), ((HB.out.cell (World.block_lt_of_cell? w _ hw497_0)).trans hw497_0), ((HB.out.cell (World.block_lt_of_cell? w _ hw497_1)).trans hw497_1), ((HB.out.cell (World.block_lt_of_cell? w _ hw497_2)).trans hw497_2), ((HB.out.cell (World.block_lt_of_cell? w _ hw498_0)).trans hw498_0), ((HB.out.cell (World.block_lt_of_cell? w _ hw498_1)).trans hw498_1), ((HB.out.cell (World.block_lt_of_cell? w _ hw498_2)).trans hw498_2)⟩ (fun hHeld => ?_)
      clear hK K
      refine norm_ (a' := ?_) ?_ ?_
      rotate_left
      ·show Act.put _ (some 52) _ = _
       simp only [Act.put, List.setIfInBounds_toArray, List.set_cons_zero, List.set_cons_succ, i64_w, i32_w]
       rfl
      refine pu_ 36 (some 53) HT_ ?_
      refine pu_ 37 (some 54) HT_ ?_
      refine done_ (done_of HT_.out (by kernel_rfl)) ?_
      try go_wp2
      go_ret
      exact ⟨fr_, bw_ HB.out⟩
     rw [if_neg c7] at H
     have ⟨c7b0, c7b1⟩ := eqF c7
     obtain rfl := Option.some.inj H
     try go_wp2
     replace HB := bD_ HB
     have p493 : 0 ≤ (x5_1 : Int) := ode_
     have q493 : x5_1 < (l0.length : Int) := ode_
     obtain ⟨ad493, A493_2, c493_2, e493, hx493_0, hx493_1, hx493_2, hl493_2, hi493_2⟩ := at_T68 HR0.out x5_1 p493 q493
     have hw493_2 := hx493_2
     have hw493_1 := hx493_1
     have hw493_0 := hx493_0
     cases e493
     replace hx493_0 := hc_ HB hx493_0
     replace hx493_1 := hc_ HB hx493_1
     replace hx493_2 := hc_ HB hx493_2
     have HR493_2 := Aside0.mk hi493_2
     have HC493_2 := Aside0.mk hl493_2
     clear hi493_2 hl493_2
     replace p493 := eq_true p493
     replace q493 := eq_true q493
     have p494 : 0 ≤ (x5_1 : Int) := ode_
     have q494 : x5_1 < (l1.length : Int) := ode_
     obtain ⟨ad494, A494_2, c494_2, e494, hx494_0, hx494_1, hx494_2, hl494_2, hi494_2⟩ := at_T68 HR1.out x5_1 p494 q494
     have hw494_2 := hx494_2
     have hw494_1 := hx494_1
     have hw494_0 := hx494_0
     cases e494
     replace hx494_0 := hc_ HB hx494_0
     replace hx494_1 := hc_ HB hx494_1
     replace hx494_2 := hc_ HB hx494_2
     have HR494_2 := Aside0.mk hi494_2
     have HC494_2 := Aside0.mk hl494_2
     clear hi494_2 hl494_2
     replace p494 := eq_true p494
     replace q494 := eq_true q494
     refine start_ (n := 38) (S := fun w' => w'.cell? (ad493.add ((x5_1).toNat * 3)) = some (.string ((rd_T68 l0 x5_1).f0)) ∧ w'.cell? ⟨(ad493.add ((x5_1).toNat * 3)).block, (ad493.add ((x5_1).toNat * 3)).off + 1, none⟩ = some (.bool ((rd_T68 l0 x5_1).f1)) ∧ w'.cell? ⟨(ad493.add ((x5_1).toNat * 3)).block, (ad493.add ((x5_1).toNat * 3)).off + 2, none⟩ = some (.slice A493_2 ((rd_T68 l0 x5_1).f2).length c493_2) ∧ w'.cell? (ad494.add ((x5_1).toNat * 3)) = some (.string ((rd_T68 l1 x5_1).f0)) ∧ w'.cell? ⟨(ad494.add ((x5_1).toNat * 3)).block, (ad494.add ((x5_1).toNat * 3)).off + 1, none⟩ = some (.bool ((rd_T68 l1 x5_1).f1)) ∧ w'.cell? ⟨(ad494.add ((x5_1).toNat * 3)).block, (ad494.add ((x5_1).toNat * 3)).off + 2, none⟩ = some (.slice A494_2 ((rd_T68 l1 x5_1).f2).length c494_2)) (ds := []) #[false, false, false, false, false, false, false, false, false, false, false, false, false, false, false, false, false, false, false, false, false, false, false, false, false, false, false, false, false, false, false, false, false, false, false, false, false, false] (by kernel_rfl) rfl rfl ⟨((HB.out.cell (World.block_lt_of_cell? w _ hw493_0)).trans hw493_0), ((HB.out.cell (World.block_lt_of_cell? w _ hw493_1)).trans hw493_1), ((HB.out.cell (World.block_lt_of_cell? w _ hw493_2)).trans hw493_2), ((HB.out.cell (World.block_lt_of_cell? w _ hw494_0)).trans hw494_0), ((HB.out.cell (World.block_lt_of_cell? w _ hw494_1)).trans hw494_1), ((HB.out.cell (World.block_lt_of_cell? w _ hw494_2)).trans hw494_2)⟩ (fun hHeld => ?_); refine with_tabW barbicanlaw26_writes.tab6 barbicanlaw26_writes.bits6 (fun HT_ HW_ => ?_)
     generalize wr.drew = w14 at HB HR493_2 HR494_2 hx493_0 hx493_1 hx493_2 hx494_0 hx494_1 hx494_2 hHeld ⊢
     refine pu_ 0 (some 17) HT_ ?_
     refine pu_ 1 (some 18) HT_ ?_
     refine pu_ 2 (some 19) HT_ ?_
     refine pu_ 3 (some 20) HT_ ?_
     refine pu_ 5 (some 22) HT_ ?_
     refine pu_ 6 (some 23) HT_ ?_
     refine pu_ 7 (some 24) HT_ ?_
     refine pu_ 8 (some 25) HT_ ?_
     refine take_ (i := 4) (N := some 21) (v := ?_) (a' := ?_) #[true, true, true, true, true, true, true, true, true, false, false, false, false, false, false, false, false, false, false, false, false, false, false, false, false, false, false, false, false, false, false, false, false, false, false, false, false, false] rfl rfl (take_ofW HT_.out HW_.out (by kernel_rfl)) (fun _ _ _ h => h) (Or.inl ⟨by rfl, ?_⟩) hHeld ?_ ?_
     rotate_left
     ·rintro w' ⟨s0, s1, s2, s3, s4, s5⟩
      go_simp
      with_reducible rfl
     rotate_left
     ·simp only [Act.put, List.setIfInBounds_toArray, List.set_cons_zero, List.set_cons_succ, i64_w, i32_w]
      rfl
     refine take_ (i := 9) (N := some 26) (v := ?_) (a' := ?_) #[true, true, true, true, true, true, true, true, true, true, false, false, false, false, false, false, false, false, false, false, false, false, false, false, false, false, false, false, false, false, false, false, false, false, false, false, false, false] rfl rfl (take_ofW HT_.out HW_.out (by kernel_rfl)) (fun _ _ _ h => h) (Or.inl ⟨by rfl, ?_⟩) hHeld ?_ ?_
     rotate_left
     ·rintro w' ⟨s0, s1, s2, s3, s4, s5⟩
      go_simp
      with_reducible rfl
     rotate_left
     ·simp only [Act.put, List.setIfInBounds_toArray, List.set_cons_zero, List.set_cons_succ, i64_w, i32_w]
      rfl
     refine pu_ 10 (some 27) HT_ ?_
     refine pu_ 11 (some 28) HT_ ?_
     refine pure_ (i := 12) (N := some 29) (v := undef) (a' := ?_) #[true, true, true, true, true, true, true, true, true, true, true, true, true, false, false, false, false, false, false, false, false, false, false, false, false, false, false, false, false, false, false, false, false, false, false, false, false, false] rfl rfl (any_of HT_.out (by kernel_rfl)) (fun _ _ _ h => h) (Or.inr ⟨by rfl, rfl⟩) ?_ ?_
     rotate_left
     ·simp only [Act.put, List.setIfInBounds_toArray, List.set_cons_zero, List.set_cons_succ, i64_w, i32_w]
      rfl
     refine pure_ (i := 13) (N := some 30) (v := undef) (a' := ?_) #[true, true, true, true, true, true, true, true, true, true, true, true, true, true, false, false, false, false, false, false, false, false, false, false, false, false, false, false, false, false, false, false, false, false, false, false, false, false] rfl rfl (any_of HT_.out (by kernel_rfl)) (fun _ _ _ h => h) (Or.inr ⟨by rfl, rfl⟩) ?_ ?_
     rotate_left
     ·simp only [Act.put, List.setIfInBounds_toArray, List.set_cons_zero, List.set_cons_succ, i64_w, i32_w]
      rfl
     refine pure_ (i := 14) (N := some 31) (v := undef) (a' := ?_) #[true, true, true, true, true, true, true, true, true, true, true, true, true, true, true, false, false, false, false, false, false, false, false, false, false, false, false, false, false, false, false, false, false, false, false, false, false, false] rfl rfl (any_of HT_.out (by kernel_rfl)) (fun _ _ _ h => h) (Or.inr ⟨by rfl, rfl⟩) ?_ ?_
     rotate_left
     ·simp only [Act.put, List.setIfInBounds_toArray, List.set_cons_zero, List.set_cons_succ, i64_w, i32_w]
      rfl
     refine pure_ (i := 15) (N := some 32) (v := undef) (a' := ?_) #[true, true, true, true, true, true, true, true, true, true, true, true, true, true, true, true, false, false, false, false, false, false, false, false, false, false, false, false, false, false, false, false, false, false, false, false, false, false] rfl rfl (any_of HT_.out (by kernel_rfl)) (fun _ _ _ h => h) (Or.inr ⟨by rfl, rfl⟩) ?_ ?_
     rotate_left
     ·simp only [Act.put, List.setIfInBounds_toArray, List.set_cons_zero, List.set_cons_succ, i64_w, i32_w]
      rfl
     refine pure_ (i := 16) (N := some 33) (v := undef) (a' := ?_) #[true, true, true, true, true, true, true, true, true, true, true, true, true, true, true, true, true, false, false, false, false, false, false, false, false, false, false, false, false, false, false, false, false, false, false, false, false, false] rfl rfl (any_of HT_.out (by kernel_rfl)) (fun _ _ _ h => h) (Or.inr ⟨by rfl, rfl⟩) ?_ ?_
     rotate_left
     ·simp only [Act.put, List.setIfInBounds_toArray, List.set_cons_zero, List.set_cons_succ, i64_w, i32_w]
      rfl
     refine pure_ (i := 17) (N := some 34) (v := undef) (a' := ?_) #[true, true, true, true, true, true, true, true, true, true, true, true, true, true, true, true, true, true, false, false, false, false, false, false, false, false, false, false, false, false, false, false, false, false, false, false, false, false] rfl rfl (any_of HT_.out (by kernel_rfl)) (fun _ _ _ h => h) (Or.inr ⟨by rfl, rfl⟩) ?_ ?_
     rotate_left
     ·simp only [Act.put, List.setIfInBounds_toArray, List.set_cons_zero, List.set_cons_succ, i64_w, i32_w]
      rfl
     refine pure_ (i := 18) (N := some 35) (v := undef) (a' := ?_) #[true, true, true, true, true, true, true, true, true, true, true, true, true, true, true, true, true, true, true, false, false, false, false, false, false, false, false, false, false, false, false, false, false, false, false, false, false, false] rfl rfl (any_of HT_.out (by kernel_rfl)) (fun _ _ _ h => h) (Or.inr ⟨by rfl, rfl⟩) ?_ ?_
     rotate_left
     ·simp only [Act.put, List.setIfInBounds_toArray, List.set_cons_zero, List.set_cons_succ, i64_w, i32_w]
      rfl
     refine pure_ (i := 19) (N := some 36) (v := undef) (a' := ?_) #[true, true, true, true, true, true, true, true, true, true, true, true, true, true, true, true, true, true, true, true, false, false, false, false, false, false, false, false, false, false, false, false, false, false, false, false, false, false] rfl rfl (any_of HT_.out (by kernel_rfl)) (fun _ _ _ h => h) (Or.inr ⟨by rfl, rfl⟩) ?_ ?_
     rotate_left
     ·simp only [Act.put, List.setIfInBounds_toArray, List.set_cons_zero, List.set_cons_succ, i64_w, i32_w]
      rfl
     refine pure_ (i := 20) (N := some 37) (v := undef) (a' := ?_) #[true, true, true, true, true, true, true, true, true, true, true, true, true, true, true, true, true, true, true, true, true, false, false, false, false, false, false, false, false, false, false, false, false, false, false, false, false, false] rfl rfl (any_of HT_.out (by kernel_rfl)) (fun _ _ _ h => h) (Or.inr ⟨by rfl, rfl⟩) ?_ ?_
     rotate_left
     ·simp only [Act.put, List.setIfInBounds_toArray, List.set_cons_zero, List.set_cons_succ, i64_w, i32_w]
      rfl
     refine pure_ (i := 21) (N := some 38) (v := undef) (a' := ?_) #[true, true, true, true, true, true, true, true, true, true, true, true, true, true, true, true, true, true, true, true, true, true, false, false, false, false, false, false, false, false, false, false, false, false, false, false, false, false] rfl rfl (any_of HT_.out (by kernel_rfl)) (fun _ _ _ h => h) (Or.inr ⟨by rfl, rfl⟩) ?_ ?_
     rotate_left
     ·simp only [Act.put, List.setIfInBounds_toArray, List.set_cons_zero, List.set_cons_succ, i64_w, i32_w]
      rfl
     refine pure_ (i := 22) (N := some 39) (v := undef) (a' := ?_) #[true, true, true, true, true, true, true, true, true, true, true, true, true, true, true, true, true, true, true, true, true, true, true, false, false, false, false, false, false, false, false, false, false, false, false, false, false, false] rfl rfl (any_of HT_.out (by kernel_rfl)) (fun _ _ _ h => h) (Or.inr ⟨by rfl, rfl⟩) ?_ ?_
     rotate_left
     ·simp only [Act.put, List.setIfInBounds_toArray, List.set_cons_zero, List.set_cons_succ, i64_w, i32_w]
      rfl
     refine pu_ 23 (some 40) HT_ ?_
     refine pu_ 24 (some 41) HT_ ?_
     refine pure_ (i := 25) (N := some 42) (v := undef) (a' := ?_) #[true, true, true, true, true, true, true, true, true, true, true, true, true, true, true, true, true, true, true, true, true, true, true, true, true, true, false, false, false, false, false, false, false, false, false, false, false, false] rfl rfl (any_of HT_.out (by kernel_rfl)) (fun _ _ _ h => h) (Or.inr ⟨by rfl, rfl⟩) ?_ ?_
     rotate_left
     ·simp only [Act.put, List.setIfInBounds_toArray, List.set_cons_zero, List.set_cons_succ, i64_w, i32_w]
      rfl
     refine pure_ (i := 26) (N := some 43) (v := undef) (a' := ?_) #[true, true, true, true, true, true, true, true, true, true, true, true, true, true, true, true, true, true, true, true, true, true, true, true, true, true, true, false, false, false, false, false, false, false, false, false, false, false] rfl rfl (any_of HT_.out (by kernel_rfl)) (fun _ _ _ h => h) (Or.inr ⟨by rfl, rfl⟩) ?_ ?_
     rotate_left
     ·simp only [Act.put, List.setIfInBounds_toArray, List.set_cons_zero, List.set_cons_succ, i64_w, i32_w]
      rfl
     refine pure_ (i := 27) (N := some 44) (v := undef) (a' := ?_) #[true, true, true, true, true, true, true, true, true, true, true, true, true, true, true, true, true, true, true, true, true, true, true, true, true, true, true, true, false, false, false, false, false, false, false, false, false, false] rfl rfl (any_of HT_.out (by kernel_rfl)) (fun _ _ _ h => h) (Or.inr ⟨by rfl, rfl⟩) ?_ ?_
     rotate_left
     ·simp only [Act.put, List.setIfInBounds_toArray, List.set_cons_zero, List.set_cons_succ, i64_w, i32_w]
      rfl
     refine pure_ (i := 28) (N := some 45) (v := undef) (a' := ?_) #[true, true, true, true, true, true, true, true, true, true, true, true, true, true, true, true, true, true, true, true, true, true, true, true, true, true, true, true, true, false, false, false, false, false, false, false, false, false] rfl rfl (any_of HT_.out (by kernel_rfl)) (fun _ _ _ h => h) (Or.inr ⟨by rfl, rfl⟩) ?_ ?_
     rotate_left
     ·simp only [Act.put, List.setIfInBounds_toArray, List.set_cons_zero, List.set_cons_succ, i64_w, i32_w]
      rfl
     refine pure_ (i := 29) (N := some 46) (v := undef) (a' := ?_) #[true, true, true, true, true, true, true, true, true, true, true, true, true, true, true, true, true, true, true, true, true, true, true, true, true, true, true, true, true, true, false, false, false, false, false, false, false, false] rfl rfl (any_of HT_.out (by kernel_rfl)) (fun _ _ _ h => h) (Or.inr ⟨by rfl, rfl⟩) ?_ ?_
     rotate_left
     ·simp only [Act.put, List.setIfInBounds_toArray, List.set_cons_zero, List.set_cons_succ, i64_w, i32_w]
      rfl
     refine pure_ (i := 30) (N := some 47) (v := undef) (a' := ?_) #[true, true, true, true, true, true, true, true, true, true, true, true, true, true, true, true, true, true, true, true, true, true, true, true, true, true, true, true, true, true, true, false, false, false, false, false, false, false] rfl rfl (any_of HT_.out (by kernel_rfl)) (fun _ _ _ h => h) (Or.inr ⟨by rfl, rfl⟩) ?_ ?_
     rotate_left
     ·simp only [Act.put, List.setIfInBounds_toArray, List.set_cons_zero, List.set_cons_succ, i64_w, i32_w]
      rfl
     refine pure_ (i := 31) (N := some 48) (v := undef) (a' := ?_) #[true, true, true, true, true, true, true, true, true, true, true, true, true, true, true, true, true, true, true, true, true, true, true, true, true, true, true, true, true, true, true, true, false, false, false, false, false, false] rfl rfl (any_of HT_.out (by kernel_rfl)) (fun _ _ _ h => h) (Or.inr ⟨by rfl, rfl⟩) ?_ ?_
     rotate_left
     ·simp only [Act.put, List.setIfInBounds_toArray, List.set_cons_zero, List.set_cons_succ, i64_w, i32_w]
      rfl
     refine pure_ (i := 32) (N := some 49) (v := undef) (a' := ?_) #[true, true, true, true, true, true, true, true, true, true, true, true, true, true, true, true, true, true, true, true, true, true, true, true, true, true, true, true, true, true, true, true, true, false, false, false, false, false] rfl rfl (any_of HT_.out (by kernel_rfl)) (fun _ _ _ h => h) (Or.inr ⟨by rfl, rfl⟩) ?_ ?_
     rotate_left
     ·simp only [Act.put, List.setIfInBounds_toArray, List.set_cons_zero, List.set_cons_succ, i64_w, i32_w]
      rfl
     refine pure_ (i := 33) (N := some 50) (v := undef) (a' := ?_) #[true, true, true, true, true, true, true, true, true, true, true, true, true, true, true, true, true, true, true, true, true, true, true, true, true, true, true, true, true, true, true, true, true, true, false, false, false, false] rfl rfl (any_of HT_.out (by kernel_rfl)) (fun _ _ _ h => h) (Or.inr ⟨by rfl, rfl⟩) ?_ ?_
     rotate_left
     ·simp only [Act.put, List.setIfInBounds_toArray, List.set_cons_zero, List.set_cons_succ, i64_w, i32_w]
      rfl
     refine pure_ (i := 34) (N := some 51) (v := undef) (a' := ?_) #[true, true, true, true, true, true, true, true, true, true, true, true, true, true, true, true, true, true, true, true, true, true, true, true, true, true, true, true, true, true, true, true, true, true, true, false, false, false] rfl rfl (any_of HT_.out (by kernel_rfl)) (fun _ _ _ h => h) (Or.inr ⟨by rfl, rfl⟩) ?_ ?_
     rotate_left
     ·simp only [Act.put, List.setIfInBounds_toArray, List.set_cons_zero, List.set_cons_succ, i64_w, i32_w]
      rfl
     refine pure_ (i := 35) (N := some 52) (v := undef) (a' := ?_) #[true, true, true, true, true, true, true, true, true, true, true, true, true, true, true, true, true, true, true, true, true, true, true, true, true, true, true, true, true, true, true, true, true, true, true, true, false, false] rfl rfl (any_of HT_.out (by kernel_rfl)) (fun _ _ _ h => h) (Or.inr ⟨by rfl, rfl⟩) ?_ ?_
     rotate_left
     ·simp only [Act.put, List.setIfInBounds_toArray, List.set_cons_zero, List.set_cons_succ, i64_w, i32_w]
      rfl
     refine pure_ (i := 36) (N := some 53) (v := undef) (a' := ?_) #[true, true, true, true, true, true, true, true, true, true, true, true, true, true, true, true, true, true, true, true, true, true, true, true, true, true, true, true, true, true, true, true, true, true, true, true, true, false] rfl rfl (any_of HT_.out (by kernel_rfl)) (fun _ _ _ h => h) (Or.inr ⟨by rfl, rfl⟩) ?_ ?_
     rotate_left
     ·simp only [Act.put, List.setIfInBounds_toArray, List.set_cons_zero, List.set_cons_succ, i64_w, i32_w]
      rfl
     refine pu_ 37 (some 54) HT_ ?_
     refine done_ (done_of HT_.out (by kernel_rfl)) ?_
     try go_wp2
     go_ret
     exact ⟨fr_, bw_ HB.out⟩
    rw [if_neg c4] at H
    have c4b0 := dcF c4
    clear c4
    obtain rfl := Option.some.inj H
    go_wp2
    go_ret
    exact ⟨fr_, bw_ HB.out⟩
 rw [if_neg c3] at H
 have ⟨c3b0, c3b1⟩ := eqF c3
 have c3b2 : (l0.length == l1.length) = false := by first | simpa using c3 | (simp at c3 ⊢; omega)
 obtain rfl := Option.some.inj H
 go_enter Tryz.func14, Tryz.ntmps14
 go_wp2
 go_ret
 exact ⟨fr_, bw_ HB.out⟩

end Go.Proofs.YtddkbhglbkfelaaGreatDoor.T
