import Derived.Test.YtddkbhglbkfelaaGreatDoorPkTx0
import Derived.Test.YtddkbhglbkfelaaGreatDoorPkTx2
namespace Go.Proofs.YtddkbhglbkfelaaGreatDoor.T
open Go.RowKit Go.Proofs.YtddkbhglbkfelaaGreatDoorW.PrintWords Go.Proofs.YtddkbhglbkfelaaGreatDoorW.PrintLast Go.Proofs.YtddkbhglbkfelaaGreatDoorW.PrintMore Go.Proofs.YtddkbhglbkfelaaGreatDoorX
attribute [local go_sem] max2_int min2_int max_two min_two max_three min_three max_four min_four
set_option linter.unusedVariables false
set_option linter.unusedSimpArgs false

/-! ### table_Check: function 43 -/
def table_Check.l0 : Nat → Int → List (S118) → Int → Int → ByteArray → List (S118) → Option (Option Int)
 | 0, _, _, _, _, _, _ => none
 | k + 1, x3, x26, x27, x28, x106000, x106001 => if x28 < x27 then (if 0 ≤ x28 then (if x28 < (x26.length : Int) then (if x28 ≤ (x106001.length : Int) then ((table_column.f k ((rd_T118 x26 x28).f0) ((rd_T118 x26 x28).f1) ((rd_T118 x26 x28).f2) ((rd_T118 x26 x28).f3) (x106001.take (x28 : Int).toNat)).bind fun t113 => (if t113.isNone = true then (if (rd_T118 x26 x28).f2 = true then (table_Check.l0 k (wrap64 (x3 + 1)) x26 x27 (wrap64 (x28 + 1)) x106000 x106001) else (table_Check.l0 k x3 x26 x27 (wrap64 (x28 + 1)) x106000 x106001)) else (some (some (t113.getD 0))))) else (none)) else (none)) else (none)) else (if x3 = 0 then (some (some 8)) else (some none))
def table_Check.f (k : Nat) (a0_0 : ByteArray) (l0_1 : List (S118)) : Option (Option Int) := (table_Name.f k a0_0).bind fun t106 => (if t106 = true then (if (l0_1.length : Int) = 0 then (some (some 1)) else (if (l0_1.length : Int) > 16 then (some (some 2)) else (table_Check.l0 k 0 l0_1 (l0_1.length : Int) 0 a0_0 l0_1))) else (some (some 30)))
set_option maxHeartbeats 8000000 in
set_option maxRecDepth 100000 in
theorem table_Check.calls (k : Nat) (a0_0 : ByteArray) (A0_1 : Option Addr) (c0_1 : Nat) (l0_1 : List (S118)) (r : Option Int) (w : World) (hr0_1 : Kd.C k118 w A0_1 l0_1.length l0_1) (hc0_1 : l0_1.length ≤ c0_1) (hG : GW w) (h : table_Check.f k a0_0 l0_1 = some r) :
  Calls Tryz.prog 43 #[.agg #[.string a0_0, .slice A0_1 l0_1.length c0_1]] w fun e w' => e = .returned (errW r) ∧ Below w.heap.size w w' := by
 have hu59 := Tryz.underlying59
 have hu118 := Tryz.underlying118
 have hu32 := Tryz.underlying32
 have hu65 := Tryz.underlying65
 have HR0_1 := Aside0.mk hr0_1
 have HC0_1 := Aside0.mk hc0_1
 clear hr0_1 hc0_1
 have HB := Aside0.mk (Below.refl w.heap.size w)
 have HG := Aside0.mk hG
 clear hG
 have H : ((table_Name.f k a0_0).bind fun t106 => (if t106 = true then (if (l0_1.length : Int) = 0 then (some (some 1)) else (if (l0_1.length : Int) > 16 then (some (some 2)) else (table_Check.l0 k 0 l0_1 (l0_1.length : Int) 0 a0_0 l0_1))) else (some (some 30)))) = some r := h
 clear h
 obtain ⟨t106, A2, H⟩ := bn_ H; (try dsimp only at H)
 by_cases c3 : t106 = true
 ·subst c3
  rw [if_pos rfl] at H
  by_cases c4 : (l0_1.length : Int) = 0
  ·rw [if_pos c4] at H
   have ⟨c4b0, c4b1⟩ := eqT c4
   clear c4
   obtain rfl := Option.some.inj H
   go_enter Tryz.func43, Tryz.ntmps43
   go_wp2_with (first | ((with_reducible refine qgd (N := 1) rfl ?_); refine qB_ 1 #[.string a0_0, .slice A0_1 l0_1.length c0_1] 59 ?_; intro gb105 hg w5 hbox hb; have BK105 := Aside0.mk (hbox); have GW105 := gE_ hg HB; have GE105 := gE_ hg HB; replace HB := bS_ HB hb; clear hb hbox hg; obtain ⟨hcz6_0, hcz6_1, hfz6_0, hfz6_1⟩ := zf2_ BK105) | ((with_reducible refine qgc (f := 40) rfl ?_); refine gL_ (some 10) Tryz.func40 #[.string a0_0] ?_; (with_reducible refine (table_Name.calls k a0_0 true _ ?side1 A2.out).mono ?_); (case side1 => exact GW_below HG.out (bw_ HB.out)); rintro e w7 ⟨rfl, hb⟩; refine ⟨_, rfl, ?_⟩; replace BK105 := kB_ BK105 hb; replace HB := bS_ HB hb; clear hb; obtain ⟨hcz8_0, hcz8_1, hfz8_0, hfz8_1⟩ := zf2_ BK105))
   go_ret
   exact ⟨fr_, bw_ HB.out⟩
  rw [if_neg c4] at H
  have ⟨c4b0, c4b1⟩ := eqF c4
  have c4b2 : ¬ (l0_1 = []) := fun h_ => c4 (by rw [h_]; rfl)
  by_cases c9 : (l0_1.length : Int) > 16
  ·rw [if_pos c9] at H
   have c9b0 : decide (16 < (l0_1.length : Int)) = true := decide_eq_true c9
   have c9b1 : decide (16 < l0_1.length) = true := decide_eq_true (by omega)
   clear c9
   obtain rfl := Option.some.inj H
   go_enter Tryz.func43, Tryz.ntmps43
   go_wp2_with (first | ((with_reducible refine qgd (N := 1) rfl ?_); refine qB_ 1 #[.string a0_0, .slice A0_1 l0_1.length c0_1] 59 ?_; intro gb105 hg w10 hbox hb; have BK105 := Aside0.mk (hbox); have GW105 := gE_ hg HB; have GE105 := gE_ hg HB; replace HB := bS_ HB hb; clear hb hbox hg; obtain ⟨hcz11_0, hcz11_1, hfz11_0, hfz11_1⟩ := zf2_ BK105) | ((with_reducible refine qgc (f := 40) rfl ?_); refine gL_ (some 10) Tryz.func40 #[.string a0_0] ?_; (with_reducible refine (table_Name.calls k a0_0 true _ ?side1 A2.out).mono ?_); (case side1 => exact GW_below HG.out (bw_ HB.out)); rintro e w12 ⟨rfl, hb⟩; refine ⟨_, rfl, ?_⟩; replace BK105 := kB_ BK105 hb; replace HB := bS_ HB hb; clear hb; obtain ⟨hcz13_0, hcz13_1, hfz13_0, hfz13_1⟩ := zf2_ BK105))
   go_ret
   exact ⟨fr_, bw_ HB.out⟩
  rw [if_neg c9] at H
  have c9b0 : decide (16 < (l0_1.length : Int)) = false := decide_eq_false c9
  have c9b1 : decide (16 < l0_1.length) = false := decide_eq_false (by omega)
  clear c9
  have H' := Aside0.mk H
  clear H
  go_enter Tryz.func43, Tryz.ntmps43
  go_wp2_with (first | ((with_reducible refine qgd (N := 1) rfl ?_); refine qB_ 1 #[.string a0_0, .slice A0_1 l0_1.length c0_1] 59 ?_; intro gb105 hg w14 hbox hb; have BK105 := Aside0.mk (hbox); have GW105 := gE_ hg HB; have GE105 := gE_ hg HB; replace HB := bS_ HB hb; clear hb hbox hg; obtain ⟨hcz15_0, hcz15_1, hfz15_0, hfz15_1⟩ := zf2_ BK105) | ((with_reducible refine qgc (f := 40) rfl ?_); refine gL_ (some 10) Tryz.func40 #[.string a0_0] ?_; (with_reducible refine (table_Name.calls k a0_0 true _ ?side1 A2.out).mono ?_); (case side1 => exact GW_below HG.out (bw_ HB.out)); rintro e w16 ⟨rfl, hb⟩; refine ⟨_, rfl, ?_⟩; replace BK105 := kB_ BK105 hb; replace HB := bS_ HB hb; clear hb; obtain ⟨hcz17_0, hcz17_1, hfz17_0, hfz17_1⟩ := zf2_ BK105))
  go_loopg [3, 28] k (fun kq v3 v28 w' => ∃ (x3_1 : Int) (x28_1 : Int), v3 = .int .i64 x3_1 ∧ v28 = .int .i64 x28_1 ∧ Aside0 (table_Check.l0 kq x3_1 l0_1 (l0_1.length : Int) x28_1 a0_0 l0_1 = some r) ∧ Aside0 (kq ≤ k) ∧ Aside0 (w'.heap[gb105]? = some (.cells #[.string a0_0, (.slice A0_1 l0_1.length c0_1)] 59 (0, 0))) ∧ Aside0 (Below w.heap.size w w'))
  case atStart => exact ⟨(0), (0), fe_, fe_, H', ⟨Nat.le_refl _⟩, ⟨bp_ BK105⟩, ⟨bw_ HB.out⟩⟩
  case round =>
   clear H'
   (try clear c3); (try clear c4); (try clear c4b0); (try clear c4b1); (try clear c4b2); (try clear c9); (try clear c9b0); (try clear c9b1); (try clear hcz11_0); (try clear hcz11_1); (try clear hcz13_0)
   (try clear hcz13_1); (try clear hcz15_0); (try clear hcz15_1); (try clear hcz17_0); (try clear hcz17_1); (try clear hcz6_0); (try clear hcz6_1); (try clear hcz8_0); (try clear hcz8_1); (try clear hfz11_0); (try clear hfz11_1); (try clear hfz13_0)
   (try clear hfz13_1); (try clear hfz15_0); (try clear hfz15_1); (try clear hfz17_0); (try clear hfz17_1); (try clear hfz6_0); (try clear hfz6_1); (try clear hfz8_0); (try clear hfz8_1)
   obtain ⟨x3_1, x28_1, rfl, rfl, HA, HK1, BK105, HB⟩ := hrel
   cases gk with
   | zero => exact absurd HA.out (by simp [table_Check.l0])
   | succ k1 =>
    have H := HA.out
    clear HA
    simp only [table_Check.l0] at H
    by_cases c18 : x28_1 < (l0_1.length : Int)
    ·rw [if_pos c18] at H
     have c18b0 := dcT c18
     clear c18
     have c19 : 0 ≤ x28_1 := Classical.byContradiction fun c19 => by rw [if_neg c19] at H; exact absurd H (by simp)
     rw [if_pos c19] at H
     have c19b0 := dcT c19
     clear c19
     have c20 : x28_1 < (l0_1.length : Int) := Classical.byContradiction fun c20 => by rw [if_neg c20] at H; exact absurd H (by simp)
     rw [if_pos c20] at H
     have c20b0 := dcT c20
     clear c20
     have c21b0 := eq_true (ode_ : 0 ≤ x28_1)
     have c22 : x28_1 ≤ (l0_1.length : Int) := Classical.byContradiction fun c22 => by rw [if_neg c22] at H; exact absurd H (by simp)
     rw [if_pos c22] at H
     have c22b0 := eq_true c22
     have c22b1 : decide (x28_1 ≤ (l0_1.length : Int)) = true := decide_eq_true c22
     clear c22
     first | (revert H; with_reducible refine nm_ fun y109 hy109 H => ?_) | (generalize hy109 : (l0_1.take (x28_1 : Int).toNat : List (S118)) = y109 at H; replace hy109 := hy109.symm)
     have Ny109 := Aside0.mk hy109; clear hy109
     obtain ⟨t113, A23, H⟩ := bn_ H; (try dsimp only at H)
     rcases t113 with _ | q114
     ·have H1 : (if (rd_T118 l0_1 x28_1).f2 = true then (table_Check.l0 k1 (wrap64 (x3_1 + 1)) l0_1 (l0_1.length : Int) (wrap64 (x28_1 + 1)) a0_0 l0_1) else (table_Check.l0 k1 x3_1 l0_1 (l0_1.length : Int) (wrap64 (x28_1 + 1)) a0_0 l0_1)) = some r := by rw [if_pos (show (none : Option Int).isNone = true by rfl)] at H; exact H
      clear H
      have H := H1
      clear H1
      try simp only [errW_none, errW_some]
      obtain ⟨bq24, hbq24⟩ : ∃ b_ : Bool, b_ = ((rd_T118 l0_1 x28_1).f2) := ⟨_, rfl⟩
      replace H : (if bq24 = true then (table_Check.l0 k1 (wrap64 (x3_1 + 1)) l0_1 (l0_1.length : Int) (wrap64 (x28_1 + 1)) a0_0 l0_1) else (table_Check.l0 k1 x3_1 l0_1 (l0_1.length : Int) (wrap64 (x28_1 + 1)) a0_0 l0_1)) = some r := by rw [← hbq24] at H; exact H
      have Nbq24 := Aside0.mk hbq24
      clear hbq24
      by_cases c25 : bq24 = true
      ·subst c25
       rw [if_pos rfl] at H
       have H' := Aside0.mk H
       clear H
       have p107 : 0 ≤ (x28_1 : Int) := ode_
       have q107 : x28_1 < (l0_1.length : Int) := ode_
       obtain ⟨ad107, e107, hx107_0, hx107_1, hx107_2, hx107_3⟩ := at_T118 HR0_1.out x28_1 p107 q107
       (try rw [← Nbq24.out] at hx107_2)
       (try rw [← Nbq24.out] at hx107_3)
       cases e107
       replace hx107_0 := hc_ HB hx107_0
       replace hx107_1 := hc_ HB hx107_1
       replace hx107_2 := hc_ HB hx107_2
       replace hx107_3 := hc_ HB hx107_3
       replace p107 := eq_true p107
       replace q107 := eq_true q107
       try go_wp2_with (first | ((with_reducible refine qgd (N := 5) rfl ?_); refine qB_ 5 #[.string (⟨#[]⟩ : ByteArray), .int .i64 0, .bool false, .bool false] 118 ?_; intro gb108 hg w26 hbox hb; have BK108 := Aside0.mk (hbox); have GW108 := gE_ hg HB; have GE108 := gE_ hg HB; replace HB := bS_ HB hb; have NB105_108 := Aside0.mk ((by rw [hg]; exact Nat.ne_of_lt (blk_lt (g := gb105) (o := .cells #[.string a0_0, .slice (some ad107) l0_1.length c0_1] 59 (0, 0)) (bl_ BK105.out)) : gb105 ≠ gb108)); have NB108_105 := Aside0.mk ((by rw [hg]; exact Nat.ne_of_gt (blk_lt (g := gb105) (o := .cells #[.string a0_0, .slice (some ad107) l0_1.length c0_1] 59 (0, 0)) (bl_ BK105.out)) : gb108 ≠ gb105)); replace BK105 := kB_ BK105 hb; clear hb hbox hg; have hnb27 := NB108_105.out; have hnc27 := NB105_108.out; obtain ⟨hcz28_0, hcz28_1, hcz28_2, hcz28_3, hfz28_0, hfz28_1, hfz28_2, hfz28_3⟩ := zf4_ BK108))
       have n0_ : Aside0 (((((w26.setCell ⟨gb108, 0, none⟩ (.string ((rd_T118 l0_1 x28_1).f0))).setCell ⟨gb108, 1, none⟩ (.int .i64 ((rd_T118 l0_1 x28_1).f1))).setCell ⟨gb108, 2, none⟩ (.bool true)).setCell ⟨gb108, 3, none⟩ (.bool ((rd_T118 l0_1 x28_1).f3))).heap[gb105]? = some (.cells #[.string a0_0, .slice (some ad107) l0_1.length c0_1] 59 (0, 0))) := ⟨bp_ BK105⟩
       have n1_ : Aside0 (((((w26.setCell ⟨gb108, 0, none⟩ (.string ((rd_T118 l0_1 x28_1).f0))).setCell ⟨gb108, 1, none⟩ (.int .i64 ((rd_T118 l0_1 x28_1).f1))).setCell ⟨gb108, 2, none⟩ (.bool true)).setCell ⟨gb108, 3, none⟩ (.bool ((rd_T118 l0_1 x28_1).f3))).heap[gb108]? = some (.cells #[.string ((rd_T118 l0_1 x28_1).f0), .int .i64 ((rd_T118 l0_1 x28_1).f1), .bool true, .bool ((rd_T118 l0_1 x28_1).f3)] 118 (0, 0))) := ⟨bp_ BK108⟩
       have n2_ : Aside0 (Below w.heap.size w ((((w26.setCell ⟨gb108, 0, none⟩ (.string ((rd_T118 l0_1 x28_1).f0))).setCell ⟨gb108, 1, none⟩ (.int .i64 ((rd_T118 l0_1 x28_1).f1))).setCell ⟨gb108, 2, none⟩ (.bool true)).setCell ⟨gb108, 3, none⟩ (.bool ((rd_T118 l0_1 x28_1).f3)))) := ⟨bw_ HB.out⟩
       (try clear BK105); (try clear BK108); (try clear HB)
       generalize ((((w26.setCell ⟨gb108, 0, none⟩ (.string ((rd_T118 l0_1 x28_1).f0))).setCell ⟨gb108, 1, none⟩ (.int .i64 ((rd_T118 l0_1 x28_1).f1))).setCell ⟨gb108, 2, none⟩ (.bool true)).setCell ⟨gb108, 3, none⟩ (.bool ((rd_T118 l0_1 x28_1).f3))) = w29 at n0_ n1_ n2_ ⊢
       have BK105 := n0_
       have BK108 := n1_
       have HB := n2_
       clear n0_ n1_ n2_
       replace BK105 := kD_ BK105
       replace BK108 := kD_ BK108
       replace HB := bD_ HB
       have q31 : (x28_1 : Int) ≤ ((l0_1.length : Int) : Int) := ode_
       obtain ⟨i031, hi031, _, hsz31, _⟩ := info_parts info118
       have hroom31 : l0_1.length ≤ c0_1 := HC0_1.out
       have hC31 : Kd.C k118 _ (some ad107) l0_1.length l0_1 := HR0_1.out
       have hcut31 := cut_to (P := Tryz.prog) 57 118 .i64 Tryz.underlying57 hi031 (some ad107) l0_1.length c0_1 x28_1 (ode_) q31 hroom31
       have hr31 := Kd.C_take (m := (x28_1 : Int).toNat) hC31 (by omega)
       have hy31 : y109.length = (x28_1 : Int).toNat := (by rw [Ny109.out, List.length_take]; omega)
       rw [← Ny109.out] at hr31
       rw [← hy31] at hcut31
       have HR112 := Aside0.mk hr31
       have HC112 := Aside0.mk (show y109.length ≤ c0_1 from by omega)
       clear hr31 hC31 hroom31 hi031 hsz31
       have KY31 := Aside0.mk hy31
       clear hy31
       replace q31 := eq_true q31
       refine start_ (n := 7) (S := fun w' => w'.cell? ⟨gb108, 0, none⟩ = some (.string ((rd_T118 l0_1 x28_1).f0)) ∧ w'.cell? ⟨gb108, 1, none⟩ = some (.int .i64 ((rd_T118 l0_1 x28_1).f1)) ∧ w'.cell? ⟨gb108, 2, none⟩ = some (.bool true) ∧ w'.cell? ⟨gb108, 3, none⟩ = some (.bool ((rd_T118 l0_1 x28_1).f3)) ∧ w'.cell? ⟨gb105, 0, none⟩ = some (.string a0_0) ∧ w'.cell? ⟨gb105, 1, none⟩ = some (.slice (some ad107) l0_1.length c0_1)) (ds := []) #[false, false, false, false, false, false, false] (by kernel_rfl) rfl rfl ⟨(qkc BK108.out 0).trans rfl, (qkc BK108.out 1).trans rfl, (qkc BK108.out 2).trans rfl, (qkc BK108.out 3).trans rfl, (qkc BK105.out 0).trans rfl, (qkc BK105.out 1).trans rfl⟩ (fun hHeld => ?_)
       generalize w29.drew = w30 at BK105 BK108 HB HR112 hHeld ⊢
       refine pure_ (i := 1) (N := some 34) (v := ?_) (a' := ?_) #[false, true, false, false, false, false, false] rfl rfl (by kernel_rfl) (fun _ _ _ h => h) (Or.inl ⟨by rfl, ?_⟩) ?_ ?_
       rotate_left
       ·intro w'
        go_simp
        with_reducible rfl
       rotate_left
       ·simp only [Act.put, List.setIfInBounds_toArray, List.set_cons_zero, List.set_cons_succ, i64_w, i32_w]
        rfl
       refine pure_ (i := 3) (N := some 36) (v := ?_) (a' := ?_) #[false, true, false, true, false, false, false] rfl rfl (by kernel_rfl) (fun _ _ _ h => h) (Or.inl ⟨by rfl, ?_⟩) ?_ ?_
       rotate_left
       ·intro w'
        go_simp
        with_reducible rfl
       rotate_left
       ·simp only [Act.put, List.setIfInBounds_toArray, List.set_cons_zero, List.set_cons_succ, i64_w, i32_w]
        rfl
       refine take_ (i := 0) (N := some 33) (v := ?_) (a' := ?_) #[true, true, false, true, false, false, false] rfl rfl (by kernel_rfl) (fun _ _ _ h => h) (Or.inl ⟨by rfl, ?_⟩) hHeld ?_ ?_
       rotate_left
       ·rintro w' ⟨s0, s1, s2, s3, s4, s5⟩
        go_simp
        with_reducible rfl
       rotate_left
       ·simp only [Act.put, List.setIfInBounds_toArray, List.set_cons_zero, List.set_cons_succ, i64_w, i32_w]
        rfl
       refine take_ (i := 2) (N := some 35) (v := ?_) (a' := ?_) #[true, true, true, true, false, false, false] rfl rfl (by kernel_rfl) (fun _ _ _ h => h) (Or.inl ⟨by rfl, ?_⟩) hHeld ?_ ?_
       rotate_left
       ·rintro w' ⟨s0, s1, s2, s3, s4, s5⟩
        go_simp
        with_reducible rfl
       rotate_left
       ·simp only [Act.put, List.setIfInBounds_toArray, List.set_cons_zero, List.set_cons_succ, i64_w, i32_w]
        rfl
       refine pure_ (i := 4) (N := some 37) (v := ?_) (a' := ?_) #[true, true, true, true, true, false, false] rfl rfl (by kernel_rfl) (fun _ _ _ h => h) (Or.inl ⟨by rfl, ?_⟩) ?_ ?_
       rotate_left
       ·intro w'
        go_simp
        with_reducible rfl
       rotate_left
       ·simp only [Act.put, List.setIfInBounds_toArray, List.set_cons_zero, List.set_cons_succ, i64_w, i32_w]
        rfl
       refine one_ (i := 5) (N := some 38) #[true, true, true, true, true, true, false] rfl rfl (by kernel_rfl) (by decide) (fun K hK => ?_)
       refine goes_ Tryz.func70 (by kernel_rfl) rfl #[.agg #[.string ((rd_T118 l0_1 x28_1).f0), .int .i64 ((rd_T118 l0_1 x28_1).f1), .bool true, .bool ((rd_T118 l0_1 x28_1).f3)], .slice (some ad107) y109.length c0_1] (by rfl) rfl rfl (by (try simp only [List.map_toArray, List.map_cons, List.map_nil]); first | done | rfl | (simp only [List.length_drop, List.length_take]; rfl)) ?_
       with_reducible refine (table_column.calls k1 ((rd_T118 l0_1 x28_1).f0) ((rd_T118 l0_1 x28_1).f1) true ((rd_T118 l0_1 x28_1).f3) _ _ y109 none _ ?side1 ?side2 ?side3 (by have h_ := A23.out; rw [← Nbq24.out] at h_; exact h_)).mono ?_
       (case side1 => repeat (first | exact (Kd.C_below HR112.out HB.out) | (with_reducible refine Kd.C_alloc ?_ _) | (with_reducible refine Kd.C_drewN ?_ _) | (with_reducible refine Kd.C_drew ?_)))
       (case side2 => exact HC112.out)
       (case side3 => exact GW_below HG.out (bw_ HB.out))
       rintro e w32 ⟨rfl, hb⟩
       refine ⟨_, rfl, ?_⟩
       replace BK105 := kB_ BK105 hb
       replace BK108 := kB_ BK108 hb
       replace HB := bS_ HB hb
       (try clear hb)
       (try simp only [errW_none, errW_some])
       refine hK.out _ _ ⟨(qkc BK108.out 0).trans rfl, (qkc BK108.out 1).trans rfl, (qkc BK108.out 2).trans rfl, (qkc BK108.out 3).trans rfl, (qkc BK105.out 0).trans rfl, (qkc BK105.out 1).trans rfl⟩ (fun hHeld => ?_)
       clear hK K
       refine norm_ (a' := ?_) ?_ ?_
       rotate_left
       ·show Act.put _ (some 38) _ = _
        simp only [Act.put, List.setIfInBounds_toArray, List.set_cons_zero, List.set_cons_succ, i64_w, i32_w]
        rfl
       refine pure_ (i := 6) (N := some 6) (v := ?_) (a' := ?_) #[true, true, true, true, true, true, true] rfl rfl (by kernel_rfl) (fun _ _ _ h => h) (Or.inl ⟨by rfl, ?_⟩) ?_ ?_
       rotate_left
       ·intro w'
        go_simp
        with_reducible rfl
       rotate_left
       ·simp only [Act.put, List.setIfInBounds_toArray, List.set_cons_zero, List.set_cons_succ, i64_w, i32_w]
        rfl
       refine done_ (by kernel_rfl) ?_
       obtain ⟨hcz33_0, hcz33_1, hcz33_2, hcz33_3, hfz33_0, hfz33_1, hfz33_2, hfz33_3⟩ := zf4_ BK108
       try go_wp2
       go_roundg k1
       case measure => have := HK1.out; omega
       case rel => (try rw [← Nbq24.out]); exact ⟨(wrap64 (x3_1 + 1)), (wrap64 (x28_1 + 1)), fe_, fe_, H', ⟨by have := HK1.out; omega⟩, ⟨bp_ BK105⟩, ⟨bw_ HB.out⟩⟩
      replace c25 := Bool.eq_false_iff.mpr c25
      subst c25
      rw [if_neg (show ¬ (false = true) by decide)] at H
      have H' := Aside0.mk H
      clear H
      have p107 : 0 ≤ (x28_1 : Int) := ode_
      have q107 : x28_1 < (l0_1.length : Int) := ode_
      obtain ⟨ad107, e107, hx107_0, hx107_1, hx107_2, hx107_3⟩ := at_T118 HR0_1.out x28_1 p107 q107
      (try rw [← Nbq24.out] at hx107_2)
      (try rw [← Nbq24.out] at hx107_3)
      cases e107
      replace hx107_0 := hc_ HB hx107_0
      replace hx107_1 := hc_ HB hx107_1
      replace hx107_2 := hc_ HB hx107_2
      replace hx107_3 := hc_ HB hx107_3
      replace p107 := eq_true p107
      replace q107 := eq_true q107
      try go_wp2_with (first | ((with_reducible refine qgd (N := 5) rfl ?_); refine qB_ 5 #[.string (⟨#[]⟩ : ByteArray), .int .i64 0, .bool false, .bool false] 118 ?_; intro gb108 hg w34 hbox hb; have BK108 := Aside0.mk (hbox); have GW108 := gE_ hg HB; have GE108 := gE_ hg HB; replace HB := bS_ HB hb; have NB105_108 := Aside0.mk ((by rw [hg]; exact Nat.ne_of_lt (blk_lt (g := gb105) (o := .cells #[.string a0_0, .slice (some ad107) l0_1.length c0_1] 59 (0, 0)) (bl_ BK105.out)) : gb105 ≠ gb108)); have NB108_105 := Aside0.mk ((by rw [hg]; exact Nat.ne_of_gt (blk_lt (g := gb105) (o := .cells #[.string a0_0, .slice (some ad107) l0_1.length c0_1] 59 (0, 0)) (bl_ BK105.out)) : gb108 ≠ gb105)); replace BK105 := kB_ BK105 hb; clear hb hbox hg; have hnb35 := NB108_105.out; have hnc35 := NB105_108.out; obtain ⟨hcz36_0, hcz36_1, hcz36_2, hcz36_3, hfz36_0, hfz36_1, hfz36_2, hfz36_3⟩ := zf4_ BK108))
      have n0_ : Aside0 (((((w34.setCell ⟨gb108, 0, none⟩ (.string ((rd_T118 l0_1 x28_1).f0))).setCell ⟨gb108, 1, none⟩ (.int .i64 ((rd_T118 l0_1 x28_1).f1))).setCell ⟨gb108, 2, none⟩ (.bool false)).setCell ⟨gb108, 3, none⟩ (.bool ((rd_T118 l0_1 x28_1).f3))).heap[gb105]? = some (.cells #[.string a0_0, .slice (some ad107) l0_1.length c0_1] 59 (0, 0))) := ⟨bp_ BK105⟩
      have n1_ : Aside0 (((((w34.setCell ⟨gb108, 0, none⟩ (.string ((rd_T118 l0_1 x28_1).f0))).setCell ⟨gb108, 1, none⟩ (.int .i64 ((rd_T118 l0_1 x28_1).f1))).setCell ⟨gb108, 2, none⟩ (.bool false)).setCell ⟨gb108, 3, none⟩ (.bool ((rd_T118 l0_1 x28_1).f3))).heap[gb108]? = some (.cells #[.string ((rd_T118 l0_1 x28_1).f0), .int .i64 ((rd_T118 l0_1 x28_1).f1), .bool false, .bool ((rd_T118 l0_1 x28_1).f3)] 118 (0, 0))) := ⟨bp_ BK108⟩
      have n2_ : Aside0 (Below w.heap.size w ((((w34.setCell ⟨gb108, 0, none⟩ (.string ((rd_T118 l0_1 x28_1).f0))).setCell ⟨gb108, 1, none⟩ (.int .i64 ((rd_T118 l0_1 x28_1).f1))).setCell ⟨gb108, 2, none⟩ (.bool false)).setCell ⟨gb108, 3, none⟩ (.bool ((rd_T118 l0_1 x28_1).f3)))) := ⟨bw_ HB.out⟩
      (try clear BK105); (try clear BK108); (try clear HB)
      generalize ((((w34.setCell ⟨gb108, 0, none⟩ (.string ((rd_T118 l0_1 x28_1).f0))).setCell ⟨gb108, 1, none⟩ (.int .i64 ((rd_T118 l0_1 x28_1).f1))).setCell ⟨gb108, 2, none⟩ (.bool false)).setCell ⟨gb108, 3, none⟩ (.bool ((rd_T118 l0_1 x28_1).f3))) = w37 at n0_ n1_ n2_ ⊢
      have BK105 := n0_
      have BK108 := n1_
      have HB := n2_
      clear n0_ n1_ n2_
      replace BK105 := kD_ BK105
      replace BK108 := kD_ BK108
      replace HB := bD_ HB
      have q39 : (x28_1 : Int) ≤ ((l0_1.length : Int) : Int) := ode_
      obtain ⟨i039, hi039, _, hsz39, _⟩ := info_parts info118
      have hroom39 : l0_1.length ≤ c0_1 := HC0_1.out
      have hC39 : Kd.C k118 _ (some ad107) l0_1.length l0_1 := HR0_1.out
      have hcut39 := cut_to (P := Tryz.prog) 57 118 .i64 Tryz.underlying57 hi039 (some ad107) l0_1.length c0_1 x28_1 (ode_) q39 hroom39
      have hr39 := Kd.C_take (m := (x28_1 : Int).toNat) hC39 (by omega)
      have hy39 : y109.length = (x28_1 : Int).toNat := (by rw [Ny109.out, List.length_take]; omega)
      rw [← Ny109.out] at hr39
      rw [← hy39] at hcut39
      have HR112 := Aside0.mk hr39
      have HC112 := Aside0.mk (show y109.length ≤ c0_1 from by omega)
      clear hr39 hC39 hroom39 hi039 hsz39
      have KY39 := Aside0.mk hy39
      clear hy39
      replace q39 := eq_true q39
      refine start_ (n := 7) (S := fun w' => w'.cell? ⟨gb108, 0, none⟩ = some (.string ((rd_T118 l0_1 x28_1).f0)) ∧ w'.cell? ⟨gb108, 1, none⟩ = some (.int .i64 ((rd_T118 l0_1 x28_1).f1)) ∧ w'.cell? ⟨gb108, 2, none⟩ = some (.bool false) ∧ w'.cell? ⟨gb108, 3, none⟩ = some (.bool ((rd_T118 l0_1 x28_1).f3)) ∧ w'.cell? ⟨gb105, 0, none⟩ = some (.string a0_0) ∧ w'.cell? ⟨gb105, 1, none⟩ = some (.slice (some ad107) l0_1.length c0_1)) (ds := []) #[false, false, false, false, false, false, false] (by kernel_rfl) rfl rfl ⟨(qkc BK108.out 0).trans rfl, (qkc BK108.out 1).trans rfl, (qkc BK108.out 2).trans rfl, (qkc BK108.out 3).trans rfl, (qkc BK105.out 0).trans rfl, (qkc BK105.out 1).trans rfl⟩ (fun hHeld => ?_)
      generalize w37.drew = w38 at BK105 BK108 HB HR112 hHeld ⊢
      refine pure_ (i := 1) (N := some 34) (v := ?_) (a' := ?_) #[false, true, false, false, false, false, false] rfl rfl (by kernel_rfl) (fun _ _ _ h => h) (Or.inl ⟨by rfl, ?_⟩) ?_ ?_
      rotate_left
      ·intro w'
       go_simp
       with_reducible rfl
      rotate_left
      ·simp only [Act.put, List.setIfInBounds_toArray, List.set_cons_zero, List.set_cons_succ, i64_w, i32_w]
       rfl
      refine pure_ (i := 3) (N := some 36) (v := ?_) (a' := ?_) #[false, true, false, true, false, false, false] rfl rfl (by kernel_rfl) (fun _ _ _ h => h) (Or.inl ⟨by rfl, ?_⟩) ?_ ?_
      rotate_left
      ·intro w'
       go_simp
       with_reducible rfl
      rotate_left
      ·simp only [Act.put, List.setIfInBounds_toArray, List.set_cons_zero, List.set_cons_succ, i64_w, i32_w]
       rfl
      refine take_ (i := 0) (N := some 33) (v := ?_) (a' := ?_) #[true, true, false, true, false, false, false] rfl rfl (by kernel_rfl) (fun _ _ _ h => h) (Or.inl ⟨by rfl, ?_⟩) hHeld ?_ ?_
      rotate_left
      ·rintro w' ⟨s0, s1, s2, s3, s4, s5⟩
       go_simp
       with_reducible rfl
      rotate_left
      ·simp only [Act.put, List.setIfInBounds_toArray, List.set_cons_zero, List.set_cons_succ, i64_w, i32_w]
       rfl
      refine take_ (i := 2) (N := some 35) (v := ?_) (a' := ?_) #[true, true, true, true, false, false, false] rfl rfl (by kernel_rfl) (fun _ _ _ h => h) (Or.inl ⟨by rfl, ?_⟩) hHeld ?_ ?_
      rotate_left
      ·rintro w' ⟨s0, s1, s2, s3, s4, s5⟩
       go_simp
       with_reducible rfl
      rotate_left
      ·simp only [Act.put, List.setIfInBounds_toArray, List.set_cons_zero, List.set_cons_succ, i64_w, i32_w]
       rfl
      refine pure_ (i := 4) (N := some 37) (v := ?_) (a' := ?_) #[true, true, true, true, true, false, false] rfl rfl (by kernel_rfl) (fun _ _ _ h => h) (Or.inl ⟨by rfl, ?_⟩) ?_ ?_
      rotate_left
      ·intro w'
       go_simp
       with_reducible rfl
      rotate_left
      ·simp only [Act.put, List.setIfInBounds_toArray, List.set_cons_zero, List.set_cons_succ, i64_w, i32_w]
       rfl
      refine one_ (i := 5) (N := some 38) #[true, true, true, true, true, true, false] rfl rfl (by kernel_rfl) (by decide) (fun K hK => ?_)
      refine goes_ Tryz.func70 (by kernel_rfl) rfl #[.agg #[.string ((rd_T118 l0_1 x28_1).f0), .int .i64 ((rd_T118 l0_1 x28_1).f1), .bool false, .bool ((rd_T118 l0_1 x28_1).f3)], .slice (some ad107) y109.length c0_1] (by rfl) rfl rfl (by (try simp only [List.map_toArray, List.map_cons, List.map_nil]); first | done | rfl | (simp only [List.length_drop, List.length_take]; rfl)) ?_
      with_reducible refine (table_column.calls k1 ((rd_T118 l0_1 x28_1).f0) ((rd_T118 l0_1 x28_1).f1) false ((rd_T118 l0_1 x28_1).f3) _ _ y109 none _ ?side1 ?side2 ?side3 (by have h_ := A23.out; rw [← Nbq24.out] at h_; exact h_)).mono ?_
      (case side1 => repeat (first | exact (Kd.C_below HR112.out HB.out) | (with_reducible refine Kd.C_alloc ?_ _) | (with_reducible refine Kd.C_drewN ?_ _) | (with_reducible refine Kd.C_drew ?_)))
      (case side2 => exact HC112.out)
      (case side3 => exact GW_below HG.out (bw_ HB.out))
      rintro e w40 ⟨rfl, hb⟩
      refine ⟨_, rfl, ?_⟩
      replace BK105 := kB_ BK105 hb
      replace BK108 := kB_ BK108 hb
      replace HB := bS_ HB hb
      (try clear hb)
      (try simp only [errW_none, errW_some])
      refine hK.out _ _ ⟨(qkc BK108.out 0).trans rfl, (qkc BK108.out 1).trans rfl, (qkc BK108.out 2).trans rfl, (qkc BK108.out 3).trans rfl, (qkc BK105.out 0).trans rfl, (qkc BK105.out 1).trans rfl⟩ (fun hHeld => ?_)
      clear hK K
      refine norm_ (a' := ?_) ?_ ?_
      rotate_left
      ·show Act.put _ (some 38) _ = _
       simp only [Act.put, List.setIfInBounds_toArray, List.set_cons_zero, List.set_cons_succ, i64_w, i32_w]
       rfl
      refine pure_ (i := 6) (N := some 6) (v := ?_) (a' := ?_) #[true, true, true, true, true, true, true] rfl rfl (by kernel_rfl) (fun _ _ _ h => h) (Or.inl ⟨by rfl, ?_⟩) ?_ ?_
      rotate_left
      ·intro w'
       go_simp
       with_reducible rfl
      rotate_left
      ·simp only [Act.put, List.setIfInBounds_toArray, List.set_cons_zero, List.set_cons_succ, i64_w, i32_w]
       rfl
      refine done_ (by kernel_rfl) ?_
      obtain ⟨hcz41_0, hcz41_1, hcz41_2, hcz41_3, hfz41_0, hfz41_1, hfz41_2, hfz41_3⟩ := zf4_ BK108
      try go_wp2
      go_roundg k1
      case measure => have := HK1.out; omega
      case rel => (try rw [← Nbq24.out]); exact ⟨(x3_1), (wrap64 (x28_1 + 1)), fe_, fe_, H', ⟨by have := HK1.out; omega⟩, ⟨bp_ BK105⟩, ⟨bw_ HB.out⟩⟩
     have H1 : (some (some q114)) = some r := by rw [if_neg (show ¬ (some q114).isNone = true by simp)] at H; exact H
     clear H
     have H := H1
     clear H1
     try simp only [errW_none, errW_some]
     obtain rfl := Option.some.inj H
     have p107 : 0 ≤ (x28_1 : Int) := ode_
     have q107 : x28_1 < (l0_1.length : Int) := ode_
     obtain ⟨ad107, e107, hx107_0, hx107_1, hx107_2, hx107_3⟩ := at_T118 HR0_1.out x28_1 p107 q107
     cases e107
     replace hx107_0 := hc_ HB hx107_0
     replace hx107_1 := hc_ HB hx107_1
     replace hx107_2 := hc_ HB hx107_2
     replace hx107_3 := hc_ HB hx107_3
     replace p107 := eq_true p107
     replace q107 := eq_true q107
     try go_wp2_with (first | ((with_reducible refine qgd (N := 5) rfl ?_); refine qB_ 5 #[.string (⟨#[]⟩ : ByteArray), .int .i64 0, .bool false, .bool false] 118 ?_; intro gb108 hg w42 hbox hb; have BK108 := Aside0.mk (hbox); have GW108 := gE_ hg HB; have GE108 := gE_ hg HB; replace HB := bS_ HB hb; have NB105_108 := Aside0.mk ((by rw [hg]; exact Nat.ne_of_lt (blk_lt (g := gb105) (o := .cells #[.string a0_0, .slice (some ad107) l0_1.length c0_1] 59 (0, 0)) (bl_ BK105.out)) : gb105 ≠ gb108)); have NB108_105 := Aside0.mk ((by rw [hg]; exact Nat.ne_of_gt (blk_lt (g := gb105) (o := .cells #[.string a0_0, .slice (some ad107) l0_1.length c0_1] 59 (0, 0)) (bl_ BK105.out)) : gb108 ≠ gb105)); replace BK105 := kB_ BK105 hb; clear hb hbox hg; have hnb43 := NB108_105.out; have hnc43 := NB105_108.out; obtain ⟨hcz44_0, hcz44_1, hcz44_2, hcz44_3, hfz44_0, hfz44_1, hfz44_2, hfz44_3⟩ := zf4_ BK108))
     have n0_ : Aside0 (((((w42.setCell ⟨gb108, 0, none⟩ (.string ((rd_T118 l0_1 x28_1).f0))).setCell ⟨gb108, 1, none⟩ (.int .i64 ((rd_T118 l0_1 x28_1).f1))).setCell ⟨gb108, 2, none⟩ (.bool ((rd_T118 l0_1 x28_1).f2))).setCell ⟨gb108, 3, none⟩ (.bool ((rd_T118 l0_1 x28_1).f3))).heap[gb105]? = some (.cells #[.string a0_0, .slice (some ad107) l0_1.length c0_1] 59 (0, 0))) := ⟨bp_ BK105⟩
     have n1_ : Aside0 (((((w42.setCell ⟨gb108, 0, none⟩ (.string ((rd_T118 l0_1 x28_1).f0))).setCell ⟨gb108, 1, none⟩ (.int .i64 ((rd_T118 l0_1 x28_1).f1))).setCell ⟨gb108, 2, none⟩ (.bool ((rd_T118 l0_1 x28_1).f2))).setCell ⟨gb108, 3, none⟩ (.bool ((rd_T118 l0_1 x28_1).f3))).heap[gb108]? = some (.cells #[.string ((rd_T118 l0_1 x28_1).f0), .int .i64 ((rd_T118 l0_1 x28_1).f1), .bool ((rd_T118 l0_1 x28_1).f2), .bool ((rd_T118 l0_1 x28_1).f3)] 118 (0, 0))) := ⟨bp_ BK108⟩
     have n2_ : Aside0 (Below w.heap.size w ((((w42.setCell ⟨gb108, 0, none⟩ (.string ((rd_T118 l0_1 x28_1).f0))).setCell ⟨gb108, 1, none⟩ (.int .i64 ((rd_T118 l0_1 x28_1).f1))).setCell ⟨gb108, 2, none⟩ (.bool ((rd_T118 l0_1 x28_1).f2))).setCell ⟨gb108, 3, none⟩ (.bool ((rd_T118 l0_1 x28_1).f3)))) := ⟨bw_ HB.out⟩
     (try clear BK105); (try clear BK108); (try clear HB)
     generalize ((((w42.setCell ⟨gb108, 0, none⟩ (.string ((rd_T118 l0_1 x28_1).f0))).setCell ⟨gb108, 1, none⟩ (.int .i64 ((rd_T118 l0_1 x28_1).f1))).setCell ⟨gb108, 2, none⟩ (.bool ((rd_T118 l0_1 x28_1).f2))).setCell ⟨gb108, 3, none⟩ (.bool ((rd_T118 l0_1 x28_1).f3))) = w45 at n0_ n1_ n2_ ⊢
     have BK105 := n0_
     have BK108 := n1_
     have HB := n2_
     clear n0_ n1_ n2_
     replace BK105 := kD_ BK105
     replace BK108 := kD_ BK108
     replace HB := bD_ HB
     have q47 : (x28_1 : Int) ≤ ((l0_1.length : Int) : Int) := ode_
     obtain ⟨i047, hi047, _, hsz47, _⟩ := info_parts info118
     have hroom47 : l0_1.length ≤ c0_1 := HC0_1.out
     have hC47 : Kd.C k118 _ (some ad107) l0_1.length l0_1 := HR0_1.out
     have hcut47 := cut_to (P := Tryz.prog) 57 118 .i64 Tryz.underlying57 hi047 (some ad107) l0_1.length c0_1 x28_1 (ode_) q47 hroom47
     have hr47 := Kd.C_take (m := (x28_1 : Int).toNat) hC47 (by omega)
     have hy47 : y109.length = (x28_1 : Int).toNat := (by rw [Ny109.out, List.length_take]; omega)
     rw [← Ny109.out] at hr47
     rw [← hy47] at hcut47
     have HR112 := Aside0.mk hr47
     have HC112 := Aside0.mk (show y109.length ≤ c0_1 from by omega)
     clear hr47 hC47 hroom47 hi047 hsz47
     have KY47 := Aside0.mk hy47
     clear hy47
     replace q47 := eq_true q47
     refine start_ (n := 7) (S := fun w' => w'.cell? ⟨gb108, 0, none⟩ = some (.string ((rd_T118 l0_1 x28_1).f0)) ∧ w'.cell? ⟨gb108, 1, none⟩ = some (.int .i64 ((rd_T118 l0_1 x28_1).f1)) ∧ w'.cell? ⟨gb108, 2, none⟩ = some (.bool ((rd_T118 l0_1 x28_1).f2)) ∧ w'.cell? ⟨gb108, 3, none⟩ = some (.bool ((rd_T118 l0_1 x28_1).f3)) ∧ w'.cell? ⟨gb105, 0, none⟩ = some (.string a0_0) ∧ w'.cell? ⟨gb105, 1, none⟩ = some (.slice (some ad107) l0_1.length c0_1)) (ds := []) #[false, false, false, false, false, false, false] (by kernel_rfl) rfl rfl ⟨(qkc BK108.out 0).trans rfl, (qkc BK108.out 1).trans rfl, (qkc BK108.out 2).trans rfl, (qkc BK108.out 3).trans rfl, (qkc BK105.out 0).trans rfl, (qkc BK105.out 1).trans rfl⟩ (fun hHeld => ?_)
     generalize w45.drew = w46 at BK105 BK108 HB HR112 hHeld ⊢
     refine pure_ (i := 1) (N := some 34) (v := ?_) (a' := ?_) #[false, true, false, false, false, false, false] rfl rfl (by kernel_rfl) (fun _ _ _ h => h) (Or.inl ⟨by rfl, ?_⟩) ?_ ?_
     rotate_left
     ·intro w'
      go_simp
      with_reducible rfl
     rotate_left
     ·simp only [Act.put, List.setIfInBounds_toArray, List.set_cons_zero, List.set_cons_succ, i64_w, i32_w]
      rfl
     refine pure_ (i := 3) (N := some 36) (v := ?_) (a' := ?_) #[false, true, false, true, false, false, false] rfl rfl (by kernel_rfl) (fun _ _ _ h => h) (Or.inl ⟨by rfl, ?_⟩) ?_ ?_
     rotate_left
     ·intro w'
      go_simp
      with_reducible rfl
     rotate_left
     ·simp only [Act.put, List.setIfInBounds_toArray, List.set_cons_zero, List.set_cons_succ, i64_w, i32_w]
      rfl
     refine take_ (i := 0) (N := some 33) (v := ?_) (a' := ?_) #[true, true, false, true, false, false, false] rfl rfl (by kernel_rfl) (fun _ _ _ h => h) (Or.inl ⟨by rfl, ?_⟩) hHeld ?_ ?_
     rotate_left
     ·rintro w' ⟨s0, s1, s2, s3, s4, s5⟩
      go_simp
      with_reducible rfl
     rotate_left
     ·simp only [Act.put, List.setIfInBounds_toArray, List.set_cons_zero, List.set_cons_succ, i64_w, i32_w]
      rfl
     refine take_ (i := 2) (N := some 35) (v := ?_) (a' := ?_) #[true, true, true, true, false, false, false] rfl rfl (by kernel_rfl) (fun _ _ _ h => h) (Or.inl ⟨by rfl, ?_⟩) hHeld ?_ ?_
     rotate_left
     ·rintro w' ⟨s0, s1, s2, s3, s4, s5⟩
      go_simp
      with_reducible rfl
     rotate_left
     ·simp only [Act.put, List.setIfInBounds_toArray, List.set_cons_zero, List.set_cons_succ, i64_w, i32_w]
      rfl
     refine pure_ (i := 4) (N := some 37) (v := ?_) (a' := ?_) #[true, true, true, true, true, false, false] rfl rfl (by kernel_rfl) (fun _ _ _ h => h) (Or.inl ⟨by rfl, ?_⟩) ?_ ?_
     rotate_left
     ·intro w'
      go_simp
      with_reducible rfl
     rotate_left
     ·simp only [Act.put, List.setIfInBounds_toArray, List.set_cons_zero, List.set_cons_succ, i64_w, i32_w]
      rfl
     refine one_ (i := 5) (N := some 38) #[true, true, true, true, true, true, false] rfl rfl (by kernel_rfl) (by decide) (fun K hK => ?_)
     refine goes_ Tryz.func70 (by kernel_rfl) rfl #[.agg #[.string ((rd_T118 l0_1 x28_1).f0), .int .i64 ((rd_T118 l0_1 x28_1).f1), .bool ((rd_T118 l0_1 x28_1).f2), .bool ((rd_T118 l0_1 x28_1).f3)], .slice (some ad107) y109.length c0_1] (by rfl) rfl rfl (by (try simp only [List.map_toArray, List.map_cons, List.map_nil]); first | done | rfl | (simp only [List.length_drop, List.length_take]; rfl)) ?_
     with_reducible refine (table_column.calls k1 ((rd_T118 l0_1 x28_1).f0) ((rd_T118 l0_1 x28_1).f1) ((rd_T118 l0_1 x28_1).f2) ((rd_T118 l0_1 x28_1).f3) _ _ y109 (some q114) _ ?side1 ?side2 ?side3 A23.out).mono ?_
     (case side1 => repeat (first | exact (Kd.C_below HR112.out HB.out) | (with_reducible refine Kd.C_alloc ?_ _) | (with_reducible refine Kd.C_drewN ?_ _) | (with_reducible refine Kd.C_drew ?_)))
     (case side2 => exact HC112.out)
     (case side3 => exact GW_below HG.out (bw_ HB.out))
     rintro e w48 ⟨rfl, hb⟩
     refine ⟨_, rfl, ?_⟩
     replace BK105 := kB_ BK105 hb
     replace BK108 := kB_ BK108 hb
     replace HB := bS_ HB hb
     (try clear hb)
     (try simp only [errW_none, errW_some])
     refine hK.out _ _ ⟨(qkc BK108.out 0).trans rfl, (qkc BK108.out 1).trans rfl, (qkc BK108.out 2).trans rfl, (qkc BK108.out 3).trans rfl, (qkc BK105.out 0).trans rfl, (qkc BK105.out 1).trans rfl⟩ (fun hHeld => ?_)
     clear hK K
     refine norm_ (a' := ?_) ?_ ?_
     rotate_left
     ·show Act.put _ (some 38) _ = _
      simp only [Act.put, List.setIfInBounds_toArray, List.set_cons_zero, List.set_cons_succ, i64_w, i32_w]
      rfl
     refine pure_ (i := 6) (N := some 6) (v := ?_) (a' := ?_) #[true, true, true, true, true, true, true] rfl rfl (by kernel_rfl) (fun _ _ _ h => h) (Or.inl ⟨by rfl, ?_⟩) ?_ ?_
     rotate_left
     ·intro w'
      go_simp
      with_reducible rfl
     rotate_left
     ·simp only [Act.put, List.setIfInBounds_toArray, List.set_cons_zero, List.set_cons_succ, i64_w, i32_w]
      rfl
     refine done_ (by kernel_rfl) ?_
     try go_wp2
     go_ret
     exact ⟨fr_, bw_ HB.out⟩
    rw [if_neg c18] at H
    have c18b0 := dcF c18
    clear c18
    by_cases c49 : x3_1 = 0
    ·rw [if_pos c49] at H
     have ⟨c49b0, c49b1⟩ := eqT c49
     clear c49
     obtain rfl := Option.some.inj H
     go_wp2
     go_ret
     exact ⟨fr_, bw_ HB.out⟩
    rw [if_neg c49] at H
    have ⟨c49b0, c49b1⟩ := eqF c49
    obtain rfl := Option.some.inj H
    go_wp2
    go_ret
    exact ⟨fr_, bw_ HB.out⟩
 replace c3 := Bool.eq_false_iff.mpr c3
 subst c3
 rw [if_neg (show ¬ (false = true) by decide)] at H
 obtain rfl := Option.some.inj H
 go_enter Tryz.func43, Tryz.ntmps43
 go_wp2_with (first | ((with_reducible refine qgd (N := 1) rfl ?_); refine qB_ 1 #[.string a0_0, .slice A0_1 l0_1.length c0_1] 59 ?_; intro gb105 hg w50 hbox hb; have BK105 := Aside0.mk (hbox); have GW105 := gE_ hg HB; have GE105 := gE_ hg HB; replace HB := bS_ HB hb; clear hb hbox hg; obtain ⟨hcz51_0, hcz51_1, hfz51_0, hfz51_1⟩ := zf2_ BK105) | ((with_reducible refine qgc (f := 40) rfl ?_); refine gL_ (some 10) Tryz.func40 #[.string a0_0] ?_; (with_reducible refine (table_Name.calls k a0_0 false _ ?side1 A2.out).mono ?_); (case side1 => exact GW_below HG.out (bw_ HB.out)); rintro e w52 ⟨rfl, hb⟩; refine ⟨_, rfl, ?_⟩; replace BK105 := kB_ BK105 hb; replace HB := bS_ HB hb; clear hb))
 go_ret
 exact ⟨fr_, bw_ HB.out⟩

/-! ### EXT clone_Column: function 71 -/
theorem info_col_ : (Tryz.prog.info? 118).map (fun i => (i.zero, i.size, i.bytes)) = some (some (.agg #[.string ⟨#[]⟩, .int .i64 0, .bool false, .bool false]), 4, 32) := by kernel_rfl
def clone_Column.f (l0 : List S118) : Option (List S118) := if l0.length * 32 ≤ 140737488355328 then some l0 else none
theorem C_none {α : Type} {d : Kd α} {w : World} {l : List α} (h : Kd.C d w none l.length l) : l = [] := by
 rcases l with _ | ⟨x, l⟩
 ·rfl
 obtain ⟨ad, c, e, _⟩ := Kd.C_get h x 0 (by omega) (by simp); cases e
set_option maxHeartbeats 8000000 in
set_option maxRecDepth 100000 in
theorem clone_Column.calls (A0 : Option Addr) (c0 : Nat) (l0 : List S118) (r : List S118) (w : World) (hr0 : Kd.C k118 w A0 l0.length l0) (hc0 : l0.length ≤ c0) (h : clone_Column.f l0 = some r) :
  Calls Tryz.prog 71 #[.slice A0 l0.length c0] w fun e w' => ∃ v0_ : Value, e = .returned v0_ ∧ Kd.R k118 118 w' w.heap.size (fun _ => True) v0_ r ∧ Below w.heap.size w w' := by
 unfold clone_Column.f at h
 by_cases hl : l0.length * 32 ≤ 140737488355328
 ·rw [if_pos hl] at h
  obtain rfl := Option.some.inj h
  have HL := Aside0.mk hl
  have HR := Aside0.mk hr0
  have HC := Aside0.mk hc0
  clear hl h hc0 hr0
  have q_ := fun (w : World) (a : Option Addr) (n c n2 c2 : Nat) => Lib.run_eql_slice_nil (P := Tryz.prog) w _ _ a n c n2 c2 Tryz.underlying57
  cases A0 with
  | none =>
   obtain rfl := C_none HR.out
   go_enter Tryz.func71, Tryz.ntmps71
   go_wp2
   go_ret
   exact ⟨_, rfl, Kd.R_nil _ _ _ _ _, Below.refl _ _⟩
  | some a =>
   go_enter Tryz.func71, Tryz.ntmps71
   go_wp2_with (first
    | ((with_reducible refine qgd (N := 5) rfl ?_); refine Kd.R_lit k118 (w0 := w) w.heap.size 118 ?hg (N := 5) ?hd (xs := ([] : List S118)) (inner := []) (ok := fun _ => True) (okp := fun _ => True) ?hr (Reps.none _ _) (fun _ hk => hk) trivial (Below.refl _ _) (Nat.le_refl _) (by simp) ?_; (case hd => rfl); (case hg => rfl); (case hr => first | (go_simp; done) | (go_simp; rfl)); intro v1 w1 ho hb hg_ hnew_; have HO := Aside0.mk ho; have HB := Aside0.mk hb; clear ho hb hg_ hnew_)
    | ((with_reducible refine gate_builtin (b := .append) (xs := #[.tmp 5, .tmp 6]) rfl ?_); at_builtin; refine Kd.R_append_rows k118 (w0 := w) w.heap.size rfl (.tmp 5) (.tmp 6) 57 118 (.agg #[.string ⟨#[]⟩, .int .i64 0, .bool false, .bool false]) 32 rfl Tryz.underlying57 info_col_ rfl (by decide) (by omega) v1 [] l0 _ _ _ (fun _ => True) (fun _ => False) rfl rfl HO.out (Kd.C_below HR.out HB.out) ?aK (fun _ hk => hk.elim) (fun _ _ => trivial) HB.out (qbz HB.out) (by have := HL.out; simp; omega) ?_; (case aK => intro x cs hx; obtain rfl := k118_open hx; exact k118_mkM _ _ _ _); intro v2 w2 ho2 hb2 hg2 hat2; clear hg2 hat2; have HO2 := Aside0.mk ho2; have HB2 := Aside0.mk hb2; clear ho2 hb2))
   go_ret
   exact ⟨_, rfl, HO2.out, HB2.out⟩
 rw [if_neg hl] at h; cases h

/-! ### table_own: function 44 -/
def table_own.f (a0_0 : ByteArray) (l0_1 : List (S118)) : Option (ByteArray × (List (S118))) := (clone_Column.f l0_1).bind fun t117 => (some (a0_0, t117))
set_option maxHeartbeats 8000000 in
set_option maxRecDepth 100000 in
theorem table_own.calls (a0_0 : ByteArray) (A0_1 : Option Addr) (c0_1 : Nat) (l0_1 : List (S118)) (r1 : ByteArray) (r2 : List (S118)) (w : World) (hr0_1 : Kd.C k118 w A0_1 l0_1.length l0_1) (hc0_1 : l0_1.length ≤ c0_1) (h : table_own.f a0_0 l0_1 = some (r1, r2)) :
  Calls Tryz.prog 44 #[.agg #[.string a0_0, .slice A0_1 l0_1.length c0_1]] w fun e w' => ∃ v1_ : Value, e = .returned (.agg #[.string r1, v1_]) ∧ Kd.R k118 118 w' w.heap.size (fun _ => True) v1_ r2 ∧ Below w.heap.size w w' := by
 have hu59 := Tryz.underlying59
 have HR0_1 := Aside0.mk hr0_1
 have HC0_1 := Aside0.mk hc0_1
 clear hr0_1 hc0_1
 have HB := Aside0.mk (Below.refl w.heap.size w)
 have H : ((clone_Column.f l0_1).bind fun t117 => (some (a0_0, t117))) = some (r1, r2) := h
 clear h
 obtain ⟨t117, A2, H⟩ := bn_ H; (try dsimp only at H)
 obtain ⟨rfl, rfl⟩ := so2 H
 go_enter Tryz.func44, Tryz.ntmps44
 go_wp2_with (first | ((with_reducible refine qgd (N := 1) rfl ?_); refine qB_ 1 #[.string a0_0, .slice A0_1 l0_1.length c0_1] 59 ?_; intro gb115 hg w3 hbox hb; have BK115 := Aside0.mk (hbox); have GW115 := gE_ hg HB; have GE115 := gE_ hg HB; replace HB := bS_ HB hb; clear hb hbox hg) | ((with_reducible refine qgd (N := 2) rfl ?_); refine qB_ 2 #[.string (⟨#[]⟩ : ByteArray), .slice none 0 0] 59 ?_; intro gb116 hg w4 hbox hb; have BK116 := Aside0.mk (hbox); have GW116 := gE_ hg HB; have GE116 := gE_ hg HB; replace HB := bS_ HB hb; have NB115_116 := Aside0.mk ((by rw [hg]; exact Nat.ne_of_lt (blk_lt (g := gb115) (o := .cells #[.string a0_0, .slice A0_1 l0_1.length c0_1] 59 (0, 0)) (bl_ BK115.out)) : gb115 ≠ gb116)); have NB116_115 := Aside0.mk ((by rw [hg]; exact Nat.ne_of_gt (blk_lt (g := gb115) (o := .cells #[.string a0_0, .slice A0_1 l0_1.length c0_1] 59 (0, 0)) (bl_ BK115.out)) : gb116 ≠ gb115)); replace BK115 := kB_ BK115 hb; clear hb hbox hg; have hnb5 := NB115_116.out; have hnc5 := NB116_115.out; obtain ⟨hcz6_0, hcz6_1, hfz6_0, hfz6_1⟩ := zf2_ BK115) | ((with_reducible refine qgc (f := 71) rfl ?_); refine gL_ (some 5) Tryz.func71 #[.slice A0_1 l0_1.length c0_1] ?_; (with_reducible refine (clone_Column.calls _ _ l0_1 t117 _ ?side1 ?side2 A2.out).mono ?_); (case side1 => exact kC_ (Kd.C_below HR0_1.out HB.out)); (case side2 => exact HC0_1.out); rintro e w7 ⟨v118, rfl, ho0, hb⟩; refine ⟨_, rfl, ?_⟩; have HO119 := Rl_ ho0 HB; replace BK115 := kB_ BK115 hb; replace BK116 := kB_ BK116 hb; replace HB := bS_ HB hb; clear hb; (try clear ho0); obtain ⟨Ao8, co8, eo8⟩ := Kd.R_slice HO119.out; subst eo8; obtain ⟨hcz9_0, hcz9_1, hfz9_0, hfz9_1⟩ := zf2_ BK115; obtain ⟨hcz10_0, hcz10_1, hfz10_0, hfz10_1⟩ := zf2_ BK116))
 refine bodyPost_ret (results_cell_row rfl _ _ gb116 59 #[.string a0_0, .slice Ao8 t117.length co8] (0, 0) _ rfl (bp_ BK116) Tryz.underlying59 rfl (by kernel_rfl)) rfl ?_
 exact ⟨_, fr_, by (with_reducible repeat (first | apply Kd.R_alloc | apply Kd.R_drewN | apply Kd.R_drew)); exact Kd.R_mono (Kd.R_far (p := ⟨gb116, 1, none⟩) (Kd.R_far (p := ⟨gb116, 0, none⟩) (Kd.R_far (p := ⟨gb115, 1, none⟩) (Kd.R_types (Kd.R_types HO119.out BK115.out (by decide)) BK116.out (by decide)) (fun _ hk => hk.1.2) (.slice Ao8 t117.length co8)) (fun _ hk => hk.2) (.string a0_0)) (fun _ hk => hk.2) (.slice Ao8 t117.length co8)) (fun _ hk => trivial), bw_ HB.out⟩

end Go.Proofs.YtddkbhglbkfelaaGreatDoor.T
