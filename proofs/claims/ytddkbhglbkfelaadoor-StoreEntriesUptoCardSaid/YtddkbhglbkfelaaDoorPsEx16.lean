import Derived.Test.YtddkbhglbkfelaaDoorPsEx0
import Derived.Test.YtddkbhglbkfelaaDoorPsEx9
import Derived.Test.YtddkbhglbkfelaaDoorPsEx15
namespace Go.Proofs.YtddkbhglbkfelaaDoor.E
open Go.RowKit Go.Proofs.YtddkbhglbkfelaaDoorW.PrintWords Go.Proofs.YtddkbhglbkfelaaDoorW.PrintLast Go.Proofs.YtddkbhglbkfelaaDoorW.PrintMore Go.Proofs.YtddkbhglbkfelaaDoorX
attribute [local go_sem] max2_int min2_int max_two min_two max_three min_three max_four min_four
set_option linter.unusedVariables false
set_option linter.unusedSimpArgs false

/-! ### barbicanref26_Read_uint: function 24 -/
def barbicanref26_Read_uint.f (k : Nat) (l0_0 : List Int) (a0_1 : Bool) (a1 : Int) : Option (List Int × Bool × Int) := (barbicanref03_Uint.f k l0_0).bind fun bt352 => (if a0_1 = true then (some (([] : List Int), true, 0)) else (if bt352.2.2 = 0 then (if bt352.1 > a1 then (some (([] : List Int), true, 0)) else (if 0 ≤ bt352.2.1 then (if bt352.2.1 ≤ (l0_0.length : Int) then (some ((l0_0.drop (bt352.2.1 : Int).toNat), false, wrap64 (bt352.1))) else (none)) else (none))) else (some (([] : List Int), true, 0))))
set_option maxHeartbeats 8000000 in
set_option maxRecDepth 100000 in
theorem barbicanref26_Read_uint.calls (k : Nat) (P0_0_ : Nat → Prop) (A0_0 : Option Addr) (c0_0 : Nat) (l0_0 : List Int) (a0_1 : Bool) (a1 : Int) (r1 : List Int) (r2 : Bool) (r3 : Int) (w : World) (hs0_0 : Kd.V (Kd.int .u8) 5 w w.heap.size (fun k_ => P0_0_ k_) (.slice A0_0 l0_0.length c0_0) l0_0) (h : barbicanref26_Read_uint.f k l0_0 a0_1 a1 = some (r1, r2, r3)) :
  Calls Tryd.prog 24 #[.agg #[.slice A0_0 l0_0.length c0_0, .bool a0_1], .int .u64 a1] w fun e w' => ∃ v0_ : Value, e = .returned (.tuple #[.agg #[v0_, .bool r2], .int .i64 r3]) ∧ Kd.V (Kd.int .u8) 5 w' w.heap.size (fun k_ => (P0_0_ k_ ∨ w.heap.size ≤ k_)) v0_ r1 ∧ Below w.heap.size w w' := by
 have hu60 := Tryd.underlying60
 have HO0_0 := Aside0.mk (show Kd.V (Kd.int .u8) 5 w w.heap.size (fun k_ => (P0_0_ k_ ∨ w.heap.size ≤ k_)) (.slice A0_0 l0_0.length c0_0) l0_0 from Kd.V_mono hs0_0 (fun k_ hk => .inl hk))
 have HB := Aside0.mk (Below.refl w.heap.size w)
 have H : ((barbicanref03_Uint.f k l0_0).bind fun bt352 => (if a0_1 = true then (some (([] : List Int), true, 0)) else (if bt352.2.2 = 0 then (if bt352.1 > a1 then (some (([] : List Int), true, 0)) else (if 0 ≤ bt352.2.1 then (if bt352.2.1 ≤ (l0_0.length : Int) then (some ((l0_0.drop (bt352.2.1 : Int).toNat), false, wrap64 (bt352.1))) else (none)) else (none))) else (some (([] : List Int), true, 0))))) = some (r1, r2, r3) := h
 clear h
 replace H := Option.bind_eq_some_iff.mp H
 obtain ⟨⟨t352, t353, t354⟩, A30, H⟩ := H
 (try dsimp only at H)
 have A3 := Aside0.mk A30
 clear A30
 by_cases c4 : a0_1 = true
 ·subst c4
  rw [if_pos rfl] at H
  simp only [Option.some.injEq, Prod.mk.injEq] at H
  obtain ⟨rfl, rfl, rfl⟩ := H
  go_enter Tryd.func24, Tryd.ntmps24
  go_wp2_with (first | ((with_reducible refine qgd (N := 2) rfl ?_); refine qbe ?hg (N := 2) ?hd (cs := #[.slice A0_0 l0_0.length c0_0, .bool true]) (t := 60) ?hr ?_; (case hd => rfl); (case hg => rfl); (case hr => first | (go_simp; done) | (go_simp; rfl)); intro gb350 hg w5 hbox hb; have n0_ := Aside0.mk (Kd.V_below (Kd.V_elderB (kV_ HO0_0.out) gb350 (Nat.le_of_eq hg.symm)) hb); have n1_ := Aside0.mk (below_step (bw_ HB.out) hb); have n2_ := Aside0.mk (hbox); have n3_ := Aside0.mk ((by rw [hg]; exact (qbz (bw_ HB.out)) : w.heap.size ≤ gb350)); have n4_ := Aside0.mk ((by rw [hg]; exact (qbz (bw_ HB.out)) : w.heap.size ≤ gb350)); clear HO0_0; clear HB; have HO0_0 := n0_; have HB := n1_; have BK350 := n2_; have GW350 := n3_; have GE350 := n4_; clear n0_ n1_ n2_ n3_ n4_; clear hb hbox hg) | ((with_reducible refine qgd (N := 4) rfl ?_); refine qbe ?hg (N := 4) ?hd (cs := #[.slice none 0 0, .bool false]) (t := 60) ?hr ?_; (case hd => rfl); (case hg => rfl); (case hr => first | (go_simp; done) | (go_simp; rfl)); intro gb351 hg w6 hbox hb; have n0_ := Aside0.mk (Kd.V_below (Kd.V_elderB (kV_ HO0_0.out) gb351 (Nat.le_of_eq hg.symm)) hb); have n1_ := Aside0.mk (qkb (g := gb350) (o := .cells #[.slice A0_0 l0_0.length c0_0, .bool true] 60 (0, 0)) (bl_ BK350.out) hb); have n2_ := Aside0.mk (below_step (bw_ HB.out) hb); have n3_ := Aside0.mk (hbox); have n4_ := Aside0.mk ((by rw [hg]; exact (qbz (bw_ HB.out)) : w.heap.size ≤ gb351)); have n5_ := Aside0.mk ((by rw [hg]; exact (qbz (bw_ HB.out)) : w.heap.size ≤ gb351)); have n6_ := Aside0.mk ((by rw [hg]; exact Nat.ne_of_lt (blk_lt (g := gb350) (o := .cells #[.slice A0_0 l0_0.length c0_0, .bool true] 60 (0, 0)) (bl_ BK350.out)) : gb350 ≠ gb351)); have n7_ := Aside0.mk ((by rw [hg]; exact Nat.ne_of_gt (blk_lt (g := gb350) (o := .cells #[.slice A0_0 l0_0.length c0_0, .bool true] 60 (0, 0)) (bl_ BK350.out)) : gb351 ≠ gb350)); clear HO0_0; clear BK350; clear HB; have HO0_0 := n0_; have BK350 := n1_; have HB := n2_; have BK351 := n3_; have GW351 := n4_; have GE351 := n5_; have NB350_351 := n6_; have NB351_350 := n7_; clear n0_ n1_ n2_ n3_ n4_ n5_ n6_ n7_; clear hb hbox hg; have hnb7 := NB350_351.out; have hnc7 := NB351_350.out; have hcz8_0 : w6.cell? ⟨gb350, 0, none⟩ = some (.slice A0_0 l0_0.length c0_0) := (qkc BK350.out 0).trans rfl; have hcz8_1 : w6.cell? ⟨gb350, 1, none⟩ = some (.bool true) := (qkc BK350.out 1).trans rfl; have hfz8_0 := qkf BK350.out 0; have hfz8_1 := qkf BK350.out 1) | ((with_reducible refine qgc (f := 40) rfl ?_); refine goesL_ (some 12) rfl rfl Tryd.func40 (by kernel_rfl) rfl #[.slice A0_0 l0_0.length c0_0] rfl (by (try simp only [List.map_toArray, List.map_cons, List.map_nil]); first | done | rfl | (simp only [List.length_drop, List.length_take]; rfl)) ?_; (with_reducible refine (barbicanref03_Uint.calls k _ _ l0_0 t352 t353 t354 _ ?side1 ?side2 A3.out).mono ?_); (case side1 => repeat (first | exact (Kd.V_reads' HO0_0.out).2.2 | (with_reducible refine Kd.C_alloc ?_ _) | (with_reducible refine Kd.C_drewN ?_ _) | (with_reducible refine Kd.C_drew ?_))); (case side2 => exact (Kd.V_reads' HO0_0.out).2.1); rintro e w' ⟨rfl, ⟨nd, rfl⟩⟩; refine ⟨_, rfl, ?_⟩; (try (rw [drewN_self w6]; generalize hq_ : World.drewN w6 _ = w6; have n0_ : Aside0 (Kd.V (Kd.int .u8) 5 w6 w.heap.size (fun k_ => (P0_0_ k_ ∨ w.heap.size ≤ k_) ∧ k_ ≠ gb350 ∧ k_ ≠ gb351) (.slice A0_0 l0_0.length c0_0) l0_0) := ⟨by rw [← hq_]; exact (by (with_reducible repeat (first | apply Kd.V_alloc | apply Kd.V_drewN | apply Kd.V_drew)); exact Kd.V_mono HO0_0.out (fun _ hk => ⟨hk.1.1, ⟨hk.1.2, hk.2⟩⟩))⟩; have n1_ : Aside0 (w6.heap[gb350]? = some (.cells #[.slice A0_0 l0_0.length c0_0, .bool true] 60 (0, 0))) := ⟨by rw [← hq_]; exact (bl_ BK350.out)⟩; have n2_ : Aside0 (w6.heap[gb351]? = some (.cells #[.slice none 0 0, .bool false] 60 (0, 0))) := ⟨by rw [← hq_]; exact (bl_ BK351.out)⟩; have n3_ : Aside0 (Below w.heap.size w w6) := ⟨by rw [← hq_]; exact (bw_ HB.out)⟩; clear HO0_0 BK350 BK351 HB hq_; have HO0_0 := n0_; have BK350 := n1_; have BK351 := n2_; have HB := n3_; clear n0_ n1_ n2_ n3_)); (try have hcz8_0 : w6.cell? ⟨gb350, 0, none⟩ = some (.slice A0_0 l0_0.length c0_0) := (qkc BK350.out 0).trans rfl); (try have hcz8_1 : w6.cell? ⟨gb350, 1, none⟩ = some (.bool true) := (qkc BK350.out 1).trans rfl); (try have hfz8_0 := qkf BK350.out 0); (try have hfz8_1 := qkf BK350.out 1); have hcz9_0 : w6.cell? ⟨gb351, 0, none⟩ = some (.slice none 0 0) := (qkc BK351.out 0).trans rfl; have hcz9_1 : w6.cell? ⟨gb351, 1, none⟩ = some (.bool false) := (qkc BK351.out 1).trans rfl; have hfz9_0 := qkf BK351.out 0; have hfz9_1 := qkf BK351.out 1))
  refine bodyPost_ret (results_ct rfl _ _ gb351 60 #[.slice none 0 0, .bool true] (0, 0) _ rfl (by (with_reducible repeat (first | refine qkN ?_ _ | refine qkd ?_ | refine qka ?_ _)); refine qkp (cs := #[.slice none 0 0, .bool false]) ?_ 1 _ rfl; (with_reducible repeat (first | refine qkN ?_ _ | refine qkd ?_ | refine qka ?_ _)); refine qkp (cs := #[.slice none 0 0, .bool false]) ?_ 0 _ rfl; (with_reducible repeat (first | refine qkN ?_ _ | refine qkd ?_ | refine qka ?_ _)); exact BK351.out) Tryd.underlying60 rfl (by kernel_rfl)) rfl ?_
  exact ⟨_, by first | rfl | (simp [errW_none, errW_some] <;> rfl) | (simp [*, errW_none, errW_some] <;> rfl), Kd.V_nil _ _ _ _ _, bw_ HB.out⟩
 replace c4 := Bool.eq_false_iff.mpr c4
 subst c4
 rw [if_neg (show ¬ (false = true) by decide)] at H
 by_cases c10 : t354 = 0
 ·rw [if_pos c10] at H
  have c10b0 : (t354 == 0) = true := beq_iff_eq.mpr c10
  have c10b1 : (t354 != 0) = false := bne_eq_false_iff_eq.mpr c10
  clear c10
  by_cases c11 : t352 > a1
  ·rw [if_pos c11] at H
   have c11b0 : decide (a1 < t352) = true := decide_eq_true c11
   clear c11
   simp only [Option.some.injEq, Prod.mk.injEq] at H
   obtain ⟨rfl, rfl, rfl⟩ := H
   go_enter Tryd.func24, Tryd.ntmps24
   go_wp2_with (first | ((with_reducible refine qgd (N := 2) rfl ?_); refine qbe ?hg (N := 2) ?hd (cs := #[.slice A0_0 l0_0.length c0_0, .bool false]) (t := 60) ?hr ?_; (case hd => rfl); (case hg => rfl); (case hr => first | (go_simp; done) | (go_simp; rfl)); intro gb350 hg w12 hbox hb; have n0_ := Aside0.mk (Kd.V_below (Kd.V_elderB (kV_ HO0_0.out) gb350 (Nat.le_of_eq hg.symm)) hb); have n1_ := Aside0.mk (below_step (bw_ HB.out) hb); have n2_ := Aside0.mk (hbox); have n3_ := Aside0.mk ((by rw [hg]; exact (qbz (bw_ HB.out)) : w.heap.size ≤ gb350)); have n4_ := Aside0.mk ((by rw [hg]; exact (qbz (bw_ HB.out)) : w.heap.size ≤ gb350)); clear HO0_0; clear HB; have HO0_0 := n0_; have HB := n1_; have BK350 := n2_; have GW350 := n3_; have GE350 := n4_; clear n0_ n1_ n2_ n3_ n4_; clear hb hbox hg) | ((with_reducible refine qgd (N := 4) rfl ?_); refine qbe ?hg (N := 4) ?hd (cs := #[.slice none 0 0, .bool false]) (t := 60) ?hr ?_; (case hd => rfl); (case hg => rfl); (case hr => first | (go_simp; done) | (go_simp; rfl)); intro gb351 hg w13 hbox hb; have n0_ := Aside0.mk (Kd.V_below (Kd.V_elderB (kV_ HO0_0.out) gb351 (Nat.le_of_eq hg.symm)) hb); have n1_ := Aside0.mk (qkb (g := gb350) (o := .cells #[.slice A0_0 l0_0.length c0_0, .bool false] 60 (0, 0)) (bl_ BK350.out) hb); have n2_ := Aside0.mk (below_step (bw_ HB.out) hb); have n3_ := Aside0.mk (hbox); have n4_ := Aside0.mk ((by rw [hg]; exact (qbz (bw_ HB.out)) : w.heap.size ≤ gb351)); have n5_ := Aside0.mk ((by rw [hg]; exact (qbz (bw_ HB.out)) : w.heap.size ≤ gb351)); have n6_ := Aside0.mk ((by rw [hg]; exact Nat.ne_of_lt (blk_lt (g := gb350) (o := .cells #[.slice A0_0 l0_0.length c0_0, .bool false] 60 (0, 0)) (bl_ BK350.out)) : gb350 ≠ gb351)); have n7_ := Aside0.mk ((by rw [hg]; exact Nat.ne_of_gt (blk_lt (g := gb350) (o := .cells #[.slice A0_0 l0_0.length c0_0, .bool false] 60 (0, 0)) (bl_ BK350.out)) : gb351 ≠ gb350)); clear HO0_0; clear BK350; clear HB; have HO0_0 := n0_; have BK350 := n1_; have HB := n2_; have BK351 := n3_; have GW351 := n4_; have GE351 := n5_; have NB350_351 := n6_; have NB351_350 := n7_; clear n0_ n1_ n2_ n3_ n4_ n5_ n6_ n7_; clear hb hbox hg; have hnb14 := NB350_351.out; have hnc14 := NB351_350.out; have hcz15_0 : w13.cell? ⟨gb350, 0, none⟩ = some (.slice A0_0 l0_0.length c0_0) := (qkc BK350.out 0).trans rfl; have hcz15_1 : w13.cell? ⟨gb350, 1, none⟩ = some (.bool false) := (qkc BK350.out 1).trans rfl; have hfz15_0 := qkf BK350.out 0; have hfz15_1 := qkf BK350.out 1) | ((with_reducible refine qgc (f := 40) rfl ?_); refine goesL_ (some 12) rfl rfl Tryd.func40 (by kernel_rfl) rfl #[.slice A0_0 l0_0.length c0_0] rfl (by (try simp only [List.map_toArray, List.map_cons, List.map_nil]); first | done | rfl | (simp only [List.length_drop, List.length_take]; rfl)) ?_; (with_reducible refine (barbicanref03_Uint.calls k _ _ l0_0 t352 t353 t354 _ ?side1 ?side2 A3.out).mono ?_); (case side1 => repeat (first | exact (Kd.V_reads' HO0_0.out).2.2 | (with_reducible refine Kd.C_alloc ?_ _) | (with_reducible refine Kd.C_drewN ?_ _) | (with_reducible refine Kd.C_drew ?_))); (case side2 => exact (Kd.V_reads' HO0_0.out).2.1); rintro e w' ⟨rfl, ⟨nd, rfl⟩⟩; refine ⟨_, rfl, ?_⟩; (try (rw [drewN_self w13]; generalize hq_ : World.drewN w13 _ = w13; have n0_ : Aside0 (Kd.V (Kd.int .u8) 5 w13 w.heap.size (fun k_ => (P0_0_ k_ ∨ w.heap.size ≤ k_) ∧ k_ ≠ gb350 ∧ k_ ≠ gb351) (.slice A0_0 l0_0.length c0_0) l0_0) := ⟨by rw [← hq_]; exact (by (with_reducible repeat (first | apply Kd.V_alloc | apply Kd.V_drewN | apply Kd.V_drew)); exact Kd.V_mono HO0_0.out (fun _ hk => ⟨hk.1.1, ⟨hk.1.2, hk.2⟩⟩))⟩; have n1_ : Aside0 (w13.heap[gb350]? = some (.cells #[.slice A0_0 l0_0.length c0_0, .bool false] 60 (0, 0))) := ⟨by rw [← hq_]; exact (bl_ BK350.out)⟩; have n2_ : Aside0 (w13.heap[gb351]? = some (.cells #[.slice none 0 0, .bool false] 60 (0, 0))) := ⟨by rw [← hq_]; exact (bl_ BK351.out)⟩; have n3_ : Aside0 (Below w.heap.size w w13) := ⟨by rw [← hq_]; exact (bw_ HB.out)⟩; clear HO0_0 BK350 BK351 HB hq_; have HO0_0 := n0_; have BK350 := n1_; have BK351 := n2_; have HB := n3_; clear n0_ n1_ n2_ n3_)); (try have hcz15_0 : w13.cell? ⟨gb350, 0, none⟩ = some (.slice A0_0 l0_0.length c0_0) := (qkc BK350.out 0).trans rfl); (try have hcz15_1 : w13.cell? ⟨gb350, 1, none⟩ = some (.bool false) := (qkc BK350.out 1).trans rfl); (try have hfz15_0 := qkf BK350.out 0); (try have hfz15_1 := qkf BK350.out 1); have hcz16_0 : w13.cell? ⟨gb351, 0, none⟩ = some (.slice none 0 0) := (qkc BK351.out 0).trans rfl; have hcz16_1 : w13.cell? ⟨gb351, 1, none⟩ = some (.bool false) := (qkc BK351.out 1).trans rfl; have hfz16_0 := qkf BK351.out 0; have hfz16_1 := qkf BK351.out 1))
   refine bodyPost_ret (results_ct rfl _ _ gb351 60 #[.slice none 0 0, .bool true] (0, 0) _ rfl (by (with_reducible repeat (first | refine qkN ?_ _ | refine qkd ?_ | refine qka ?_ _)); refine qkp (cs := #[.slice none 0 0, .bool false]) ?_ 1 _ rfl; (with_reducible repeat (first | refine qkN ?_ _ | refine qkd ?_ | refine qka ?_ _)); refine qkp (cs := #[.slice none 0 0, .bool false]) ?_ 0 _ rfl; (with_reducible repeat (first | refine qkN ?_ _ | refine qkd ?_ | refine qka ?_ _)); exact BK351.out) Tryd.underlying60 rfl (by kernel_rfl)) rfl ?_
   exact ⟨_, by first | rfl | (simp [errW_none, errW_some] <;> rfl) | (simp [*, errW_none, errW_some] <;> rfl), Kd.V_nil _ _ _ _ _, bw_ HB.out⟩
  rw [if_neg c11] at H
  have c11b0 : decide (a1 < t352) = false := decide_eq_false c11
  clear c11
  have c17 : 0 ≤ t353 := Classical.byContradiction fun c17 => by rw [if_neg c17] at H; exact absurd H (by simp)
  rw [if_pos c17] at H
  have c17b0 := eq_true c17
  have c17b1 : decide (0 ≤ t353) = true := decide_eq_true c17
  clear c17
  have c18 : t353 ≤ (l0_0.length : Int) := Classical.byContradiction fun c18 => by rw [if_neg c18] at H; exact absurd H (by simp)
  rw [if_pos c18] at H
  have c18b0 := eq_true c18
  have c18b1 : decide (t353 ≤ (l0_0.length : Int)) = true := decide_eq_true c18
  clear c18
  obtain ⟨y355, hy355⟩ : ∃ y_ : List Int, y_ = (l0_0.drop (t353 : Int).toNat) := ⟨_, rfl⟩
  replace H : (some (y355, false, wrap64 (t352))) = some (r1, r2, r3) := by first | (rw [hy355]; with_reducible exact H) | (have H2_ := (Option.bind_some _ _).symm.trans H; rw [hy355]; with_reducible exact H2_) | (have H2_ := (Option.bind_some _ _).symm.trans H; with_reducible exact H2_) | with_reducible exact H | (rw [hy355]; exact H) | exact H
  have Ny355 := Aside0.mk hy355
  clear hy355
  simp only [Option.some.injEq, Prod.mk.injEq] at H
  obtain ⟨rfl, rfl, rfl⟩ := H
  go_enter Tryd.func24, Tryd.ntmps24
  go_wp2_with (first | ((with_reducible refine qgd (N := 2) rfl ?_); refine qbe ?hg (N := 2) ?hd (cs := #[.slice A0_0 l0_0.length c0_0, .bool false]) (t := 60) ?hr ?_; (case hd => rfl); (case hg => rfl); (case hr => first | (go_simp; done) | (go_simp; rfl)); intro gb350 hg w19 hbox hb; have n0_ := Aside0.mk (Kd.V_below (Kd.V_elderB (kV_ HO0_0.out) gb350 (Nat.le_of_eq hg.symm)) hb); have n1_ := Aside0.mk (below_step (bw_ HB.out) hb); have n2_ := Aside0.mk (hbox); have n3_ := Aside0.mk ((by rw [hg]; exact (qbz (bw_ HB.out)) : w.heap.size ≤ gb350)); have n4_ := Aside0.mk ((by rw [hg]; exact (qbz (bw_ HB.out)) : w.heap.size ≤ gb350)); clear HO0_0; clear HB; have HO0_0 := n0_; have HB := n1_; have BK350 := n2_; have GW350 := n3_; have GE350 := n4_; clear n0_ n1_ n2_ n3_ n4_; clear hb hbox hg) | ((with_reducible refine qgd (N := 4) rfl ?_); refine qbe ?hg (N := 4) ?hd (cs := #[.slice none 0 0, .bool false]) (t := 60) ?hr ?_; (case hd => rfl); (case hg => rfl); (case hr => first | (go_simp; done) | (go_simp; rfl)); intro gb351 hg w20 hbox hb; have n0_ := Aside0.mk (Kd.V_below (Kd.V_elderB (kV_ HO0_0.out) gb351 (Nat.le_of_eq hg.symm)) hb); have n1_ := Aside0.mk (qkb (g := gb350) (o := .cells #[.slice A0_0 l0_0.length c0_0, .bool false] 60 (0, 0)) (bl_ BK350.out) hb); have n2_ := Aside0.mk (below_step (bw_ HB.out) hb); have n3_ := Aside0.mk (hbox); have n4_ := Aside0.mk ((by rw [hg]; exact (qbz (bw_ HB.out)) : w.heap.size ≤ gb351)); have n5_ := Aside0.mk ((by rw [hg]; exact (qbz (bw_ HB.out)) : w.heap.size ≤ gb351)); have n6_ := Aside0.mk ((by rw [hg]; exact Nat.ne_of_lt (blk_lt (g := gb350) (o := .cells #[.slice A0_0 l0_0.length c0_0, .bool false] 60 (0, 0)) (bl_ BK350.out)) : gb350 ≠ gb351)); have n7_ := Aside0.mk ((by rw [hg]; exact Nat.ne_of_gt (blk_lt (g := gb350) (o := .cells #[.slice A0_0 l0_0.length c0_0, .bool false] 60 (0, 0)) (bl_ BK350.out)) : gb351 ≠ gb350)); clear HO0_0; clear BK350; clear HB; have HO0_0 := n0_; have BK350 := n1_; have HB := n2_; have BK351 := n3_; have GW351 := n4_; have GE351 := n5_; have NB350_351 := n6_; have NB351_350 := n7_; clear n0_ n1_ n2_ n3_ n4_ n5_ n6_ n7_; clear hb hbox hg; have hnb21 := NB350_351.out; have hnc21 := NB351_350.out; have hcz22_0 : w20.cell? ⟨gb350, 0, none⟩ = some (.slice A0_0 l0_0.length c0_0) := (qkc BK350.out 0).trans rfl; have hcz22_1 : w20.cell? ⟨gb350, 1, none⟩ = some (.bool false) := (qkc BK350.out 1).trans rfl; have hfz22_0 := qkf BK350.out 0; have hfz22_1 := qkf BK350.out 1) | ((with_reducible refine qgc (f := 40) rfl ?_); refine goesL_ (some 12) rfl rfl Tryd.func40 (by kernel_rfl) rfl #[.slice A0_0 l0_0.length c0_0] rfl (by (try simp only [List.map_toArray, List.map_cons, List.map_nil]); first | done | rfl | (simp only [List.length_drop, List.length_take]; rfl)) ?_; (with_reducible refine (barbicanref03_Uint.calls k _ _ l0_0 t352 t353 t354 _ ?side1 ?side2 A3.out).mono ?_); (case side1 => repeat (first | exact (Kd.V_reads' HO0_0.out).2.2 | (with_reducible refine Kd.C_alloc ?_ _) | (with_reducible refine Kd.C_drewN ?_ _) | (with_reducible refine Kd.C_drew ?_))); (case side2 => exact (Kd.V_reads' HO0_0.out).2.1); rintro e w' ⟨rfl, ⟨nd, rfl⟩⟩; refine ⟨_, rfl, ?_⟩; (try (rw [drewN_self w20]; generalize hq_ : World.drewN w20 _ = w20; have n0_ : Aside0 (Kd.V (Kd.int .u8) 5 w20 w.heap.size (fun k_ => (P0_0_ k_ ∨ w.heap.size ≤ k_) ∧ k_ ≠ gb350 ∧ k_ ≠ gb351) (.slice A0_0 l0_0.length c0_0) l0_0) := ⟨by rw [← hq_]; exact (by (with_reducible repeat (first | apply Kd.V_alloc | apply Kd.V_drewN | apply Kd.V_drew)); exact Kd.V_mono HO0_0.out (fun _ hk => ⟨hk.1.1, ⟨hk.1.2, hk.2⟩⟩))⟩; have n1_ : Aside0 (w20.heap[gb350]? = some (.cells #[.slice A0_0 l0_0.length c0_0, .bool false] 60 (0, 0))) := ⟨by rw [← hq_]; exact (bl_ BK350.out)⟩; have n2_ : Aside0 (w20.heap[gb351]? = some (.cells #[.slice none 0 0, .bool false] 60 (0, 0))) := ⟨by rw [← hq_]; exact (bl_ BK351.out)⟩; have n3_ : Aside0 (Below w.heap.size w w20) := ⟨by rw [← hq_]; exact (bw_ HB.out)⟩; clear HO0_0 BK350 BK351 HB hq_; have HO0_0 := n0_; have BK350 := n1_; have BK351 := n2_; have HB := n3_; clear n0_ n1_ n2_ n3_)); (try have hcz22_0 : w20.cell? ⟨gb350, 0, none⟩ = some (.slice A0_0 l0_0.length c0_0) := (qkc BK350.out 0).trans rfl); (try have hcz22_1 : w20.cell? ⟨gb350, 1, none⟩ = some (.bool false) := (qkc BK350.out 1).trans rfl); (try have hfz22_0 := qkf BK350.out 0); (try have hfz22_1 := qkf BK350.out 1); have q23 : (t353 : Int) ≤ ((l0_0.length : Int) : Int) := ode_; obtain ⟨i023, hi023, _, hsz23, _⟩ := info_parts info5; have hroom23 : l0_0.length ≤ c0_0 := (Kd.V_reads' HO0_0.out).2.1; have hC23 : Kd.F (Kd.int .u8) _ _ A0_0 l0_0.length l0_0 := (Kd.V_at (base := w.heap.size) HO0_0.out).2.2; have q023 : (0 : Int) ≤ (t353 : Int) := ode_; have hcut23 := cut_from (P := Tryd.prog) 25 5 .i64 Tryd.underlying25 hi023 1 hsz23 A0_0 l0_0.length c0_0 t353 q023 q23; have hr23 := Kd.F_cut (m := (t353 : Int).toNat) (c := c0_0) hC23 (by omega) hroom23; obtain ⟨A23, hA23⟩ : ∃ A1, A1 = (if c0_0 = (t353 : Int).toNat then A0_0 else (A0_0 : Option Addr).map (·.add ((t353 : Int).toNat * 1))) := ⟨_, rfl⟩; obtain ⟨c23, hc23⟩ : ∃ c1, c1 = c0_0 - (t353 : Int).toNat := ⟨_, rfl⟩; have hy23 : y355.length = l0_0.length - (t353 : Int).toNat := (by rw [Ny355.out, List.length_drop] <;> omega); rw [show (l0_0).drop (t353 : Int).toNat = y355 from Ny355.out.symm] at hr23; replace hr23 : Kd.F (Kd.int .u8) _ _ A23 y355.length y355 := (by rw [hA23]; exact hr23); rw [← hy23, ← hA23, ← hc23] at hcut23; have HO359 := Aside0.mk (show Kd.V (Kd.int .u8) 5 _ w.heap.size _ (.slice A23 y355.length c23) y355 from Kd.V_mk (by rw [hy23, hc23]; exact Nat.sub_le_sub_right hroom23 _) hr23); have HC359 := Aside0.mk (show y355.length ≤ c23 from by rw [hy23, hc23]; exact Nat.sub_le_sub_right hroom23 _); clear hr23 hC23 hroom23 hi023 hsz23 hc23; have KY23 := Aside0.mk hy23; have KA23 := Aside0.mk hA23; clear hy23 hA23; replace q23 := eq_true q23; have hcz24_0 : w20.cell? ⟨gb351, 0, none⟩ = some (.slice none 0 0) := (qkc BK351.out 0).trans rfl; have hcz24_1 : w20.cell? ⟨gb351, 1, none⟩ = some (.bool false) := (qkc BK351.out 1).trans rfl; have hfz24_0 := qkf BK351.out 0; have hfz24_1 := qkf BK351.out 1))
  refine bodyPost_ret (results_ct rfl _ _ gb351 60 #[.slice A23 y355.length c23, .bool false] (0, 0) _ rfl (by (with_reducible repeat (first | refine qkN ?_ _ | refine qkd ?_ | refine qka ?_ _)); refine qkp (cs := #[.slice A23 y355.length c23, .bool false]) ?_ 1 _ rfl; (with_reducible repeat (first | refine qkN ?_ _ | refine qkd ?_ | refine qka ?_ _)); refine qkp (cs := #[.slice none 0 0, .bool false]) ?_ 0 _ rfl; (with_reducible repeat (first | refine qkN ?_ _ | refine qkd ?_ | refine qka ?_ _)); exact BK351.out) Tryd.underlying60 rfl (by kernel_rfl)) rfl ?_
  exact ⟨_, by first | rfl | (simp [errW_none, errW_some] <;> rfl) | (simp [*, errW_none, errW_some] <;> rfl), by (with_reducible repeat (first | apply Kd.V_alloc | apply Kd.V_drewN | apply Kd.V_drew)); exact Kd.V_mono (Kd.V_far (p := ⟨gb351, 1, none⟩) (Kd.V_far (p := ⟨gb351, 0, none⟩) (Kd.V_mono HO359.out (fun k_ hk => (⟨hk, hk.2.2⟩ : _ ∧ k_ ≠ gb351))) (fun _ hk => hk.2) (.slice A23 y355.length c23)) (fun _ hk => hk.2) (.bool false)) (fun _ hk => hk.1.1), bw_ HB.out⟩
 rw [if_neg c10] at H
 have c10b0 : (t354 == 0) = false := beq_eq_false_iff_ne.mpr c10
 have c10b1 : (t354 != 0) = true := bne_iff_ne.mpr c10
 simp only [Option.some.injEq, Prod.mk.injEq] at H
 obtain ⟨rfl, rfl, rfl⟩ := H
 go_enter Tryd.func24, Tryd.ntmps24
 go_wp2_with (first | ((with_reducible refine qgd (N := 2) rfl ?_); refine qbe ?hg (N := 2) ?hd (cs := #[.slice A0_0 l0_0.length c0_0, .bool false]) (t := 60) ?hr ?_; (case hd => rfl); (case hg => rfl); (case hr => first | (go_simp; done) | (go_simp; rfl)); intro gb350 hg w25 hbox hb; have n0_ := Aside0.mk (Kd.V_below (Kd.V_elderB (kV_ HO0_0.out) gb350 (Nat.le_of_eq hg.symm)) hb); have n1_ := Aside0.mk (below_step (bw_ HB.out) hb); have n2_ := Aside0.mk (hbox); have n3_ := Aside0.mk ((by rw [hg]; exact (qbz (bw_ HB.out)) : w.heap.size ≤ gb350)); have n4_ := Aside0.mk ((by rw [hg]; exact (qbz (bw_ HB.out)) : w.heap.size ≤ gb350)); clear HO0_0; clear HB; have HO0_0 := n0_; have HB := n1_; have BK350 := n2_; have GW350 := n3_; have GE350 := n4_; clear n0_ n1_ n2_ n3_ n4_; clear hb hbox hg) | ((with_reducible refine qgd (N := 4) rfl ?_); refine qbe ?hg (N := 4) ?hd (cs := #[.slice none 0 0, .bool false]) (t := 60) ?hr ?_; (case hd => rfl); (case hg => rfl); (case hr => first | (go_simp; done) | (go_simp; rfl)); intro gb351 hg w26 hbox hb; have n0_ := Aside0.mk (Kd.V_below (Kd.V_elderB (kV_ HO0_0.out) gb351 (Nat.le_of_eq hg.symm)) hb); have n1_ := Aside0.mk (qkb (g := gb350) (o := .cells #[.slice A0_0 l0_0.length c0_0, .bool false] 60 (0, 0)) (bl_ BK350.out) hb); have n2_ := Aside0.mk (below_step (bw_ HB.out) hb); have n3_ := Aside0.mk (hbox); have n4_ := Aside0.mk ((by rw [hg]; exact (qbz (bw_ HB.out)) : w.heap.size ≤ gb351)); have n5_ := Aside0.mk ((by rw [hg]; exact (qbz (bw_ HB.out)) : w.heap.size ≤ gb351)); have n6_ := Aside0.mk ((by rw [hg]; exact Nat.ne_of_lt (blk_lt (g := gb350) (o := .cells #[.slice A0_0 l0_0.length c0_0, .bool false] 60 (0, 0)) (bl_ BK350.out)) : gb350 ≠ gb351)); have n7_ := Aside0.mk ((by rw [hg]; exact Nat.ne_of_gt (blk_lt (g := gb350) (o := .cells #[.slice A0_0 l0_0.length c0_0, .bool false] 60 (0, 0)) (bl_ BK350.out)) : gb351 ≠ gb350)); clear HO0_0; clear BK350; clear HB; have HO0_0 := n0_; have BK350 := n1_; have HB := n2_; have BK351 := n3_; have GW351 := n4_; have GE351 := n5_; have NB350_351 := n6_; have NB351_350 := n7_; clear n0_ n1_ n2_ n3_ n4_ n5_ n6_ n7_; clear hb hbox hg; have hnb27 := NB350_351.out; have hnc27 := NB351_350.out; have hcz28_0 : w26.cell? ⟨gb350, 0, none⟩ = some (.slice A0_0 l0_0.length c0_0) := (qkc BK350.out 0).trans rfl; have hcz28_1 : w26.cell? ⟨gb350, 1, none⟩ = some (.bool false) := (qkc BK350.out 1).trans rfl; have hfz28_0 := qkf BK350.out 0; have hfz28_1 := qkf BK350.out 1) | ((with_reducible refine qgc (f := 40) rfl ?_); refine goesL_ (some 12) rfl rfl Tryd.func40 (by kernel_rfl) rfl #[.slice A0_0 l0_0.length c0_0] rfl (by (try simp only [List.map_toArray, List.map_cons, List.map_nil]); first | done | rfl | (simp only [List.length_drop, List.length_take]; rfl)) ?_; (with_reducible refine (barbicanref03_Uint.calls k _ _ l0_0 t352 t353 t354 _ ?side1 ?side2 A3.out).mono ?_); (case side1 => repeat (first | exact (Kd.V_reads' HO0_0.out).2.2 | (with_reducible refine Kd.C_alloc ?_ _) | (with_reducible refine Kd.C_drewN ?_ _) | (with_reducible refine Kd.C_drew ?_))); (case side2 => exact (Kd.V_reads' HO0_0.out).2.1); rintro e w' ⟨rfl, ⟨nd, rfl⟩⟩; refine ⟨_, rfl, ?_⟩; (try (rw [drewN_self w26]; generalize hq_ : World.drewN w26 _ = w26; have n0_ : Aside0 (Kd.V (Kd.int .u8) 5 w26 w.heap.size (fun k_ => (P0_0_ k_ ∨ w.heap.size ≤ k_) ∧ k_ ≠ gb350 ∧ k_ ≠ gb351) (.slice A0_0 l0_0.length c0_0) l0_0) := ⟨by rw [← hq_]; exact (by (with_reducible repeat (first | apply Kd.V_alloc | apply Kd.V_drewN | apply Kd.V_drew)); exact Kd.V_mono HO0_0.out (fun _ hk => ⟨hk.1.1, ⟨hk.1.2, hk.2⟩⟩))⟩; have n1_ : Aside0 (w26.heap[gb350]? = some (.cells #[.slice A0_0 l0_0.length c0_0, .bool false] 60 (0, 0))) := ⟨by rw [← hq_]; exact (bl_ BK350.out)⟩; have n2_ : Aside0 (w26.heap[gb351]? = some (.cells #[.slice none 0 0, .bool false] 60 (0, 0))) := ⟨by rw [← hq_]; exact (bl_ BK351.out)⟩; have n3_ : Aside0 (Below w.heap.size w w26) := ⟨by rw [← hq_]; exact (bw_ HB.out)⟩; clear HO0_0 BK350 BK351 HB hq_; have HO0_0 := n0_; have BK350 := n1_; have BK351 := n2_; have HB := n3_; clear n0_ n1_ n2_ n3_)); (try have hcz28_0 : w26.cell? ⟨gb350, 0, none⟩ = some (.slice A0_0 l0_0.length c0_0) := (qkc BK350.out 0).trans rfl); (try have hcz28_1 : w26.cell? ⟨gb350, 1, none⟩ = some (.bool false) := (qkc BK350.out 1).trans rfl); (try have hfz28_0 := qkf BK350.out 0); (try have hfz28_1 := qkf BK350.out 1); have hcz29_0 : w26.cell? ⟨gb351, 0, none⟩ = some (.slice none 0 0) := (qkc BK351.out 0).trans rfl; have hcz29_1 : w26.cell? ⟨gb351, 1, none⟩ = some (.bool false) := (qkc BK351.out 1).trans rfl; have hfz29_0 := qkf BK351.out 0; have hfz29_1 := qkf BK351.out 1))
 refine bodyPost_ret (results_ct rfl _ _ gb351 60 #[.slice none 0 0, .bool true] (0, 0) _ rfl (by (with_reducible repeat (first | refine qkN ?_ _ | refine qkd ?_ | refine qka ?_ _)); refine qkp (cs := #[.slice none 0 0, .bool false]) ?_ 1 _ rfl; (with_reducible repeat (first | refine qkN ?_ _ | refine qkd ?_ | refine qka ?_ _)); refine qkp (cs := #[.slice none 0 0, .bool false]) ?_ 0 _ rfl; (with_reducible repeat (first | refine qkN ?_ _ | refine qkd ?_ | refine qka ?_ _)); exact BK351.out) Tryd.underlying60 rfl (by kernel_rfl)) rfl ?_
 exact ⟨_, by first | rfl | (simp [errW_none, errW_some] <;> rfl) | (simp [*, errW_none, errW_some] <;> rfl), Kd.V_nil _ _ _ _ _, bw_ HB.out⟩

/-! ### barbicanref06_Decode: function 25 -/
mutual
def barbicanref06_Decode.l0 : Nat → ByteArray → List (S72) → Int → Option ((List (S72)) × Int)
 | 0, _, _, _ => none
 | k + 1, x0, x4, x5 => if x5 < (x0.size : Int) then (if 0 ≤ x5 then (if (wrap64 ((wrap64 (bt x0 x5)) - 1)) = 1 then (barbicanref06_Decode.l1 k x0 x4 (wrap64 (x5 + 1)) 0 0 (wrap64 ((wrap64 (bt x0 x5)) - 1)) 0 (⟨#[]⟩ : ByteArray) false) else (if (wrap64 ((wrap64 (bt x0 x5)) - 1)) = 2 then (barbicanref06_Decode.l2 k x0 x4 (wrap64 (x5 + 1)) (wrap64 (x5 + 1)) (wrap64 ((wrap64 (bt x0 x5)) - 1)) 0 (⟨#[]⟩ : ByteArray) false) else (if (wrap64 ((wrap64 (bt x0 x5)) - 1)) = 3 then (if (wrap64 (x5 + 1)) < (x0.size : Int) then (if 0 ≤ (wrap64 (x5 + 1)) then (if x4.length < 3518437208883 then (barbicanref06_Decode.l0 k x0 (x4 ++ [(⟨wrap64 ((wrap64 (bt x0 x5)) - 1), 0, (⟨#[]⟩ : ByteArray), ((bt x0 (wrap64 (x5 + 1))) == 1)⟩ : S72)]) (wrap64 ((wrap64 (x5 + 1)) + 1))) else (none)) else (none)) else (if x4.length < 3518437208883 then (barbicanref06_Decode.l0 k x0 (x4 ++ [(⟨wrap64 ((wrap64 (bt x0 x5)) - 1), 0, (⟨#[]⟩ : ByteArray), false⟩ : S72)]) (wrap64 ((wrap64 (x5 + 1)) + 1))) else (none))) else (if x4.length < 3518437208883 then (barbicanref06_Decode.l0 k x0 (x4 ++ [(⟨wrap64 ((wrap64 (bt x0 x5)) - 1), 0, (⟨#[]⟩ : ByteArray), false⟩ : S72)]) (wrap64 (x5 + 1))) else (none))))) else (none)) else ((barbicanref06_Encode.f k x4).bind fun bt360 => (if bt360.2 = 0 then (if bt360.1.toList = x0.toList then (some (x4, 0)) else (some (([] : List (S72)), 3))) else (some (([] : List (S72)), 3))))
def barbicanref06_Decode.l1 : Nat → ByteArray → List (S72) → Int → Int → Int → Int → Int → ByteArray → Bool → Option ((List (S72)) × Int)
 | 0, _, _, _, _, _, _, _, _, _ => none
 | k + 1, x0, x4, x5, x7, x8, x363000, x363001, x363002, x363003 => if x8 < 8 then (if x5 < (x0.size : Int) then (if 0 ≤ x5 then (barbicanref06_Decode.l1 k x0 x4 (wrap64 (x5 + 1)) (IntKind.u64.wrap ((IntKind.u64.wrap (x7 * 256)) + (IntKind.u64.wrap (bt x0 x5)))) (wrap64 (x8 + 1)) x363000 x363001 x363002 x363003) else (none)) else (if x4.length < 3518437208883 then (barbicanref06_Decode.l0 k x0 (x4 ++ [(⟨x363000, wrap64 (Go.bits .xor .u64 x7 9223372036854775808), x363002, x363003⟩ : S72)]) x5) else (none))) else (if x4.length < 3518437208883 then (barbicanref06_Decode.l0 k x0 (x4 ++ [(⟨x363000, wrap64 (Go.bits .xor .u64 x7 9223372036854775808), x363002, x363003⟩ : S72)]) x5) else (none))
def barbicanref06_Decode.l2 : Nat → ByteArray → List (S72) → Int → Int → Int → Int → ByteArray → Bool → Option ((List (S72)) × Int)
 | 0, _, _, _, _, _, _, _, _ => none
 | k + 1, x0, x4, x5, x9, x363000, x363001, x363002, x363003 => if x5 < (x0.size : Int) then (if 0 ≤ x5 then (if (bt x0 x5) = 0 then (if 0 ≤ x9 then (if x9 ≤ x5 then (if x5 ≤ (x0.size : Int) then (if x4.length < 3518437208883 then (barbicanref06_Decode.l0 k x0 (x4 ++ [(⟨x363000, x363001, x0.extract (x9 : Int).toNat (x5 : Int).toNat, x363003⟩ : S72)]) (wrap64 (x5 + 1))) else (none)) else (none)) else (none)) else (none)) else (barbicanref06_Decode.l2 k x0 x4 (wrap64 (x5 + 1)) x9 x363000 x363001 x363002 x363003)) else (none)) else (if 0 ≤ x9 then (if x9 ≤ x5 then (if x5 ≤ (x0.size : Int) then (if x4.length < 3518437208883 then (barbicanref06_Decode.l0 k x0 (x4 ++ [(⟨x363000, x363001, x0.extract (x9 : Int).toNat (x5 : Int).toNat, x363003⟩ : S72)]) (wrap64 (x5 + 1))) else (none)) else (none)) else (none)) else (none))
end
def barbicanref06_Decode.f (k : Nat) (a0 : ByteArray) : Option ((List (S72)) × Int) := barbicanref06_Decode.l0 k a0 ([] : List (S72)) 0
set_option maxHeartbeats 8000000 in
set_option maxRecDepth 100000 in
theorem barbicanref06_Decode.calls (k : Nat) (a0 : ByteArray) (r1 : List (S72)) (r2 : Int) (w : World) (h : barbicanref06_Decode.f k a0 = some (r1, r2)) :
  Calls Tryd.prog 25 #[.string a0] w fun e w' => ∃ v0_ : Value, e = .returned (.tuple #[v0_, .int .i64 r2]) ∧ Kd.R k72 72 w' w.heap.size (fun _ => True) v0_ r1 ∧ Below w.heap.size w w' := by
 have hu72 := Tryd.underlying72
 have HB := Aside0.mk (Below.refl w.heap.size w)
 have H : (barbicanref06_Decode.l0 k a0 ([] : List (S72)) 0) = some (r1, r2) := h
 clear h
 have H' := Aside0.mk H
 clear H
 go_enter Tryd.func25, Tryd.ntmps25
 go_wp2
 go_loopg [4, 5] k (fun kq v4 v5 w' => ∃ (x4_1 : List (S72)) (x5_1 : Int), v5 = .int .i64 x5_1 ∧ Aside0 (barbicanref06_Decode.l0 kq a0 x4_1 x5_1 = some (r1, r2)) ∧ Aside0 (kq ≤ k) ∧ Aside0 (Kd.R k72 72 w' w.heap.size (fun _ => True) v4 x4_1) ∧ Aside0 (Below w.heap.size w w'))
 case atStart => exact ⟨(([] : List (S72))), (0), (by first | rfl | (simp; done) | (simp [*]; done) | (simp [bne]; done)), H', ⟨Nat.le_refl _⟩, ⟨by first | exact Kd.R_nil _ _ _ _ _ | exact Kd.N_nil _ _ _ _ _ | exact Kd.V_nil _ _ _ _ _ | exact Kd.Q_nil _ _ _ _ _ | exact Kd.S_nil _ _ _ _ _⟩, ⟨bw_ HB.out⟩⟩
 case round =>
  clear H'
  obtain ⟨x4_1, x5_1, rfl, HA, HK1, HO_4, HB⟩ := hrel
  cases gk with
  | zero => exact absurd HA.out (by simp [barbicanref06_Decode.l0])
  | succ k1 =>
   have H := HA.out
   clear HA
   simp only [barbicanref06_Decode.l0] at H
   by_cases c2 : x5_1 < (a0.size : Int)
   ·rw [if_pos c2] at H
    have c2b0 : decide (x5_1 < (a0.size : Int)) = true := decide_eq_true c2
    clear c2
    have c3 : 0 ≤ x5_1 := Classical.byContradiction fun c3 => by rw [if_neg c3] at H; exact absurd H (by simp)
    rw [if_pos c3] at H
    have c3b0 : decide (0 ≤ x5_1) = true := decide_eq_true c3
    clear c3
    by_cases c5 : (wrap64 ((wrap64 (bt a0 x5_1)) - 1)) = 1
    ·rw [if_pos c5] at H
     have c5b0 : ((wrap64 ((wrap64 (bt a0 x5_1)) - 1)) == 1) = true := beq_iff_eq.mpr c5
     have c5b1 : ((wrap64 ((wrap64 (bt a0 x5_1)) - 1)) != 1) = false := bne_eq_false_iff_eq.mpr c5
     clear c5
     have H' := Aside0.mk H
     clear H
     have p4 : 0 ≤ (x5_1 : Int) := ode_
     have q4 : x5_1 < (a0.size : Int) := ode_
     have hx4 := bt_at a0 x5_1
     replace p4 := eq_true p4
     replace q4 := eq_true q4
     go_wp2_with (first | ((with_reducible refine qgd (N := 6) rfl ?_); (try (refine gate_guard (by rfl) ?_; dsimp only)); refine qbe ?hg (N := 6) ?hd (cs := #[.int .i64 0, .int .i64 0, .string (⟨#[]⟩ : ByteArray), .bool false]) (t := 72) ?hr ?_; (case hd => rfl); (case hg => rfl); (case hr => first | (go_simp; done) | (go_simp; rfl)); intro gb362 hg w6 hbox hb; have n0_ := Aside0.mk (Kd.R_below (Kd.R_elderB (kR_ HO_4.out) gb362 (Nat.le_of_eq hg.symm)) hb); have n1_ := Aside0.mk (below_step (bw_ HB.out) hb); have n2_ := Aside0.mk (hbox); have n3_ := Aside0.mk ((by rw [hg]; exact (qbz (bw_ HB.out)) : w.heap.size ≤ gb362)); have n4_ := Aside0.mk ((by rw [hg]; exact (qbz (bw_ HB.out)) : w.heap.size ≤ gb362)); clear HO_4; clear HB; have HO_4 := n0_; have HB := n1_; have BK362 := n2_; have GW362 := n3_; have GE362 := n4_; clear n0_ n1_ n2_ n3_ n4_; clear hb hbox hg; have hcz7_0 : w6.cell? ⟨gb362, 0, none⟩ = some (.int .i64 0) := (qkc BK362.out 0).trans rfl; have hcz7_1 : w6.cell? ⟨gb362, 1, none⟩ = some (.int .i64 0) := (qkc BK362.out 1).trans rfl; have hcz7_2 : w6.cell? ⟨gb362, 2, none⟩ = some (.string (⟨#[]⟩ : ByteArray)) := (qkc BK362.out 2).trans rfl; have hcz7_3 : w6.cell? ⟨gb362, 3, none⟩ = some (.bool false) := (qkc BK362.out 3).trans rfl; have hfz7_0 := qkf BK362.out 0; have hfz7_1 := qkf BK362.out 1; have hfz7_2 := qkf BK362.out 2; have hfz7_3 := qkf BK362.out 3))
     go_loopg [5, 7, 8] k1 (fun kq v5 v7 v8 w' => ∃ (x5_2 : Int) (x7_2 : Int) (x8_2 : Int), v5 = .int .i64 x5_2 ∧ v7 = .int .u64 x7_2 ∧ v8 = .int .i64 x8_2 ∧ Aside0 (barbicanref06_Decode.l1 kq a0 x4_1 x5_2 x7_2 x8_2 (wrap64 ((wrap64 (bt a0 x5_1)) - 1)) 0 (⟨#[]⟩ : ByteArray) false = some (r1, r2)) ∧ Aside0 (kq ≤ k1) ∧ Aside0 (Kd.R k72 72 w' w.heap.size (fun k_ => k_ ≠ gb362) u4 x4_1) ∧ Aside0 (w'.heap[gb362]? = some (.cells #[.int .i64 (wrap64 ((wrap64 (bt a0 x5_1)) - 1)), .int .i64 0, .string (⟨#[]⟩ : ByteArray), .bool false] 72 (0, 0))) ∧ Aside0 (Below w.heap.size w w'))
     case atStart => exact ⟨(wrap64 (x5_1 + 1)), (0), (0), (by first | rfl | (simp; done) | (simp [*]; done) | (simp [bne]; done)), (by first | rfl | (simp; done) | (simp [*]; done) | (simp [bne]; done)), (by first | rfl | (simp; done) | (simp [*]; done) | (simp [bne]; done)), H', ⟨Nat.le_refl _⟩, ⟨by (with_reducible repeat (first | apply Kd.R_alloc | apply Kd.R_drewN | apply Kd.R_drew)); exact Kd.R_mono (Kd.R_far (p := ⟨gb362, 3, none⟩) (Kd.R_far (p := ⟨gb362, 2, none⟩) (Kd.R_far (p := ⟨gb362, 1, none⟩) (Kd.R_far (p := ⟨gb362, 0, none⟩) (Kd.R_mono HO_4.out (fun k_ hk => (⟨hk, hk.2⟩ : _ ∧ k_ ≠ gb362))) (fun _ hk => hk.2) (.int .i64 (wrap64 ((wrap64 (bt a0 x5_1)) - 1)))) (fun _ hk => hk.2) (.int .i64 0)) (fun _ hk => hk.2) (.string (⟨#[]⟩ : ByteArray))) (fun _ hk => hk.2) (.bool false)) (fun _ hk => hk.1.2)⟩, ⟨by (with_reducible repeat (first | refine qkN ?_ _ | refine qkd ?_ | refine qka ?_ _)); refine qkp (cs := #[.int .i64 (wrap64 ((wrap64 (bt a0 x5_1)) - 1)), .int .i64 0, .string (⟨#[]⟩ : ByteArray), .bool false]) ?_ 3 _ rfl; (with_reducible repeat (first | refine qkN ?_ _ | refine qkd ?_ | refine qka ?_ _)); refine qkp (cs := #[.int .i64 (wrap64 ((wrap64 (bt a0 x5_1)) - 1)), .int .i64 0, .string (⟨#[]⟩ : ByteArray), .bool false]) ?_ 2 _ rfl; (with_reducible repeat (first | refine qkN ?_ _ | refine qkd ?_ | refine qka ?_ _)); refine qkp (cs := #[.int .i64 (wrap64 ((wrap64 (bt a0 x5_1)) - 1)), .int .i64 0, .string (⟨#[]⟩ : ByteArray), .bool false]) ?_ 1 _ rfl; (with_reducible repeat (first | refine qkN ?_ _ | refine qkd ?_ | refine qka ?_ _)); refine qkp (cs := #[.int .i64 0, .int .i64 0, .string (⟨#[]⟩ : ByteArray), .bool false]) ?_ 0 _ rfl; (with_reducible repeat (first | refine qkN ?_ _ | refine qkd ?_ | refine qka ?_ _)); exact BK362.out⟩, ⟨bw_ HB.out⟩⟩
     case round =>
      clear H'
      (try clear c2); (try clear c2b0); (try clear p2); (try clear c3); (try clear c3b0); (try clear p4); (try clear q4); (try clear hx4); (try clear c5); (try clear c5b0); (try clear c5b1); (try clear p6)
      (try clear hcz7_0); (try clear hcz7_1); (try clear hcz7_2); (try clear hcz7_3); (try clear hfz7_0); (try clear hfz7_1); (try clear hfz7_2); (try clear hfz7_3); (try clear p4); (try clear q4)
      obtain ⟨x5_2, x7_2, x8_2, rfl, rfl, rfl, HA, HK2, HO_4, BK362, HB⟩ := hrel
      cases gk with
      | zero => exact absurd HA.out (by simp [barbicanref06_Decode.l1])
      | succ k2 =>
       have H := HA.out
       clear HA
       simp only [barbicanref06_Decode.l1] at H
       by_cases c8 : x8_2 < 8
       ·rw [if_pos c8] at H
        have c8b0 : decide (x8_2 < 8) = true := decide_eq_true c8
        clear c8
        by_cases c9 : x5_2 < (a0.size : Int)
        ·rw [if_pos c9] at H
         have c9b0 : decide (x5_2 < (a0.size : Int)) = true := decide_eq_true c9
         clear c9
         have c10 : 0 ≤ x5_2 := Classical.byContradiction fun c10 => by rw [if_neg c10] at H; exact absurd H (by simp)
         rw [if_pos c10] at H
         have c10b0 : decide (0 ≤ x5_2) = true := decide_eq_true c10
         clear c10
         have H' := Aside0.mk H
         clear H
         have p11 : 0 ≤ (x5_2 : Int) := ode_
         have q11 : x5_2 < (a0.size : Int) := ode_
         have hx11 := bt_at a0 x5_2
         replace p11 := eq_true p11
         replace q11 := eq_true q11
         go_wp2
         go_roundg k2
         case measure => have := HK1.out; have := HK2.out; omega
         case rel => exact ⟨(wrap64 (x5_2 + 1)), (IntKind.u64.wrap ((IntKind.u64.wrap (x7_2 * 256)) + (IntKind.u64.wrap (bt a0 x5_2)))), (wrap64 (x8_2 + 1)), (by first | rfl | (simp; done) | (simp [*]; done) | (simp [bne]; done)), (by first | rfl | (simp; done) | (simp [*]; done) | (simp [bne]; done)), (by first | rfl | (simp; done) | (simp [*]; done) | (simp [bne]; done)), H', ⟨by have := HK1.out; have := HK2.out; omega⟩, ⟨by (with_reducible repeat (first | apply Kd.R_alloc | apply Kd.R_drewN | apply Kd.R_drew)); exact HO_4.out⟩, ⟨by (with_reducible repeat (first | refine qkN ?_ _ | refine qkd ?_ | refine qka ?_ _)); exact BK362.out⟩, ⟨bw_ HB.out⟩⟩
        rw [if_neg c9] at H
        have c9b0 : decide (x5_2 < (a0.size : Int)) = false := decide_eq_false c9
        clear c9
        have c12 : x4_1.length < 3518437208883 := Classical.byContradiction fun c12 => by rw [if_neg c12] at H; exact absurd H (by simp)
        rw [if_pos c12] at H
        have LMc12 := Aside0.mk c12
        clear c12
        obtain ⟨y363, hy363⟩ : ∃ y_ : List (S72), y_ = (x4_1 ++ [(⟨(wrap64 ((wrap64 (bt a0 x5_1)) - 1)), wrap64 (Go.bits .xor .u64 x7_2 9223372036854775808), (⟨#[]⟩ : ByteArray), false⟩ : S72)]) := ⟨_, rfl⟩
        replace H : (barbicanref06_Decode.l0 k2 a0 y363 x5_2) = some (r1, r2) := by first | (rw [hy363]; with_reducible exact H) | (have H2_ := (Option.bind_some _ _).symm.trans H; rw [hy363]; with_reducible exact H2_) | (have H2_ := (Option.bind_some _ _).symm.trans H; with_reducible exact H2_) | with_reducible exact H | (rw [hy363]; exact H) | exact H
        have Ny363 := Aside0.mk hy363
        clear hy363
        have H' := Aside0.mk H
        clear H
        have hcz13_0 : wr.cell? ⟨gb362, 0, none⟩ = some (.int .i64 (wrap64 ((wrap64 (bt a0 x5_1)) - 1))) := (qkc BK362.out 0).trans rfl
        have hcz13_1 : wr.cell? ⟨gb362, 1, none⟩ = some (.int .i64 0) := (qkc BK362.out 1).trans rfl
        have hcz13_2 : wr.cell? ⟨gb362, 2, none⟩ = some (.string (⟨#[]⟩ : ByteArray)) := (qkc BK362.out 2).trans rfl
        have hcz13_3 : wr.cell? ⟨gb362, 3, none⟩ = some (.bool false) := (qkc BK362.out 3).trans rfl
        have hfz13_0 := qkf BK362.out 0
        have hfz13_1 := qkf BK362.out 1
        have hfz13_2 := qkf BK362.out 2
        have hfz13_3 := qkf BK362.out 3
        go_wp2_with (first | ((with_reducible refine gate_builtin (b := .append) (xs := #[.tmp 88, .tmp 90]) rfl ?_); (try (refine gate_guard (by rfl) ?_; dsimp only)); at_builtin; refine Kd.R_append k72 (w0 := w) w.heap.size rfl (.tmp 88) (.tmp 90) 46 72 (.agg #[(.int .i64 0), (.int .i64 0), (.string ⟨#[]⟩), (.bool false)]) 40 rfl Tryd.underlying46 info72 rfl (by decide) (by omega) u4 x4_1 (⟨(wrap64 ((wrap64 (bt a0 x5_1)) - 1)), wrap64 (Go.bits .xor .u64 x7_2 9223372036854775808), (⟨#[]⟩ : ByteArray), false⟩ : S72) [.int .i64 (wrap64 ((wrap64 (bt a0 x5_1)) - 1)), .int .i64 (wrap64 (Go.bits .xor .u64 x7_2 9223372036854775808)), .string (⟨#[]⟩ : ByteArray), .bool false] (fun k_ => k_ ≠ gb362) (fun _ => False) rfl (by first | (go_simp; done) | (go_simp; rfl)) ?aP (fun _ hk => hk.elim) ?aF ?aO ?aB ?aS ?aL ?_; (case aP => exact k72_mkM _ _ _ (⟨(wrap64 ((wrap64 (bt a0 x5_1)) - 1)), wrap64 (Go.bits .xor .u64 x7_2 9223372036854775808), (⟨#[]⟩ : ByteArray), false⟩ : S72)); (case aB => exact (bw_ HB.out)); (case aF => exact (fun k_ hk => Kd.freshB (g := gb362) (o := .cells #[.int .i64 (wrap64 ((wrap64 (bt a0 x5_1)) - 1)), .int .i64 (wrap64 (Go.bits .xor .u64 x7_2 9223372036854775808)), .string (⟨#[]⟩ : ByteArray), .bool false] 72 (0, 0)) (by (with_reducible repeat (first | refine qkN ?_ _ | refine qkd ?_ | refine qka ?_ _)); refine qkp (cs := #[.int .i64 (wrap64 ((wrap64 (bt a0 x5_1)) - 1)), .int .i64 0, .string (⟨#[]⟩ : ByteArray), .bool false]) ?_ 1 _ rfl; (with_reducible repeat (first | refine qkN ?_ _ | refine qkd ?_ | refine qka ?_ _)); exact BK362.out) k_ hk)); (case aO => exact (by (with_reducible repeat (first | apply Kd.R_alloc | apply Kd.R_drewN | apply Kd.R_drew)); exact Kd.R_mono (Kd.R_far (p := ⟨gb362, 1, none⟩) (Kd.R_mono HO_4.out (fun k_ hk => (⟨hk, hk⟩ : _ ∧ k_ ≠ gb362))) (fun _ hk => hk.2) (.int .i64 (wrap64 (Go.bits .xor .u64 x7_2 9223372036854775808)))) (fun _ hk => hk.1))); (case aS => exact (qbz (bw_ HB.out))); (case aL => have := LMc12.out; omega); intro v364 w14 ho hb hg hat; rw [← Ny363.out] at ho; have n0_ := Aside0.mk (blk_grown (g := gb362) (o := .cells #[.int .i64 (wrap64 ((wrap64 (bt a0 x5_1)) - 1)), .int .i64 (wrap64 (Go.bits .xor .u64 x7_2 9223372036854775808)), .string (⟨#[]⟩ : ByteArray), .bool false] 72 (0, 0)) (by (with_reducible repeat (first | refine qkN ?_ _ | refine qkd ?_ | refine qka ?_ _)); refine qkp (cs := #[.int .i64 (wrap64 ((wrap64 (bt a0 x5_1)) - 1)), .int .i64 0, .string (⟨#[]⟩ : ByteArray), .bool false]) ?_ 1 _ rfl; (with_reducible repeat (first | refine qkN ?_ _ | refine qkd ?_ | refine qka ?_ _)); exact BK362.out) hg (Kd.R_away HO_4.out (fun _ hk => hk))); have n1_ := Aside0.mk (hb); have n2_ := Aside0.mk (ho); clear BK362; clear HB; clear HO_4; have BK362 := n0_; have HB := n1_; have HO365 := n2_; clear n0_ n1_ n2_; clear ho hb hg hat))
        go_roundg k2
        case measure => have := HK1.out; have := HK2.out; omega
        case rel => exact ⟨(y363), (x5_2), (by first | rfl | (simp; done) | (simp [*]; done) | (simp [bne]; done)), H', ⟨by have := HK1.out; have := HK2.out; omega⟩, ⟨by (with_reducible repeat (first | apply Kd.R_alloc | apply Kd.R_drewN | apply Kd.R_drew)); exact Kd.R_mono HO365.out (fun _ hk => trivial)⟩, ⟨bw_ HB.out⟩⟩
       rw [if_neg c8] at H
       have c8b0 : decide (x8_2 < 8) = false := decide_eq_false c8
       clear c8
       have c15 : x4_1.length < 3518437208883 := Classical.byContradiction fun c15 => by rw [if_neg c15] at H; exact absurd H (by simp)
       rw [if_pos c15] at H
       have LMc15 := Aside0.mk c15
       clear c15
       obtain ⟨y366, hy366⟩ : ∃ y_ : List (S72), y_ = (x4_1 ++ [(⟨(wrap64 ((wrap64 (bt a0 x5_1)) - 1)), wrap64 (Go.bits .xor .u64 x7_2 9223372036854775808), (⟨#[]⟩ : ByteArray), false⟩ : S72)]) := ⟨_, rfl⟩
       replace H : (barbicanref06_Decode.l0 k2 a0 y366 x5_2) = some (r1, r2) := by first | (rw [hy366]; with_reducible exact H) | (have H2_ := (Option.bind_some _ _).symm.trans H; rw [hy366]; with_reducible exact H2_) | (have H2_ := (Option.bind_some _ _).symm.trans H; with_reducible exact H2_) | with_reducible exact H | (rw [hy366]; exact H) | exact H
       have Ny366 := Aside0.mk hy366
       clear hy366
       have H' := Aside0.mk H
       clear H
       have hcz16_0 : wr.cell? ⟨gb362, 0, none⟩ = some (.int .i64 (wrap64 ((wrap64 (bt a0 x5_1)) - 1))) := (qkc BK362.out 0).trans rfl
       have hcz16_1 : wr.cell? ⟨gb362, 1, none⟩ = some (.int .i64 0) := (qkc BK362.out 1).trans rfl
       have hcz16_2 : wr.cell? ⟨gb362, 2, none⟩ = some (.string (⟨#[]⟩ : ByteArray)) := (qkc BK362.out 2).trans rfl
       have hcz16_3 : wr.cell? ⟨gb362, 3, none⟩ = some (.bool false) := (qkc BK362.out 3).trans rfl
       have hfz16_0 := qkf BK362.out 0
       have hfz16_1 := qkf BK362.out 1
       have hfz16_2 := qkf BK362.out 2
       have hfz16_3 := qkf BK362.out 3
       go_wp2_with (first | ((with_reducible refine gate_builtin (b := .append) (xs := #[.tmp 88, .tmp 90]) rfl ?_); (try (refine gate_guard (by rfl) ?_; dsimp only)); at_builtin; refine Kd.R_append k72 (w0 := w) w.heap.size rfl (.tmp 88) (.tmp 90) 46 72 (.agg #[(.int .i64 0), (.int .i64 0), (.string ⟨#[]⟩), (.bool false)]) 40 rfl Tryd.underlying46 info72 rfl (by decide) (by omega) u4 x4_1 (⟨(wrap64 ((wrap64 (bt a0 x5_1)) - 1)), wrap64 (Go.bits .xor .u64 x7_2 9223372036854775808), (⟨#[]⟩ : ByteArray), false⟩ : S72) [.int .i64 (wrap64 ((wrap64 (bt a0 x5_1)) - 1)), .int .i64 (wrap64 (Go.bits .xor .u64 x7_2 9223372036854775808)), .string (⟨#[]⟩ : ByteArray), .bool false] (fun k_ => k_ ≠ gb362) (fun _ => False) rfl (by first | (go_simp; done) | (go_simp; rfl)) ?aP (fun _ hk => hk.elim) ?aF ?aO ?aB ?aS ?aL ?_; (case aP => exact k72_mkM _ _ _ (⟨(wrap64 ((wrap64 (bt a0 x5_1)) - 1)), wrap64 (Go.bits .xor .u64 x7_2 9223372036854775808), (⟨#[]⟩ : ByteArray), false⟩ : S72)); (case aB => exact (bw_ HB.out)); (case aF => exact (fun k_ hk => Kd.freshB (g := gb362) (o := .cells #[.int .i64 (wrap64 ((wrap64 (bt a0 x5_1)) - 1)), .int .i64 (wrap64 (Go.bits .xor .u64 x7_2 9223372036854775808)), .string (⟨#[]⟩ : ByteArray), .bool false] 72 (0, 0)) (by (with_reducible repeat (first | refine qkN ?_ _ | refine qkd ?_ | refine qka ?_ _)); refine qkp (cs := #[.int .i64 (wrap64 ((wrap64 (bt a0 x5_1)) - 1)), .int .i64 0, .string (⟨#[]⟩ : ByteArray), .bool false]) ?_ 1 _ rfl; (with_reducible repeat (first | refine qkN ?_ _ | refine qkd ?_ | refine qka ?_ _)); exact BK362.out) k_ hk)); (case aO => exact (by (with_reducible repeat (first | apply Kd.R_alloc | apply Kd.R_drewN | apply Kd.R_drew)); exact Kd.R_mono (Kd.R_far (p := ⟨gb362, 1, none⟩) (Kd.R_mono HO_4.out (fun k_ hk => (⟨hk, hk⟩ : _ ∧ k_ ≠ gb362))) (fun _ hk => hk.2) (.int .i64 (wrap64 (Go.bits .xor .u64 x7_2 9223372036854775808)))) (fun _ hk => hk.1))); (case aS => exact (qbz (bw_ HB.out))); (case aL => have := LMc15.out; omega); intro v367 w17 ho hb hg hat; rw [← Ny366.out] at ho; have n0_ := Aside0.mk (blk_grown (g := gb362) (o := .cells #[.int .i64 (wrap64 ((wrap64 (bt a0 x5_1)) - 1)), .int .i64 (wrap64 (Go.bits .xor .u64 x7_2 9223372036854775808)), .string (⟨#[]⟩ : ByteArray), .bool false] 72 (0, 0)) (by (with_reducible repeat (first | refine qkN ?_ _ | refine qkd ?_ | refine qka ?_ _)); refine qkp (cs := #[.int .i64 (wrap64 ((wrap64 (bt a0 x5_1)) - 1)), .int .i64 0, .string (⟨#[]⟩ : ByteArray), .bool false]) ?_ 1 _ rfl; (with_reducible repeat (first | refine qkN ?_ _ | refine qkd ?_ | refine qka ?_ _)); exact BK362.out) hg (Kd.R_away HO_4.out (fun _ hk => hk))); have n1_ := Aside0.mk (hb); have n2_ := Aside0.mk (ho); clear BK362; clear HB; clear HO_4; have BK362 := n0_; have HB := n1_; have HO368 := n2_; clear n0_ n1_ n2_; clear ho hb hg hat))
       go_roundg k2
       case measure => have := HK1.out; have := HK2.out; omega
       case rel => exact ⟨(y366), (x5_2), (by first | rfl | (simp; done) | (simp [*]; done) | (simp [bne]; done)), H', ⟨by have := HK1.out; have := HK2.out; omega⟩, ⟨by (with_reducible repeat (first | apply Kd.R_alloc | apply Kd.R_drewN | apply Kd.R_drew)); exact Kd.R_mono HO368.out (fun _ hk => trivial)⟩, ⟨bw_ HB.out⟩⟩
    rw [if_neg c5] at H
    have c5b0 : ((wrap64 ((wrap64 (bt a0 x5_1)) - 1)) == 1) = false := beq_eq_false_iff_ne.mpr c5
    have c5b1 : ((wrap64 ((wrap64 (bt a0 x5_1)) - 1)) != 1) = true := bne_iff_ne.mpr c5
    by_cases c18 : (wrap64 ((wrap64 (bt a0 x5_1)) - 1)) = 2
    ·rw [if_pos c18] at H
     have c18b0 : ((wrap64 ((wrap64 (bt a0 x5_1)) - 1)) == 2) = true := beq_iff_eq.mpr c18
     have c18b1 : ((wrap64 ((wrap64 (bt a0 x5_1)) - 1)) != 2) = false := bne_eq_false_iff_eq.mpr c18
     clear c18
     have H' := Aside0.mk H
     clear H
     have p4 : 0 ≤ (x5_1 : Int) := ode_
     have q4 : x5_1 < (a0.size : Int) := ode_
     have hx4 := bt_at a0 x5_1
     replace p4 := eq_true p4
     replace q4 := eq_true q4
     go_wp2_with (first | ((with_reducible refine qgd (N := 6) rfl ?_); (try (refine gate_guard (by rfl) ?_; dsimp only)); refine qbe ?hg (N := 6) ?hd (cs := #[.int .i64 0, .int .i64 0, .string (⟨#[]⟩ : ByteArray), .bool false]) (t := 72) ?hr ?_; (case hd => rfl); (case hg => rfl); (case hr => first | (go_simp; done) | (go_simp; rfl)); intro gb362 hg w19 hbox hb; have n0_ := Aside0.mk (Kd.R_below (Kd.R_elderB (kR_ HO_4.out) gb362 (Nat.le_of_eq hg.symm)) hb); have n1_ := Aside0.mk (below_step (bw_ HB.out) hb); have n2_ := Aside0.mk (hbox); have n3_ := Aside0.mk ((by rw [hg]; exact (qbz (bw_ HB.out)) : w.heap.size ≤ gb362)); have n4_ := Aside0.mk ((by rw [hg]; exact (qbz (bw_ HB.out)) : w.heap.size ≤ gb362)); clear HO_4; clear HB; have HO_4 := n0_; have HB := n1_; have BK362 := n2_; have GW362 := n3_; have GE362 := n4_; clear n0_ n1_ n2_ n3_ n4_; clear hb hbox hg; have hcz20_0 : w19.cell? ⟨gb362, 0, none⟩ = some (.int .i64 0) := (qkc BK362.out 0).trans rfl; have hcz20_1 : w19.cell? ⟨gb362, 1, none⟩ = some (.int .i64 0) := (qkc BK362.out 1).trans rfl; have hcz20_2 : w19.cell? ⟨gb362, 2, none⟩ = some (.string (⟨#[]⟩ : ByteArray)) := (qkc BK362.out 2).trans rfl; have hcz20_3 : w19.cell? ⟨gb362, 3, none⟩ = some (.bool false) := (qkc BK362.out 3).trans rfl; have hfz20_0 := qkf BK362.out 0; have hfz20_1 := qkf BK362.out 1; have hfz20_2 := qkf BK362.out 2; have hfz20_3 := qkf BK362.out 3))
     go_loopg [5] k1 (fun kq v5 w' => ∃ (x5_2 : Int), v5 = .int .i64 x5_2 ∧ Aside0 (barbicanref06_Decode.l2 kq a0 x4_1 x5_2 (wrap64 (x5_1 + 1)) (wrap64 ((wrap64 (bt a0 x5_1)) - 1)) 0 (⟨#[]⟩ : ByteArray) false = some (r1, r2)) ∧ Aside0 (kq ≤ k1) ∧ Aside0 (Kd.R k72 72 w' w.heap.size (fun k_ => k_ ≠ gb362) u4 x4_1) ∧ Aside0 (w'.heap[gb362]? = some (.cells #[.int .i64 (wrap64 ((wrap64 (bt a0 x5_1)) - 1)), .int .i64 0, .string (⟨#[]⟩ : ByteArray), .bool false] 72 (0, 0))) ∧ Aside0 (Below w.heap.size w w'))
     case atStart => exact ⟨(wrap64 (x5_1 + 1)), (by first | rfl | (simp; done) | (simp [*]; done) | (simp [bne]; done)), H', ⟨Nat.le_refl _⟩, ⟨by (with_reducible repeat (first | apply Kd.R_alloc | apply Kd.R_drewN | apply Kd.R_drew)); exact Kd.R_mono (Kd.R_far (p := ⟨gb362, 3, none⟩) (Kd.R_far (p := ⟨gb362, 2, none⟩) (Kd.R_far (p := ⟨gb362, 1, none⟩) (Kd.R_far (p := ⟨gb362, 0, none⟩) (Kd.R_mono HO_4.out (fun k_ hk => (⟨hk, hk.2⟩ : _ ∧ k_ ≠ gb362))) (fun _ hk => hk.2) (.int .i64 (wrap64 ((wrap64 (bt a0 x5_1)) - 1)))) (fun _ hk => hk.2) (.int .i64 0)) (fun _ hk => hk.2) (.string (⟨#[]⟩ : ByteArray))) (fun _ hk => hk.2) (.bool false)) (fun _ hk => hk.1.2)⟩, ⟨by (with_reducible repeat (first | refine qkN ?_ _ | refine qkd ?_ | refine qka ?_ _)); refine qkp (cs := #[.int .i64 (wrap64 ((wrap64 (bt a0 x5_1)) - 1)), .int .i64 0, .string (⟨#[]⟩ : ByteArray), .bool false]) ?_ 3 _ rfl; (with_reducible repeat (first | refine qkN ?_ _ | refine qkd ?_ | refine qka ?_ _)); refine qkp (cs := #[.int .i64 (wrap64 ((wrap64 (bt a0 x5_1)) - 1)), .int .i64 0, .string (⟨#[]⟩ : ByteArray), .bool false]) ?_ 2 _ rfl; (with_reducible repeat (first | refine qkN ?_ _ | refine qkd ?_ | refine qka ?_ _)); refine qkp (cs := #[.int .i64 (wrap64 ((wrap64 (bt a0 x5_1)) - 1)), .int .i64 0, .string (⟨#[]⟩ : ByteArray), .bool false]) ?_ 1 _ rfl; (with_reducible repeat (first | refine qkN ?_ _ | refine qkd ?_ | refine qka ?_ _)); refine qkp (cs := #[.int .i64 0, .int .i64 0, .string (⟨#[]⟩ : ByteArray), .bool false]) ?_ 0 _ rfl; (with_reducible repeat (first | refine qkN ?_ _ | refine qkd ?_ | refine qka ?_ _)); exact BK362.out⟩, ⟨bw_ HB.out⟩⟩
     case round =>
      clear H'
      (try clear c1); (try clear p1); (try clear q1); (try clear hx1); (try clear c2); (try clear c2b0); (try clear p2); (try clear c3); (try clear c3b0); (try clear p4); (try clear q4); (try clear hx4)
      (try clear c5); (try clear c5b0); (try clear c5b1); (try clear p6); (try clear c8); (try clear c8b0); (try clear c9); (try clear c9b0); (try clear c10); (try clear c10b0); (try clear p11); (try clear q11)
      (try clear hx11); (try clear c12); (try clear c15); (try clear c18); (try clear c18b0); (try clear c18b1); (try clear hcz13_0); (try clear hcz13_1); (try clear hcz13_2); (try clear hcz13_3); (try clear hcz16_0); (try clear hcz16_1)
      (try clear hcz16_2); (try clear hcz16_3); (try clear hcz20_0); (try clear hcz20_1); (try clear hcz20_2); (try clear hcz20_3); (try clear hcz7_0); (try clear hcz7_1); (try clear hcz7_2); (try clear hcz7_3); (try clear hfz13_0); (try clear hfz13_1)
      (try clear hfz13_2); (try clear hfz13_3); (try clear hfz16_0); (try clear hfz16_1); (try clear hfz16_2); (try clear hfz16_3); (try clear hfz20_0); (try clear hfz20_1); (try clear hfz20_2); (try clear hfz20_3); (try clear hfz7_0); (try clear hfz7_1)
      (try clear hfz7_2); (try clear hfz7_3); (try clear p11); (try clear p2); (try clear p4); (try clear p6); (try clear q11); (try clear q4)
      obtain ⟨x5_2, rfl, HA, HK2, HO_4, BK362, HB⟩ := hrel
      cases gk with
      | zero => exact absurd HA.out (by simp [barbicanref06_Decode.l2])
      | succ k2 =>
       have H := HA.out
       clear HA
       simp only [barbicanref06_Decode.l2] at H
       by_cases c21 : x5_2 < (a0.size : Int)
       ·rw [if_pos c21] at H
        have c21b0 : decide (x5_2 < (a0.size : Int)) = true := decide_eq_true c21
        clear c21
        have c22 : 0 ≤ x5_2 := Classical.byContradiction fun c22 => by rw [if_neg c22] at H; exact absurd H (by simp)
        rw [if_pos c22] at H
        have c22b0 : decide (0 ≤ x5_2) = true := decide_eq_true c22
        clear c22
        by_cases c24 : (bt a0 x5_2) = 0
        ·rw [if_pos c24] at H
         have c24b0 : ((bt a0 x5_2) == 0) = true := beq_iff_eq.mpr c24
         have c24b1 : ((bt a0 x5_2) != 0) = false := bne_eq_false_iff_eq.mpr c24
         clear c24
         obtain ⟨ji25, hji25⟩ : ∃ j_ : Int, (wrap64 (x5_1 + 1)) = j_ := ⟨_, rfl⟩
         replace H : (if 0 ≤ (ji25) then (if (ji25) ≤ x5_2 then (if x5_2 ≤ (a0.size : Int) then (if x4_1.length < 3518437208883 then (barbicanref06_Decode.l0 k2 a0 (x4_1 ++ [(⟨(wrap64 ((wrap64 (bt a0 x5_1)) - 1)), 0, a0.extract ((ji25) : Int).toNat (x5_2 : Int).toNat, false⟩ : S72)]) (wrap64 (x5_2 + 1))) else (none)) else (none)) else (none)) else (none)) = some (r1, r2) := by first | (rw [hji25] at H; exact H) | (simp only [hji25] at H ⊢; exact H)
         have hji25w : (IntKind.i64.wrap (x5_1 + 1)) = ji25 := (i64_w _).trans hji25
         have c26 : 0 ≤ (ji25) := Classical.byContradiction fun c26 => by rw [if_neg c26] at H; exact absurd H (by simp)
         rw [if_pos c26] at H
         have c26b0 := eq_true c26
         have c26b1 : decide (0 ≤ (ji25)) = true := decide_eq_true c26
         clear c26
         have c27 : (ji25) ≤ x5_2 := Classical.byContradiction fun c27 => by rw [if_neg c27] at H; exact absurd H (by simp)
         rw [if_pos c27] at H
         have c27b0 := eq_true c27
         have c27b1 : decide ((ji25) ≤ x5_2) = true := decide_eq_true c27
         clear c27
         have c28 : x5_2 ≤ (a0.size : Int) := Classical.byContradiction fun c28 => by rw [if_neg c28] at H; exact absurd H (by simp)
         rw [if_pos c28] at H
         have c28b0 := eq_true c28
         have c28b1 : decide (x5_2 ≤ (a0.size : Int)) = true := decide_eq_true c28
         clear c28
         have c29 : x4_1.length < 3518437208883 := Classical.byContradiction fun c29 => by rw [if_neg c29] at H; exact absurd H (by simp)
         rw [if_pos c29] at H
         have LMc29 := Aside0.mk c29
         clear c29
         obtain ⟨y369, hy369⟩ : ∃ y_ : List (S72), y_ = (x4_1 ++ [(⟨(wrap64 ((wrap64 (bt a0 x5_1)) - 1)), 0, a0.extract ((ji25) : Int).toNat (x5_2 : Int).toNat, false⟩ : S72)]) := ⟨_, rfl⟩
         replace H : (barbicanref06_Decode.l0 k2 a0 y369 (wrap64 (x5_2 + 1))) = some (r1, r2) := by first | (rw [hy369]; with_reducible exact H) | (have H2_ := (Option.bind_some _ _).symm.trans H; rw [hy369]; with_reducible exact H2_) | (have H2_ := (Option.bind_some _ _).symm.trans H; with_reducible exact H2_) | with_reducible exact H | (rw [hy369]; exact H) | exact H
         have Ny369 := Aside0.mk hy369
         clear hy369
         have H' := Aside0.mk H
         clear H
         have p23 : 0 ≤ (x5_2 : Int) := ode_
         have q23 : x5_2 < (a0.size : Int) := ode_
         have hx23 := bt_at a0 x5_2
         replace p23 := eq_true p23
         replace q23 := eq_true q23
         have hcz30_0 : wr.cell? ⟨gb362, 0, none⟩ = some (.int .i64 (wrap64 ((wrap64 (bt a0 x5_1)) - 1))) := (qkc BK362.out 0).trans rfl
         have hcz30_1 : wr.cell? ⟨gb362, 1, none⟩ = some (.int .i64 0) := (qkc BK362.out 1).trans rfl
         have hcz30_2 : wr.cell? ⟨gb362, 2, none⟩ = some (.string (⟨#[]⟩ : ByteArray)) := (qkc BK362.out 2).trans rfl
         have hcz30_3 : wr.cell? ⟨gb362, 3, none⟩ = some (.bool false) := (qkc BK362.out 3).trans rfl
         have hfz30_0 := qkf BK362.out 0
         have hfz30_1 := qkf BK362.out 1
         have hfz30_2 := qkf BK362.out 2
         have hfz30_3 := qkf BK362.out 3
         go_wp2_with (first | ((with_reducible refine gate_builtin (b := .append) (xs := #[.tmp 88, .tmp 90]) rfl ?_); (try (refine gate_guard (by rfl) ?_; dsimp only)); at_builtin; refine Kd.R_append k72 (w0 := w) w.heap.size rfl (.tmp 88) (.tmp 90) 46 72 (.agg #[(.int .i64 0), (.int .i64 0), (.string ⟨#[]⟩), (.bool false)]) 40 rfl Tryd.underlying46 info72 rfl (by decide) (by omega) u4 x4_1 (⟨(wrap64 ((wrap64 (bt a0 x5_1)) - 1)), 0, a0.extract ((ji25) : Int).toNat (x5_2 : Int).toNat, false⟩ : S72) [.int .i64 (wrap64 ((wrap64 (bt a0 x5_1)) - 1)), .int .i64 0, .string (a0.extract ((ji25) : Int).toNat (x5_2 : Int).toNat), .bool false] (fun k_ => k_ ≠ gb362) (fun _ => False) rfl (by first | (go_simp; done) | (go_simp; rfl)) ?aP (fun _ hk => hk.elim) ?aF ?aO ?aB ?aS ?aL ?_; (case aP => exact k72_mkM _ _ _ (⟨(wrap64 ((wrap64 (bt a0 x5_1)) - 1)), 0, a0.extract ((ji25) : Int).toNat (x5_2 : Int).toNat, false⟩ : S72)); (case aB => exact (bw_ HB.out)); (case aF => exact (fun k_ hk => Kd.freshB (g := gb362) (o := .cells #[.int .i64 (wrap64 ((wrap64 (bt a0 x5_1)) - 1)), .int .i64 0, .string (a0.extract ((ji25) : Int).toNat (x5_2 : Int).toNat), .bool false] 72 (0, 0)) (by (with_reducible repeat (first | refine qkN ?_ _ | refine qkd ?_ | refine qka ?_ _)); refine qkp (cs := #[.int .i64 (wrap64 ((wrap64 (bt a0 x5_1)) - 1)), .int .i64 0, .string (⟨#[]⟩ : ByteArray), .bool false]) ?_ 2 _ rfl; (with_reducible repeat (first | refine qkN ?_ _ | refine qkd ?_ | refine qka ?_ _)); exact BK362.out) k_ hk)); (case aO => exact (by (with_reducible repeat (first | apply Kd.R_alloc | apply Kd.R_drewN | apply Kd.R_drew)); exact Kd.R_mono (Kd.R_far (p := ⟨gb362, 2, none⟩) (Kd.R_mono HO_4.out (fun k_ hk => (⟨hk, hk⟩ : _ ∧ k_ ≠ gb362))) (fun _ hk => hk.2) (.string (a0.extract ((ji25) : Int).toNat (x5_2 : Int).toNat))) (fun _ hk => hk.1))); (case aS => exact (qbz (bw_ HB.out))); (case aL => have := LMc29.out; omega); intro v370 w31 ho hb hg hat; rw [← Ny369.out] at ho; have n0_ := Aside0.mk (blk_grown (g := gb362) (o := .cells #[.int .i64 (wrap64 ((wrap64 (bt a0 x5_1)) - 1)), .int .i64 0, .string (a0.extract ((ji25) : Int).toNat (x5_2 : Int).toNat), .bool false] 72 (0, 0)) (by (with_reducible repeat (first | refine qkN ?_ _ | refine qkd ?_ | refine qka ?_ _)); refine qkp (cs := #[.int .i64 (wrap64 ((wrap64 (bt a0 x5_1)) - 1)), .int .i64 0, .string (⟨#[]⟩ : ByteArray), .bool false]) ?_ 2 _ rfl; (with_reducible repeat (first | refine qkN ?_ _ | refine qkd ?_ | refine qka ?_ _)); exact BK362.out) hg (Kd.R_away HO_4.out (fun _ hk => hk))); have n1_ := Aside0.mk (hb); have n2_ := Aside0.mk (ho); clear BK362; clear HB; clear HO_4; have BK362 := n0_; have HB := n1_; have HO371 := n2_; clear n0_ n1_ n2_; clear ho hb hg hat))
         go_roundg k2
         case measure => have := HK1.out; have := HK2.out; omega
         case rel => exact ⟨(y369), (wrap64 (x5_2 + 1)), (by first | rfl | (simp; done) | (simp [*]; done) | (simp [bne]; done)), H', ⟨by have := HK1.out; have := HK2.out; omega⟩, ⟨by (with_reducible repeat (first | apply Kd.R_alloc | apply Kd.R_drewN | apply Kd.R_drew)); exact Kd.R_mono HO371.out (fun _ hk => trivial)⟩, ⟨bw_ HB.out⟩⟩
        rw [if_neg c24] at H
        have c24b0 : ((bt a0 x5_2) == 0) = false := beq_eq_false_iff_ne.mpr c24
        have c24b1 : ((bt a0 x5_2) != 0) = true := bne_iff_ne.mpr c24
        have H' := Aside0.mk H
        clear H
        have p23 : 0 ≤ (x5_2 : Int) := ode_
        have q23 : x5_2 < (a0.size : Int) := ode_
        have hx23 := bt_at a0 x5_2
        replace p23 := eq_true p23
        replace q23 := eq_true q23
        go_wp2
        go_roundg k2
        case measure => have := HK1.out; have := HK2.out; omega
        case rel => exact ⟨(wrap64 (x5_2 + 1)), (by first | rfl | (simp; done) | (simp [*]; done) | (simp [bne]; done)), H', ⟨by have := HK1.out; have := HK2.out; omega⟩, ⟨by (with_reducible repeat (first | apply Kd.R_alloc | apply Kd.R_drewN | apply Kd.R_drew)); exact HO_4.out⟩, ⟨by (with_reducible repeat (first | refine qkN ?_ _ | refine qkd ?_ | refine qka ?_ _)); exact BK362.out⟩, ⟨bw_ HB.out⟩⟩
       rw [if_neg c21] at H
       have c21b0 : decide (x5_2 < (a0.size : Int)) = false := decide_eq_false c21
       clear c21
       obtain ⟨ji32, hji32⟩ : ∃ j_ : Int, (wrap64 (x5_1 + 1)) = j_ := ⟨_, rfl⟩
       replace H : (if 0 ≤ (ji32) then (if (ji32) ≤ x5_2 then (if x5_2 ≤ (a0.size : Int) then (if x4_1.length < 3518437208883 then (barbicanref06_Decode.l0 k2 a0 (x4_1 ++ [(⟨(wrap64 ((wrap64 (bt a0 x5_1)) - 1)), 0, a0.extract ((ji32) : Int).toNat (x5_2 : Int).toNat, false⟩ : S72)]) (wrap64 (x5_2 + 1))) else (none)) else (none)) else (none)) else (none)) = some (r1, r2) := by first | (rw [hji32] at H; exact H) | (simp only [hji32] at H ⊢; exact H)
       have hji32w : (IntKind.i64.wrap (x5_1 + 1)) = ji32 := (i64_w _).trans hji32
       have c33 : 0 ≤ (ji32) := Classical.byContradiction fun c33 => by rw [if_neg c33] at H; exact absurd H (by simp)
       rw [if_pos c33] at H
       have c33b0 := eq_true c33
       have c33b1 : decide (0 ≤ (ji32)) = true := decide_eq_true c33
       clear c33
       have c34 : (ji32) ≤ x5_2 := Classical.byContradiction fun c34 => by rw [if_neg c34] at H; exact absurd H (by simp)
       rw [if_pos c34] at H
       have c34b0 := eq_true c34
       have c34b1 : decide ((ji32) ≤ x5_2) = true := decide_eq_true c34
       clear c34
       have c35 : x5_2 ≤ (a0.size : Int) := Classical.byContradiction fun c35 => by rw [if_neg c35] at H; exact absurd H (by simp)
       rw [if_pos c35] at H
       have c35b0 := eq_true c35
       have c35b1 : decide (x5_2 ≤ (a0.size : Int)) = true := decide_eq_true c35
       clear c35
       have c36 : x4_1.length < 3518437208883 := Classical.byContradiction fun c36 => by rw [if_neg c36] at H; exact absurd H (by simp)
       rw [if_pos c36] at H
       have LMc36 := Aside0.mk c36
       clear c36
       obtain ⟨y372, hy372⟩ : ∃ y_ : List (S72), y_ = (x4_1 ++ [(⟨(wrap64 ((wrap64 (bt a0 x5_1)) - 1)), 0, a0.extract ((ji32) : Int).toNat (x5_2 : Int).toNat, false⟩ : S72)]) := ⟨_, rfl⟩
       replace H : (barbicanref06_Decode.l0 k2 a0 y372 (wrap64 (x5_2 + 1))) = some (r1, r2) := by first | (rw [hy372]; with_reducible exact H) | (have H2_ := (Option.bind_some _ _).symm.trans H; rw [hy372]; with_reducible exact H2_) | (have H2_ := (Option.bind_some _ _).symm.trans H; with_reducible exact H2_) | with_reducible exact H | (rw [hy372]; exact H) | exact H
       have Ny372 := Aside0.mk hy372
       clear hy372
       have H' := Aside0.mk H
       clear H
       have hcz37_0 : wr.cell? ⟨gb362, 0, none⟩ = some (.int .i64 (wrap64 ((wrap64 (bt a0 x5_1)) - 1))) := (qkc BK362.out 0).trans rfl
       have hcz37_1 : wr.cell? ⟨gb362, 1, none⟩ = some (.int .i64 0) := (qkc BK362.out 1).trans rfl
       have hcz37_2 : wr.cell? ⟨gb362, 2, none⟩ = some (.string (⟨#[]⟩ : ByteArray)) := (qkc BK362.out 2).trans rfl
       have hcz37_3 : wr.cell? ⟨gb362, 3, none⟩ = some (.bool false) := (qkc BK362.out 3).trans rfl
       have hfz37_0 := qkf BK362.out 0
       have hfz37_1 := qkf BK362.out 1
       have hfz37_2 := qkf BK362.out 2
       have hfz37_3 := qkf BK362.out 3
       go_wp2_with (first | ((with_reducible refine gate_builtin (b := .append) (xs := #[.tmp 88, .tmp 90]) rfl ?_); (try (refine gate_guard (by rfl) ?_; dsimp only)); at_builtin; refine Kd.R_append k72 (w0 := w) w.heap.size rfl (.tmp 88) (.tmp 90) 46 72 (.agg #[(.int .i64 0), (.int .i64 0), (.string ⟨#[]⟩), (.bool false)]) 40 rfl Tryd.underlying46 info72 rfl (by decide) (by omega) u4 x4_1 (⟨(wrap64 ((wrap64 (bt a0 x5_1)) - 1)), 0, a0.extract ((ji32) : Int).toNat (x5_2 : Int).toNat, false⟩ : S72) [.int .i64 (wrap64 ((wrap64 (bt a0 x5_1)) - 1)), .int .i64 0, .string (a0.extract ((ji32) : Int).toNat (x5_2 : Int).toNat), .bool false] (fun k_ => k_ ≠ gb362) (fun _ => False) rfl (by first | (go_simp; done) | (go_simp; rfl)) ?aP (fun _ hk => hk.elim) ?aF ?aO ?aB ?aS ?aL ?_; (case aP => exact k72_mkM _ _ _ (⟨(wrap64 ((wrap64 (bt a0 x5_1)) - 1)), 0, a0.extract ((ji32) : Int).toNat (x5_2 : Int).toNat, false⟩ : S72)); (case aB => exact (bw_ HB.out)); (case aF => exact (fun k_ hk => Kd.freshB (g := gb362) (o := .cells #[.int .i64 (wrap64 ((wrap64 (bt a0 x5_1)) - 1)), .int .i64 0, .string (a0.extract ((ji32) : Int).toNat (x5_2 : Int).toNat), .bool false] 72 (0, 0)) (by (with_reducible repeat (first | refine qkN ?_ _ | refine qkd ?_ | refine qka ?_ _)); refine qkp (cs := #[.int .i64 (wrap64 ((wrap64 (bt a0 x5_1)) - 1)), .int .i64 0, .string (⟨#[]⟩ : ByteArray), .bool false]) ?_ 2 _ rfl; (with_reducible repeat (first | refine qkN ?_ _ | refine qkd ?_ | refine qka ?_ _)); exact BK362.out) k_ hk)); (case aO => exact (by (with_reducible repeat (first | apply Kd.R_alloc | apply Kd.R_drewN | apply Kd.R_drew)); exact Kd.R_mono (Kd.R_far (p := ⟨gb362, 2, none⟩) (Kd.R_mono HO_4.out (fun k_ hk => (⟨hk, hk⟩ : _ ∧ k_ ≠ gb362))) (fun _ hk => hk.2) (.string (a0.extract ((ji32) : Int).toNat (x5_2 : Int).toNat))) (fun _ hk => hk.1))); (case aS => exact (qbz (bw_ HB.out))); (case aL => have := LMc36.out; omega); intro v373 w38 ho hb hg hat; rw [← Ny372.out] at ho; have n0_ := Aside0.mk (blk_grown (g := gb362) (o := .cells #[.int .i64 (wrap64 ((wrap64 (bt a0 x5_1)) - 1)), .int .i64 0, .string (a0.extract ((ji32) : Int).toNat (x5_2 : Int).toNat), .bool false] 72 (0, 0)) (by (with_reducible repeat (first | refine qkN ?_ _ | refine qkd ?_ | refine qka ?_ _)); refine qkp (cs := #[.int .i64 (wrap64 ((wrap64 (bt a0 x5_1)) - 1)), .int .i64 0, .string (⟨#[]⟩ : ByteArray), .bool false]) ?_ 2 _ rfl; (with_reducible repeat (first | refine qkN ?_ _ | refine qkd ?_ | refine qka ?_ _)); exact BK362.out) hg (Kd.R_away HO_4.out (fun _ hk => hk))); have n1_ := Aside0.mk (hb); have n2_ := Aside0.mk (ho); clear BK362; clear HB; clear HO_4; have BK362 := n0_; have HB := n1_; have HO374 := n2_; clear n0_ n1_ n2_; clear ho hb hg hat))
       go_roundg k2
       case measure => have := HK1.out; have := HK2.out; omega
       case rel => exact ⟨(y372), (wrap64 (x5_2 + 1)), (by first | rfl | (simp; done) | (simp [*]; done) | (simp [bne]; done)), H', ⟨by have := HK1.out; have := HK2.out; omega⟩, ⟨by (with_reducible repeat (first | apply Kd.R_alloc | apply Kd.R_drewN | apply Kd.R_drew)); exact Kd.R_mono HO374.out (fun _ hk => trivial)⟩, ⟨bw_ HB.out⟩⟩
    rw [if_neg c18] at H
    have c18b0 : ((wrap64 ((wrap64 (bt a0 x5_1)) - 1)) == 2) = false := beq_eq_false_iff_ne.mpr c18
    have c18b1 : ((wrap64 ((wrap64 (bt a0 x5_1)) - 1)) != 2) = true := bne_iff_ne.mpr c18
    by_cases c39 : (wrap64 ((wrap64 (bt a0 x5_1)) - 1)) = 3
    ·rw [if_pos c39] at H
     have c39b0 : ((wrap64 ((wrap64 (bt a0 x5_1)) - 1)) == 3) = true := beq_iff_eq.mpr c39
     have c39b1 : ((wrap64 ((wrap64 (bt a0 x5_1)) - 1)) != 3) = false := bne_eq_false_iff_eq.mpr c39
     clear c39
     by_cases c40 : (wrap64 (x5_1 + 1)) < (a0.size : Int)
     ·rw [if_pos c40] at H
      have c40b0 : decide ((wrap64 (x5_1 + 1)) < (a0.size : Int)) = true := decide_eq_true c40
      clear c40
      obtain ⟨ji41, hji41⟩ : ∃ j_ : Int, (wrap64 (x5_1 + 1)) = j_ := ⟨_, rfl⟩
      replace H : (if 0 ≤ (ji41) then (if x4_1.length < 3518437208883 then (barbicanref06_Decode.l0 k1 a0 (x4_1 ++ [(⟨wrap64 ((wrap64 (bt a0 x5_1)) - 1), 0, (⟨#[]⟩ : ByteArray), ((bt a0 (ji41)) == 1)⟩ : S72)]) (wrap64 ((ji41) + 1))) else (none)) else (none)) = some (r1, r2) := by first | (rw [hji41] at H; exact H) | (simp only [hji41] at H ⊢; exact H)
      (try rw [hji41] at c40b0)
      have hji41w : (IntKind.i64.wrap (x5_1 + 1)) = ji41 := (i64_w _).trans hji41
      have c42 : 0 ≤ (ji41) := Classical.byContradiction fun c42 => by rw [if_neg c42] at H; exact absurd H (by simp)
      rw [if_pos c42] at H
      have c42b0 : decide (0 ≤ (ji41)) = true := decide_eq_true c42
      clear c42
      have c44 : x4_1.length < 3518437208883 := Classical.byContradiction fun c44 => by rw [if_neg c44] at H; exact absurd H (by simp)
      rw [if_pos c44] at H
      have LMc44 := Aside0.mk c44
      clear c44
      obtain ⟨y375, hy375⟩ : ∃ y_ : List (S72), y_ = (x4_1 ++ [(⟨wrap64 ((wrap64 (bt a0 x5_1)) - 1), 0, (⟨#[]⟩ : ByteArray), ((bt a0 (ji41)) == 1)⟩ : S72)]) := ⟨_, rfl⟩
      replace H : (barbicanref06_Decode.l0 k1 a0 y375 (wrap64 ((ji41) + 1))) = some (r1, r2) := by first | (rw [hy375]; with_reducible exact H) | (have H2_ := (Option.bind_some _ _).symm.trans H; rw [hy375]; with_reducible exact H2_) | (have H2_ := (Option.bind_some _ _).symm.trans H; with_reducible exact H2_) | with_reducible exact H | (rw [hy375]; exact H) | exact H
      have Ny375 := Aside0.mk hy375
      clear hy375
      have H' := Aside0.mk H
      clear H
      have p4 : 0 ≤ (x5_1 : Int) := ode_
      have q4 : x5_1 < (a0.size : Int) := ode_
      have hx4 := bt_at a0 x5_1
      replace p4 := eq_true p4
      replace q4 := eq_true q4
      go_wp2_with (first | ((with_reducible refine qgd (N := 6) rfl ?_); (try (refine gate_guard (by rfl) ?_; dsimp only)); refine qbe ?hg (N := 6) ?hd (cs := #[.int .i64 0, .int .i64 0, .string (⟨#[]⟩ : ByteArray), .bool false]) (t := 72) ?hr ?_; (case hd => rfl); (case hg => rfl); (case hr => first | (go_simp; done) | (go_simp; rfl)); intro gb362 hg w45 hbox hb; have n0_ := Aside0.mk (Kd.R_below (Kd.R_elderB (kR_ HO_4.out) gb362 (Nat.le_of_eq hg.symm)) hb); have n1_ := Aside0.mk (below_step (bw_ HB.out) hb); have n2_ := Aside0.mk (hbox); have n3_ := Aside0.mk ((by rw [hg]; exact (qbz (bw_ HB.out)) : w.heap.size ≤ gb362)); have n4_ := Aside0.mk ((by rw [hg]; exact (qbz (bw_ HB.out)) : w.heap.size ≤ gb362)); clear HO_4; clear HB; have HO_4 := n0_; have HB := n1_; have BK362 := n2_; have GW362 := n3_; have GE362 := n4_; clear n0_ n1_ n2_ n3_ n4_; clear hb hbox hg; have hcz46_0 : w45.cell? ⟨gb362, 0, none⟩ = some (.int .i64 0) := (qkc BK362.out 0).trans rfl; have hcz46_1 : w45.cell? ⟨gb362, 1, none⟩ = some (.int .i64 0) := (qkc BK362.out 1).trans rfl; have hcz46_2 : w45.cell? ⟨gb362, 2, none⟩ = some (.string (⟨#[]⟩ : ByteArray)) := (qkc BK362.out 2).trans rfl; have hcz46_3 : w45.cell? ⟨gb362, 3, none⟩ = some (.bool false) := (qkc BK362.out 3).trans rfl; have hfz46_0 := qkf BK362.out 0; have hfz46_1 := qkf BK362.out 1; have hfz46_2 := qkf BK362.out 2; have hfz46_3 := qkf BK362.out 3; have p43 : 0 ≤ ((ji41) : Int) := ode_; have q43 : (ji41) < (a0.size : Int) := ode_; have hx43 := bt_at a0 (ji41); replace p43 := eq_true p43; replace q43 := eq_true q43) | ((with_reducible refine gate_builtin (b := .append) (xs := #[.tmp 88, .tmp 90]) rfl ?_); (try (refine gate_guard (by rfl) ?_; dsimp only)); at_builtin; refine Kd.R_append k72 (w0 := w) w.heap.size rfl (.tmp 88) (.tmp 90) 46 72 (.agg #[(.int .i64 0), (.int .i64 0), (.string ⟨#[]⟩), (.bool false)]) 40 rfl Tryd.underlying46 info72 rfl (by decide) (by omega) u4 x4_1 (⟨wrap64 ((wrap64 (bt a0 x5_1)) - 1), 0, (⟨#[]⟩ : ByteArray), ((bt a0 (ji41)) == 1)⟩ : S72) [.int .i64 (wrap64 ((wrap64 (bt a0 x5_1)) - 1)), .int .i64 0, .string (⟨#[]⟩ : ByteArray), .bool ((bt a0 (ji41)) == 1)] (fun k_ => k_ ≠ gb362) (fun _ => False) rfl (by first | (go_simp; done) | (go_simp; rfl)) ?aP (fun _ hk => hk.elim) ?aF ?aO ?aB ?aS ?aL ?_; (case aP => exact k72_mkM _ _ _ (⟨wrap64 ((wrap64 (bt a0 x5_1)) - 1), 0, (⟨#[]⟩ : ByteArray), ((bt a0 (ji41)) == 1)⟩ : S72)); (case aB => exact (bw_ HB.out)); (case aF => exact (fun k_ hk => Kd.freshB (g := gb362) (o := .cells #[.int .i64 (wrap64 ((wrap64 (bt a0 x5_1)) - 1)), .int .i64 0, .string (⟨#[]⟩ : ByteArray), .bool ((bt a0 (ji41)) == 1)] 72 (0, 0)) (by (with_reducible repeat (first | refine qkN ?_ _ | refine qkd ?_ | refine qka ?_ _)); refine qkp (cs := #[.int .i64 (wrap64 ((wrap64 (bt a0 x5_1)) - 1)), .int .i64 0, .string (⟨#[]⟩ : ByteArray), .bool false]) ?_ 3 _ rfl; (with_reducible repeat (first | refine qkN ?_ _ | refine qkd ?_ | refine qka ?_ _)); refine qkp (cs := #[.int .i64 (wrap64 ((wrap64 (bt a0 x5_1)) - 1)), .int .i64 0, .string (⟨#[]⟩ : ByteArray), .bool false]) ?_ 3 _ rfl; (with_reducible repeat (first | refine qkN ?_ _ | refine qkd ?_ | refine qka ?_ _)); refine qkp (cs := #[.int .i64 (wrap64 ((wrap64 (bt a0 x5_1)) - 1)), .int .i64 0, .string (⟨#[]⟩ : ByteArray), .bool false]) ?_ 2 _ rfl; (with_reducible repeat (first | refine qkN ?_ _ | refine qkd ?_ | refine qka ?_ _)); refine qkp (cs := #[.int .i64 (wrap64 ((wrap64 (bt a0 x5_1)) - 1)), .int .i64 0, .string (⟨#[]⟩ : ByteArray), .bool false]) ?_ 1 _ rfl; (with_reducible repeat (first | refine qkN ?_ _ | refine qkd ?_ | refine qka ?_ _)); refine qkp (cs := #[.int .i64 0, .int .i64 0, .string (⟨#[]⟩ : ByteArray), .bool false]) ?_ 0 _ rfl; (with_reducible repeat (first | refine qkN ?_ _ | refine qkd ?_ | refine qka ?_ _)); exact BK362.out) k_ hk)); (case aO => exact (by (with_reducible repeat (first | apply Kd.R_alloc | apply Kd.R_drewN | apply Kd.R_drew)); exact Kd.R_mono (Kd.R_far (p := ⟨gb362, 3, none⟩) (Kd.R_far (p := ⟨gb362, 3, none⟩) (Kd.R_far (p := ⟨gb362, 2, none⟩) (Kd.R_far (p := ⟨gb362, 1, none⟩) (Kd.R_far (p := ⟨gb362, 0, none⟩) (Kd.R_mono HO_4.out (fun k_ hk => (⟨hk, hk.2⟩ : _ ∧ k_ ≠ gb362))) (fun _ hk => hk.2) (.int .i64 (wrap64 ((wrap64 (bt a0 x5_1)) - 1)))) (fun _ hk => hk.2) (.int .i64 0)) (fun _ hk => hk.2) (.string (⟨#[]⟩ : ByteArray))) (fun _ hk => hk.2) (.bool false)) (fun _ hk => hk.2) (.bool ((bt a0 (ji41)) == 1))) (fun _ hk => hk.1.2))); (case aS => exact (qbz (bw_ HB.out))); (case aL => have := LMc44.out; omega); intro v376 w47 ho hb hg hat; rw [← Ny375.out] at ho; have n0_ := Aside0.mk (blk_grown (g := gb362) (o := .cells #[.int .i64 (wrap64 ((wrap64 (bt a0 x5_1)) - 1)), .int .i64 0, .string (⟨#[]⟩ : ByteArray), .bool ((bt a0 (ji41)) == 1)] 72 (0, 0)) (by (with_reducible repeat (first | refine qkN ?_ _ | refine qkd ?_ | refine qka ?_ _)); refine qkp (cs := #[.int .i64 (wrap64 ((wrap64 (bt a0 x5_1)) - 1)), .int .i64 0, .string (⟨#[]⟩ : ByteArray), .bool false]) ?_ 3 _ rfl; (with_reducible repeat (first | refine qkN ?_ _ | refine qkd ?_ | refine qka ?_ _)); refine qkp (cs := #[.int .i64 (wrap64 ((wrap64 (bt a0 x5_1)) - 1)), .int .i64 0, .string (⟨#[]⟩ : ByteArray), .bool false]) ?_ 3 _ rfl; (with_reducible repeat (first | refine qkN ?_ _ | refine qkd ?_ | refine qka ?_ _)); refine qkp (cs := #[.int .i64 (wrap64 ((wrap64 (bt a0 x5_1)) - 1)), .int .i64 0, .string (⟨#[]⟩ : ByteArray), .bool false]) ?_ 2 _ rfl; (with_reducible repeat (first | refine qkN ?_ _ | refine qkd ?_ | refine qka ?_ _)); refine qkp (cs := #[.int .i64 (wrap64 ((wrap64 (bt a0 x5_1)) - 1)), .int .i64 0, .string (⟨#[]⟩ : ByteArray), .bool false]) ?_ 1 _ rfl; (with_reducible repeat (first | refine qkN ?_ _ | refine qkd ?_ | refine qka ?_ _)); refine qkp (cs := #[.int .i64 0, .int .i64 0, .string (⟨#[]⟩ : ByteArray), .bool false]) ?_ 0 _ rfl; (with_reducible repeat (first | refine qkN ?_ _ | refine qkd ?_ | refine qka ?_ _)); exact BK362.out) hg (Kd.R_away HO_4.out (fun _ hk => hk.2))); have n1_ := Aside0.mk (hb); have n2_ := Aside0.mk (ho); clear BK362; clear HB; clear HO_4; have BK362 := n0_; have HB := n1_; have HO377 := n2_; clear n0_ n1_ n2_; clear ho hb hg hat))
      go_roundg k1
      case measure => have := HK1.out; omega
      case rel => exact ⟨(y375), (wrap64 ((ji41) + 1)), (by first | rfl | (simp; done) | (simp only [← hji41] <;> (first | rfl | simp)) | (simp [*]; done) | (simp [bne]; done)), H', ⟨by have := HK1.out; omega⟩, ⟨by (with_reducible repeat (first | apply Kd.R_alloc | apply Kd.R_drewN | apply Kd.R_drew)); exact Kd.R_mono HO377.out (fun _ hk => trivial)⟩, ⟨bw_ HB.out⟩⟩
     rw [if_neg c40] at H
     have c40b0 : decide ((wrap64 (x5_1 + 1)) < (a0.size : Int)) = false := decide_eq_false c40
     clear c40
     have c48 : x4_1.length < 3518437208883 := Classical.byContradiction fun c48 => by rw [if_neg c48] at H; exact absurd H (by simp)
     rw [if_pos c48] at H
     have LMc48 := Aside0.mk c48
     clear c48
     obtain ⟨y378, hy378⟩ : ∃ y_ : List (S72), y_ = (x4_1 ++ [(⟨wrap64 ((wrap64 (bt a0 x5_1)) - 1), 0, (⟨#[]⟩ : ByteArray), false⟩ : S72)]) := ⟨_, rfl⟩
     replace H : (barbicanref06_Decode.l0 k1 a0 y378 (wrap64 ((wrap64 (x5_1 + 1)) + 1))) = some (r1, r2) := by first | (rw [hy378]; with_reducible exact H) | (have H2_ := (Option.bind_some _ _).symm.trans H; rw [hy378]; with_reducible exact H2_) | (have H2_ := (Option.bind_some _ _).symm.trans H; with_reducible exact H2_) | with_reducible exact H | (rw [hy378]; exact H) | exact H
     have Ny378 := Aside0.mk hy378
     clear hy378
     have H' := Aside0.mk H
     clear H
     have p4 : 0 ≤ (x5_1 : Int) := ode_
     have q4 : x5_1 < (a0.size : Int) := ode_
     have hx4 := bt_at a0 x5_1
     replace p4 := eq_true p4
     replace q4 := eq_true q4
     go_wp2_with (first | ((with_reducible refine qgd (N := 6) rfl ?_); (try (refine gate_guard (by rfl) ?_; dsimp only)); refine qbe ?hg (N := 6) ?hd (cs := #[.int .i64 0, .int .i64 0, .string (⟨#[]⟩ : ByteArray), .bool false]) (t := 72) ?hr ?_; (case hd => rfl); (case hg => rfl); (case hr => first | (go_simp; done) | (go_simp; rfl)); intro gb362 hg w49 hbox hb; have n0_ := Aside0.mk (Kd.R_below (Kd.R_elderB (kR_ HO_4.out) gb362 (Nat.le_of_eq hg.symm)) hb); have n1_ := Aside0.mk (below_step (bw_ HB.out) hb); have n2_ := Aside0.mk (hbox); have n3_ := Aside0.mk ((by rw [hg]; exact (qbz (bw_ HB.out)) : w.heap.size ≤ gb362)); have n4_ := Aside0.mk ((by rw [hg]; exact (qbz (bw_ HB.out)) : w.heap.size ≤ gb362)); clear HO_4; clear HB; have HO_4 := n0_; have HB := n1_; have BK362 := n2_; have GW362 := n3_; have GE362 := n4_; clear n0_ n1_ n2_ n3_ n4_; clear hb hbox hg; have hcz50_0 : w49.cell? ⟨gb362, 0, none⟩ = some (.int .i64 0) := (qkc BK362.out 0).trans rfl; have hcz50_1 : w49.cell? ⟨gb362, 1, none⟩ = some (.int .i64 0) := (qkc BK362.out 1).trans rfl; have hcz50_2 : w49.cell? ⟨gb362, 2, none⟩ = some (.string (⟨#[]⟩ : ByteArray)) := (qkc BK362.out 2).trans rfl; have hcz50_3 : w49.cell? ⟨gb362, 3, none⟩ = some (.bool false) := (qkc BK362.out 3).trans rfl; have hfz50_0 := qkf BK362.out 0; have hfz50_1 := qkf BK362.out 1; have hfz50_2 := qkf BK362.out 2; have hfz50_3 := qkf BK362.out 3) | ((with_reducible refine gate_builtin (b := .append) (xs := #[.tmp 88, .tmp 90]) rfl ?_); (try (refine gate_guard (by rfl) ?_; dsimp only)); at_builtin; refine Kd.R_append k72 (w0 := w) w.heap.size rfl (.tmp 88) (.tmp 90) 46 72 (.agg #[(.int .i64 0), (.int .i64 0), (.string ⟨#[]⟩), (.bool false)]) 40 rfl Tryd.underlying46 info72 rfl (by decide) (by omega) u4 x4_1 (⟨wrap64 ((wrap64 (bt a0 x5_1)) - 1), 0, (⟨#[]⟩ : ByteArray), false⟩ : S72) [.int .i64 (wrap64 ((wrap64 (bt a0 x5_1)) - 1)), .int .i64 0, .string (⟨#[]⟩ : ByteArray), .bool false] (fun k_ => k_ ≠ gb362) (fun _ => False) rfl (by first | (go_simp; done) | (go_simp; rfl)) ?aP (fun _ hk => hk.elim) ?aF ?aO ?aB ?aS ?aL ?_; (case aP => exact k72_mkM _ _ _ (⟨wrap64 ((wrap64 (bt a0 x5_1)) - 1), 0, (⟨#[]⟩ : ByteArray), false⟩ : S72)); (case aB => exact (bw_ HB.out)); (case aF => exact (fun k_ hk => Kd.freshB (g := gb362) (o := .cells #[.int .i64 (wrap64 ((wrap64 (bt a0 x5_1)) - 1)), .int .i64 0, .string (⟨#[]⟩ : ByteArray), .bool false] 72 (0, 0)) (by (with_reducible repeat (first | refine qkN ?_ _ | refine qkd ?_ | refine qka ?_ _)); refine qkp (cs := #[.int .i64 (wrap64 ((wrap64 (bt a0 x5_1)) - 1)), .int .i64 0, .string (⟨#[]⟩ : ByteArray), .bool false]) ?_ 3 _ rfl; (with_reducible repeat (first | refine qkN ?_ _ | refine qkd ?_ | refine qka ?_ _)); refine qkp (cs := #[.int .i64 (wrap64 ((wrap64 (bt a0 x5_1)) - 1)), .int .i64 0, .string (⟨#[]⟩ : ByteArray), .bool false]) ?_ 3 _ rfl; (with_reducible repeat (first | refine qkN ?_ _ | refine qkd ?_ | refine qka ?_ _)); refine qkp (cs := #[.int .i64 (wrap64 ((wrap64 (bt a0 x5_1)) - 1)), .int .i64 0, .string (⟨#[]⟩ : ByteArray), .bool false]) ?_ 2 _ rfl; (with_reducible repeat (first | refine qkN ?_ _ | refine qkd ?_ | refine qka ?_ _)); refine qkp (cs := #[.int .i64 (wrap64 ((wrap64 (bt a0 x5_1)) - 1)), .int .i64 0, .string (⟨#[]⟩ : ByteArray), .bool false]) ?_ 1 _ rfl; (with_reducible repeat (first | refine qkN ?_ _ | refine qkd ?_ | refine qka ?_ _)); refine qkp (cs := #[.int .i64 0, .int .i64 0, .string (⟨#[]⟩ : ByteArray), .bool false]) ?_ 0 _ rfl; (with_reducible repeat (first | refine qkN ?_ _ | refine qkd ?_ | refine qka ?_ _)); exact BK362.out) k_ hk)); (case aO => exact (by (with_reducible repeat (first | apply Kd.R_alloc | apply Kd.R_drewN | apply Kd.R_drew)); exact Kd.R_mono (Kd.R_far (p := ⟨gb362, 3, none⟩) (Kd.R_far (p := ⟨gb362, 3, none⟩) (Kd.R_far (p := ⟨gb362, 2, none⟩) (Kd.R_far (p := ⟨gb362, 1, none⟩) (Kd.R_far (p := ⟨gb362, 0, none⟩) (Kd.R_mono HO_4.out (fun k_ hk => (⟨hk, hk.2⟩ : _ ∧ k_ ≠ gb362))) (fun _ hk => hk.2) (.int .i64 (wrap64 ((wrap64 (bt a0 x5_1)) - 1)))) (fun _ hk => hk.2) (.int .i64 0)) (fun _ hk => hk.2) (.string (⟨#[]⟩ : ByteArray))) (fun _ hk => hk.2) (.bool false)) (fun _ hk => hk.2) (.bool false)) (fun _ hk => hk.1.2))); (case aS => exact (qbz (bw_ HB.out))); (case aL => have := LMc48.out; omega); intro v379 w51 ho hb hg hat; rw [← Ny378.out] at ho; have n0_ := Aside0.mk (blk_grown (g := gb362) (o := .cells #[.int .i64 (wrap64 ((wrap64 (bt a0 x5_1)) - 1)), .int .i64 0, .string (⟨#[]⟩ : ByteArray), .bool false] 72 (0, 0)) (by (with_reducible repeat (first | refine qkN ?_ _ | refine qkd ?_ | refine qka ?_ _)); refine qkp (cs := #[.int .i64 (wrap64 ((wrap64 (bt a0 x5_1)) - 1)), .int .i64 0, .string (⟨#[]⟩ : ByteArray), .bool false]) ?_ 3 _ rfl; (with_reducible repeat (first | refine qkN ?_ _ | refine qkd ?_ | refine qka ?_ _)); refine qkp (cs := #[.int .i64 (wrap64 ((wrap64 (bt a0 x5_1)) - 1)), .int .i64 0, .string (⟨#[]⟩ : ByteArray), .bool false]) ?_ 3 _ rfl; (with_reducible repeat (first | refine qkN ?_ _ | refine qkd ?_ | refine qka ?_ _)); refine qkp (cs := #[.int .i64 (wrap64 ((wrap64 (bt a0 x5_1)) - 1)), .int .i64 0, .string (⟨#[]⟩ : ByteArray), .bool false]) ?_ 2 _ rfl; (with_reducible repeat (first | refine qkN ?_ _ | refine qkd ?_ | refine qka ?_ _)); refine qkp (cs := #[.int .i64 (wrap64 ((wrap64 (bt a0 x5_1)) - 1)), .int .i64 0, .string (⟨#[]⟩ : ByteArray), .bool false]) ?_ 1 _ rfl; (with_reducible repeat (first | refine qkN ?_ _ | refine qkd ?_ | refine qka ?_ _)); refine qkp (cs := #[.int .i64 0, .int .i64 0, .string (⟨#[]⟩ : ByteArray), .bool false]) ?_ 0 _ rfl; (with_reducible repeat (first | refine qkN ?_ _ | refine qkd ?_ | refine qka ?_ _)); exact BK362.out) hg (Kd.R_away HO_4.out (fun _ hk => hk.2))); have n1_ := Aside0.mk (hb); have n2_ := Aside0.mk (ho); clear BK362; clear HB; clear HO_4; have BK362 := n0_; have HB := n1_; have HO380 := n2_; clear n0_ n1_ n2_; clear ho hb hg hat))
     go_roundg k1
     case measure => have := HK1.out; omega
     case rel => exact ⟨(y378), (wrap64 ((wrap64 (x5_1 + 1)) + 1)), (by first | rfl | (simp; done) | (simp [*]; done) | (simp [bne]; done)), H', ⟨by have := HK1.out; omega⟩, ⟨by (with_reducible repeat (first | apply Kd.R_alloc | apply Kd.R_drewN | apply Kd.R_drew)); exact Kd.R_mono HO380.out (fun _ hk => trivial)⟩, ⟨bw_ HB.out⟩⟩
    rw [if_neg c39] at H
    have c39b0 : ((wrap64 ((wrap64 (bt a0 x5_1)) - 1)) == 3) = false := beq_eq_false_iff_ne.mpr c39
    have c39b1 : ((wrap64 ((wrap64 (bt a0 x5_1)) - 1)) != 3) = true := bne_iff_ne.mpr c39
    have c52 : x4_1.length < 3518437208883 := Classical.byContradiction fun c52 => by rw [if_neg c52] at H; exact absurd H (by simp)
    rw [if_pos c52] at H
    have LMc52 := Aside0.mk c52
    clear c52
    obtain ⟨y381, hy381⟩ : ∃ y_ : List (S72), y_ = (x4_1 ++ [(⟨wrap64 ((wrap64 (bt a0 x5_1)) - 1), 0, (⟨#[]⟩ : ByteArray), false⟩ : S72)]) := ⟨_, rfl⟩
    replace H : (barbicanref06_Decode.l0 k1 a0 y381 (wrap64 (x5_1 + 1))) = some (r1, r2) := by first | (rw [hy381]; with_reducible exact H) | (have H2_ := (Option.bind_some _ _).symm.trans H; rw [hy381]; with_reducible exact H2_) | (have H2_ := (Option.bind_some _ _).symm.trans H; with_reducible exact H2_) | with_reducible exact H | (rw [hy381]; exact H) | exact H
    have Ny381 := Aside0.mk hy381
    clear hy381
    have H' := Aside0.mk H
    clear H
    have p4 : 0 ≤ (x5_1 : Int) := ode_
    have q4 : x5_1 < (a0.size : Int) := ode_
    have hx4 := bt_at a0 x5_1
    replace p4 := eq_true p4
    replace q4 := eq_true q4
    go_wp2_with (first | ((with_reducible refine qgd (N := 6) rfl ?_); (try (refine gate_guard (by rfl) ?_; dsimp only)); refine qbe ?hg (N := 6) ?hd (cs := #[.int .i64 0, .int .i64 0, .string (⟨#[]⟩ : ByteArray), .bool false]) (t := 72) ?hr ?_; (case hd => rfl); (case hg => rfl); (case hr => first | (go_simp; done) | (go_simp; rfl)); intro gb362 hg w53 hbox hb; have n0_ := Aside0.mk (Kd.R_below (Kd.R_elderB (kR_ HO_4.out) gb362 (Nat.le_of_eq hg.symm)) hb); have n1_ := Aside0.mk (below_step (bw_ HB.out) hb); have n2_ := Aside0.mk (hbox); have n3_ := Aside0.mk ((by rw [hg]; exact (qbz (bw_ HB.out)) : w.heap.size ≤ gb362)); have n4_ := Aside0.mk ((by rw [hg]; exact (qbz (bw_ HB.out)) : w.heap.size ≤ gb362)); clear HO_4; clear HB; have HO_4 := n0_; have HB := n1_; have BK362 := n2_; have GW362 := n3_; have GE362 := n4_; clear n0_ n1_ n2_ n3_ n4_; clear hb hbox hg; have hcz54_0 : w53.cell? ⟨gb362, 0, none⟩ = some (.int .i64 0) := (qkc BK362.out 0).trans rfl; have hcz54_1 : w53.cell? ⟨gb362, 1, none⟩ = some (.int .i64 0) := (qkc BK362.out 1).trans rfl; have hcz54_2 : w53.cell? ⟨gb362, 2, none⟩ = some (.string (⟨#[]⟩ : ByteArray)) := (qkc BK362.out 2).trans rfl; have hcz54_3 : w53.cell? ⟨gb362, 3, none⟩ = some (.bool false) := (qkc BK362.out 3).trans rfl; have hfz54_0 := qkf BK362.out 0; have hfz54_1 := qkf BK362.out 1; have hfz54_2 := qkf BK362.out 2; have hfz54_3 := qkf BK362.out 3) | ((with_reducible refine gate_builtin (b := .append) (xs := #[.tmp 88, .tmp 90]) rfl ?_); (try (refine gate_guard (by rfl) ?_; dsimp only)); at_builtin; refine Kd.R_append k72 (w0 := w) w.heap.size rfl (.tmp 88) (.tmp 90) 46 72 (.agg #[(.int .i64 0), (.int .i64 0), (.string ⟨#[]⟩), (.bool false)]) 40 rfl Tryd.underlying46 info72 rfl (by decide) (by omega) u4 x4_1 (⟨wrap64 ((wrap64 (bt a0 x5_1)) - 1), 0, (⟨#[]⟩ : ByteArray), false⟩ : S72) [.int .i64 (wrap64 ((wrap64 (bt a0 x5_1)) - 1)), .int .i64 0, .string (⟨#[]⟩ : ByteArray), .bool false] (fun k_ => k_ ≠ gb362) (fun _ => False) rfl (by first | (go_simp; done) | (go_simp; rfl)) ?aP (fun _ hk => hk.elim) ?aF ?aO ?aB ?aS ?aL ?_; (case aP => exact k72_mkM _ _ _ (⟨wrap64 ((wrap64 (bt a0 x5_1)) - 1), 0, (⟨#[]⟩ : ByteArray), false⟩ : S72)); (case aB => exact (bw_ HB.out)); (case aF => exact (fun k_ hk => Kd.freshB (g := gb362) (o := .cells #[.int .i64 (wrap64 ((wrap64 (bt a0 x5_1)) - 1)), .int .i64 0, .string (⟨#[]⟩ : ByteArray), .bool false] 72 (0, 0)) (by (with_reducible repeat (first | refine qkN ?_ _ | refine qkd ?_ | refine qka ?_ _)); refine qkp (cs := #[.int .i64 (wrap64 ((wrap64 (bt a0 x5_1)) - 1)), .int .i64 0, .string (⟨#[]⟩ : ByteArray), .bool false]) ?_ 3 _ rfl; (with_reducible repeat (first | refine qkN ?_ _ | refine qkd ?_ | refine qka ?_ _)); refine qkp (cs := #[.int .i64 (wrap64 ((wrap64 (bt a0 x5_1)) - 1)), .int .i64 0, .string (⟨#[]⟩ : ByteArray), .bool false]) ?_ 2 _ rfl; (with_reducible repeat (first | refine qkN ?_ _ | refine qkd ?_ | refine qka ?_ _)); refine qkp (cs := #[.int .i64 (wrap64 ((wrap64 (bt a0 x5_1)) - 1)), .int .i64 0, .string (⟨#[]⟩ : ByteArray), .bool false]) ?_ 1 _ rfl; (with_reducible repeat (first | refine qkN ?_ _ | refine qkd ?_ | refine qka ?_ _)); refine qkp (cs := #[.int .i64 0, .int .i64 0, .string (⟨#[]⟩ : ByteArray), .bool false]) ?_ 0 _ rfl; (with_reducible repeat (first | refine qkN ?_ _ | refine qkd ?_ | refine qka ?_ _)); exact BK362.out) k_ hk)); (case aO => exact (by (with_reducible repeat (first | apply Kd.R_alloc | apply Kd.R_drewN | apply Kd.R_drew)); exact Kd.R_mono (Kd.R_far (p := ⟨gb362, 3, none⟩) (Kd.R_far (p := ⟨gb362, 2, none⟩) (Kd.R_far (p := ⟨gb362, 1, none⟩) (Kd.R_far (p := ⟨gb362, 0, none⟩) (Kd.R_mono HO_4.out (fun k_ hk => (⟨hk, hk.2⟩ : _ ∧ k_ ≠ gb362))) (fun _ hk => hk.2) (.int .i64 (wrap64 ((wrap64 (bt a0 x5_1)) - 1)))) (fun _ hk => hk.2) (.int .i64 0)) (fun _ hk => hk.2) (.string (⟨#[]⟩ : ByteArray))) (fun _ hk => hk.2) (.bool false)) (fun _ hk => hk.1.2))); (case aS => exact (qbz (bw_ HB.out))); (case aL => have := LMc52.out; omega); intro v382 w55 ho hb hg hat; rw [← Ny381.out] at ho; have n0_ := Aside0.mk (blk_grown (g := gb362) (o := .cells #[.int .i64 (wrap64 ((wrap64 (bt a0 x5_1)) - 1)), .int .i64 0, .string (⟨#[]⟩ : ByteArray), .bool false] 72 (0, 0)) (by (with_reducible repeat (first | refine qkN ?_ _ | refine qkd ?_ | refine qka ?_ _)); refine qkp (cs := #[.int .i64 (wrap64 ((wrap64 (bt a0 x5_1)) - 1)), .int .i64 0, .string (⟨#[]⟩ : ByteArray), .bool false]) ?_ 3 _ rfl; (with_reducible repeat (first | refine qkN ?_ _ | refine qkd ?_ | refine qka ?_ _)); refine qkp (cs := #[.int .i64 (wrap64 ((wrap64 (bt a0 x5_1)) - 1)), .int .i64 0, .string (⟨#[]⟩ : ByteArray), .bool false]) ?_ 2 _ rfl; (with_reducible repeat (first | refine qkN ?_ _ | refine qkd ?_ | refine qka ?_ _)); refine qkp (cs := #[.int .i64 (wrap64 ((wrap64 (bt a0 x5_1)) - 1)), .int .i64 0, .string (⟨#[]⟩ : ByteArray), .bool false]) ?_ 1 _ rfl; (with_reducible repeat (first | refine qkN ?_ _ | refine qkd ?_ | refine qka ?_ _)); refine qkp (cs := #[.int .i64 0, .int .i64 0, .string (⟨#[]⟩ : ByteArray), .bool false]) ?_ 0 _ rfl; (with_reducible repeat (first | refine qkN ?_ _ | refine qkd ?_ | refine qka ?_ _)); exact BK362.out) hg (Kd.R_away HO_4.out (fun _ hk => hk.2))); have n1_ := Aside0.mk (hb); have n2_ := Aside0.mk (ho); clear BK362; clear HB; clear HO_4; have BK362 := n0_; have HB := n1_; have HO383 := n2_; clear n0_ n1_ n2_; clear ho hb hg hat))
    go_roundg k1
    case measure => have := HK1.out; omega
    case rel => exact ⟨(y381), (wrap64 (x5_1 + 1)), (by first | rfl | (simp; done) | (simp [*]; done) | (simp [bne]; done)), H', ⟨by have := HK1.out; omega⟩, ⟨by (with_reducible repeat (first | apply Kd.R_alloc | apply Kd.R_drewN | apply Kd.R_drew)); exact Kd.R_mono HO383.out (fun _ hk => trivial)⟩, ⟨bw_ HB.out⟩⟩
   rw [if_neg c2] at H
   have c2b0 : decide (x5_1 < (a0.size : Int)) = false := decide_eq_false c2
   clear c2
   replace H := Option.bind_eq_some_iff.mp H
   obtain ⟨⟨t360, t361⟩, A560, H⟩ := H
   (try dsimp only at H)
   have A56 := Aside0.mk A560
   clear A560
   by_cases c57 : t361 = 0
   ·rw [if_pos c57] at H
    have c57b0 : (t361 == 0) = true := beq_iff_eq.mpr c57
    have c57b1 : (t361 != 0) = false := bne_eq_false_iff_eq.mpr c57
    clear c57
    by_cases c58 : t360.toList = a0.toList
    ·rw [if_pos c58] at H
     have c58b0 : (t360.toList == a0.toList) = true := beq_iff_eq.mpr c58
     have c58b1 : (t360.toList != a0.toList) = false := bne_eq_false_iff_eq.mpr c58
     clear c58
     simp only [Option.some.injEq, Prod.mk.injEq] at H
     obtain ⟨rfl, rfl⟩ := H
     obtain ⟨Ao59, co59, eo59⟩ := Kd.R_slice HO_4.out
     subst eo59
     go_wp2_with (first | ((with_reducible refine qgc (f := 20) rfl ?_); refine goesL_ (some 94) rfl rfl Tryd.func20 (by kernel_rfl) rfl #[.slice Ao59 x4_1.length co59] rfl (by (try simp only [List.map_toArray, List.map_cons, List.map_nil]); first | done | rfl | (simp only [List.length_drop, List.length_take]; rfl)) ?_; (with_reducible refine (barbicanref06_Encode.calls k1 _ _ x4_1 t360 t361 _ ?side1 ?side2 A56.out).mono ?_); (case side1 => repeat (first | exact (Kd.R_reads' HO_4.out).2.2 | (with_reducible refine Kd.C_alloc ?_ _) | (with_reducible refine Kd.C_drewN ?_ _) | (with_reducible refine Kd.C_drew ?_))); (case side2 => exact (Kd.R_reads' HO_4.out).2.1); rintro e w60 ⟨rfl, hb⟩; refine ⟨_, rfl, ?_⟩; have n0_ := Aside0.mk (Kd.R_below (kR_ HO_4.out) hb); have n1_ := Aside0.mk (below_step (bw_ HB.out) hb); clear HO_4; clear HB; have HO_4 := n0_; have HB := n1_; clear n0_ n1_; (try clear hb); (try clear hb2); (try clear hk); (try clear hi)))
     go_ret2
     exact ⟨_, by first | rfl | (simp [errW_none, errW_some] <;> rfl) | (simp [*, errW_none, errW_some] <;> rfl), by (with_reducible repeat (first | apply Kd.R_alloc | apply Kd.R_drewN | apply Kd.R_drew)); exact HO_4.out, bw_ HB.out⟩
    rw [if_neg c58] at H
    have c58b0 : (t360.toList == a0.toList) = false := beq_eq_false_iff_ne.mpr c58
    have c58b1 : (t360.toList != a0.toList) = true := bne_iff_ne.mpr c58
    simp only [Option.some.injEq, Prod.mk.injEq] at H
    obtain ⟨rfl, rfl⟩ := H
    obtain ⟨Ao61, co61, eo61⟩ := Kd.R_slice HO_4.out
    subst eo61
    go_wp2_with (first | ((with_reducible refine qgc (f := 20) rfl ?_); refine goesL_ (some 94) rfl rfl Tryd.func20 (by kernel_rfl) rfl #[.slice Ao61 x4_1.length co61] rfl (by (try simp only [List.map_toArray, List.map_cons, List.map_nil]); first | done | rfl | (simp only [List.length_drop, List.length_take]; rfl)) ?_; (with_reducible refine (barbicanref06_Encode.calls k1 _ _ x4_1 t360 t361 _ ?side1 ?side2 A56.out).mono ?_); (case side1 => repeat (first | exact (Kd.R_reads' HO_4.out).2.2 | (with_reducible refine Kd.C_alloc ?_ _) | (with_reducible refine Kd.C_drewN ?_ _) | (with_reducible refine Kd.C_drew ?_))); (case side2 => exact (Kd.R_reads' HO_4.out).2.1); rintro e w62 ⟨rfl, hb⟩; refine ⟨_, rfl, ?_⟩; have n0_ := Aside0.mk (Kd.R_below (kR_ HO_4.out) hb); have n1_ := Aside0.mk (below_step (bw_ HB.out) hb); clear HO_4; clear HB; have HO_4 := n0_; have HB := n1_; clear n0_ n1_; (try clear hb); (try clear hb2); (try clear hk); (try clear hi)))
    go_ret2
    exact ⟨_, by first | rfl | (simp [errW_none, errW_some] <;> rfl) | (simp [*, errW_none, errW_some] <;> rfl), by first | exact Kd.R_nil _ _ _ _ _ | exact Kd.N_nil _ _ _ _ _ | exact Kd.V_nil _ _ _ _ _ | exact Kd.Q_nil _ _ _ _ _ | exact Kd.S_nil _ _ _ _ _, bw_ HB.out⟩
   rw [if_neg c57] at H
   have c57b0 : (t361 == 0) = false := beq_eq_false_iff_ne.mpr c57
   have c57b1 : (t361 != 0) = true := bne_iff_ne.mpr c57
   simp only [Option.some.injEq, Prod.mk.injEq] at H
   obtain ⟨rfl, rfl⟩ := H
   obtain ⟨Ao63, co63, eo63⟩ := Kd.R_slice HO_4.out
   subst eo63
   go_wp2_with (first | ((with_reducible refine qgc (f := 20) rfl ?_); refine goesL_ (some 94) rfl rfl Tryd.func20 (by kernel_rfl) rfl #[.slice Ao63 x4_1.length co63] rfl (by (try simp only [List.map_toArray, List.map_cons, List.map_nil]); first | done | rfl | (simp only [List.length_drop, List.length_take]; rfl)) ?_; (with_reducible refine (barbicanref06_Encode.calls k1 _ _ x4_1 t360 t361 _ ?side1 ?side2 A56.out).mono ?_); (case side1 => repeat (first | exact (Kd.R_reads' HO_4.out).2.2 | (with_reducible refine Kd.C_alloc ?_ _) | (with_reducible refine Kd.C_drewN ?_ _) | (with_reducible refine Kd.C_drew ?_))); (case side2 => exact (Kd.R_reads' HO_4.out).2.1); rintro e w64 ⟨rfl, hb⟩; refine ⟨_, rfl, ?_⟩; have n0_ := Aside0.mk (Kd.R_below (kR_ HO_4.out) hb); have n1_ := Aside0.mk (below_step (bw_ HB.out) hb); clear HO_4; clear HB; have HO_4 := n0_; have HB := n1_; clear n0_ n1_; (try clear hb); (try clear hb2); (try clear hk); (try clear hi)))
   go_ret2
   exact ⟨_, by first | rfl | (simp [errW_none, errW_some] <;> rfl) | (simp [*, errW_none, errW_some] <;> rfl), by first | exact Kd.R_nil _ _ _ _ _ | exact Kd.N_nil _ _ _ _ _ | exact Kd.V_nil _ _ _ _ _ | exact Kd.Q_nil _ _ _ _ _ | exact Kd.S_nil _ _ _ _ _, bw_ HB.out⟩

end Go.Proofs.YtddkbhglbkfelaaDoor.E
