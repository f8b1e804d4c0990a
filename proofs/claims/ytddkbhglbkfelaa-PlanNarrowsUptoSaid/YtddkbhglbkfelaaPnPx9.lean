import Derived.Test.YtddkbhglbkfelaaPnPx0
import Derived.Test.YtddkbhglbkfelaaPnXPbP
import Derived.Test.YtddkbhglbkfelaaPnPx2
import Derived.Test.YtddkbhglbkfelaaPnPx7
import Derived.Test.YtddkbhglbkfelaaPnPx8
namespace Go.Proofs.Ytddkbhglbkfelaa.P
open Go.RowKit Go.Proofs.YtddkbhglbkfelaaW.PrintWords Go.Proofs.YtddkbhglbkfelaaW.PrintLast Go.Proofs.YtddkbhglbkfelaaW.PrintMore Go.Proofs.YtddkbhglbkfelaaX
attribute [local go_sem] max2_int min2_int max_two min_two max_three min_three max_four min_four
set_option linter.unusedVariables false
set_option linter.unusedSimpArgs false

/-! ### barbicanlaw22_PlanNarrows: function 3 -/
def barbicanlaw22_PlanNarrows.j0 : Nat → List (S26) → ByteArray → Bool → ByteArray → Int → Int → Int → Int → ByteArray → Bool → List (S26) → Option (Bool)
  | 0, _, _, _, _, _, _, _, _, _, _, _ => none
  | k + 1, x0, x2, x21, x283000, x283001, x283002, x283003, x283004, x283005, x283006, x283007 => if x21 = true then ((barbicanlaw22_sure.f k).bind fun t288 => (some t288)) else ((some (([(⟨(⟨#[97]⟩ : ByteArray), 1, true, false⟩ : S30), (⟨(⟨#[98]⟩ : ByteArray), 2, false, false⟩ : S30), (⟨(⟨#[99]⟩ : ByteArray), 1, false, false⟩ : S30), (⟨(⟨#[100]⟩ : ByteArray), 3, false, false⟩ : S30)] : List (S30)) : List (S30))).bind fun y289 => (if ([] : List (S26)).length + x0.length < 1466015503701 then ((some (([] : List (S26)) ++ x0 : List (S26))).bind fun y293 => ((some (([(⟨x283000, x283001, x283002, (⟨x283003, x283004, x283005, x283006⟩ : S24), x283007⟩ : S26)] : List (S26)) : List (S26))).bind fun y296 => (if y293.length + y296.length < 1466015503701 then ((some (([(⟨x283000, x283001, x283002, (⟨x283003, x283004, x283005, x283006⟩ : S24), x283007⟩ : S26)] : List (S26)) : List (S26))).bind fun y302 => (if ([] : List (S26)).length + y302.length < 1466015503701 then ((some (([] : List (S26)) ++ y302 : List (S26))).bind fun y305 => (if y305.length + x0.length < 1466015503701 then ((barbicanlaw22_gives.f k x0).bind fun t311 => ((plan_Range.f k (⟨#[116]⟩ : ByteArray) y289 t311).bind fun bt314 => ((barbicanlaw22_gives.f k (y293 ++ y296)).bind fun t320 => ((plan_Range.f k (⟨#[116]⟩ : ByteArray) y289 t320).bind fun bt323 => ((barbicanlaw22_gives.f k (y305 ++ x0)).bind fun t329 => ((plan_Range.f k (⟨#[116]⟩ : ByteArray) y289 t329).bind fun bt332 => ((cursor_Has.f bt323.1 bt323.2.1 bt323.2.2.1 bt323.2.2.2.1 bt323.2.2.2.2.1 bt323.2.2.2.2.2 x2).bind fun t341 => (if t341 = true then ((cursor_Has.f bt314.1 bt314.2.1 bt314.2.2.1 bt314.2.2.2.1 bt314.2.2.2.2.1 bt314.2.2.2.2.2 x2).bind fun t342 => (if t342 = true then ((cursor_Has.f bt323.1 bt323.2.1 bt323.2.2.1 bt323.2.2.2.1 bt323.2.2.2.2.1 bt323.2.2.2.2.2 x2).bind fun t343 => ((cursor_Has.f bt332.1 bt332.2.1 bt332.2.2.1 bt332.2.2.2.1 bt332.2.2.2.2.1 bt332.2.2.2.2.2 x2).bind fun t344 => (if (t343 == t344) = true then ((barbicanlaw22_sure.f k).bind fun t345 => (some t345)) else (none)))) else (none))) else ((cursor_Has.f bt323.1 bt323.2.1 bt323.2.2.1 bt323.2.2.2.1 bt323.2.2.2.2.1 bt323.2.2.2.2.2 x2).bind fun t346 => ((cursor_Has.f bt332.1 bt332.2.1 bt332.2.2.1 bt332.2.2.2.1 bt332.2.2.2.2.1 bt332.2.2.2.2.2 x2).bind fun t347 => (if (t346 == t347) = true then ((barbicanlaw22_sure.f k).bind fun t348 => (some t348)) else (none)))))))))))) else (none))) else (none))) else (none)))) else (none)))
def barbicanlaw22_PlanNarrows.f (k : Nat) (l0 : List (S26)) (a1_0 : ByteArray) (a1_1 : Int) (a1_2 : Int) (a1_3 : Int) (a1_4 : Int) (a1_5 : ByteArray) (a1_6 : Bool) (l1_7 : List (S26)) (a2 : ByteArray) : Option (Bool) := (barbicanlaw22_light.f k l0).bind fun t283 => (if t283 = true then ((barbicanlaw22_light.f k (([(⟨a1_0, a1_1, a1_2, (⟨a1_3, a1_4, a1_5, a1_6⟩ : S24), l1_7⟩ : S26)] : List (S26)))).bind fun t287 => (barbicanlaw22_PlanNarrows.j0 k l0 a2 (!t287) a1_0 a1_1 a1_2 a1_3 a1_4 a1_5 a1_6 l1_7)) else (barbicanlaw22_PlanNarrows.j0 k l0 a2 true a1_0 a1_1 a1_2 a1_3 a1_4 a1_5 a1_6 l1_7))
def barbicanlaw22_PlanNarrows.T7 : Bool × List (List Nat × List Nat) := (true, [([], []), ([], []), ([1], [1]), ([0, 2, 2], [0, 2]), ([], []), ([], []), ([5, 3], [5]), ([4, 6, 6], [4, 6]), ([], []), ([], []), ([9, 7], [9]), ([8, 10, 10], [8, 10]), ([], []), ([], []), ([], []), ([12, 3, 11, 0, 1, 2, 3, 12, 13, 14], [3, 12]), ([13, 7, 15, 0, 1, 2, 3, 4, 5, 6, 7, 12, 13, 14, 15], [7, 13]), ([14, 11, 16, 0, 1, 2, 3, 4, 5, 6, 7, 8, 9, 10, 11, 12, 13, 14, 15, 16], [11, 14])])
def barbicanlaw22_PlanNarrows.B7 : List Nat := [0, 0, 2, 7, 0, 0, 47, 127, 0, 0, 767, 2047, 0, 0, 0, 32767, 65535, 131071]
theorem barbicanlaw22_PlanNarrows.tab7 : rtab .any (opsOf Try.f3 7) = barbicanlaw22_PlanNarrows.T7 := by kernel_rfl
theorem barbicanlaw22_PlanNarrows.bits7 : waitsOk barbicanlaw22_PlanNarrows.T7.2 barbicanlaw22_PlanNarrows.B7 = true := by kernel_rfl
def barbicanlaw22_PlanNarrows.T8 : Bool × List (List Nat × List Nat) := (true, [([], []), ([], []), ([0, 1], [0, 1]), ([2], [2]), ([3, 2], [3]), ([4], [4]), ([4], [4]), ([5, 6, 4, 4], [4, 5, 6]), ([4, 7], [4, 7]), ([8, 7], [8]), ([9], [9]), ([9], [9]), ([10, 11, 9, 9], [9, 10, 11]), ([9], [9]), ([9], [9]), ([13, 14, 12, 9], [9, 13, 14]), ([12, 15, 9], [9, 12, 15]), ([9, 16], [9, 16]), ([17, 15], [17]), ([18, 18], [18]), ([18, 19], [18, 19]), ([20, 19, 0, 1, 2, 3, 4, 5, 6, 7, 8, 9, 10, 11, 12, 13, 14, 15, 16, 17, 18, 19, 20], [20])])
def barbicanlaw22_PlanNarrows.B8 : List Nat := [0, 0, 3, 7, 15, 31, 31, 127, 255, 511, 1023, 1023, 4095, 1023, 1023, 32767, 65535, 131071, 262143, 524287, 1048575, 2097151]
theorem barbicanlaw22_PlanNarrows.tab8 : rtab .any (opsOf Try.f3 8) = barbicanlaw22_PlanNarrows.T8 := by kernel_rfl
theorem barbicanlaw22_PlanNarrows.bits8 : waitsOk barbicanlaw22_PlanNarrows.T8.2 barbicanlaw22_PlanNarrows.B8 = true := by kernel_rfl
set_option maxHeartbeats 8000000 in
set_option maxRecDepth 100000 in
theorem barbicanlaw22_PlanNarrows.calls (k : Nat) (P0_ : Nat → Prop) (A0 : Option Addr) (c0 : Nat) (l0 : List (S26)) (a1_0 : ByteArray) (a1_1 : Int) (a1_2 : Int) (a1_3 : Int) (a1_4 : Int) (a1_5 : ByteArray) (a1_6 : Bool) (P1_7_ : Nat → Prop) (A1_7 : Option Addr) (c1_7 : Nat) (l1_7 : List (S26)) (a2 : ByteArray) (r : Bool) (w : World) (hs0 : Kd.V k26 26 w w.heap.size (fun k_ => P0_ k_) (.slice A0 l0.length c0) l0) (hs1_7 : Kd.V k26 26 w w.heap.size (fun k_ => P1_7_ k_) (.slice A1_7 l1_7.length c1_7) l1_7) (hG : GW w) (h : barbicanlaw22_PlanNarrows.f k l0 a1_0 a1_1 a1_2 a1_3 a1_4 a1_5 a1_6 l1_7 a2 = some r) :
    Calls Try.prog 3 #[.slice A0 l0.length c0, .agg #[.string a1_0, .int .i64 a1_1, .int .i64 a1_2, .int .i64 a1_3, .int .i64 a1_4, .string a1_5, .bool a1_6, .slice A1_7 l1_7.length c1_7], .string a2] w fun e w' => e = .returned (.bool r) ∧ Below w.heap.size w w' := by
  have hu26 := Try.underlying26
  have hu30 := Try.underlying30
  have hu33 := Try.underlying33
  have hu35 := Try.underlying35
  have HO0 := Aside0.mk (show Kd.V k26 26 w w.heap.size (fun k_ => ((P0_ k_ ∨ P1_7_ k_) ∨ w.heap.size ≤ k_)) (.slice A0 l0.length c0) l0 from Kd.V_mono hs0 (fun k_ hk => .inl (.inl hk)))
  have HO1_7 := Aside0.mk (show Kd.V k26 26 w w.heap.size (fun k_ => ((P0_ k_ ∨ P1_7_ k_) ∨ w.heap.size ≤ k_)) (.slice A1_7 l1_7.length c1_7) l1_7 from Kd.V_mono hs1_7 (fun k_ hk => .inl (.inr hk)))
  have HB := Aside0.mk (Below.refl w.heap.size w)
  have HG := Aside0.mk hG
  clear hG
  have H : ((barbicanlaw22_light.f k l0).bind fun t283 => (if t283 = true then ((barbicanlaw22_light.f k (([(⟨a1_0, a1_1, a1_2, (⟨a1_3, a1_4, a1_5, a1_6⟩ : S24), l1_7⟩ : S26)] : List (S26)))).bind fun t287 => (barbicanlaw22_PlanNarrows.j0 k l0 a2 (!t287) a1_0 a1_1 a1_2 a1_3 a1_4 a1_5 a1_6 l1_7)) else (barbicanlaw22_PlanNarrows.j0 k l0 a2 true a1_0 a1_1 a1_2 a1_3 a1_4 a1_5 a1_6 l1_7))) = some r := h
  clear h
  have HC4 := Aside0.mk H
  clear H
  go_enter Try.func3, Try.ntmps3
  go_upto_region 1 with (first | ((with_reducible refine gate_dst (N := 4) rfl ?_); (try (refine gate_guard (by rfl) ?_; dsimp only)); refine box_event ?hg (N := 4) ?hd (cs := #[.string a1_0, .int .i64 a1_1, .int .i64 a1_2, .int .i64 a1_3, .int .i64 a1_4, .string a1_5, .bool a1_6, .slice A1_7 l1_7.length c1_7]) (t := 26) ?hr ?_; (case hd => rfl); (case hg => rfl); (case hr => first | (go_simp; done) | (go_simp; rfl)); intro gb282 hg w5 hbox hb; have n0_ := Aside0.mk (Kd.V_below (Kd.V_elderB (kV_ HO0.out) gb282 (Nat.le_of_eq hg.symm)) hb); have n1_ := Aside0.mk (Kd.V_below (Kd.V_elderB (kV_ HO1_7.out) gb282 (Nat.le_of_eq hg.symm)) hb); have n2_ := Aside0.mk (below_step (bw_ HB.out) hb); have n3_ := Aside0.mk (hbox); have n4_ := Aside0.mk ((by rw [hg]; exact (below_size (bw_ HB.out)) : w.heap.size ≤ gb282)); have n5_ := Aside0.mk ((by rw [hg]; exact (below_size (bw_ HB.out)) : w.heap.size ≤ gb282)); clear HO0; clear HO1_7; clear HB; have HO0 := n0_; have HO1_7 := n1_; have HB := n2_; have BK282 := n3_; have GW282 := n4_; have GE282 := n5_; clear n0_ n1_ n2_ n3_ n4_ n5_; clear hb hbox hg))
  (try simp only [Act.put, List.setIfInBounds_toArray, List.set_cons_zero, List.set_cons_succ])
  go_cut [21] (fun v21 wc => ∃ (kq : Nat) (x21_3 : Bool), v21 = .bool x21_3 ∧ Aside0 (barbicanlaw22_PlanNarrows.j0 kq l0 a2 x21_3 a1_0 a1_1 a1_2 a1_3 a1_4 a1_5 a1_6 l1_7 = some r) ∧ Aside0 (kq ≤ k) ∧ Aside0 (Kd.V k26 26 wc w.heap.size (fun k_ => ((P0_ k_ ∨ P1_7_ k_) ∨ w.heap.size ≤ k_) ∧ k_ ≠ gb282) (.slice A0 l0.length c0) l0) ∧ Aside0 (Kd.V k26 26 wc w.heap.size (fun k_ => ((P0_ k_ ∨ P1_7_ k_) ∨ w.heap.size ≤ k_) ∧ k_ ≠ gb282) (.slice A1_7 l1_7.length c1_7) l1_7) ∧ Aside0 (wc.heap[gb282]? = some (.cells #[.string a1_0, .int .i64 a1_1, .int .i64 a1_2, .int .i64 a1_3, .int .i64 a1_4, .string a1_5, .bool a1_6, (.slice A1_7 l1_7.length c1_7)] 26 (0, 0))) ∧ Aside0 (Below w.heap.size w wc))
  case first =>
    have H := HC4.out
    clear HC4
    replace H := Option.bind_eq_some_iff.mp H
    obtain ⟨t283, A60, H⟩ := H
    (try dsimp only at H)
    have A6 := Aside0.mk A60
    clear A60
    by_cases c7 : t283 = true
    · subst c7
      rw [if_pos rfl] at H
      obtain ⟨y284, hy284⟩ : ∃ y_ : List (S26), y_ = (([(⟨a1_0, a1_1, a1_2, (⟨a1_3, a1_4, a1_5, a1_6⟩ : S24), l1_7⟩ : S26)] : List (S26))) := ⟨_, rfl⟩
      replace H : ((barbicanlaw22_light.f k y284).bind fun t287 => (barbicanlaw22_PlanNarrows.j0 k l0 a2 (!t287) a1_0 a1_1 a1_2 a1_3 a1_4 a1_5 a1_6 l1_7)) = some r := by first | (rw [hy284]; with_reducible exact H) | (have H2_ := (Option.bind_some _ _).symm.trans H; rw [hy284]; with_reducible exact H2_) | (have H2_ := (Option.bind_some _ _).symm.trans H; with_reducible exact H2_) | with_reducible exact H | (rw [hy284]; exact H) | exact H
      have Ny284 := Aside0.mk hy284
      clear hy284
      replace H := Option.bind_eq_some_iff.mp H
      obtain ⟨t287, A80, H⟩ := H
      (try dsimp only at H)
      have A8 := Aside0.mk A80
      clear A80
      have H' := Aside0.mk H
      clear H
      go_wp2_with (first | ((with_reducible refine gate_callee (f := 4) rfl ?_); refine goesL_ (some 14) rfl rfl Try.func4 (by kernel_rfl) rfl #[.slice A0 l0.length c0] rfl (by (try simp only [List.map_toArray, List.map_cons, List.map_nil]); first | done | rfl | (simp only [List.length_drop, List.length_take]; rfl)) ?_; (with_reducible refine (barbicanlaw22_light.calls k _ _ l0 true _ ?side1 ?side2 A6.out).mono ?_); (case side1 => repeat (first | exact (Kd.V_reads' HO0.out).2.2 | (with_reducible refine Kd.C_alloc ?_ _) | (with_reducible refine Kd.C_drewN ?_ _) | (with_reducible refine Kd.C_drew ?_))); (case side2 => exact (Kd.V_reads' HO0.out).2.1); rintro e w9 ⟨rfl, hb⟩; refine ⟨_, rfl, ?_⟩; have n0_ := Aside0.mk (Kd.V_below (kV_ HO0.out) hb); have n1_ := Aside0.mk (Kd.V_below (kV_ HO1_7.out) hb); have n2_ := Aside0.mk (blk_below (g := gb282) (o := .cells #[.string a1_0, .int .i64 a1_1, .int .i64 a1_2, .int .i64 a1_3, .int .i64 a1_4, .string a1_5, .bool a1_6, .slice A1_7 l1_7.length c1_7] 26 (0, 0)) (bl_ BK282.out) hb); have n3_ := Aside0.mk (below_step (bw_ HB.out) hb); clear HO0; clear HO1_7; clear BK282; clear HB; have HO0 := n0_; have HO1_7 := n1_; have BK282 := n2_; have HB := n3_; clear n0_ n1_ n2_ n3_; (try clear hb); (try clear hb2); (try clear hk); (try clear hi); have hcz10_0 : w9.cell? ⟨gb282, 0, none⟩ = some (.string a1_0) := (blk_cell BK282.out 0).trans rfl; have hcz10_1 : w9.cell? ⟨gb282, 1, none⟩ = some (.int .i64 a1_1) := (blk_cell BK282.out 1).trans rfl; have hcz10_2 : w9.cell? ⟨gb282, 2, none⟩ = some (.int .i64 a1_2) := (blk_cell BK282.out 2).trans rfl; have hcz10_3 : w9.cell? ⟨gb282, 3, none⟩ = some (.int .i64 a1_3) := (blk_cell BK282.out 3).trans rfl; have hcz10_4 : w9.cell? ⟨gb282, 4, none⟩ = some (.int .i64 a1_4) := (blk_cell BK282.out 4).trans rfl; have hcz10_5 : w9.cell? ⟨gb282, 5, none⟩ = some (.string a1_5) := (blk_cell BK282.out 5).trans rfl; have hcz10_6 : w9.cell? ⟨gb282, 6, none⟩ = some (.bool a1_6) := (blk_cell BK282.out 6).trans rfl; have hcz10_7 : w9.cell? ⟨gb282, 7, none⟩ = some (.slice A1_7 l1_7.length c1_7) := (blk_cell BK282.out 7).trans rfl; have hfz10_0 := blk_frozen BK282.out 0; have hfz10_1 := blk_frozen BK282.out 1; have hfz10_2 := blk_frozen BK282.out 2; have hfz10_3 := blk_frozen BK282.out 3; have hfz10_4 := blk_frozen BK282.out 4; have hfz10_5 := blk_frozen BK282.out 5; have hfz10_6 := blk_frozen BK282.out 6; have hfz10_7 := blk_frozen BK282.out 7) | ((with_reducible refine gate_dst (N := 18) rfl ?_); (try (refine gate_guard (by rfl) ?_; dsimp only)); refine Kd.N_lit k26 _ 26 ?hg (N' := 18) ?hd (xs := ([(⟨a1_0, a1_1, a1_2, (⟨a1_3, a1_4, a1_5, a1_6⟩ : S24), l1_7⟩ : S26)] : List (S26))) (inner := [.string a1_0, .int .i64 a1_1, .int .i64 a1_2, .int .i64 a1_3, .int .i64 a1_4, .string a1_5, .bool a1_6, .slice A1_7 l1_7.length c1_7]) (ok := (fun k_ => ((P0_ k_ ∨ P1_7_ k_) ∨ w.heap.size ≤ k_) ∧ k_ ≠ gb282)) (okp := (fun k_ => ((P0_ k_ ∨ P1_7_ k_) ∨ w.heap.size ≤ k_) ∧ k_ ≠ gb282)) ?hr ?hp (fun _ hk => hk) ((show ∀ k_, _ ≤ k_ → (fun k_ => ((P0_ k_ ∨ P1_7_ k_) ∨ w.heap.size ≤ k_) ∧ k_ ≠ gb282) k_ from fun k_ hk => ⟨(.inr (Nat.le_trans (below_size (bw_ HB.out)) hk)), Kd.freshB (g := gb282) (o := .cells #[.string a1_0, .int .i64 a1_1, .int .i64 a1_2, .int .i64 a1_3, .int .i64 a1_4, .string a1_5, .bool a1_6, .slice A1_7 l1_7.length c1_7] 26 (0, 0)) (bl_ BK282.out) k_ hk⟩) _ (Nat.le_refl _)) (Below.refl _ _) (Nat.le_refl _) (by simp) ?_; (case hd => rfl); (case hg => rfl); (case hr => first | (go_simp; done) | (go_simp; rfl)); (case hp => exact (Reps.c8 (show Kd.FK k26 _ _ (⟨a1_0, a1_1, a1_2, (⟨a1_3, a1_4, a1_5, a1_6⟩ : S24), l1_7⟩ : S26) [.string a1_0, .int .i64 a1_1, .int .i64 a1_2, .int .i64 a1_3, .int .i64 a1_4, .string a1_5, .bool a1_6, .slice A1_7 l1_7.length c1_7] from (k26_mkF _ _ (⟨a1_0, a1_1, a1_2, (⟨a1_3, a1_4, a1_5, a1_6⟩ : S24), l1_7⟩ : S26) (Kd.V_reads' (Kd.V_mono (ok' := (fun k_ => ((P0_ k_ ∨ P1_7_ k_) ∨ w.heap.size ≤ k_) ∧ k_ ≠ gb282)) (HO1_7.out) (fun k_ hk => ⟨hk.1, hk.2⟩))).2.1 (Kd.V_F (Kd.V_mono (ok' := (fun k_ => ((P0_ k_ ∨ P1_7_ k_) ∨ w.heap.size ≤ k_) ∧ k_ ≠ gb282)) (HO1_7.out) (fun k_ hk => ⟨hk.1, hk.2⟩))))) (Reps.none _ _))); intro v285 w11 ho12 hb hg_ hnew_; clear hg_ hnew_; (first | rw [← Ny284.out] at ho12 | (simp only [Int.reduceToNat] at ho12; rw [← Ny284.out] at ho12)); have n0_ := Aside0.mk (Kd.V_elder' (kV_ HO0.out) (Kd.N_base ho12) hb); have n1_ := Aside0.mk (Kd.V_elder' (kV_ HO1_7.out) (Kd.N_base ho12) hb); have n2_ := Aside0.mk (Kd.N_lower ho12 (below_size (bw_ HB.out))); have n3_ := Aside0.mk (blk_below (g := gb282) (o := .cells #[.string a1_0, .int .i64 a1_1, .int .i64 a1_2, .int .i64 a1_3, .int .i64 a1_4, .string a1_5, .bool a1_6, .slice A1_7 l1_7.length c1_7] 26 (0, 0)) (bl_ BK282.out) hb); have n4_ := Aside0.mk (below_step (bw_ HB.out) hb); clear HO0; clear HO1_7; clear BK282; clear HB; have HO0 := n0_; have HO1_7 := n1_; have HO286 := n2_; have BK282 := n3_; have HB := n4_; clear n0_ n1_ n2_ n3_ n4_; clear hb ho12; obtain ⟨Ao13, co13, eo13⟩ := Kd.N_slice HO286.out; subst eo13) | (go_at_call 4; (with_reducible refine (barbicanlaw22_light.calls k _ _ y284 t287 _ ?side1 ?side2 A8.out).mono ?_); (case side1 => repeat (first | exact (Kd.N_reads' HO286.out).2.2 | (with_reducible refine Kd.C_alloc ?_ _) | (with_reducible refine Kd.C_drewN ?_ _) | (with_reducible refine Kd.C_drew ?_))); (case side2 => exact (Kd.N_reads' HO286.out).2.1); rintro e w14 ⟨rfl, hb⟩; have n0_ := Aside0.mk (Kd.V_below (kV_ HO0.out) hb); have n1_ := Aside0.mk (Kd.V_below (kV_ HO1_7.out) hb); have n2_ := Aside0.mk (Kd.N_below (kN_ HO286.out) hb); have n3_ := Aside0.mk (blk_below (g := gb282) (o := .cells #[.string a1_0, .int .i64 a1_1, .int .i64 a1_2, .int .i64 a1_3, .int .i64 a1_4, .string a1_5, .bool a1_6, .slice A1_7 l1_7.length c1_7] 26 (0, 0)) (bl_ BK282.out) hb); have n4_ := Aside0.mk (below_step (bw_ HB.out) hb); clear HO0; clear HO1_7; clear HO286; clear BK282; clear HB; have HO0 := n0_; have HO1_7 := n1_; have HO286 := n2_; have BK282 := n3_; have HB := n4_; clear n0_ n1_ n2_ n3_ n4_; (try clear hb); (try clear hb2); (try clear hk); (try clear hi)))
      go_meet
      case rel => exact ⟨_, (!t287), (by first | rfl | (simp; done) | (simp [*]; done) | (simp [bne]; done)), H', ⟨by first | omega | exact Nat.le_refl _⟩, ⟨by (with_reducible repeat (first | apply Kd.V_alloc | apply Kd.V_drewN | apply Kd.V_drew)); exact Kd.V_mono HO0.out (fun _ hk => ⟨hk.1.1, hk.1.2⟩)⟩, ⟨by (with_reducible repeat (first | apply Kd.V_alloc | apply Kd.V_drewN | apply Kd.V_drew)); exact Kd.V_mono HO1_7.out (fun _ hk => ⟨hk.1.1, hk.1.2⟩)⟩, ⟨by (with_reducible repeat (first | refine blk_drewN ?_ _ | refine blk_drew ?_ | refine blk_alloc ?_ _)); exact BK282.out⟩, ⟨bw_ HB.out⟩⟩
    replace c7 := Bool.eq_false_iff.mpr c7
    subst c7
    rw [if_neg (show ¬ (false = true) by decide)] at H
    have H' := Aside0.mk H
    clear H
    go_wp2_with (first | ((with_reducible refine gate_callee (f := 4) rfl ?_); refine goesL_ (some 14) rfl rfl Try.func4 (by kernel_rfl) rfl #[.slice A0 l0.length c0] rfl (by (try simp only [List.map_toArray, List.map_cons, List.map_nil]); first | done | rfl | (simp only [List.length_drop, List.length_take]; rfl)) ?_; (with_reducible refine (barbicanlaw22_light.calls k _ _ l0 false _ ?side1 ?side2 A6.out).mono ?_); (case side1 => repeat (first | exact (Kd.V_reads' HO0.out).2.2 | (with_reducible refine Kd.C_alloc ?_ _) | (with_reducible refine Kd.C_drewN ?_ _) | (with_reducible refine Kd.C_drew ?_))); (case side2 => exact (Kd.V_reads' HO0.out).2.1); rintro e w15 ⟨rfl, hb⟩; refine ⟨_, rfl, ?_⟩; have n0_ := Aside0.mk (Kd.V_below (kV_ HO0.out) hb); have n1_ := Aside0.mk (Kd.V_below (kV_ HO1_7.out) hb); have n2_ := Aside0.mk (blk_below (g := gb282) (o := .cells #[.string a1_0, .int .i64 a1_1, .int .i64 a1_2, .int .i64 a1_3, .int .i64 a1_4, .string a1_5, .bool a1_6, .slice A1_7 l1_7.length c1_7] 26 (0, 0)) (bl_ BK282.out) hb); have n3_ := Aside0.mk (below_step (bw_ HB.out) hb); clear HO0; clear HO1_7; clear BK282; clear HB; have HO0 := n0_; have HO1_7 := n1_; have BK282 := n2_; have HB := n3_; clear n0_ n1_ n2_ n3_; (try clear hb); (try clear hb2); (try clear hk); (try clear hi)))
    go_meet
    case rel => exact ⟨_, (true), (by first | rfl | (simp; done) | (simp [*]; done) | (simp [bne]; done)), H', ⟨by first | omega | exact Nat.le_refl _⟩, ⟨by (with_reducible repeat (first | apply Kd.V_alloc | apply Kd.V_drewN | apply Kd.V_drew)); exact HO0.out⟩, ⟨by (with_reducible repeat (first | apply Kd.V_alloc | apply Kd.V_drewN | apply Kd.V_drew)); exact HO1_7.out⟩, ⟨by (with_reducible repeat (first | refine blk_drewN ?_ _ | refine blk_drew ?_ | refine blk_alloc ?_ _)); exact BK282.out⟩, ⟨bw_ HB.out⟩⟩
  clear HC4
  (try clear c1); (try clear p2); (try clear c3); (try clear c4); (try clear c7); (try clear c8); (try clear hcz10_0); (try clear hcz10_1); (try clear hcz10_2); (try clear hcz10_3); (try clear hcz10_4); (try clear hcz10_5)
  (try clear hcz10_6); (try clear hcz10_7); (try clear hfz10_0); (try clear hfz10_1); (try clear hfz10_2); (try clear hfz10_3); (try clear hfz10_4); (try clear hfz10_5); (try clear hfz10_6); (try clear hfz10_7)
  obtain ⟨kq, x21_3, rfl, HA, HJ3, HO_0, HO_283007, BK282, HB⟩ := hcut
  cases kq with
  | zero => exact absurd HA.out (by simp [barbicanlaw22_PlanNarrows.j0])
  | succ kj3 =>
    have H := HA.out
    clear HA
    simp only [barbicanlaw22_PlanNarrows.j0] at H
    by_cases c16 : x21_3 = true
    · subst c16
      rw [if_pos rfl] at H
      replace H := Option.bind_eq_some_iff.mp H
      obtain ⟨t288, A170, H⟩ := H
      (try dsimp only at H)
      have A17 := Aside0.mk A170
      clear A170
      obtain rfl := Option.some.inj H
      go_wp2_with (first | ((with_reducible refine gate_callee (f := 5) rfl ?_); refine goesL_ (some 22) rfl rfl Try.func5 (by kernel_rfl) rfl #[] rfl (by (try simp only [List.map_toArray, List.map_cons, List.map_nil]); first | done | rfl | (simp only [List.length_drop, List.length_take]; rfl)) ?_; (with_reducible refine (barbicanlaw22_sure.calls kj3  t288 _ ?side1 A17.out).mono ?_); (case side1 => exact GW_below HG.out (bw_ HB.out)); rintro e w18 ⟨rfl, hb⟩; refine ⟨_, rfl, ?_⟩; have n0_ := Aside0.mk (Kd.V_below (kV_ HO_0.out) hb); have n1_ := Aside0.mk (Kd.V_below (kV_ HO_283007.out) hb); have n2_ := Aside0.mk (blk_below (g := gb282) (o := .cells #[.string a1_0, .int .i64 a1_1, .int .i64 a1_2, .int .i64 a1_3, .int .i64 a1_4, .string a1_5, .bool a1_6, .slice A1_7 l1_7.length c1_7] 26 (0, 0)) (bl_ BK282.out) hb); have n3_ := Aside0.mk (below_step (bw_ HB.out) hb); clear HO_0; clear HO_283007; clear BK282; clear HB; have HO_0 := n0_; have HO_283007 := n1_; have BK282 := n2_; have HB := n3_; clear n0_ n1_ n2_ n3_; (try clear hb); (try clear hb2); (try clear hk); (try clear hi)))
      go_ret
      exact ⟨by first | rfl | (simp [errW_none, errW_some] <;> rfl) | (simp [*, errW_none, errW_some] <;> rfl), bw_ HB.out⟩
    replace c16 := Bool.eq_false_iff.mpr c16
    subst c16
    rw [if_neg (show ¬ (false = true) by decide)] at H
    obtain ⟨y289, hy289⟩ : ∃ y_ : List (S30), y_ = (([(⟨(⟨#[97]⟩ : ByteArray), 1, true, false⟩ : S30), (⟨(⟨#[98]⟩ : ByteArray), 2, false, false⟩ : S30), (⟨(⟨#[99]⟩ : ByteArray), 1, false, false⟩ : S30), (⟨(⟨#[100]⟩ : ByteArray), 3, false, false⟩ : S30)] : List (S30))) := ⟨_, rfl⟩
    replace H : (if ([] : List (S26)).length + l0.length < 1466015503701 then ((some (([] : List (S26)) ++ l0 : List (S26))).bind fun y293 => ((some (([(⟨a1_0, a1_1, a1_2, (⟨a1_3, a1_4, a1_5, a1_6⟩ : S24), l1_7⟩ : S26)] : List (S26)) : List (S26))).bind fun y296 => (if y293.length + y296.length < 1466015503701 then ((some (([(⟨a1_0, a1_1, a1_2, (⟨a1_3, a1_4, a1_5, a1_6⟩ : S24), l1_7⟩ : S26)] : List (S26)) : List (S26))).bind fun y302 => (if ([] : List (S26)).length + y302.length < 1466015503701 then ((some (([] : List (S26)) ++ y302 : List (S26))).bind fun y305 => (if y305.length + l0.length < 1466015503701 then ((barbicanlaw22_gives.f kj3 l0).bind fun t311 => ((plan_Range.f kj3 (⟨#[116]⟩ : ByteArray) y289 t311).bind fun bt314 => ((barbicanlaw22_gives.f kj3 (y293 ++ y296)).bind fun t320 => ((plan_Range.f kj3 (⟨#[116]⟩ : ByteArray) y289 t320).bind fun bt323 => ((barbicanlaw22_gives.f kj3 (y305 ++ l0)).bind fun t329 => ((plan_Range.f kj3 (⟨#[116]⟩ : ByteArray) y289 t329).bind fun bt332 => ((cursor_Has.f bt323.1 bt323.2.1 bt323.2.2.1 bt323.2.2.2.1 bt323.2.2.2.2.1 bt323.2.2.2.2.2 a2).bind fun t341 => (if t341 = true then ((cursor_Has.f bt314.1 bt314.2.1 bt314.2.2.1 bt314.2.2.2.1 bt314.2.2.2.2.1 bt314.2.2.2.2.2 a2).bind fun t342 => (if t342 = true then ((cursor_Has.f bt323.1 bt323.2.1 bt323.2.2.1 bt323.2.2.2.1 bt323.2.2.2.2.1 bt323.2.2.2.2.2 a2).bind fun t343 => ((cursor_Has.f bt332.1 bt332.2.1 bt332.2.2.1 bt332.2.2.2.1 bt332.2.2.2.2.1 bt332.2.2.2.2.2 a2).bind fun t344 => (if (t343 == t344) = true then ((barbicanlaw22_sure.f kj3).bind fun t345 => (some t345)) else (none)))) else (none))) else ((cursor_Has.f bt323.1 bt323.2.1 bt323.2.2.1 bt323.2.2.2.1 bt323.2.2.2.2.1 bt323.2.2.2.2.2 a2).bind fun t346 => ((cursor_Has.f bt332.1 bt332.2.1 bt332.2.2.1 bt332.2.2.2.1 bt332.2.2.2.2.1 bt332.2.2.2.2.2 a2).bind fun t347 => (if (t346 == t347) = true then ((barbicanlaw22_sure.f kj3).bind fun t348 => (some t348)) else (none)))))))))))) else (none))) else (none))) else (none)))) else (none)) = some r := by first | (rw [hy289]; with_reducible exact H) | (have H2_ := (Option.bind_some _ _).symm.trans H; rw [hy289]; with_reducible exact H2_) | (have H2_ := (Option.bind_some _ _).symm.trans H; with_reducible exact H2_) | with_reducible exact H | (rw [hy289]; exact H) | exact H
    have Ny289 := Aside0.mk hy289
    clear hy289
    have c19 : ([] : List (S26)).length + l0.length < 1466015503701 := Classical.byContradiction fun c19 => by rw [if_neg c19] at H; exact absurd H (by simp)
    rw [if_pos c19] at H
    have LMc19 := Aside0.mk c19
    clear c19
    obtain ⟨y293, hy293⟩ : ∃ y_ : List (S26), y_ = (([] : List (S26)) ++ l0) := ⟨_, rfl⟩
    replace H : ((some (([(⟨a1_0, a1_1, a1_2, (⟨a1_3, a1_4, a1_5, a1_6⟩ : S24), l1_7⟩ : S26)] : List (S26)) : List (S26))).bind fun y296 => (if y293.length + y296.length < 1466015503701 then ((some (([(⟨a1_0, a1_1, a1_2, (⟨a1_3, a1_4, a1_5, a1_6⟩ : S24), l1_7⟩ : S26)] : List (S26)) : List (S26))).bind fun y302 => (if ([] : List (S26)).length + y302.length < 1466015503701 then ((some (([] : List (S26)) ++ y302 : List (S26))).bind fun y305 => (if y305.length + l0.length < 1466015503701 then ((barbicanlaw22_gives.f kj3 l0).bind fun t311 => ((plan_Range.f kj3 (⟨#[116]⟩ : ByteArray) y289 t311).bind fun bt314 => ((barbicanlaw22_gives.f kj3 (y293 ++ y296)).bind fun t320 => ((plan_Range.f kj3 (⟨#[116]⟩ : ByteArray) y289 t320).bind fun bt323 => ((barbicanlaw22_gives.f kj3 (y305 ++ l0)).bind fun t329 => ((plan_Range.f kj3 (⟨#[116]⟩ : ByteArray) y289 t329).bind fun bt332 => ((cursor_Has.f bt323.1 bt323.2.1 bt323.2.2.1 bt323.2.2.2.1 bt323.2.2.2.2.1 bt323.2.2.2.2.2 a2).bind fun t341 => (if t341 = true then ((cursor_Has.f bt314.1 bt314.2.1 bt314.2.2.1 bt314.2.2.2.1 bt314.2.2.2.2.1 bt314.2.2.2.2.2 a2).bind fun t342 => (if t342 = true then ((cursor_Has.f bt323.1 bt323.2.1 bt323.2.2.1 bt323.2.2.2.1 bt323.2.2.2.2.1 bt323.2.2.2.2.2 a2).bind fun t343 => ((cursor_Has.f bt332.1 bt332.2.1 bt332.2.2.1 bt332.2.2.2.1 bt332.2.2.2.2.1 bt332.2.2.2.2.2 a2).bind fun t344 => (if (t343 == t344) = true then ((barbicanlaw22_sure.f kj3).bind fun t345 => (some t345)) else (none)))) else (none))) else ((cursor_Has.f bt323.1 bt323.2.1 bt323.2.2.1 bt323.2.2.2.1 bt323.2.2.2.2.1 bt323.2.2.2.2.2 a2).bind fun t346 => ((cursor_Has.f bt332.1 bt332.2.1 bt332.2.2.1 bt332.2.2.2.1 bt332.2.2.2.2.1 bt332.2.2.2.2.2 a2).bind fun t347 => (if (t346 == t347) = true then ((barbicanlaw22_sure.f kj3).bind fun t348 => (some t348)) else (none)))))))))))) else (none))) else (none))) else (none))) = some r := by first | (rw [hy293]; with_reducible exact H) | (have H2_ := (Option.bind_some _ _).symm.trans H; rw [hy293]; with_reducible exact H2_) | (have H2_ := (Option.bind_some _ _).symm.trans H; with_reducible exact H2_) | with_reducible exact H | (rw [hy293]; exact H) | exact H
    have Ny293 := Aside0.mk hy293
    clear hy293
    obtain ⟨y296, hy296⟩ : ∃ y_ : List (S26), y_ = (([(⟨a1_0, a1_1, a1_2, (⟨a1_3, a1_4, a1_5, a1_6⟩ : S24), l1_7⟩ : S26)] : List (S26))) := ⟨_, rfl⟩
    replace H : (if y293.length + y296.length < 1466015503701 then ((some (([(⟨a1_0, a1_1, a1_2, (⟨a1_3, a1_4, a1_5, a1_6⟩ : S24), l1_7⟩ : S26)] : List (S26)) : List (S26))).bind fun y302 => (if ([] : List (S26)).length + y302.length < 1466015503701 then ((some (([] : List (S26)) ++ y302 : List (S26))).bind fun y305 => (if y305.length + l0.length < 1466015503701 then ((barbicanlaw22_gives.f kj3 l0).bind fun t311 => ((plan_Range.f kj3 (⟨#[116]⟩ : ByteArray) y289 t311).bind fun bt314 => ((barbicanlaw22_gives.f kj3 (y293 ++ y296)).bind fun t320 => ((plan_Range.f kj3 (⟨#[116]⟩ : ByteArray) y289 t320).bind fun bt323 => ((barbicanlaw22_gives.f kj3 (y305 ++ l0)).bind fun t329 => ((plan_Range.f kj3 (⟨#[116]⟩ : ByteArray) y289 t329).bind fun bt332 => ((cursor_Has.f bt323.1 bt323.2.1 bt323.2.2.1 bt323.2.2.2.1 bt323.2.2.2.2.1 bt323.2.2.2.2.2 a2).bind fun t341 => (if t341 = true then ((cursor_Has.f bt314.1 bt314.2.1 bt314.2.2.1 bt314.2.2.2.1 bt314.2.2.2.2.1 bt314.2.2.2.2.2 a2).bind fun t342 => (if t342 = true then ((cursor_Has.f bt323.1 bt323.2.1 bt323.2.2.1 bt323.2.2.2.1 bt323.2.2.2.2.1 bt323.2.2.2.2.2 a2).bind fun t343 => ((cursor_Has.f bt332.1 bt332.2.1 bt332.2.2.1 bt332.2.2.2.1 bt332.2.2.2.2.1 bt332.2.2.2.2.2 a2).bind fun t344 => (if (t343 == t344) = true then ((barbicanlaw22_sure.f kj3).bind fun t345 => (some t345)) else (none)))) else (none))) else ((cursor_Has.f bt323.1 bt323.2.1 bt323.2.2.1 bt323.2.2.2.1 bt323.2.2.2.2.1 bt323.2.2.2.2.2 a2).bind fun t346 => ((cursor_Has.f bt332.1 bt332.2.1 bt332.2.2.1 bt332.2.2.2.1 bt332.2.2.2.2.1 bt332.2.2.2.2.2 a2).bind fun t347 => (if (t346 == t347) = true then ((barbicanlaw22_sure.f kj3).bind fun t348 => (some t348)) else (none)))))))))))) else (none))) else (none))) else (none)) = some r := by first | (rw [hy296]; with_reducible exact H) | (have H2_ := (Option.bind_some _ _).symm.trans H; rw [hy296]; with_reducible exact H2_) | (have H2_ := (Option.bind_some _ _).symm.trans H; with_reducible exact H2_) | with_reducible exact H | (rw [hy296]; exact H) | exact H
    have Ny296 := Aside0.mk hy296
    clear hy296
    have c20 : y293.length + y296.length < 1466015503701 := Classical.byContradiction fun c20 => by rw [if_neg c20] at H; exact absurd H (by simp)
    rw [if_pos c20] at H
    have LMc20 := Aside0.mk c20
    clear c20
    obtain ⟨y299, hy299⟩ : ∃ y_ : List (S26), y_ = (y293 ++ y296) := ⟨_, rfl⟩
    replace H : ((some (([(⟨a1_0, a1_1, a1_2, (⟨a1_3, a1_4, a1_5, a1_6⟩ : S24), l1_7⟩ : S26)] : List (S26)) : List (S26))).bind fun y302 => (if ([] : List (S26)).length + y302.length < 1466015503701 then ((some (([] : List (S26)) ++ y302 : List (S26))).bind fun y305 => (if y305.length + l0.length < 1466015503701 then ((barbicanlaw22_gives.f kj3 l0).bind fun t311 => ((plan_Range.f kj3 (⟨#[116]⟩ : ByteArray) y289 t311).bind fun bt314 => ((barbicanlaw22_gives.f kj3 y299).bind fun t320 => ((plan_Range.f kj3 (⟨#[116]⟩ : ByteArray) y289 t320).bind fun bt323 => ((barbicanlaw22_gives.f kj3 (y305 ++ l0)).bind fun t329 => ((plan_Range.f kj3 (⟨#[116]⟩ : ByteArray) y289 t329).bind fun bt332 => ((cursor_Has.f bt323.1 bt323.2.1 bt323.2.2.1 bt323.2.2.2.1 bt323.2.2.2.2.1 bt323.2.2.2.2.2 a2).bind fun t341 => (if t341 = true then ((cursor_Has.f bt314.1 bt314.2.1 bt314.2.2.1 bt314.2.2.2.1 bt314.2.2.2.2.1 bt314.2.2.2.2.2 a2).bind fun t342 => (if t342 = true then ((cursor_Has.f bt323.1 bt323.2.1 bt323.2.2.1 bt323.2.2.2.1 bt323.2.2.2.2.1 bt323.2.2.2.2.2 a2).bind fun t343 => ((cursor_Has.f bt332.1 bt332.2.1 bt332.2.2.1 bt332.2.2.2.1 bt332.2.2.2.2.1 bt332.2.2.2.2.2 a2).bind fun t344 => (if (t343 == t344) = true then ((barbicanlaw22_sure.f kj3).bind fun t345 => (some t345)) else (none)))) else (none))) else ((cursor_Has.f bt323.1 bt323.2.1 bt323.2.2.1 bt323.2.2.2.1 bt323.2.2.2.2.1 bt323.2.2.2.2.2 a2).bind fun t346 => ((cursor_Has.f bt332.1 bt332.2.1 bt332.2.2.1 bt332.2.2.2.1 bt332.2.2.2.2.1 bt332.2.2.2.2.2 a2).bind fun t347 => (if (t346 == t347) = true then ((barbicanlaw22_sure.f kj3).bind fun t348 => (some t348)) else (none)))))))))))) else (none))) else (none))) = some r := by first | (rw [hy299]; with_reducible exact H) | (have H2_ := (Option.bind_some _ _).symm.trans H; rw [hy299]; with_reducible exact H2_) | (have H2_ := (Option.bind_some _ _).symm.trans H; with_reducible exact H2_) | with_reducible exact H | (rw [hy299]; exact H) | exact H
    have Ny299 := Aside0.mk hy299
    clear hy299
    obtain ⟨y302, hy302⟩ : ∃ y_ : List (S26), y_ = (([(⟨a1_0, a1_1, a1_2, (⟨a1_3, a1_4, a1_5, a1_6⟩ : S24), l1_7⟩ : S26)] : List (S26))) := ⟨_, rfl⟩
    replace H : (if ([] : List (S26)).length + y302.length < 1466015503701 then ((some (([] : List (S26)) ++ y302 : List (S26))).bind fun y305 => (if y305.length + l0.length < 1466015503701 then ((barbicanlaw22_gives.f kj3 l0).bind fun t311 => ((plan_Range.f kj3 (⟨#[116]⟩ : ByteArray) y289 t311).bind fun bt314 => ((barbicanlaw22_gives.f kj3 y299).bind fun t320 => ((plan_Range.f kj3 (⟨#[116]⟩ : ByteArray) y289 t320).bind fun bt323 => ((barbicanlaw22_gives.f kj3 (y305 ++ l0)).bind fun t329 => ((plan_Range.f kj3 (⟨#[116]⟩ : ByteArray) y289 t329).bind fun bt332 => ((cursor_Has.f bt323.1 bt323.2.1 bt323.2.2.1 bt323.2.2.2.1 bt323.2.2.2.2.1 bt323.2.2.2.2.2 a2).bind fun t341 => (if t341 = true then ((cursor_Has.f bt314.1 bt314.2.1 bt314.2.2.1 bt314.2.2.2.1 bt314.2.2.2.2.1 bt314.2.2.2.2.2 a2).bind fun t342 => (if t342 = true then ((cursor_Has.f bt323.1 bt323.2.1 bt323.2.2.1 bt323.2.2.2.1 bt323.2.2.2.2.1 bt323.2.2.2.2.2 a2).bind fun t343 => ((cursor_Has.f bt332.1 bt332.2.1 bt332.2.2.1 bt332.2.2.2.1 bt332.2.2.2.2.1 bt332.2.2.2.2.2 a2).bind fun t344 => (if (t343 == t344) = true then ((barbicanlaw22_sure.f kj3).bind fun t345 => (some t345)) else (none)))) else (none))) else ((cursor_Has.f bt323.1 bt323.2.1 bt323.2.2.1 bt323.2.2.2.1 bt323.2.2.2.2.1 bt323.2.2.2.2.2 a2).bind fun t346 => ((cursor_Has.f bt332.1 bt332.2.1 bt332.2.2.1 bt332.2.2.2.1 bt332.2.2.2.2.1 bt332.2.2.2.2.2 a2).bind fun t347 => (if (t346 == t347) = true then ((barbicanlaw22_sure.f kj3).bind fun t348 => (some t348)) else (none)))))))))))) else (none))) else (none)) = some r := by first | (rw [hy302]; with_reducible exact H) | (have H2_ := (Option.bind_some _ _).symm.trans H; rw [hy302]; with_reducible exact H2_) | (have H2_ := (Option.bind_some _ _).symm.trans H; with_reducible exact H2_) | with_reducible exact H | (rw [hy302]; exact H) | exact H
    have Ny302 := Aside0.mk hy302
    clear hy302
    have c21 : ([] : List (S26)).length + y302.length < 1466015503701 := Classical.byContradiction fun c21 => by rw [if_neg c21] at H; exact absurd H (by simp)
    rw [if_pos c21] at H
    have LMc21 := Aside0.mk c21
    clear c21
    obtain ⟨y305, hy305⟩ : ∃ y_ : List (S26), y_ = (([] : List (S26)) ++ y302) := ⟨_, rfl⟩
    replace H : (if y305.length + l0.length < 1466015503701 then ((barbicanlaw22_gives.f kj3 l0).bind fun t311 => ((plan_Range.f kj3 (⟨#[116]⟩ : ByteArray) y289 t311).bind fun bt314 => ((barbicanlaw22_gives.f kj3 y299).bind fun t320 => ((plan_Range.f kj3 (⟨#[116]⟩ : ByteArray) y289 t320).bind fun bt323 => ((barbicanlaw22_gives.f kj3 (y305 ++ l0)).bind fun t329 => ((plan_Range.f kj3 (⟨#[116]⟩ : ByteArray) y289 t329).bind fun bt332 => ((cursor_Has.f bt323.1 bt323.2.1 bt323.2.2.1 bt323.2.2.2.1 bt323.2.2.2.2.1 bt323.2.2.2.2.2 a2).bind fun t341 => (if t341 = true then ((cursor_Has.f bt314.1 bt314.2.1 bt314.2.2.1 bt314.2.2.2.1 bt314.2.2.2.2.1 bt314.2.2.2.2.2 a2).bind fun t342 => (if t342 = true then ((cursor_Has.f bt323.1 bt323.2.1 bt323.2.2.1 bt323.2.2.2.1 bt323.2.2.2.2.1 bt323.2.2.2.2.2 a2).bind fun t343 => ((cursor_Has.f bt332.1 bt332.2.1 bt332.2.2.1 bt332.2.2.2.1 bt332.2.2.2.2.1 bt332.2.2.2.2.2 a2).bind fun t344 => (if (t343 == t344) = true then ((barbicanlaw22_sure.f kj3).bind fun t345 => (some t345)) else (none)))) else (none))) else ((cursor_Has.f bt323.1 bt323.2.1 bt323.2.2.1 bt323.2.2.2.1 bt323.2.2.2.2.1 bt323.2.2.2.2.2 a2).bind fun t346 => ((cursor_Has.f bt332.1 bt332.2.1 bt332.2.2.1 bt332.2.2.2.1 bt332.2.2.2.2.1 bt332.2.2.2.2.2 a2).bind fun t347 => (if (t346 == t347) = true then ((barbicanlaw22_sure.f kj3).bind fun t348 => (some t348)) else (none)))))))))))) else (none)) = some r := by first | (rw [hy305]; with_reducible exact H) | (have H2_ := (Option.bind_some _ _).symm.trans H; rw [hy305]; with_reducible exact H2_) | (have H2_ := (Option.bind_some _ _).symm.trans H; with_reducible exact H2_) | with_reducible exact H | (rw [hy305]; exact H) | exact H
    have Ny305 := Aside0.mk hy305
    clear hy305
    have c22 : y305.length + l0.length < 1466015503701 := Classical.byContradiction fun c22 => by rw [if_neg c22] at H; exact absurd H (by simp)
    rw [if_pos c22] at H
    have LMc22 := Aside0.mk c22
    clear c22
    obtain ⟨y308, hy308⟩ : ∃ y_ : List (S26), y_ = (y305 ++ l0) := ⟨_, rfl⟩
    replace H : ((barbicanlaw22_gives.f kj3 l0).bind fun t311 => ((plan_Range.f kj3 (⟨#[116]⟩ : ByteArray) y289 t311).bind fun bt314 => ((barbicanlaw22_gives.f kj3 y299).bind fun t320 => ((plan_Range.f kj3 (⟨#[116]⟩ : ByteArray) y289 t320).bind fun bt323 => ((barbicanlaw22_gives.f kj3 y308).bind fun t329 => ((plan_Range.f kj3 (⟨#[116]⟩ : ByteArray) y289 t329).bind fun bt332 => ((cursor_Has.f bt323.1 bt323.2.1 bt323.2.2.1 bt323.2.2.2.1 bt323.2.2.2.2.1 bt323.2.2.2.2.2 a2).bind fun t341 => (if t341 = true then ((cursor_Has.f bt314.1 bt314.2.1 bt314.2.2.1 bt314.2.2.2.1 bt314.2.2.2.2.1 bt314.2.2.2.2.2 a2).bind fun t342 => (if t342 = true then ((cursor_Has.f bt323.1 bt323.2.1 bt323.2.2.1 bt323.2.2.2.1 bt323.2.2.2.2.1 bt323.2.2.2.2.2 a2).bind fun t343 => ((cursor_Has.f bt332.1 bt332.2.1 bt332.2.2.1 bt332.2.2.2.1 bt332.2.2.2.2.1 bt332.2.2.2.2.2 a2).bind fun t344 => (if (t343 == t344) = true then ((barbicanlaw22_sure.f kj3).bind fun t345 => (some t345)) else (none)))) else (none))) else ((cursor_Has.f bt323.1 bt323.2.1 bt323.2.2.1 bt323.2.2.2.1 bt323.2.2.2.2.1 bt323.2.2.2.2.2 a2).bind fun t346 => ((cursor_Has.f bt332.1 bt332.2.1 bt332.2.2.1 bt332.2.2.2.1 bt332.2.2.2.2.1 bt332.2.2.2.2.2 a2).bind fun t347 => (if (t346 == t347) = true then ((barbicanlaw22_sure.f kj3).bind fun t348 => (some t348)) else (none)))))))))))) = some r := by first | (rw [hy308]; with_reducible exact H) | (have H2_ := (Option.bind_some _ _).symm.trans H; rw [hy308]; with_reducible exact H2_) | (have H2_ := (Option.bind_some _ _).symm.trans H; with_reducible exact H2_) | with_reducible exact H | (rw [hy308]; exact H) | exact H
    have Ny308 := Aside0.mk hy308
    clear hy308
    replace H := Option.bind_eq_some_iff.mp H
    obtain ⟨t311, A230, H⟩ := H
    (try dsimp only at H)
    have A23 := Aside0.mk A230
    clear A230
    replace H := Option.bind_eq_some_iff.mp H
    obtain ⟨⟨t314, t315, t316, t317, t318, t319⟩, A240, H⟩ := H
    (try dsimp only at H)
    have A24 := Aside0.mk A240
    clear A240
    replace H := Option.bind_eq_some_iff.mp H
    obtain ⟨t320, A250, H⟩ := H
    (try dsimp only at H)
    have A25 := Aside0.mk A250
    clear A250
    replace H := Option.bind_eq_some_iff.mp H
    obtain ⟨⟨t323, t324, t325, t326, t327, t328⟩, A260, H⟩ := H
    (try dsimp only at H)
    have A26 := Aside0.mk A260
    clear A260
    replace H := Option.bind_eq_some_iff.mp H
    obtain ⟨t329, A270, H⟩ := H
    (try dsimp only at H)
    have A27 := Aside0.mk A270
    clear A270
    replace H := Option.bind_eq_some_iff.mp H
    obtain ⟨⟨t332, t333, t334, t335, t336, t337⟩, A280, H⟩ := H
    (try dsimp only at H)
    have A28 := Aside0.mk A280
    clear A280
    have H_ := Aside0.mk H
    clear H
    try go_wp2_with (first | ((with_reducible refine gate_dst (N := 27) rfl ?_); (try (refine gate_guard (by rfl) ?_; dsimp only)); refine Kd.R_lit k30 _ 30 ?hg (N := 27) ?hd (xs := ([(⟨(⟨#[97]⟩ : ByteArray), 1, true, false⟩ : S30), (⟨(⟨#[98]⟩ : ByteArray), 2, false, false⟩ : S30), (⟨(⟨#[99]⟩ : ByteArray), 1, false, false⟩ : S30), (⟨(⟨#[100]⟩ : ByteArray), 3, false, false⟩ : S30)] : List (S30))) (inner := [.string (⟨#[97]⟩ : ByteArray), .int .i64 1, .bool true, .bool false, .string (⟨#[98]⟩ : ByteArray), .int .i64 2, .bool false, .bool false, .string (⟨#[99]⟩ : ByteArray), .int .i64 1, .bool false, .bool false, .string (⟨#[100]⟩ : ByteArray), .int .i64 3, .bool false, .bool false]) (ok := fun _ => True) (okp := fun _ => True) ?hr ?hp (fun _ hk => hk) trivial (Below.refl _ _) (Nat.le_refl _) (by simp) ?_; (case hd => rfl); (case hg => rfl); (case hr => first | (go_simp; done) | (go_simp; rfl)); (case hp => exact (Reps.c4 (show Kd.M k30 _ _ _ (⟨(⟨#[97]⟩ : ByteArray), 1, true, false⟩ : S30) [.string (⟨#[97]⟩ : ByteArray), .int .i64 1, .bool true, .bool false] from (k30_mkM _ _ _ (⟨(⟨#[97]⟩ : ByteArray), 1, true, false⟩ : S30) )) (Reps.c4 (show Kd.M k30 _ _ _ (⟨(⟨#[98]⟩ : ByteArray), 2, false, false⟩ : S30) [.string (⟨#[98]⟩ : ByteArray), .int .i64 2, .bool false, .bool false] from (k30_mkM _ _ _ (⟨(⟨#[98]⟩ : ByteArray), 2, false, false⟩ : S30) )) (Reps.c4 (show Kd.M k30 _ _ _ (⟨(⟨#[99]⟩ : ByteArray), 1, false, false⟩ : S30) [.string (⟨#[99]⟩ : ByteArray), .int .i64 1, .bool false, .bool false] from (k30_mkM _ _ _ (⟨(⟨#[99]⟩ : ByteArray), 1, false, false⟩ : S30) )) (Reps.c4 (show Kd.M k30 _ _ _ (⟨(⟨#[100]⟩ : ByteArray), 3, false, false⟩ : S30) [.string (⟨#[100]⟩ : ByteArray), .int .i64 3, .bool false, .bool false] from (k30_mkM _ _ _ (⟨(⟨#[100]⟩ : ByteArray), 3, false, false⟩ : S30) )) (Reps.none _ _)))))); intro v290 w37 ho38 hb hg_ hnew_; clear hg_ hnew_; (first | rw [← Ny289.out] at ho38 | (simp only [Int.reduceToNat] at ho38; rw [← Ny289.out] at ho38)); have n0_ := Aside0.mk (Kd.V_elder' (kV_ HO_0.out) (Kd.R_base ho38) hb); have n1_ := Aside0.mk (Kd.V_elder' (kV_ HO_283007.out) (Kd.R_base ho38) hb); have n2_ := Aside0.mk (Kd.R_lower (Kd.R_newM (M := fun k_ => (w.heap.size ≤ k_)) ho38 (below_size (bw_ HB.out)) (fun k_ h_ => h_)) (below_size (bw_ HB.out))); have n3_ := Aside0.mk (blk_below (g := gb282) (o := .cells #[.string a1_0, .int .i64 a1_1, .int .i64 a1_2, .int .i64 a1_3, .int .i64 a1_4, .string a1_5, .bool a1_6, .slice A1_7 l1_7.length c1_7] 26 (0, 0)) (bl_ BK282.out) hb); have n4_ := Aside0.mk (below_step (bw_ HB.out) hb); clear HO_0; clear HO_283007; clear BK282; clear HB; have HO_0 := n0_; have HO_283007 := n1_; have HO291 := n2_; have BK282 := n3_; have HB := n4_; clear n0_ n1_ n2_ n3_ n4_; clear hb ho38; obtain ⟨Ao39, co39, eo39⟩ := Kd.R_slice HO291.out; subst eo39) | ((with_reducible refine gate_dst (N := 7) rfl ?_); (try (refine gate_guard (by rfl) ?_; dsimp only)); refine box_event ?hg (N := 7) ?hd (cs := #[.string (⟨#[]⟩ : ByteArray), .slice none 0 0]) (t := 33) ?hr ?_; (case hd => rfl); (case hg => rfl); (case hr => first | (go_simp; done) | (go_simp; rfl)); intro gb292 hg w40 hbox hb; have n0_ := Aside0.mk (Kd.V_below (Kd.V_elderB (kV_ HO_0.out) gb292 (Nat.le_of_eq hg.symm)) hb); have n1_ := Aside0.mk (Kd.V_below (Kd.V_elderB (kV_ HO_283007.out) gb292 (Nat.le_of_eq hg.symm)) hb); have n2_ := Aside0.mk (Kd.R_below (kR_ HO291.out) hb); have n3_ := Aside0.mk (blk_below (g := gb282) (o := .cells #[.string a1_0, .int .i64 a1_1, .int .i64 a1_2, .int .i64 a1_3, .int .i64 a1_4, .string a1_5, .bool a1_6, .slice A1_7 l1_7.length c1_7] 26 (0, 0)) (bl_ BK282.out) hb); have n4_ := Aside0.mk (below_step (bw_ HB.out) hb); have n5_ := Aside0.mk (hbox); have n6_ := Aside0.mk ((by rw [hg]; exact (below_size (bw_ HB.out)) : w.heap.size ≤ gb292)); have n7_ := Aside0.mk ((by rw [hg]; exact (below_size (bw_ HB.out)) : w.heap.size ≤ gb292)); have n8_ := Aside0.mk ((by rw [hg]; exact Nat.ne_of_lt (blk_lt (g := gb282) (o := .cells #[.string a1_0, .int .i64 a1_1, .int .i64 a1_2, .int .i64 a1_3, .int .i64 a1_4, .string a1_5, .bool a1_6, .slice A1_7 l1_7.length c1_7] 26 (0, 0)) (bl_ BK282.out)) : gb282 ≠ gb292)); have n9_ := Aside0.mk ((by rw [hg]; exact Nat.ne_of_gt (blk_lt (g := gb282) (o := .cells #[.string a1_0, .int .i64 a1_1, .int .i64 a1_2, .int .i64 a1_3, .int .i64 a1_4, .string a1_5, .bool a1_6, .slice A1_7 l1_7.length c1_7] 26 (0, 0)) (bl_ BK282.out)) : gb292 ≠ gb282)); clear HO_0; clear HO_283007; clear HO291; clear BK282; clear HB; have HO_0 := n0_; have HO_283007 := n1_; have HO291 := n2_; have BK282 := n3_; have HB := n4_; have BK292 := n5_; have GW292 := n6_; have GE292 := n7_; have NB282_292 := n8_; have NB292_282 := n9_; clear n0_ n1_ n2_ n3_ n4_ n5_ n6_ n7_ n8_ n9_; clear hb hbox hg; have hnb41 := NB292_282.out; have hnc41 := NB282_292.out; have hcz42_0 : w40.cell? ⟨gb292, 0, none⟩ = some (.string (⟨#[]⟩ : ByteArray)) := (blk_cell BK292.out 0).trans rfl; have hcz42_1 : w40.cell? ⟨gb292, 1, none⟩ = some (.slice none 0 0) := (blk_cell BK292.out 1).trans rfl; have hfz42_0 := blk_frozen BK292.out 0; have hfz42_1 := blk_frozen BK292.out 1))
    have n0_ : Aside0 (Kd.V k26 26 ((w40.setCell ⟨gb292, 0, none⟩ (.string (⟨#[116]⟩ : ByteArray))).setCell ⟨gb292, 1, none⟩ (.slice Ao39 y289.length co39)) w.heap.size (fun k_ => ((P0_ k_ ∨ P1_7_ k_) ∨ w.heap.size ≤ k_) ∧ some k_ ≠ (.slice Ao39 y289.length co39 : Value).ownBlock ∧ k_ ≠ gb282 ∧ k_ ≠ gb292) (.slice A0 l0.length c0) l0) := ⟨by (with_reducible repeat (first | apply Kd.V_alloc | apply Kd.V_drewN | apply Kd.V_drew)); exact Kd.V_mono (Kd.V_far (p := ⟨gb292, 1, none⟩) (Kd.V_far (p := ⟨gb292, 0, none⟩) (Kd.V_mono HO_0.out (fun k_ hk => (⟨hk, hk.2⟩ : _ ∧ k_ ≠ gb292))) (fun _ hk => hk.2) (.string (⟨#[116]⟩ : ByteArray))) (fun _ hk => hk.2) (.slice Ao39 y289.length co39)) (fun _ hk => ⟨hk.1.1.1.1, ⟨hk.1.1.2, ⟨hk.1.1.1.2, hk.1.2⟩⟩⟩)⟩
    have n1_ : Aside0 (Kd.V k26 26 ((w40.setCell ⟨gb292, 0, none⟩ (.string (⟨#[116]⟩ : ByteArray))).setCell ⟨gb292, 1, none⟩ (.slice Ao39 y289.length co39)) w.heap.size (fun k_ => ((P0_ k_ ∨ P1_7_ k_) ∨ w.heap.size ≤ k_) ∧ some k_ ≠ (.slice Ao39 y289.length co39 : Value).ownBlock ∧ k_ ≠ gb282 ∧ k_ ≠ gb292) (.slice A1_7 l1_7.length c1_7) l1_7) := ⟨by (with_reducible repeat (first | apply Kd.V_alloc | apply Kd.V_drewN | apply Kd.V_drew)); exact Kd.V_mono (Kd.V_far (p := ⟨gb292, 1, none⟩) (Kd.V_far (p := ⟨gb292, 0, none⟩) (Kd.V_mono HO_283007.out (fun k_ hk => (⟨hk, hk.2⟩ : _ ∧ k_ ≠ gb292))) (fun _ hk => hk.2) (.string (⟨#[116]⟩ : ByteArray))) (fun _ hk => hk.2) (.slice Ao39 y289.length co39)) (fun _ hk => ⟨hk.1.1.1.1, ⟨hk.1.1.2, ⟨hk.1.1.1.2, hk.1.2⟩⟩⟩)⟩
    have n2_ : Aside0 (Kd.R k30 30 ((w40.setCell ⟨gb292, 0, none⟩ (.string (⟨#[116]⟩ : ByteArray))).setCell ⟨gb292, 1, none⟩ (.slice Ao39 y289.length co39)) w.heap.size (fun k_ => (w.heap.size ≤ k_)) (.slice Ao39 y289.length co39) y289) := ⟨by (with_reducible repeat (first | apply Kd.R_alloc | apply Kd.R_drewN | apply Kd.R_drew)); exact Kd.R_mono (Kd.R_far (p := ⟨gb292, 1, none⟩) (Kd.R_far (p := ⟨gb292, 0, none⟩) (Kd.R_types HO291.out BK292.out (by decide)) (fun _ hk => hk.2) (.string (⟨#[116]⟩ : ByteArray))) (fun _ hk => hk.2) (.slice Ao39 y289.length co39)) (fun _ hk => hk.1.1)⟩
    have n3_ : Aside0 (((w40.setCell ⟨gb292, 0, none⟩ (.string (⟨#[116]⟩ : ByteArray))).setCell ⟨gb292, 1, none⟩ (.slice Ao39 y289.length co39)).heap[gb282]? = some (.cells #[.string a1_0, .int .i64 a1_1, .int .i64 a1_2, .int .i64 a1_3, .int .i64 a1_4, .string a1_5, .bool a1_6, .slice A1_7 l1_7.length c1_7] 26 (0, 0))) := ⟨by (with_reducible repeat (first | refine blk_drewN ?_ _ | refine blk_drew ?_ | refine blk_alloc ?_ _)); refine blk_far ?_ NB282_292.out _; (with_reducible repeat (first | refine blk_drewN ?_ _ | refine blk_drew ?_ | refine blk_alloc ?_ _)); refine blk_far ?_ NB282_292.out _; (with_reducible repeat (first | refine blk_drewN ?_ _ | refine blk_drew ?_ | refine blk_alloc ?_ _)); exact BK282.out⟩
    have n4_ : Aside0 (((w40.setCell ⟨gb292, 0, none⟩ (.string (⟨#[116]⟩ : ByteArray))).setCell ⟨gb292, 1, none⟩ (.slice Ao39 y289.length co39)).heap[gb292]? = some (.cells #[.string (⟨#[116]⟩ : ByteArray), .slice Ao39 y289.length co39] 33 (0, 0))) := ⟨by (with_reducible repeat (first | refine blk_drewN ?_ _ | refine blk_drew ?_ | refine blk_alloc ?_ _)); refine blk_put (cs := #[.string (⟨#[116]⟩ : ByteArray), .slice none 0 0]) ?_ 1 _ rfl; (with_reducible repeat (first | refine blk_drewN ?_ _ | refine blk_drew ?_ | refine blk_alloc ?_ _)); refine blk_put (cs := #[.string (⟨#[]⟩ : ByteArray), .slice none 0 0]) ?_ 0 _ rfl; (with_reducible repeat (first | refine blk_drewN ?_ _ | refine blk_drew ?_ | refine blk_alloc ?_ _)); exact BK292.out⟩
    have n5_ : Aside0 (Below w.heap.size w ((w40.setCell ⟨gb292, 0, none⟩ (.string (⟨#[116]⟩ : ByteArray))).setCell ⟨gb292, 1, none⟩ (.slice Ao39 y289.length co39))) := ⟨bw_ HB.out⟩
    (try clear HO_0); (try clear HO_283007); (try clear HO291); (try clear BK282); (try clear BK292); (try clear HB)
    generalize ((w40.setCell ⟨gb292, 0, none⟩ (.string (⟨#[116]⟩ : ByteArray))).setCell ⟨gb292, 1, none⟩ (.slice Ao39 y289.length co39)) = w43 at n0_ n1_ n2_ n3_ n4_ n5_ ⊢
    have HO_0 := n0_
    have HO_283007 := n1_
    have HO291 := n2_
    have BK282 := n3_
    have BK292 := n4_
    have HB := n5_
    clear n0_ n1_ n2_ n3_ n4_ n5_
    have n0_ := Aside0.mk (Kd.V_drew HO_0.out)
    have n1_ := Aside0.mk (Kd.V_drew HO_283007.out)
    have n2_ := Aside0.mk (Kd.R_drew HO291.out)
    have n3_ := Aside0.mk (blk_drew BK282.out)
    have n4_ := Aside0.mk (blk_drew BK292.out)
    have n5_ := Aside0.mk (below_drew1 HB.out)
    clear HO_0
    clear HO_283007
    clear HO291
    clear BK282
    clear BK292
    clear HB
    have HO_0 := n0_
    have HO_283007 := n1_
    have HO291 := n2_
    have BK282 := n3_
    have BK292 := n4_
    have HB := n5_
    clear n0_ n1_ n2_ n3_ n4_ n5_
    refine start_ (n := 7) (S := fun w' => w'.cell? ⟨gb282, 0, none⟩ = some (.string a1_0) ∧ w'.cell? ⟨gb282, 1, none⟩ = some (.int .i64 a1_1) ∧ w'.cell? ⟨gb282, 2, none⟩ = some (.int .i64 a1_2) ∧ w'.cell? ⟨gb282, 3, none⟩ = some (.int .i64 a1_3) ∧ w'.cell? ⟨gb282, 4, none⟩ = some (.int .i64 a1_4) ∧ w'.cell? ⟨gb282, 5, none⟩ = some (.string a1_5) ∧ w'.cell? ⟨gb282, 6, none⟩ = some (.bool a1_6) ∧ w'.cell? ⟨gb282, 7, none⟩ = some (.slice A1_7 l1_7.length c1_7)) (ds := []) #[false, false, false, false, false, false, false] (by kernel_rfl) rfl rfl ⟨(blk_cell BK282.out 0).trans rfl, (blk_cell BK282.out 1).trans rfl, (blk_cell BK282.out 2).trans rfl, (blk_cell BK282.out 3).trans rfl, (blk_cell BK282.out 4).trans rfl, (blk_cell BK282.out 5).trans rfl, (blk_cell BK282.out 6).trans rfl, (blk_cell BK282.out 7).trans rfl⟩ (fun hHeld => ?_)
    generalize w43.drew = w44 at HO_0 HO_283007 HO291 BK282 BK292 HB hHeld ⊢
    refine pure_ (i := 0) (N := some 29) (v := ?_) (a' := ?_) #[true, false, false, false, false, false, false] rfl rfl (by kernel_rfl) (fun _ _ _ h => h) (Or.inl ⟨by rfl, ?_⟩) ?_ ?_
    rotate_left
    · intro w'
      go_simp
      with_reducible rfl
    rotate_left
    · simp only [Act.put, List.setIfInBounds_toArray, List.set_cons_zero, List.set_cons_succ, i64_w, i32_w]
      rfl
    refine pure_ (i := 1) (N := some 30) (v := ?_) (a' := ?_) #[true, true, false, false, false, false, false] rfl rfl (by kernel_rfl) (fun _ _ _ h => h) (Or.inl ⟨by rfl, ?_⟩) ?_ ?_
    rotate_left
    · intro w'
      go_simp
      with_reducible rfl
    rotate_left
    · simp only [Act.put, List.setIfInBounds_toArray, List.set_cons_zero, List.set_cons_succ, i64_w, i32_w]
      rfl
    refine take_ (i := 3) (N := some 32) (v := ?_) (a' := ?_) #[true, true, false, true, false, false, false] rfl rfl (by kernel_rfl) (fun _ _ _ h => h) (Or.inl ⟨by rfl, ?_⟩) hHeld ?_ ?_
    rotate_left
    · rintro w' ⟨s0, s1, s2, s3, s4, s5, s6, s7⟩
      go_simp
      with_reducible rfl
    rotate_left
    · simp only [Act.put, List.setIfInBounds_toArray, List.set_cons_zero, List.set_cons_succ, i64_w, i32_w]
      rfl
    refine join_ (σ := Value × Value) 2 #[true, true, true, true, true, false, false] (fun s_ => [(31, s_.1), (33, s_.2)]) (fun s_ w' => (w'.cell? ⟨gb282, 0, none⟩ = some (.string a1_0) ∧ w'.cell? ⟨gb282, 1, none⟩ = some (.int .i64 a1_1) ∧ w'.cell? ⟨gb282, 2, none⟩ = some (.int .i64 a1_2) ∧ w'.cell? ⟨gb282, 3, none⟩ = some (.int .i64 a1_3) ∧ w'.cell? ⟨gb282, 4, none⟩ = some (.int .i64 a1_4) ∧ w'.cell? ⟨gb282, 5, none⟩ = some (.string a1_5) ∧ w'.cell? ⟨gb282, 6, none⟩ = some (.bool a1_6) ∧ w'.cell? ⟨gb282, 7, none⟩ = some (.slice A1_7 l1_7.length c1_7)) ∧ (Kd.R k30 30 w' w.heap.size (fun k_ => (w.heap.size ≤ k_)) (.slice Ao39 y289.length co39) y289) ∧ (Kd.N k26 26 w' w.heap.size (fun k_ => ((P0_ k_ ∨ P1_7_ k_) ∨ w.heap.size ≤ k_) ∧ some k_ ≠ (.slice Ao39 y289.length co39 : Value).ownBlock ∧ some k_ ≠ (s_.2 : Value).ownBlock ∧ k_ ≠ gb282 ∧ k_ ≠ gb292) s_.1 y293) ∧ (Kd.N k26 26 w' w.heap.size (fun k_ => ((P0_ k_ ∨ P1_7_ k_) ∨ w.heap.size ≤ k_) ∧ some k_ ≠ (.slice Ao39 y289.length co39 : Value).ownBlock ∧ some k_ ≠ (s_.1 : Value).ownBlock ∧ k_ ≠ gb282 ∧ k_ ≠ gb292) s_.2 y296) ∧ (Kd.V k26 26 w' w.heap.size (fun k_ => ((P0_ k_ ∨ P1_7_ k_) ∨ w.heap.size ≤ k_) ∧ some k_ ≠ (.slice Ao39 y289.length co39 : Value).ownBlock ∧ some k_ ≠ (s_.1 : Value).ownBlock ∧ some k_ ≠ (s_.2 : Value).ownBlock ∧ k_ ≠ gb282 ∧ k_ ≠ gb292) (.slice A0 l0.length c0) l0) ∧ (Kd.V k26 26 w' w.heap.size (fun k_ => ((P0_ k_ ∨ P1_7_ k_) ∨ w.heap.size ≤ k_) ∧ some k_ ≠ (.slice Ao39 y289.length co39 : Value).ownBlock ∧ some k_ ≠ (s_.1 : Value).ownBlock ∧ some k_ ≠ (s_.2 : Value).ownBlock ∧ k_ ≠ gb282 ∧ k_ ≠ gb292) (.slice A1_7 l1_7.length c1_7) l1_7) ∧ (w'.heap[gb282]? = some (.cells #[.string a1_0, .int .i64 a1_1, .int .i64 a1_2, .int .i64 a1_3, .int .i64 a1_4, .string a1_5, .bool a1_6, .slice A1_7 l1_7.length c1_7] 26 (0, 0))) ∧ (w'.heap[gb292]? = some (.cells #[.string (⟨#[116]⟩ : ByteArray), .slice Ao39 y289.length co39] 33 (0, 0))) ∧ (Below w.heap.size w w')) ?_ ?_
    rotate_left
    · intro hCont
      refine two_ (i := 2) (j := 4) (Ni := some 31) (Nj := some 33) #[true, true, true, true, false, false, false] #[true, true, false, true, true, false, false] rfl rfl rfl rfl (by kernel_rfl) (by decide) (by decide) (fun K hK => ?_) (fun K hK => ?_)
      · skip
        refine Kd.N_append_rows_step k26 (w0 := w) w.heap.size (by rfl) (.tmp 29) (.tmp 30) 22 26 (.agg #[(.string ⟨#[]⟩), (.int .i64 0), (.int .i64 0), (.int .i64 0), (.int .i64 0), (.string ⟨#[]⟩), (.bool false), (.slice none 0 0)]) 96 rfl Try.underlying22 info26 rfl (by decide) (by omega) (.slice none 0 0) ([] : List (S26)) l0 _ _ _ (fun k_ => ((P0_ k_ ∨ P1_7_ k_) ∨ w.heap.size ≤ k_) ∧ some k_ ≠ (.slice Ao39 y289.length co39 : Value).ownBlock ∧ k_ ≠ gb282 ∧ k_ ≠ gb292) (fun k_ => ((fun k_ => ((P0_ k_ ∨ P1_7_ k_) ∨ w.heap.size ≤ k_) ∧ some k_ ≠ (.slice Ao39 y289.length co39 : Value).ownBlock ∧ k_ ≠ gb282 ∧ k_ ≠ gb292)) k_ ∧ some k_ ≠ (.slice none 0 0 : Value).ownBlock) rfl rfl ?aO ?aR (fun _ hk => hk) ?aF ?aB ?aS ?aL ?_
        (case aR => exact (by skip; exact Kd.V_F (Kd.V_mono (ok' := (fun k_ => ((fun k_ => ((P0_ k_ ∨ P1_7_ k_) ∨ w.heap.size ≤ k_) ∧ some k_ ≠ (.slice Ao39 y289.length co39 : Value).ownBlock ∧ k_ ≠ gb282 ∧ k_ ≠ gb292)) k_ ∧ some k_ ≠ (.slice none 0 0 : Value).ownBlock)) (HO_0.out) (fun k_ hk => ⟨⟨hk.1, ⟨hk.2.1, ⟨hk.2.2.1, hk.2.2.2⟩⟩⟩, (by simp [Value.ownBlock])⟩))))
        (case aB => exact (bw_ HB.out))
        (case aF => exact (fun k_ hk => ⟨(.inr (Nat.le_trans (below_size (bw_ HB.out)) hk)), Kd.fresh' (Kd.R_lt (kR_ HO291.out)) k_ hk, Kd.freshB (g := gb282) (o := .cells #[.string a1_0, .int .i64 a1_1, .int .i64 a1_2, .int .i64 a1_3, .int .i64 a1_4, .string a1_5, .bool a1_6, .slice A1_7 l1_7.length c1_7] 26 (0, 0)) (bl_ BK282.out) k_ hk, Kd.freshB (g := gb292) (o := .cells #[.string (⟨#[116]⟩ : ByteArray), .slice Ao39 y289.length co39] 33 (0, 0)) (bl_ BK292.out) k_ hk⟩))
        (case aO => exact ((Kd.N_nil _ _ _ _ (fun k_ => ((P0_ k_ ∨ P1_7_ k_) ∨ w.heap.size ≤ k_) ∧ some k_ ≠ (.slice Ao39 y289.length co39 : Value).ownBlock ∧ k_ ≠ gb282 ∧ k_ ≠ gb292))))
        (case aS => exact (below_size (bw_ HB.out)))
        (case aL => have := LMc19.out; omega)
        intro v294 w45 ho hb hg hat
        rw [← Ny293.out] at ho
        have n0_ := Aside0.mk (Kd.V_afterv (Kd.V_apart_nil (kV_ HO_0.out)) hg hat)
        have n1_ := Aside0.mk (Kd.V_afterv (Kd.V_apart_nil (kV_ HO_283007.out)) hg hat)
        have n2_ := Aside0.mk (blk_grown (g := gb282) (o := .cells #[.string a1_0, .int .i64 a1_1, .int .i64 a1_2, .int .i64 a1_3, .int .i64 a1_4, .string a1_5, .bool a1_6, .slice A1_7 l1_7.length c1_7] 26 (0, 0)) (bl_ BK282.out) hg (by simp [Value.ownBlock]))
        have n3_ := Aside0.mk (Kd.R_grown (kR_ HO291.out) hg (fun _ _ => by simp [Value.ownBlock]))
        have n4_ := Aside0.mk (blk_grown (g := gb292) (o := .cells #[.string (⟨#[116]⟩ : ByteArray), .slice Ao39 y289.length co39] 33 (0, 0)) (bl_ BK292.out) hg (by simp [Value.ownBlock]))
        have n5_ := Aside0.mk (hb)
        have n6_ := Aside0.mk (ho)
        clear HO_0
        clear HO_283007
        clear BK282
        clear HO291
        clear BK292
        clear HB
        have HO_0 := n0_
        have HO_283007 := n1_
        have BK282 := n2_
        have HO291 := n3_
        have BK292 := n4_
        have HB := n5_
        have HO295 := n6_
        clear n0_ n1_ n2_ n3_ n4_ n5_ n6_
        clear ho hb hg hat
        refine hK.out _ _ ⟨(blk_cell BK282.out 0).trans rfl, (blk_cell BK282.out 1).trans rfl, (blk_cell BK282.out 2).trans rfl, (blk_cell BK282.out 3).trans rfl, (blk_cell BK282.out 4).trans rfl, (blk_cell BK282.out 5).trans rfl, (blk_cell BK282.out 6).trans rfl, (blk_cell BK282.out 7).trans rfl⟩ (fun hHeld => ?_)
        clear hK K
        refine norm_ (a' := ?_) ?_ ?_
        rotate_left
        · show Act.put _ (some 31) _ = _
          simp only [Act.put, List.setIfInBounds_toArray, List.set_cons_zero, List.set_cons_succ, i64_w, i32_w]
          rfl
        refine one_ (i := 4) (N := some 33) #[true, true, true, true, true, false, false] rfl rfl (by kernel_rfl) (by decide) (fun K hK => ?_)
        refine Kd.N_lit_step k26 _ 26 ?hg (N' := 33) ?hd (xs := ([(⟨a1_0, a1_1, a1_2, (⟨a1_3, a1_4, a1_5, a1_6⟩ : S24), l1_7⟩ : S26)] : List (S26))) (inner := [.string a1_0, .int .i64 a1_1, .int .i64 a1_2, .int .i64 a1_3, .int .i64 a1_4, .string a1_5, .bool a1_6, .slice A1_7 l1_7.length c1_7]) (ok := (fun k_ => ((P0_ k_ ∨ P1_7_ k_) ∨ w.heap.size ≤ k_) ∧ some k_ ≠ (.slice Ao39 y289.length co39 : Value).ownBlock ∧ some k_ ≠ (v294 : Value).ownBlock ∧ k_ ≠ gb282 ∧ k_ ≠ gb292)) (okp := (fun k_ => ((P0_ k_ ∨ P1_7_ k_) ∨ w.heap.size ≤ k_) ∧ some k_ ≠ (.slice Ao39 y289.length co39 : Value).ownBlock ∧ some k_ ≠ (v294 : Value).ownBlock ∧ k_ ≠ gb282 ∧ k_ ≠ gb292)) ?hr ?hp (fun _ hk => hk) ((show ∀ k_, _ ≤ k_ → (fun k_ => ((P0_ k_ ∨ P1_7_ k_) ∨ w.heap.size ≤ k_) ∧ some k_ ≠ (.slice Ao39 y289.length co39 : Value).ownBlock ∧ some k_ ≠ (v294 : Value).ownBlock ∧ k_ ≠ gb282 ∧ k_ ≠ gb292) k_ from fun k_ hk => ⟨(.inr (Nat.le_trans (below_size (bw_ HB.out)) hk)), Kd.fresh' (Kd.R_lt (kR_ HO291.out)) k_ hk, Kd.fresh' (Kd.N_lt (kN_ HO295.out)) k_ hk, Kd.freshB (g := gb282) (o := .cells #[.string a1_0, .int .i64 a1_1, .int .i64 a1_2, .int .i64 a1_3, .int .i64 a1_4, .string a1_5, .bool a1_6, .slice A1_7 l1_7.length c1_7] 26 (0, 0)) (bl_ BK282.out) k_ hk, Kd.freshB (g := gb292) (o := .cells #[.string (⟨#[116]⟩ : ByteArray), .slice Ao39 y289.length co39] 33 (0, 0)) (bl_ BK292.out) k_ hk⟩) _ (Nat.le_refl _)) (Below.refl _ _) (Nat.le_refl _) (by simp) ?_; (case hd => rfl); (case hg => rfl); (case hr => first | (go_simp; done) | (go_simp; rfl)); (case hp => exact (Reps.c8 (show Kd.FK k26 _ _ (⟨a1_0, a1_1, a1_2, (⟨a1_3, a1_4, a1_5, a1_6⟩ : S24), l1_7⟩ : S26) [.string a1_0, .int .i64 a1_1, .int .i64 a1_2, .int .i64 a1_3, .int .i64 a1_4, .string a1_5, .bool a1_6, .slice A1_7 l1_7.length c1_7] from (k26_mkF _ _ (⟨a1_0, a1_1, a1_2, (⟨a1_3, a1_4, a1_5, a1_6⟩ : S24), l1_7⟩ : S26) (Kd.V_reads' (Kd.V_mono (ok' := (fun k_ => ((P0_ k_ ∨ P1_7_ k_) ∨ w.heap.size ≤ k_) ∧ some k_ ≠ (.slice Ao39 y289.length co39 : Value).ownBlock ∧ some k_ ≠ (v294 : Value).ownBlock ∧ k_ ≠ gb282 ∧ k_ ≠ gb292)) (HO_283007.out) (fun k_ hk => ⟨hk.1.1, ⟨hk.1.2.1, ⟨hk.2, ⟨hk.1.2.2.1, hk.1.2.2.2⟩⟩⟩⟩))).2.1 (Kd.V_F (Kd.V_mono (ok' := (fun k_ => ((P0_ k_ ∨ P1_7_ k_) ∨ w.heap.size ≤ k_) ∧ some k_ ≠ (.slice Ao39 y289.length co39 : Value).ownBlock ∧ some k_ ≠ (v294 : Value).ownBlock ∧ k_ ≠ gb282 ∧ k_ ≠ gb292)) (HO_283007.out) (fun k_ hk => ⟨hk.1.1, ⟨hk.1.2.1, ⟨hk.2, ⟨hk.1.2.2.1, hk.1.2.2.2⟩⟩⟩⟩))))) (Reps.none _ _)))
        intro v297 w46 ho47 hb hg_ hnew_
        clear hg_ hnew_
        (first | rw [← Ny296.out] at ho47 | (simp only [Int.reduceToNat] at ho47; rw [← Ny296.out] at ho47))
        have n0_ := Aside0.mk (Kd.V_elder' (kV_ HO_0.out) (Kd.N_base ho47) hb)
        have n1_ := Aside0.mk (Kd.V_elder' (kV_ HO_283007.out) (Kd.N_base ho47) hb)
        have n2_ := Aside0.mk (Kd.R_below (kR_ HO291.out) hb)
        have n3_ := Aside0.mk (Kd.N_elder' (kN_ HO295.out) (Kd.N_base ho47) hb)
        have n4_ := Aside0.mk (Kd.N_lower ho47 (below_size (bw_ HB.out)))
        have n5_ := Aside0.mk (blk_below (g := gb282) (o := .cells #[.string a1_0, .int .i64 a1_1, .int .i64 a1_2, .int .i64 a1_3, .int .i64 a1_4, .string a1_5, .bool a1_6, .slice A1_7 l1_7.length c1_7] 26 (0, 0)) (bl_ BK282.out) hb)
        have n6_ := Aside0.mk (blk_below (g := gb292) (o := .cells #[.string (⟨#[116]⟩ : ByteArray), .slice Ao39 y289.length co39] 33 (0, 0)) (bl_ BK292.out) hb)
        have n7_ := Aside0.mk (below_step (bw_ HB.out) hb)
        clear HO_0
        clear HO_283007
        clear HO291
        clear HO295
        clear BK282
        clear BK292
        clear HB
        have HO_0 := n0_
        have HO_283007 := n1_
        have HO291 := n2_
        have HO295 := n3_
        have HO298 := n4_
        have BK282 := n5_
        have BK292 := n6_
        have HB := n7_
        clear n0_ n1_ n2_ n3_ n4_ n5_ n6_ n7_
        clear hb ho47
        refine hK.out _ _ ⟨(blk_cell BK282.out 0).trans rfl, (blk_cell BK282.out 1).trans rfl, (blk_cell BK282.out 2).trans rfl, (blk_cell BK282.out 3).trans rfl, (blk_cell BK282.out 4).trans rfl, (blk_cell BK282.out 5).trans rfl, (blk_cell BK282.out 6).trans rfl, (blk_cell BK282.out 7).trans rfl⟩ (fun hHeld => ?_)
        clear hK K
        refine norm_ (a' := ?_) ?_ ?_
        rotate_left
        · show Act.put _ (some 33) _ = _
          simp only [Act.put, List.setIfInBounds_toArray, List.set_cons_zero, List.set_cons_succ, i64_w, i32_w]
          rfl
        exact norm_ (by simp only [putAll, Act.put, List.setIfInBounds_toArray, List.set_cons_zero, List.set_cons_succ]) (hCont (v294, v297) _ ⟨hHeld, (kR_ HO291.out), (by (with_reducible repeat (first | apply Kd.N_alloc | apply Kd.N_drewN | apply Kd.N_drew)); exact Kd.N_mono HO295.out (fun _ hk => ⟨hk.1.1, ⟨hk.1.2.1, ⟨hk.2, ⟨hk.1.2.2.1, hk.1.2.2.2⟩⟩⟩⟩)), (kN_ HO298.out), (by (with_reducible repeat (first | apply Kd.V_alloc | apply Kd.V_drewN | apply Kd.V_drew)); exact Kd.V_mono HO_0.out (fun _ hk => ⟨hk.1.1.1, ⟨hk.1.1.2.1, ⟨hk.1.2, ⟨hk.2, ⟨hk.1.1.2.2.1, hk.1.1.2.2.2⟩⟩⟩⟩⟩)), (by (with_reducible repeat (first | apply Kd.V_alloc | apply Kd.V_drewN | apply Kd.V_drew)); exact Kd.V_mono HO_283007.out (fun _ hk => ⟨hk.1.1.1, ⟨hk.1.1.2.1, ⟨hk.1.2, ⟨hk.2, ⟨hk.1.1.2.2.1, hk.1.1.2.2.2⟩⟩⟩⟩⟩)), (bl_ BK282.out), (bl_ BK292.out), (bw_ HB.out)⟩)
      skip
      refine Kd.N_lit_step k26 _ 26 ?hg (N' := 33) ?hd (xs := ([(⟨a1_0, a1_1, a1_2, (⟨a1_3, a1_4, a1_5, a1_6⟩ : S24), l1_7⟩ : S26)] : List (S26))) (inner := [.string a1_0, .int .i64 a1_1, .int .i64 a1_2, .int .i64 a1_3, .int .i64 a1_4, .string a1_5, .bool a1_6, .slice A1_7 l1_7.length c1_7]) (ok := (fun k_ => ((P0_ k_ ∨ P1_7_ k_) ∨ w.heap.size ≤ k_) ∧ some k_ ≠ (.slice Ao39 y289.length co39 : Value).ownBlock ∧ k_ ≠ gb282 ∧ k_ ≠ gb292)) (okp := (fun k_ => ((P0_ k_ ∨ P1_7_ k_) ∨ w.heap.size ≤ k_) ∧ some k_ ≠ (.slice Ao39 y289.length co39 : Value).ownBlock ∧ k_ ≠ gb282 ∧ k_ ≠ gb292)) ?hr ?hp (fun _ hk => hk) ((show ∀ k_, _ ≤ k_ → (fun k_ => ((P0_ k_ ∨ P1_7_ k_) ∨ w.heap.size ≤ k_) ∧ some k_ ≠ (.slice Ao39 y289.length co39 : Value).ownBlock ∧ k_ ≠ gb282 ∧ k_ ≠ gb292) k_ from fun k_ hk => ⟨(.inr (Nat.le_trans (below_size (bw_ HB.out)) hk)), Kd.fresh' (Kd.R_lt (kR_ HO291.out)) k_ hk, Kd.freshB (g := gb282) (o := .cells #[.string a1_0, .int .i64 a1_1, .int .i64 a1_2, .int .i64 a1_3, .int .i64 a1_4, .string a1_5, .bool a1_6, .slice A1_7 l1_7.length c1_7] 26 (0, 0)) (bl_ BK282.out) k_ hk, Kd.freshB (g := gb292) (o := .cells #[.string (⟨#[116]⟩ : ByteArray), .slice Ao39 y289.length co39] 33 (0, 0)) (bl_ BK292.out) k_ hk⟩) _ (Nat.le_refl _)) (Below.refl _ _) (Nat.le_refl _) (by simp) ?_; (case hd => rfl); (case hg => rfl); (case hr => first | (go_simp; done) | (go_simp; rfl)); (case hp => exact (Reps.c8 (show Kd.FK k26 _ _ (⟨a1_0, a1_1, a1_2, (⟨a1_3, a1_4, a1_5, a1_6⟩ : S24), l1_7⟩ : S26) [.string a1_0, .int .i64 a1_1, .int .i64 a1_2, .int .i64 a1_3, .int .i64 a1_4, .string a1_5, .bool a1_6, .slice A1_7 l1_7.length c1_7] from (k26_mkF _ _ (⟨a1_0, a1_1, a1_2, (⟨a1_3, a1_4, a1_5, a1_6⟩ : S24), l1_7⟩ : S26) (Kd.V_reads' (Kd.V_mono (ok' := (fun k_ => ((P0_ k_ ∨ P1_7_ k_) ∨ w.heap.size ≤ k_) ∧ some k_ ≠ (.slice Ao39 y289.length co39 : Value).ownBlock ∧ k_ ≠ gb282 ∧ k_ ≠ gb292)) (HO_283007.out) (fun k_ hk => ⟨hk.1, ⟨hk.2.1, ⟨hk.2.2.1, hk.2.2.2⟩⟩⟩))).2.1 (Kd.V_F (Kd.V_mono (ok' := (fun k_ => ((P0_ k_ ∨ P1_7_ k_) ∨ w.heap.size ≤ k_) ∧ some k_ ≠ (.slice Ao39 y289.length co39 : Value).ownBlock ∧ k_ ≠ gb282 ∧ k_ ≠ gb292)) (HO_283007.out) (fun k_ hk => ⟨hk.1, ⟨hk.2.1, ⟨hk.2.2.1, hk.2.2.2⟩⟩⟩))))) (Reps.none _ _)))
      intro v297 w45 ho46 hb hg_ hnew_
      clear hg_ hnew_
      (first | rw [← Ny296.out] at ho46 | (simp only [Int.reduceToNat] at ho46; rw [← Ny296.out] at ho46))
      have n0_ := Aside0.mk (Kd.V_elder' (kV_ HO_0.out) (Kd.N_base ho46) hb)
      have n1_ := Aside0.mk (Kd.V_elder' (kV_ HO_283007.out) (Kd.N_base ho46) hb)
      have n2_ := Aside0.mk (Kd.R_below (kR_ HO291.out) hb)
      have n3_ := Aside0.mk (Kd.N_lower ho46 (below_size (bw_ HB.out)))
      have n4_ := Aside0.mk (blk_below (g := gb282) (o := .cells #[.string a1_0, .int .i64 a1_1, .int .i64 a1_2, .int .i64 a1_3, .int .i64 a1_4, .string a1_5, .bool a1_6, .slice A1_7 l1_7.length c1_7] 26 (0, 0)) (bl_ BK282.out) hb)
      have n5_ := Aside0.mk (blk_below (g := gb292) (o := .cells #[.string (⟨#[116]⟩ : ByteArray), .slice Ao39 y289.length co39] 33 (0, 0)) (bl_ BK292.out) hb)
      have n6_ := Aside0.mk (below_step (bw_ HB.out) hb)
      clear HO_0
      clear HO_283007
      clear HO291
      clear BK282
      clear BK292
      clear HB
      have HO_0 := n0_
      have HO_283007 := n1_
      have HO291 := n2_
      have HO298 := n3_
      have BK282 := n4_
      have BK292 := n5_
      have HB := n6_
      clear n0_ n1_ n2_ n3_ n4_ n5_ n6_
      clear hb ho46
      refine hK.out _ _ ⟨(blk_cell BK282.out 0).trans rfl, (blk_cell BK282.out 1).trans rfl, (blk_cell BK282.out 2).trans rfl, (blk_cell BK282.out 3).trans rfl, (blk_cell BK282.out 4).trans rfl, (blk_cell BK282.out 5).trans rfl, (blk_cell BK282.out 6).trans rfl, (blk_cell BK282.out 7).trans rfl⟩ (fun hHeld => ?_)
      clear hK K
      refine norm_ (a' := ?_) ?_ ?_
      rotate_left
      · show Act.put _ (some 33) _ = _
        simp only [Act.put, List.setIfInBounds_toArray, List.set_cons_zero, List.set_cons_succ, i64_w, i32_w]
        rfl
      refine one_ (i := 2) (N := some 31) #[true, true, true, true, true, false, false] rfl rfl (by kernel_rfl) (by decide) (fun K hK => ?_)
      refine Kd.N_append_rows_step k26 (w0 := w) w.heap.size (by rfl) (.tmp 29) (.tmp 30) 22 26 (.agg #[(.string ⟨#[]⟩), (.int .i64 0), (.int .i64 0), (.int .i64 0), (.int .i64 0), (.string ⟨#[]⟩), (.bool false), (.slice none 0 0)]) 96 rfl Try.underlying22 info26 rfl (by decide) (by omega) (.slice none 0 0) ([] : List (S26)) l0 _ _ _ (fun k_ => ((P0_ k_ ∨ P1_7_ k_) ∨ w.heap.size ≤ k_) ∧ some k_ ≠ (.slice Ao39 y289.length co39 : Value).ownBlock ∧ some k_ ≠ (v297 : Value).ownBlock ∧ k_ ≠ gb282 ∧ k_ ≠ gb292) (fun k_ => ((fun k_ => ((P0_ k_ ∨ P1_7_ k_) ∨ w.heap.size ≤ k_) ∧ some k_ ≠ (.slice Ao39 y289.length co39 : Value).ownBlock ∧ some k_ ≠ (v297 : Value).ownBlock ∧ k_ ≠ gb282 ∧ k_ ≠ gb292)) k_ ∧ some k_ ≠ (.slice none 0 0 : Value).ownBlock) rfl rfl ?aO ?aR (fun _ hk => hk) ?aF ?aB ?aS ?aL ?_
      (case aR => exact (by skip; exact Kd.V_F (Kd.V_mono (ok' := (fun k_ => ((fun k_ => ((P0_ k_ ∨ P1_7_ k_) ∨ w.heap.size ≤ k_) ∧ some k_ ≠ (.slice Ao39 y289.length co39 : Value).ownBlock ∧ some k_ ≠ (v297 : Value).ownBlock ∧ k_ ≠ gb282 ∧ k_ ≠ gb292)) k_ ∧ some k_ ≠ (.slice none 0 0 : Value).ownBlock)) (HO_0.out) (fun k_ hk => ⟨⟨hk.1.1, ⟨hk.1.2.1, ⟨hk.2, ⟨hk.1.2.2.1, hk.1.2.2.2⟩⟩⟩⟩, (by simp [Value.ownBlock])⟩))))
      (case aB => exact (bw_ HB.out))
      (case aF => exact (fun k_ hk => ⟨(.inr (Nat.le_trans (below_size (bw_ HB.out)) hk)), Kd.fresh' (Kd.R_lt (kR_ HO291.out)) k_ hk, Kd.fresh' (Kd.N_lt (kN_ HO298.out)) k_ hk, Kd.freshB (g := gb282) (o := .cells #[.string a1_0, .int .i64 a1_1, .int .i64 a1_2, .int .i64 a1_3, .int .i64 a1_4, .string a1_5, .bool a1_6, .slice A1_7 l1_7.length c1_7] 26 (0, 0)) (bl_ BK282.out) k_ hk, Kd.freshB (g := gb292) (o := .cells #[.string (⟨#[116]⟩ : ByteArray), .slice Ao39 y289.length co39] 33 (0, 0)) (bl_ BK292.out) k_ hk⟩))
      (case aO => exact ((Kd.N_nil _ _ _ _ (fun k_ => ((P0_ k_ ∨ P1_7_ k_) ∨ w.heap.size ≤ k_) ∧ some k_ ≠ (.slice Ao39 y289.length co39 : Value).ownBlock ∧ some k_ ≠ (v297 : Value).ownBlock ∧ k_ ≠ gb282 ∧ k_ ≠ gb292))))
      (case aS => exact (below_size (bw_ HB.out)))
      (case aL => have := LMc19.out; omega)
      intro v294 w47 ho hb hg hat
      rw [← Ny293.out] at ho
      have n0_ := Aside0.mk (Kd.V_afterv (Kd.V_apart_nil (kV_ HO_0.out)) hg hat)
      have n1_ := Aside0.mk (Kd.V_afterv (Kd.V_apart_nil (kV_ HO_283007.out)) hg hat)
      have n2_ := Aside0.mk (blk_grown (g := gb282) (o := .cells #[.string a1_0, .int .i64 a1_1, .int .i64 a1_2, .int .i64 a1_3, .int .i64 a1_4, .string a1_5, .bool a1_6, .slice A1_7 l1_7.length c1_7] 26 (0, 0)) (bl_ BK282.out) hg (by simp [Value.ownBlock]))
      have n3_ := Aside0.mk (Kd.R_grown (kR_ HO291.out) hg (fun _ _ => by simp [Value.ownBlock]))
      have n4_ := Aside0.mk (blk_grown (g := gb292) (o := .cells #[.string (⟨#[116]⟩ : ByteArray), .slice Ao39 y289.length co39] 33 (0, 0)) (bl_ BK292.out) hg (by simp [Value.ownBlock]))
      have n5_ := Aside0.mk (Kd.N_afterv (Kd.N_apart_nil (kN_ HO298.out)) hg hat)
      have n6_ := Aside0.mk (hb)
      have n7_ := Aside0.mk (ho)
      clear HO_0
      clear HO_283007
      clear BK282
      clear HO291
      clear BK292
      clear HO298
      clear HB
      have HO_0 := n0_
      have HO_283007 := n1_
      have BK282 := n2_
      have HO291 := n3_
      have BK292 := n4_
      have HO298 := n5_
      have HB := n6_
      have HO295 := n7_
      clear n0_ n1_ n2_ n3_ n4_ n5_ n6_ n7_
      clear ho hb hg hat
      refine hK.out _ _ ⟨(blk_cell BK282.out 0).trans rfl, (blk_cell BK282.out 1).trans rfl, (blk_cell BK282.out 2).trans rfl, (blk_cell BK282.out 3).trans rfl, (blk_cell BK282.out 4).trans rfl, (blk_cell BK282.out 5).trans rfl, (blk_cell BK282.out 6).trans rfl, (blk_cell BK282.out 7).trans rfl⟩ (fun hHeld => ?_)
      clear hK K
      refine norm_ (a' := ?_) ?_ ?_
      rotate_left
      · show Act.put _ (some 31) _ = _
        simp only [Act.put, List.setIfInBounds_toArray, List.set_cons_zero, List.set_cons_succ, i64_w, i32_w]
        rfl
      exact norm_ (by simp only [putAll, Act.put, List.setIfInBounds_toArray, List.set_cons_zero, List.set_cons_succ]) (hCont (v294, v297) _ ⟨hHeld, (kR_ HO291.out), (kN_ HO295.out), (by (with_reducible repeat (first | apply Kd.N_alloc | apply Kd.N_drewN | apply Kd.N_drew)); exact Kd.N_mono HO298.out (fun _ hk => ⟨hk.1.1, ⟨hk.1.2.1, ⟨hk.2, ⟨hk.1.2.2.1, hk.1.2.2.2⟩⟩⟩⟩)), (by (with_reducible repeat (first | apply Kd.V_alloc | apply Kd.V_drewN | apply Kd.V_drew)); exact Kd.V_mono HO_0.out (fun _ hk => ⟨hk.1.1.1, ⟨hk.1.1.2.1, ⟨hk.2, ⟨hk.1.2, ⟨hk.1.1.2.2.1, hk.1.1.2.2.2⟩⟩⟩⟩⟩)), (by (with_reducible repeat (first | apply Kd.V_alloc | apply Kd.V_drewN | apply Kd.V_drew)); exact Kd.V_mono HO_283007.out (fun _ hk => ⟨hk.1.1.1, ⟨hk.1.1.2.1, ⟨hk.2, ⟨hk.1.2, ⟨hk.1.1.2.2.1, hk.1.1.2.2.2⟩⟩⟩⟩⟩)), (bl_ BK282.out), (bl_ BK292.out), (bw_ HB.out)⟩)
    rintro ⟨v294, v297⟩ w48 ⟨hS_, h0_, h1_, h2_, h3_, h4_, h5_, h6_, h7_⟩
    have n0_ : Aside0 (Kd.R k30 30 w48 w.heap.size (fun k_ => (w.heap.size ≤ k_)) (.slice Ao39 y289.length co39) y289) := ⟨h0_⟩
    have n1_ : Aside0 (Kd.N k26 26 w48 w.heap.size (fun k_ => ((P0_ k_ ∨ P1_7_ k_) ∨ w.heap.size ≤ k_) ∧ some k_ ≠ (.slice Ao39 y289.length co39 : Value).ownBlock ∧ some k_ ≠ (v297 : Value).ownBlock ∧ k_ ≠ gb282 ∧ k_ ≠ gb292) v294 y293) := ⟨h1_⟩
    have n2_ : Aside0 (Kd.N k26 26 w48 w.heap.size (fun k_ => ((P0_ k_ ∨ P1_7_ k_) ∨ w.heap.size ≤ k_) ∧ some k_ ≠ (.slice Ao39 y289.length co39 : Value).ownBlock ∧ some k_ ≠ (v294 : Value).ownBlock ∧ k_ ≠ gb282 ∧ k_ ≠ gb292) v297 y296) := ⟨h2_⟩
    have n3_ : Aside0 (Kd.V k26 26 w48 w.heap.size (fun k_ => ((P0_ k_ ∨ P1_7_ k_) ∨ w.heap.size ≤ k_) ∧ some k_ ≠ (.slice Ao39 y289.length co39 : Value).ownBlock ∧ some k_ ≠ (v294 : Value).ownBlock ∧ some k_ ≠ (v297 : Value).ownBlock ∧ k_ ≠ gb282 ∧ k_ ≠ gb292) (.slice A0 l0.length c0) l0) := ⟨h3_⟩
    have n4_ : Aside0 (Kd.V k26 26 w48 w.heap.size (fun k_ => ((P0_ k_ ∨ P1_7_ k_) ∨ w.heap.size ≤ k_) ∧ some k_ ≠ (.slice Ao39 y289.length co39 : Value).ownBlock ∧ some k_ ≠ (v294 : Value).ownBlock ∧ some k_ ≠ (v297 : Value).ownBlock ∧ k_ ≠ gb282 ∧ k_ ≠ gb292) (.slice A1_7 l1_7.length c1_7) l1_7) := ⟨h4_⟩
    have n5_ : Aside0 (w48.heap[gb282]? = some (.cells #[.string a1_0, .int .i64 a1_1, .int .i64 a1_2, .int .i64 a1_3, .int .i64 a1_4, .string a1_5, .bool a1_6, .slice A1_7 l1_7.length c1_7] 26 (0, 0))) := ⟨h5_⟩
    have n6_ : Aside0 (w48.heap[gb292]? = some (.cells #[.string (⟨#[116]⟩ : ByteArray), .slice Ao39 y289.length co39] 33 (0, 0))) := ⟨h6_⟩
    have n7_ : Aside0 (Below w.heap.size w w48) := ⟨h7_⟩
    clear HO_0
    clear HO_283007
    clear HO291
    clear BK282
    clear BK292
    clear HB
    clear h0_ h1_ h2_ h3_ h4_ h5_ h6_ h7_
    have HO291 := n0_
    have HO295 := n1_
    have HO298 := n2_
    have HO_0 := n3_
    have HO_283007 := n4_
    have BK282 := n5_
    have BK292 := n6_
    have HB := n7_
    clear n0_ n1_ n2_ n3_ n4_ n5_ n6_ n7_
    have hHeld : w48.cell? ⟨gb282, 0, none⟩ = some (.string a1_0) ∧ w48.cell? ⟨gb282, 1, none⟩ = some (.int .i64 a1_1) ∧ w48.cell? ⟨gb282, 2, none⟩ = some (.int .i64 a1_2) ∧ w48.cell? ⟨gb282, 3, none⟩ = some (.int .i64 a1_3) ∧ w48.cell? ⟨gb282, 4, none⟩ = some (.int .i64 a1_4) ∧ w48.cell? ⟨gb282, 5, none⟩ = some (.string a1_5) ∧ w48.cell? ⟨gb282, 6, none⟩ = some (.bool a1_6) ∧ w48.cell? ⟨gb282, 7, none⟩ = some (.slice A1_7 l1_7.length c1_7) := hS_
    obtain ⟨Ao50, co50, eo50⟩ := Kd.N_slice HO298.out
    (first | subst eo50 | (injection eo50 with f1_ f2_ f3_; have f4_ := f1_.symm; have f5_ := f3_.symm; clear f1_ f2_ f3_; subst f4_; subst f5_))
    refine norm_ (a' := ?_) ?_ ?_
    rotate_left
    · simp only [putAll, Act.put, List.setIfInBounds_toArray, List.set_cons_zero, List.set_cons_succ]
      rfl
    refine one_ (i := 5) (N := some 34) #[true, true, true, true, true, true, false] rfl rfl (by kernel_rfl) (by decide) (fun K hK => ?_)
    refine Kd.N_append_rows_step k26 (w0 := w) w.heap.size (by rfl) (.tmp 31) (.tmp 33) 22 26 (.agg #[(.string ⟨#[]⟩), (.int .i64 0), (.int .i64 0), (.int .i64 0), (.int .i64 0), (.string ⟨#[]⟩), (.bool false), (.slice none 0 0)]) 96 rfl Try.underlying22 info26 rfl (by decide) (by omega) v294 y293 y296 _ _ _ (fun k_ => ((P0_ k_ ∨ P1_7_ k_) ∨ w.heap.size ≤ k_) ∧ some k_ ≠ (.slice Ao39 y289.length co39 : Value).ownBlock ∧ k_ ≠ gb282 ∧ k_ ≠ gb292) (fun k_ => ((fun k_ => ((P0_ k_ ∨ P1_7_ k_) ∨ w.heap.size ≤ k_) ∧ some k_ ≠ (.slice Ao39 y289.length co39 : Value).ownBlock ∧ k_ ≠ gb282 ∧ k_ ≠ gb292)) k_ ∧ some k_ ≠ (v294 : Value).ownBlock) rfl rfl ?aO ?aR (fun _ hk => hk) ?aF ?aB ?aS ?aL ?_
    (case aR => exact (by skip; exact Kd.N_F (Kd.N_mono (ok' := (fun k_ => ((fun k_ => ((P0_ k_ ∨ P1_7_ k_) ∨ w.heap.size ≤ k_) ∧ some k_ ≠ (.slice Ao39 y289.length co39 : Value).ownBlock ∧ k_ ≠ gb282 ∧ k_ ≠ gb292)) k_ ∧ some k_ ≠ (v294 : Value).ownBlock)) (HO298.out) (fun k_ hk => ⟨⟨hk.1, ⟨hk.2.1, ⟨hk.2.2.2.1, hk.2.2.2.2⟩⟩⟩, hk.2.2.1⟩))))
    (case aB => exact (bw_ HB.out))
    (case aF => exact (fun k_ hk => ⟨(.inr (Nat.le_trans (below_size (bw_ HB.out)) hk)), Kd.fresh' (Kd.R_lt (kR_ HO291.out)) k_ hk, Kd.freshB (g := gb282) (o := .cells #[.string a1_0, .int .i64 a1_1, .int .i64 a1_2, .int .i64 a1_3, .int .i64 a1_4, .string a1_5, .bool a1_6, .slice A1_7 l1_7.length c1_7] 26 (0, 0)) (bl_ BK282.out) k_ hk, Kd.freshB (g := gb292) (o := .cells #[.string (⟨#[116]⟩ : ByteArray), .slice Ao39 y289.length co39] 33 (0, 0)) (bl_ BK292.out) k_ hk⟩))
    (case aO => exact (by (with_reducible repeat (first | apply Kd.N_alloc | apply Kd.N_drewN | apply Kd.N_drew)); exact Kd.N_mono HO295.out (fun _ hk => ⟨hk.1, ⟨hk.2.1, ⟨hk.2.2.2.1, hk.2.2.2.2⟩⟩⟩)))
    (case aS => exact (below_size (bw_ HB.out)))
    (case aL => have := LMc20.out; omega)
    intro v300 w49 ho hb hg hat
    rw [← Ny299.out] at ho
    have n0_ := Aside0.mk (Kd.V_afterv (ok := (fun k_ => ((P0_ k_ ∨ P1_7_ k_) ∨ w.heap.size ≤ k_) ∧ some k_ ≠ (.slice Ao39 y289.length co39 : Value).ownBlock ∧ some k_ ≠ (.slice Ao50 y296.length co50 : Value).ownBlock ∧ k_ ≠ gb282 ∧ k_ ≠ gb292)) (by (with_reducible repeat (first | apply Kd.V_alloc | apply Kd.V_drewN | apply Kd.V_drew)); exact Kd.V_mono HO_0.out (fun _ hk => ⟨⟨hk.1, ⟨hk.2.1, ⟨hk.2.2.2.1, ⟨hk.2.2.2.2.1, hk.2.2.2.2.2⟩⟩⟩⟩, hk.2.2.1⟩)) hg hat)
    have n1_ := Aside0.mk (Kd.V_afterv (ok := (fun k_ => ((P0_ k_ ∨ P1_7_ k_) ∨ w.heap.size ≤ k_) ∧ some k_ ≠ (.slice Ao39 y289.length co39 : Value).ownBlock ∧ some k_ ≠ (.slice Ao50 y296.length co50 : Value).ownBlock ∧ k_ ≠ gb282 ∧ k_ ≠ gb292)) (by (with_reducible repeat (first | apply Kd.V_alloc | apply Kd.V_drewN | apply Kd.V_drew)); exact Kd.V_mono HO_283007.out (fun _ hk => ⟨⟨hk.1, ⟨hk.2.1, ⟨hk.2.2.2.1, ⟨hk.2.2.2.2.1, hk.2.2.2.2.2⟩⟩⟩⟩, hk.2.2.1⟩)) hg hat)
    have n2_ := Aside0.mk (blk_grown (g := gb282) (o := .cells #[.string a1_0, .int .i64 a1_1, .int .i64 a1_2, .int .i64 a1_3, .int .i64 a1_4, .string a1_5, .bool a1_6, .slice A1_7 l1_7.length c1_7] 26 (0, 0)) (bl_ BK282.out) hg (Kd.N_away HO295.out (fun _ hk => hk.2.2.2.1)))
    have n3_ := Aside0.mk (Kd.R_over' (kR_ HO291.out) (Kd.N_typed (kN_ HO295.out)) (by decide) hg)
    have n4_ := Aside0.mk (blk_grown (g := gb292) (o := .cells #[.string (⟨#[116]⟩ : ByteArray), .slice Ao39 y289.length co39] 33 (0, 0)) (bl_ BK292.out) hg (Kd.N_ne HO295.out BK292.out (by decide)))
    have n5_ := Aside0.mk (Kd.N_afterv (ok := (fun k_ => ((P0_ k_ ∨ P1_7_ k_) ∨ w.heap.size ≤ k_) ∧ some k_ ≠ (.slice Ao39 y289.length co39 : Value).ownBlock ∧ k_ ≠ gb282 ∧ k_ ≠ gb292)) (by (with_reducible repeat (first | apply Kd.N_alloc | apply Kd.N_drewN | apply Kd.N_drew)); exact Kd.N_mono HO298.out (fun _ hk => ⟨⟨hk.1, ⟨hk.2.1, ⟨hk.2.2.2.1, hk.2.2.2.2⟩⟩⟩, hk.2.2.1⟩)) hg hat)
    have n6_ := Aside0.mk (hb)
    have n7_ := Aside0.mk (ho)
    clear HO_0
    clear HO_283007
    clear BK282
    clear HO291
    clear BK292
    clear HO298
    clear HB
    clear HO295
    have HO_0 := n0_
    have HO_283007 := n1_
    have BK282 := n2_
    have HO291 := n3_
    have BK292 := n4_
    have HO298 := n5_
    have HB := n6_
    have HO301 := n7_
    clear n0_ n1_ n2_ n3_ n4_ n5_ n6_ n7_
    clear ho hb hg hat
    refine hK.out _ _ ⟨(blk_cell BK282.out 0).trans rfl, (blk_cell BK282.out 1).trans rfl, (blk_cell BK282.out 2).trans rfl, (blk_cell BK282.out 3).trans rfl, (blk_cell BK282.out 4).trans rfl, (blk_cell BK282.out 5).trans rfl, (blk_cell BK282.out 6).trans rfl, (blk_cell BK282.out 7).trans rfl⟩ (fun hHeld => ?_)
    clear hK K
    refine norm_ (a' := ?_) ?_ ?_
    rotate_left
    · show Act.put _ (some 34) _ = _
      simp only [Act.put, List.setIfInBounds_toArray, List.set_cons_zero, List.set_cons_succ, i64_w, i32_w]
      rfl
    refine pure_ (i := 6) (N := some 8) (v := ?_) (a' := ?_) #[true, true, true, true, true, true, true] rfl rfl (by kernel_rfl) (fun _ _ _ h => h) (Or.inl ⟨by rfl, ?_⟩) ?_ ?_
    rotate_left
    · intro w'
      go_simp
      with_reducible rfl
    rotate_left
    · simp only [Act.put, List.setIfInBounds_toArray, List.set_cons_zero, List.set_cons_succ, i64_w, i32_w]
      rfl
    refine done_ (by kernel_rfl) ?_
    have hcz51_0 : w49.cell? ⟨gb282, 0, none⟩ = some (.string a1_0) := (blk_cell BK282.out 0).trans rfl
    have hcz51_1 : w49.cell? ⟨gb282, 1, none⟩ = some (.int .i64 a1_1) := (blk_cell BK282.out 1).trans rfl
    have hcz51_2 : w49.cell? ⟨gb282, 2, none⟩ = some (.int .i64 a1_2) := (blk_cell BK282.out 2).trans rfl
    have hcz51_3 : w49.cell? ⟨gb282, 3, none⟩ = some (.int .i64 a1_3) := (blk_cell BK282.out 3).trans rfl
    have hcz51_4 : w49.cell? ⟨gb282, 4, none⟩ = some (.int .i64 a1_4) := (blk_cell BK282.out 4).trans rfl
    have hcz51_5 : w49.cell? ⟨gb282, 5, none⟩ = some (.string a1_5) := (blk_cell BK282.out 5).trans rfl
    have hcz51_6 : w49.cell? ⟨gb282, 6, none⟩ = some (.bool a1_6) := (blk_cell BK282.out 6).trans rfl
    have hcz51_7 : w49.cell? ⟨gb282, 7, none⟩ = some (.slice A1_7 l1_7.length c1_7) := (blk_cell BK282.out 7).trans rfl
    have hfz51_0 := blk_frozen BK282.out 0
    have hfz51_1 := blk_frozen BK282.out 1
    have hfz51_2 := blk_frozen BK282.out 2
    have hfz51_3 := blk_frozen BK282.out 3
    have hfz51_4 := blk_frozen BK282.out 4
    have hfz51_5 := blk_frozen BK282.out 5
    have hfz51_6 := blk_frozen BK282.out 6
    have hfz51_7 := blk_frozen BK282.out 7
    try go_wp2_with (first | ((with_reducible refine gate_dst (N := 37) rfl ?_); (try (refine gate_guard (by rfl) ?_; dsimp only)); refine Kd.N_lit k26 _ 26 ?hg (N' := 37) ?hd (xs := ([(⟨a1_0, a1_1, a1_2, (⟨a1_3, a1_4, a1_5, a1_6⟩ : S24), l1_7⟩ : S26)] : List (S26))) (inner := [.string a1_0, .int .i64 a1_1, .int .i64 a1_2, .int .i64 a1_3, .int .i64 a1_4, .string a1_5, .bool a1_6, .slice A1_7 l1_7.length c1_7]) (ok := (fun k_ => ((P0_ k_ ∨ P1_7_ k_) ∨ w.heap.size ≤ k_) ∧ some k_ ≠ (.slice Ao39 y289.length co39 : Value).ownBlock ∧ some k_ ≠ (.slice Ao50 y296.length co50 : Value).ownBlock ∧ some k_ ≠ (v300 : Value).ownBlock ∧ k_ ≠ gb282 ∧ k_ ≠ gb292)) (okp := (fun k_ => ((P0_ k_ ∨ P1_7_ k_) ∨ w.heap.size ≤ k_) ∧ some k_ ≠ (.slice Ao39 y289.length co39 : Value).ownBlock ∧ some k_ ≠ (.slice Ao50 y296.length co50 : Value).ownBlock ∧ some k_ ≠ (v300 : Value).ownBlock ∧ k_ ≠ gb282 ∧ k_ ≠ gb292)) ?hr ?hp (fun _ hk => hk) ((show ∀ k_, _ ≤ k_ → (fun k_ => ((P0_ k_ ∨ P1_7_ k_) ∨ w.heap.size ≤ k_) ∧ some k_ ≠ (.slice Ao39 y289.length co39 : Value).ownBlock ∧ some k_ ≠ (.slice Ao50 y296.length co50 : Value).ownBlock ∧ some k_ ≠ (v300 : Value).ownBlock ∧ k_ ≠ gb282 ∧ k_ ≠ gb292) k_ from fun k_ hk => ⟨(.inr (Nat.le_trans (below_size (bw_ HB.out)) hk)), Kd.fresh' (Kd.R_lt (kR_ HO291.out)) k_ hk, Kd.fresh' (Kd.N_lt (kN_ HO298.out)) k_ hk, Kd.fresh' (Kd.N_lt (kN_ HO301.out)) k_ hk, Kd.freshB (g := gb282) (o := .cells #[.string a1_0, .int .i64 a1_1, .int .i64 a1_2, .int .i64 a1_3, .int .i64 a1_4, .string a1_5, .bool a1_6, .slice A1_7 l1_7.length c1_7] 26 (0, 0)) (bl_ BK282.out) k_ hk, Kd.freshB (g := gb292) (o := .cells #[.string (⟨#[116]⟩ : ByteArray), .slice Ao39 y289.length co39] 33 (0, 0)) (bl_ BK292.out) k_ hk⟩) _ (Nat.le_refl _)) (Below.refl _ _) (Nat.le_refl _) (by simp) ?_; (case hd => rfl); (case hg => rfl); (case hr => first | (go_simp; done) | (go_simp; rfl)); (case hp => exact (Reps.c8 (show Kd.FK k26 _ _ (⟨a1_0, a1_1, a1_2, (⟨a1_3, a1_4, a1_5, a1_6⟩ : S24), l1_7⟩ : S26) [.string a1_0, .int .i64 a1_1, .int .i64 a1_2, .int .i64 a1_3, .int .i64 a1_4, .string a1_5, .bool a1_6, .slice A1_7 l1_7.length c1_7] from (k26_mkF _ _ (⟨a1_0, a1_1, a1_2, (⟨a1_3, a1_4, a1_5, a1_6⟩ : S24), l1_7⟩ : S26) (Kd.V_reads' (Kd.V_mono (ok' := (fun k_ => ((P0_ k_ ∨ P1_7_ k_) ∨ w.heap.size ≤ k_) ∧ some k_ ≠ (.slice Ao39 y289.length co39 : Value).ownBlock ∧ some k_ ≠ (.slice Ao50 y296.length co50 : Value).ownBlock ∧ some k_ ≠ (v300 : Value).ownBlock ∧ k_ ≠ gb282 ∧ k_ ≠ gb292)) (HO_283007.out) (fun k_ hk => ⟨hk.1.1, ⟨hk.1.2.1, ⟨hk.1.2.2.1, ⟨hk.2, ⟨hk.1.2.2.2.1, hk.1.2.2.2.2⟩⟩⟩⟩⟩))).2.1 (Kd.V_F (Kd.V_mono (ok' := (fun k_ => ((P0_ k_ ∨ P1_7_ k_) ∨ w.heap.size ≤ k_) ∧ some k_ ≠ (.slice Ao39 y289.length co39 : Value).ownBlock ∧ some k_ ≠ (.slice Ao50 y296.length co50 : Value).ownBlock ∧ some k_ ≠ (v300 : Value).ownBlock ∧ k_ ≠ gb282 ∧ k_ ≠ gb292)) (HO_283007.out) (fun k_ hk => ⟨hk.1.1, ⟨hk.1.2.1, ⟨hk.1.2.2.1, ⟨hk.2, ⟨hk.1.2.2.2.1, hk.1.2.2.2.2⟩⟩⟩⟩⟩))))) (Reps.none _ _))); intro v303 w52 ho53 hb hg_ hnew_; clear hg_ hnew_; (first | rw [← Ny302.out] at ho53 | (simp only [Int.reduceToNat] at ho53; rw [← Ny302.out] at ho53)); have n0_ := Aside0.mk (Kd.V_elder' (kV_ HO_0.out) (Kd.N_base ho53) hb); have n1_ := Aside0.mk (Kd.V_elder' (kV_ HO_283007.out) (Kd.N_base ho53) hb); have n2_ := Aside0.mk (Kd.R_below (kR_ HO291.out) hb); have n3_ := Aside0.mk (Kd.N_elder' (kN_ HO298.out) (Kd.N_base ho53) hb); have n4_ := Aside0.mk (Kd.N_elder' (kN_ HO301.out) (Kd.N_base ho53) hb); have n5_ := Aside0.mk (Kd.N_lower ho53 (below_size (bw_ HB.out))); have n6_ := Aside0.mk (blk_below (g := gb282) (o := .cells #[.string a1_0, .int .i64 a1_1, .int .i64 a1_2, .int .i64 a1_3, .int .i64 a1_4, .string a1_5, .bool a1_6, .slice A1_7 l1_7.length c1_7] 26 (0, 0)) (bl_ BK282.out) hb); have n7_ := Aside0.mk (blk_below (g := gb292) (o := .cells #[.string (⟨#[116]⟩ : ByteArray), .slice Ao39 y289.length co39] 33 (0, 0)) (bl_ BK292.out) hb); have n8_ := Aside0.mk (below_step (bw_ HB.out) hb); clear HO_0; clear HO_283007; clear HO291; clear HO298; clear HO301; clear BK282; clear BK292; clear HB; have HO_0 := n0_; have HO_283007 := n1_; have HO291 := n2_; have HO298 := n3_; have HO301 := n4_; have HO304 := n5_; have BK282 := n6_; have BK292 := n7_; have HB := n8_; clear n0_ n1_ n2_ n3_ n4_ n5_ n6_ n7_ n8_; clear hb ho53; obtain ⟨Ao55, co55, eo55⟩ := Kd.N_slice HO304.out; subst eo55) | ((with_reducible refine gate_builtin (b := .append) (xs := #[.tmp 35, .tmp 37]) rfl ?_); (try (refine gate_guard (by rfl) ?_; dsimp only)); at_builtin; refine Kd.N_append_rows k26 (w0 := w) w.heap.size rfl (.tmp 35) (.tmp 37) 22 26 (.agg #[(.string ⟨#[]⟩), (.int .i64 0), (.int .i64 0), (.int .i64 0), (.int .i64 0), (.string ⟨#[]⟩), (.bool false), (.slice none 0 0)]) 96 rfl Try.underlying22 info26 rfl (by decide) (by omega) (.slice none 0 0) ([] : List (S26)) y302 _ _ _ (fun k_ => ((P0_ k_ ∨ P1_7_ k_) ∨ w.heap.size ≤ k_) ∧ some k_ ≠ (.slice Ao39 y289.length co39 : Value).ownBlock ∧ some k_ ≠ (.slice Ao50 y296.length co50 : Value).ownBlock ∧ some k_ ≠ (v300 : Value).ownBlock ∧ k_ ≠ gb282 ∧ k_ ≠ gb292) (fun k_ => ((fun k_ => ((P0_ k_ ∨ P1_7_ k_) ∨ w.heap.size ≤ k_) ∧ some k_ ≠ (.slice Ao39 y289.length co39 : Value).ownBlock ∧ some k_ ≠ (.slice Ao50 y296.length co50 : Value).ownBlock ∧ some k_ ≠ (v300 : Value).ownBlock ∧ k_ ≠ gb282 ∧ k_ ≠ gb292)) k_ ∧ some k_ ≠ (.slice none 0 0 : Value).ownBlock) rfl rfl ?aO ?aR (fun _ hk => hk) ?aF ?aB ?aS ?aL ?_; (case aR => exact (by skip; exact Kd.N_F (Kd.N_mono (ok' := (fun k_ => ((fun k_ => ((P0_ k_ ∨ P1_7_ k_) ∨ w.heap.size ≤ k_) ∧ some k_ ≠ (.slice Ao39 y289.length co39 : Value).ownBlock ∧ some k_ ≠ (.slice Ao50 y296.length co50 : Value).ownBlock ∧ some k_ ≠ (v300 : Value).ownBlock ∧ k_ ≠ gb282 ∧ k_ ≠ gb292)) k_ ∧ some k_ ≠ (.slice none 0 0 : Value).ownBlock)) (HO304.out) (fun k_ hk => ⟨⟨hk.1, ⟨hk.2.1, ⟨hk.2.2.1, ⟨hk.2.2.2.1, ⟨hk.2.2.2.2.1, hk.2.2.2.2.2⟩⟩⟩⟩⟩, (by simp [Value.ownBlock])⟩)))); (case aB => exact (bw_ HB.out)); (case aF => exact (fun k_ hk => ⟨(.inr (Nat.le_trans (below_size (bw_ HB.out)) hk)), Kd.fresh' (Kd.R_lt (kR_ HO291.out)) k_ hk, Kd.fresh' (Kd.N_lt (kN_ HO298.out)) k_ hk, Kd.fresh' (Kd.N_lt (kN_ HO301.out)) k_ hk, Kd.freshB (g := gb282) (o := .cells #[.string a1_0, .int .i64 a1_1, .int .i64 a1_2, .int .i64 a1_3, .int .i64 a1_4, .string a1_5, .bool a1_6, .slice A1_7 l1_7.length c1_7] 26 (0, 0)) (bl_ BK282.out) k_ hk, Kd.freshB (g := gb292) (o := .cells #[.string (⟨#[116]⟩ : ByteArray), .slice Ao39 y289.length co39] 33 (0, 0)) (bl_ BK292.out) k_ hk⟩)); (case aO => exact ((Kd.N_nil _ _ _ _ (fun k_ => ((P0_ k_ ∨ P1_7_ k_) ∨ w.heap.size ≤ k_) ∧ some k_ ≠ (.slice Ao39 y289.length co39 : Value).ownBlock ∧ some k_ ≠ (.slice Ao50 y296.length co50 : Value).ownBlock ∧ some k_ ≠ (v300 : Value).ownBlock ∧ k_ ≠ gb282 ∧ k_ ≠ gb292)))); (case aS => exact (below_size (bw_ HB.out))); (case aL => have := LMc21.out; omega); intro v306 w54 ho hb hg hat; rw [← Ny305.out] at ho; have n0_ := Aside0.mk (Kd.V_afterv (Kd.V_apart_nil (kV_ HO_0.out)) hg hat); have n1_ := Aside0.mk (Kd.V_afterv (Kd.V_apart_nil (kV_ HO_283007.out)) hg hat); have n2_ := Aside0.mk (blk_grown (g := gb282) (o := .cells #[.string a1_0, .int .i64 a1_1, .int .i64 a1_2, .int .i64 a1_3, .int .i64 a1_4, .string a1_5, .bool a1_6, .slice A1_7 l1_7.length c1_7] 26 (0, 0)) (bl_ BK282.out) hg (by simp [Value.ownBlock])); have n3_ := Aside0.mk (Kd.R_grown (kR_ HO291.out) hg (fun _ _ => by simp [Value.ownBlock])); have n4_ := Aside0.mk (blk_grown (g := gb292) (o := .cells #[.string (⟨#[116]⟩ : ByteArray), .slice Ao39 y289.length co39] 33 (0, 0)) (bl_ BK292.out) hg (by simp [Value.ownBlock])); have n5_ := Aside0.mk (Kd.N_afterv (Kd.N_apart_nil (kN_ HO298.out)) hg hat); have n6_ := Aside0.mk (Kd.N_afterv (Kd.N_apart_nil (kN_ HO301.out)) hg hat); have n7_ := Aside0.mk (Kd.N_afterv (Kd.N_apart_nil (kN_ HO304.out)) hg hat); have n8_ := Aside0.mk (hb); have n9_ := Aside0.mk (ho); clear HO_0; clear HO_283007; clear BK282; clear HO291; clear BK292; clear HO298; clear HO301; clear HO304; clear HB; have HO_0 := n0_; have HO_283007 := n1_; have BK282 := n2_; have HO291 := n3_; have BK292 := n4_; have HO298 := n5_; have HO301 := n6_; have HO304 := n7_; have HB := n8_; have HO307 := n9_; clear n0_ n1_ n2_ n3_ n4_ n5_ n6_ n7_ n8_ n9_; clear ho hb hg hat) | ((with_reducible refine gate_builtin (b := .append) (xs := #[.tmp 38, .tmp 39]) rfl ?_); (try (refine gate_guard (by rfl) ?_; dsimp only)); at_builtin; refine Kd.N_append_rows k26 (w0 := w) w.heap.size rfl (.tmp 38) (.tmp 39) 22 26 (.agg #[(.string ⟨#[]⟩), (.int .i64 0), (.int .i64 0), (.int .i64 0), (.int .i64 0), (.string ⟨#[]⟩), (.bool false), (.slice none 0 0)]) 96 rfl Try.underlying22 info26 rfl (by decide) (by omega) v306 y305 l0 _ _ _ (fun k_ => ((P0_ k_ ∨ P1_7_ k_) ∨ w.heap.size ≤ k_) ∧ some k_ ≠ (.slice Ao39 y289.length co39 : Value).ownBlock ∧ some k_ ≠ (.slice Ao50 y296.length co50 : Value).ownBlock ∧ some k_ ≠ (v300 : Value).ownBlock ∧ k_ ≠ gb282 ∧ k_ ≠ gb292) (fun k_ => ((fun k_ => ((P0_ k_ ∨ P1_7_ k_) ∨ w.heap.size ≤ k_) ∧ some k_ ≠ (.slice Ao39 y289.length co39 : Value).ownBlock ∧ some k_ ≠ (.slice Ao50 y296.length co50 : Value).ownBlock ∧ some k_ ≠ (v300 : Value).ownBlock ∧ k_ ≠ gb282 ∧ k_ ≠ gb292)) k_ ∧ some k_ ≠ (v306 : Value).ownBlock) rfl rfl ?aO ?aR (fun _ hk => hk) ?aF ?aB ?aS ?aL ?_; (case aR => exact (by skip; exact Kd.V_F (Kd.V_mono (ok' := (fun k_ => ((fun k_ => ((P0_ k_ ∨ P1_7_ k_) ∨ w.heap.size ≤ k_) ∧ some k_ ≠ (.slice Ao39 y289.length co39 : Value).ownBlock ∧ some k_ ≠ (.slice Ao50 y296.length co50 : Value).ownBlock ∧ some k_ ≠ (v300 : Value).ownBlock ∧ k_ ≠ gb282 ∧ k_ ≠ gb292)) k_ ∧ some k_ ≠ (v306 : Value).ownBlock)) (HO_0.out) (fun k_ hk => ⟨⟨hk.1.1.1.1, ⟨hk.1.1.1.2.1, ⟨hk.1.1.1.2.2.1, ⟨hk.1.1.2, ⟨hk.1.1.1.2.2.2.1, hk.1.1.1.2.2.2.2⟩⟩⟩⟩⟩, hk.2⟩)))); (case aB => exact (bw_ HB.out)); (case aF => exact (fun k_ hk => ⟨(.inr (Nat.le_trans (below_size (bw_ HB.out)) hk)), Kd.fresh' (Kd.R_lt (kR_ HO291.out)) k_ hk, Kd.fresh' (Kd.N_lt (kN_ HO298.out)) k_ hk, Kd.fresh' (Kd.N_lt (kN_ HO301.out)) k_ hk, Kd.freshB (g := gb282) (o := .cells #[.string a1_0, .int .i64 a1_1, .int .i64 a1_2, .int .i64 a1_3, .int .i64 a1_4, .string a1_5, .bool a1_6, .slice A1_7 l1_7.length c1_7] 26 (0, 0)) (bl_ BK282.out) k_ hk, Kd.freshB (g := gb292) (o := .cells #[.string (⟨#[116]⟩ : ByteArray), .slice Ao39 y289.length co39] 33 (0, 0)) (bl_ BK292.out) k_ hk⟩)); (case aO => exact (kN_ HO307.out)); (case aS => exact (below_size (bw_ HB.out))); (case aL => have := LMc22.out; omega); intro v309 w56 ho hb hg hat; rw [← Ny308.out] at ho; have n0_ := Aside0.mk (Kd.V_afterv (ok := (fun k_ => ((P0_ k_ ∨ P1_7_ k_) ∨ w.heap.size ≤ k_) ∧ some k_ ≠ (.slice Ao39 y289.length co39 : Value).ownBlock ∧ some k_ ≠ (.slice Ao50 y296.length co50 : Value).ownBlock ∧ some k_ ≠ (v300 : Value).ownBlock ∧ some k_ ≠ (.slice Ao55 y302.length co55 : Value).ownBlock ∧ k_ ≠ gb282 ∧ k_ ≠ gb292)) (by (with_reducible repeat (first | apply Kd.V_alloc | apply Kd.V_drewN | apply Kd.V_drew)); exact Kd.V_mono HO_0.out (fun _ hk => ⟨⟨hk.1.1.1.1, ⟨hk.1.1.1.2.1, ⟨hk.1.1.1.2.2.1, ⟨hk.1.1.2, ⟨hk.1.2, ⟨hk.1.1.1.2.2.2.1, hk.1.1.1.2.2.2.2⟩⟩⟩⟩⟩⟩, hk.2⟩)) hg hat); have n1_ := Aside0.mk (Kd.V_afterv (ok := (fun k_ => ((P0_ k_ ∨ P1_7_ k_) ∨ w.heap.size ≤ k_) ∧ some k_ ≠ (.slice Ao39 y289.length co39 : Value).ownBlock ∧ some k_ ≠ (.slice Ao50 y296.length co50 : Value).ownBlock ∧ some k_ ≠ (v300 : Value).ownBlock ∧ some k_ ≠ (.slice Ao55 y302.length co55 : Value).ownBlock ∧ k_ ≠ gb282 ∧ k_ ≠ gb292)) (by (with_reducible repeat (first | apply Kd.V_alloc | apply Kd.V_drewN | apply Kd.V_drew)); exact Kd.V_mono HO_283007.out (fun _ hk => ⟨⟨hk.1.1.1.1, ⟨hk.1.1.1.2.1, ⟨hk.1.1.1.2.2.1, ⟨hk.1.1.2, ⟨hk.1.2, ⟨hk.1.1.1.2.2.2.1, hk.1.1.1.2.2.2.2⟩⟩⟩⟩⟩⟩, hk.2⟩)) hg hat); have n2_ := Aside0.mk (blk_grown (g := gb282) (o := .cells #[.string a1_0, .int .i64 a1_1, .int .i64 a1_2, .int .i64 a1_3, .int .i64 a1_4, .string a1_5, .bool a1_6, .slice A1_7 l1_7.length c1_7] 26 (0, 0)) (bl_ BK282.out) hg (Kd.N_away HO307.out (fun _ hk => hk.2.2.2.2.1))); have n3_ := Aside0.mk (Kd.R_over' (kR_ HO291.out) (Kd.N_typed (kN_ HO307.out)) (by decide) hg); have n4_ := Aside0.mk (blk_grown (g := gb292) (o := .cells #[.string (⟨#[116]⟩ : ByteArray), .slice Ao39 y289.length co39] 33 (0, 0)) (bl_ BK292.out) hg (Kd.N_ne HO307.out BK292.out (by decide))); have n5_ := Aside0.mk (Kd.N_afterv (ok := (fun k_ => ((P0_ k_ ∨ P1_7_ k_) ∨ w.heap.size ≤ k_) ∧ some k_ ≠ (.slice Ao39 y289.length co39 : Value).ownBlock ∧ some k_ ≠ (v300 : Value).ownBlock ∧ some k_ ≠ (.slice Ao55 y302.length co55 : Value).ownBlock ∧ k_ ≠ gb282 ∧ k_ ≠ gb292)) (by (with_reducible repeat (first | apply Kd.N_alloc | apply Kd.N_drewN | apply Kd.N_drew)); exact Kd.N_mono HO298.out (fun _ hk => ⟨⟨hk.1.1.1.1, ⟨hk.1.1.1.2.1, ⟨hk.1.1.2, ⟨hk.1.2, ⟨hk.1.1.1.2.2.1, hk.1.1.1.2.2.2⟩⟩⟩⟩⟩, hk.2⟩)) hg hat); have n6_ := Aside0.mk (Kd.N_afterv (ok := (fun k_ => ((P0_ k_ ∨ P1_7_ k_) ∨ w.heap.size ≤ k_) ∧ some k_ ≠ (.slice Ao39 y289.length co39 : Value).ownBlock ∧ some k_ ≠ (.slice Ao55 y302.length co55 : Value).ownBlock ∧ k_ ≠ gb282 ∧ k_ ≠ gb292)) (by (with_reducible repeat (first | apply Kd.N_alloc | apply Kd.N_drewN | apply Kd.N_drew)); exact Kd.N_mono HO301.out (fun _ hk => ⟨⟨hk.1.1.1, ⟨hk.1.1.2.1, ⟨hk.1.2, ⟨hk.1.1.2.2.1, hk.1.1.2.2.2⟩⟩⟩⟩, hk.2⟩)) hg hat); have n7_ := Aside0.mk (Kd.N_afterv (ok := (fun k_ => ((P0_ k_ ∨ P1_7_ k_) ∨ w.heap.size ≤ k_) ∧ some k_ ≠ (.slice Ao39 y289.length co39 : Value).ownBlock ∧ some k_ ≠ (.slice Ao50 y296.length co50 : Value).ownBlock ∧ some k_ ≠ (v300 : Value).ownBlock ∧ k_ ≠ gb282 ∧ k_ ≠ gb292)) (kN_ HO304.out) hg hat); have n8_ := Aside0.mk (hb); have n9_ := Aside0.mk (ho); clear HO_0; clear HO_283007; clear BK282; clear HO291; clear BK292; clear HO298; clear HO301; clear HO304; clear HB; clear HO307; have HO_0 := n0_; have HO_283007 := n1_; have BK282 := n2_; have HO291 := n3_; have BK292 := n4_; have HO298 := n5_; have HO301 := n6_; have HO304 := n7_; have HB := n8_; have HO310 := n9_; clear n0_ n1_ n2_ n3_ n4_ n5_ n6_ n7_ n8_ n9_; clear ho hb hg hat; obtain ⟨Ao57, co57, eo57⟩ := Kd.N_slice HO301.out; subst eo57; obtain ⟨Ao58, co58, eo58⟩ := Kd.N_slice HO310.out; subst eo58))
    (try clear HO298); (try clear HO304); (try clear HO_283007)
    have n0_ := Aside0.mk (Kd.V_drew HO_0.out)
    have n1_ := Aside0.mk (Kd.R_drew HO291.out)
    have n2_ := Aside0.mk (Kd.N_drew HO301.out)
    have n3_ := Aside0.mk (Kd.N_drew HO310.out)
    have n4_ := Aside0.mk (blk_drew BK282.out)
    have n5_ := Aside0.mk (blk_drew BK292.out)
    have n6_ := Aside0.mk (below_drew1 HB.out)
    clear HO_0
    clear HO291
    clear HO301
    clear HO310
    clear BK282
    clear BK292
    clear HB
    have HO_0 := n0_
    have HO291 := n1_
    have HO301 := n2_
    have HO310 := n3_
    have BK282 := n4_
    have BK292 := n5_
    have HB := n6_
    clear n0_ n1_ n2_ n3_ n4_ n5_ n6_
    have nK_ : Aside0 (Kd.N k26 26 w56.drew w.heap.size (fun k_ => ((P0_ k_ ∨ P1_7_ k_) ∨ w.heap.size ≤ k_) ∧ some k_ ≠ (.slice Ao39 y289.length co39 : Value).ownBlock ∧ some k_ ≠ (.slice Ao58 y308.length co58 : Value).ownBlock ∧ k_ ≠ gb282 ∧ k_ ≠ gb292) (.slice Ao57 y299.length co57) y299) := ⟨by (with_reducible repeat (first | apply Kd.N_alloc | apply Kd.N_drewN | apply Kd.N_drew)); exact Kd.N_mono HO301.out (fun _ hk => ⟨hk.1.1, ⟨hk.1.2.1, ⟨hk.2, ⟨hk.1.2.2.2.1, hk.1.2.2.2.2⟩⟩⟩⟩)⟩
    clear HO301
    have HO301 := nK_
    clear nK_
    have nK_ : Aside0 (Kd.N k26 26 w56.drew w.heap.size (fun k_ => ((P0_ k_ ∨ P1_7_ k_) ∨ w.heap.size ≤ k_) ∧ some k_ ≠ (.slice Ao39 y289.length co39 : Value).ownBlock ∧ some k_ ≠ (.slice Ao57 y299.length co57 : Value).ownBlock ∧ k_ ≠ gb282 ∧ k_ ≠ gb292) (.slice Ao58 y308.length co58) y308) := ⟨by (with_reducible repeat (first | apply Kd.N_alloc | apply Kd.N_drewN | apply Kd.N_drew)); exact Kd.N_mono HO310.out (fun _ hk => ⟨hk.1, ⟨hk.2.1, ⟨hk.2.2.2.1, ⟨hk.2.2.2.2.1, hk.2.2.2.2.2⟩⟩⟩⟩)⟩
    clear HO310
    have HO310 := nK_
    clear nK_
    have nK_ : Aside0 (Kd.V k26 26 w56.drew w.heap.size (fun k_ => ((P0_ k_ ∨ P1_7_ k_) ∨ w.heap.size ≤ k_) ∧ some k_ ≠ (.slice Ao39 y289.length co39 : Value).ownBlock ∧ some k_ ≠ (.slice Ao57 y299.length co57 : Value).ownBlock ∧ some k_ ≠ (.slice Ao58 y308.length co58 : Value).ownBlock ∧ k_ ≠ gb282 ∧ k_ ≠ gb292) (.slice A0 l0.length c0) l0) := ⟨by (with_reducible repeat (first | apply Kd.V_alloc | apply Kd.V_drewN | apply Kd.V_drew)); exact Kd.V_mono HO_0.out (fun _ hk => ⟨hk.1.1, ⟨hk.1.2.1, ⟨hk.1.2.2.2.1, ⟨hk.2, ⟨hk.1.2.2.2.2.2.1, hk.1.2.2.2.2.2.2⟩⟩⟩⟩⟩)⟩
    clear HO_0
    have HO_0 := nK_
    clear nK_
    refine start_ (n := 18) (S := fun w' => True) (ds := []) #[false, false, false, false, false, false, false, false, false, false, false, false, false, false, false, false, false, false] (by kernel_rfl) rfl rfl trivial (fun hHeld => ?_); refine with_tabW barbicanlaw22_PlanNarrows.tab7 barbicanlaw22_PlanNarrows.bits7 (fun HT_ HW_ => ?_)
    generalize w56.drew = w59 at HO_0 HO291 HO301 HO310 BK282 BK292 HB hHeld ⊢
    refine pure_ (i := 1) (N := some 42) (v := ?_) (a' := ?_) #[false, true, false, false, false, false, false, false, false, false, false, false, false, false, false, false, false, false] rfl rfl (any_of HT_.out (by kernel_rfl)) (fun _ _ _ h => h) (Or.inl ⟨by rfl, ?_⟩) ?_ ?_
    rotate_left
    · intro w'
      go_simp
      with_reducible rfl
    rotate_left
    · simp only [Act.put, List.setIfInBounds_toArray, List.set_cons_zero, List.set_cons_succ, i64_w, i32_w]
      rfl
    refine pure_ (i := 5) (N := some 46) (v := ?_) (a' := ?_) #[false, true, false, false, false, true, false, false, false, false, false, false, false, false, false, false, false, false] rfl rfl (any_of HT_.out (by kernel_rfl)) (fun _ _ _ h => h) (Or.inl ⟨by rfl, ?_⟩) ?_ ?_
    rotate_left
    · intro w'
      go_simp
      with_reducible rfl
    rotate_left
    · simp only [Act.put, List.setIfInBounds_toArray, List.set_cons_zero, List.set_cons_succ, i64_w, i32_w]
      rfl
    refine pure_ (i := 9) (N := some 50) (v := ?_) (a' := ?_) #[false, true, false, false, false, true, false, false, false, true, false, false, false, false, false, false, false, false] rfl rfl (any_of HT_.out (by kernel_rfl)) (fun _ _ _ h => h) (Or.inl ⟨by rfl, ?_⟩) ?_ ?_
    rotate_left
    · intro w'
      go_simp
      with_reducible rfl
    rotate_left
    · simp only [Act.put, List.setIfInBounds_toArray, List.set_cons_zero, List.set_cons_succ, i64_w, i32_w]
      rfl
    have hpos_ : 0 < w59.heap.size := Nat.lt_of_le_of_lt (Nat.zero_le _) (blk_lt BK282.out)
    refine inv_at [0, 2, 3, 4, 6, 7, 8, 10, 11, 12, 13, 14, 15, 16, 17] (fun a0_ b a w' => ∃ (v2 v6 v10 : Value) (g1 g2 g3 : Nat), a = putSel a0_ b [(0, 41, .agg #[.string (⟨#[116]⟩ : ByteArray), .slice Ao39 y289.length co39]), (2, 43, v2), (3, 44, .agg #[.string t314, .string t315, .bool t316, .bool t317, .bool t318, .bool t319]), (4, 45, .agg #[.string (⟨#[116]⟩ : ByteArray), .slice Ao39 y289.length co39]), (6, 47, v6), (7, 48, .agg #[.string t323, .string t324, .bool t325, .bool t326, .bool t327, .bool t328]), (8, 49, .agg #[.string (⟨#[116]⟩ : ByteArray), .slice Ao39 y289.length co39]), (10, 51, v10), (11, 52, .agg #[.string t332, .string t333, .bool t334, .bool t335, .bool t336, .bool t337]), (12, 10, .pointer (some ⟨g1, 0, none⟩)), (13, 11, .pointer (some ⟨g2, 0, none⟩)), (14, 12, .pointer (some ⟨g3, 0, none⟩))] ∧ Below w59.heap.size w59 w' ∧ Rw w59.heap.size w' (b 2) (b 3) g1 g2 g3 v2 t311 ∧ Rw w59.heap.size w' (b 6) (b 7) g1 g2 g3 v6 t320 ∧ Rw w59.heap.size w' (b 10) (b 11) g1 g2 g3 v10 t329 ∧ Bx w59.heap.size w' (b 12) (b 15) g1 #[.string (⟨#[]⟩ : ByteArray), .string (⟨#[]⟩ : ByteArray), .bool false, .bool false, .bool false, .bool false] #[.string t314, .string t315, .bool t316, .bool t317, .bool t318, .bool t319] 35 ∧ Bx w59.heap.size w' (b 13) (b 16) g2 #[.string (⟨#[]⟩ : ByteArray), .string (⟨#[]⟩ : ByteArray), .bool false, .bool false, .bool false, .bool false] #[.string t323, .string t324, .bool t325, .bool t326, .bool t327, .bool t328] 35 ∧ Bx w59.heap.size w' (b 14) (b 17) g3 #[.string (⟨#[]⟩ : ByteArray), .string (⟨#[]⟩ : ByteArray), .bool false, .bool false, .bool false, .bool false] #[.string t332, .string t333, .bool t334, .bool t335, .bool t336, .bool t337] 35 ∧ Ne3 (b 12) (b 13) (b 14) g1 g2 g3) HT_.out HW_.out (by kernel_rfl) (by kernel_rfl) ?_ ?_ ?_
    · exact ⟨.bool false, .bool false, .bool false, 0, 0, 0, by simp only [putSel, Bool.false_eq_true, if_false], Below.refl _ _, (fun h => by cases h), (fun h => by cases h), (fun h => by cases h), ⟨hpos_, (fun h => by cases h), (fun h => by cases h)⟩, ⟨hpos_, (fun h => by cases h), (fun h => by cases h)⟩, ⟨hpos_, (fun h => by cases h), (fun h => by cases h)⟩, ⟨(fun h => by cases h), (fun h => by cases h), (fun h => by cases h)⟩⟩
    · skip
      refine steps_cons ?_ ?_
      · rintro b a w' ⟨v2, v6, v10, g1, g2, g3, ha, H7, R2, R6, R10, B1, B2, B3, NE⟩ hb_ hon hoff
        refine ⟨_, rfl, fun K hK => ?_⟩
        have e_ : a.tmps[7]? = some (.pointer (some ⟨gb292, 0, none⟩)) := by rw [ha]; exact (putSel_off rfl).trans rfl
        replace ha := Aside0.mk ha
        have hc0_ : w'.cell? ⟨gb292, 0, none⟩ = some (.string (⟨#[116]⟩ : ByteArray)) := (blk_cell (blk_below BK292.out H7) 0).trans rfl
        have hc1_ : w'.cell? ⟨gb292, 1, none⟩ = some (.slice Ao39 y289.length co39) := (blk_cell (blk_below BK292.out H7) 1).trans rfl
        refine value_ (w1 := w') (v := .agg #[.string (⟨#[116]⟩ : ByteArray), .slice Ao39 y289.length co39]) (by rfl) rfl ?_ ?_
        · go_simp
          (try simp only [i64_w])
          try rfl
        exact hK.out _ _ ⟨v2, v6, v10, g1, g2, g3, (by rw [ha.out]; exact putSel_upk 0 hb_ rfl rfl rfl), H7, R2, R6, R10, B1, B2, B3, NE⟩
      refine steps_cons ?_ ?_
      · rintro b a w' ⟨v2, v6, v10, g1, g2, g3, ha, H7, R2, R6, R10, B1, B2, B3, NE⟩ hb_ hon hoff
        refine ⟨_, rfl, fun K hK => ?_⟩
        have e_ : a.tmps[42]? = some (.slice A0 l0.length c0) := by rw [ha]; exact (putSel_off rfl).trans rfl
        replace ha := Aside0.mk ha
        refine goes_ Try.func7 (by kernel_rfl) rfl #[.slice A0 l0.length c0] (by rfl) rfl rfl (by first | (simp only [List.map_toArray, List.map_cons, List.map_nil, Act.eval, Array.getD_eq_getD_getElem?, Option.getD_some, e_]; done) | (simp only [List.map_toArray, List.map_cons, List.map_nil, Act.eval, Array.getD_eq_getD_getElem?, Option.getD_some, e_]; rfl)) ?_
        with_reducible refine (barbicanlaw22_gives.calls kj3 _ _ l0 t311 _ ?side1 ?side2 A23.out).mono ?_
        (case side1 => exact Kd.C_below (Kd.V_reads' HO_0.out).2.2 H7)
        (case side2 => exact (Kd.V_reads' HO_0.out).2.1)
        rintro e w2 ⟨v, rfl, ho0, hb⟩
        refine ⟨_, rfl, ?_⟩
        exact hK.out _ _ ⟨v, v6, v10, g1, g2, g3, (by rw [ha.out]; exact putSel_upk 1 hb_ rfl rfl rfl), below_step H7 hb, Rw.born ho0 H7.size B1.1 B2.1 B3.1, R6.below hb, R10.below hb, B1.below hb, B2.below hb, B3.below hb, NE⟩
      refine steps_cons ?_ ?_
      · rintro b a w' ⟨v2, v6, v10, g1, g2, g3, ha, H7, R2, R6, R10, B1, B2, B3, NE⟩ hb_ hon hoff
        refine ⟨_, rfl, fun K hK => ?_⟩
        have e_ : a.tmps[41]? = some (.agg #[.string (⟨#[116]⟩ : ByteArray), .slice Ao39 y289.length co39]) := by rw [ha]; exact putSel_on (e := (0, 41, .agg #[.string (⟨#[116]⟩ : ByteArray), .slice Ao39 y289.length co39])) 0 rfl rfl (hon 0 (by kernel_rfl)) rfl
        have f_ : a.tmps[43]? = some v2 := by rw [ha]; exact putSel_on (e := (2, 43, v2)) 1 rfl rfl (hon 2 (by kernel_rfl)) rfl
        replace ha := Aside0.mk ha
        have r_ := R2 (hon 2 (by kernel_rfl)) hb_
        obtain ⟨Aq, cq, eq_⟩ := Kd.R_slice r_
        subst eq_
        refine goes_ Try.func6 (by kernel_rfl) rfl #[.agg #[.string (⟨#[116]⟩ : ByteArray), .slice Ao39 y289.length co39], .slice Aq t311.length cq] (by rfl) rfl rfl (by first | (simp only [List.map_toArray, List.map_cons, List.map_nil, Act.eval, Array.getD_eq_getD_getElem?, Option.getD_some, e_, f_]; done) | (simp only [List.map_toArray, List.map_cons, List.map_nil, Act.eval, Array.getD_eq_getD_getElem?, Option.getD_some, e_, f_]; rfl)) ?_
        with_reducible refine (plan_Range.calls kj3 (⟨#[116]⟩ : ByteArray) _ _ y289 _ _ t311 t314 t315 t316 t317 t318 t319 _ ?side1 ?side2 ?side3 ?side4 ?side5 A24.out).mono ?_
        (case side1 => exact Kd.C_below (Kd.R_reads' HO291.out).2.2 H7)
        (case side2 => exact (Kd.R_reads' HO291.out).2.1)
        (case side3 => exact (Kd.R_reads' r_).2.2)
        (case side4 => exact (Kd.R_reads' r_).2.1)
        (case side5 => exact GW_below HG.out (below_step HB.out H7))
        rintro e w2 ⟨rfl, hb⟩
        refine ⟨_, rfl, ?_⟩
        exact hK.out _ _ ⟨.slice Aq t311.length cq, v6, v10, g1, g2, g3, (by rw [ha.out]; exact putSel_upk 2 hb_ rfl rfl rfl), below_step H7 hb, Rw.gone rfl, R6.below hb, R10.below hb, B1.below hb, B2.below hb, B3.below hb, NE⟩
      refine steps_cons ?_ ?_
      · rintro b a w' ⟨v2, v6, v10, g1, g2, g3, ha, H7, R2, R6, R10, B1, B2, B3, NE⟩ hb_ hon hoff
        refine ⟨_, rfl, fun K hK => ?_⟩
        have e_ : a.tmps[7]? = some (.pointer (some ⟨gb292, 0, none⟩)) := by rw [ha]; exact (putSel_off rfl).trans rfl
        replace ha := Aside0.mk ha
        have hc0_ : w'.cell? ⟨gb292, 0, none⟩ = some (.string (⟨#[116]⟩ : ByteArray)) := (blk_cell (blk_below BK292.out H7) 0).trans rfl
        have hc1_ : w'.cell? ⟨gb292, 1, none⟩ = some (.slice Ao39 y289.length co39) := (blk_cell (blk_below BK292.out H7) 1).trans rfl
        refine value_ (w1 := w') (v := .agg #[.string (⟨#[116]⟩ : ByteArray), .slice Ao39 y289.length co39]) (by rfl) rfl ?_ ?_
        · go_simp
          (try simp only [i64_w])
          try rfl
        exact hK.out _ _ ⟨v2, v6, v10, g1, g2, g3, (by rw [ha.out]; exact putSel_upk 3 hb_ rfl rfl rfl), H7, R2, R6, R10, B1, B2, B3, NE⟩
      refine steps_cons ?_ ?_
      · rintro b a w' ⟨v2, v6, v10, g1, g2, g3, ha, H7, R2, R6, R10, B1, B2, B3, NE⟩ hb_ hon hoff
        refine ⟨_, rfl, fun K hK => ?_⟩
        have e_ : a.tmps[46]? = some (.slice Ao57 y299.length co57) := by rw [ha]; exact (putSel_off rfl).trans rfl
        replace ha := Aside0.mk ha
        refine goes_ Try.func7 (by kernel_rfl) rfl #[.slice Ao57 y299.length co57] (by rfl) rfl rfl (by first | (simp only [List.map_toArray, List.map_cons, List.map_nil, Act.eval, Array.getD_eq_getD_getElem?, Option.getD_some, e_]; done) | (simp only [List.map_toArray, List.map_cons, List.map_nil, Act.eval, Array.getD_eq_getD_getElem?, Option.getD_some, e_]; rfl)) ?_
        with_reducible refine (barbicanlaw22_gives.calls kj3 _ _ y299 t320 _ ?side1 ?side2 A25.out).mono ?_
        (case side1 => exact Kd.C_below (Kd.N_reads' HO301.out).2.2 H7)
        (case side2 => exact (Kd.N_reads' HO301.out).2.1)
        rintro e w2 ⟨v, rfl, ho0, hb⟩
        refine ⟨_, rfl, ?_⟩
        exact hK.out _ _ ⟨v2, v, v10, g1, g2, g3, (by rw [ha.out]; exact putSel_upk 4 hb_ rfl rfl rfl), below_step H7 hb, R2.below hb, Rw.born ho0 H7.size B1.1 B2.1 B3.1, R10.below hb, B1.below hb, B2.below hb, B3.below hb, NE⟩
      refine steps_cons ?_ ?_
      · rintro b a w' ⟨v2, v6, v10, g1, g2, g3, ha, H7, R2, R6, R10, B1, B2, B3, NE⟩ hb_ hon hoff
        refine ⟨_, rfl, fun K hK => ?_⟩
        have e_ : a.tmps[45]? = some (.agg #[.string (⟨#[116]⟩ : ByteArray), .slice Ao39 y289.length co39]) := by rw [ha]; exact putSel_on (e := (4, 45, .agg #[.string (⟨#[116]⟩ : ByteArray), .slice Ao39 y289.length co39])) 3 rfl rfl (hon 4 (by kernel_rfl)) rfl
        have f_ : a.tmps[47]? = some v6 := by rw [ha]; exact putSel_on (e := (6, 47, v6)) 4 rfl rfl (hon 6 (by kernel_rfl)) rfl
        replace ha := Aside0.mk ha
        have r_ := R6 (hon 6 (by kernel_rfl)) hb_
        obtain ⟨Aq, cq, eq_⟩ := Kd.R_slice r_
        subst eq_
        refine goes_ Try.func6 (by kernel_rfl) rfl #[.agg #[.string (⟨#[116]⟩ : ByteArray), .slice Ao39 y289.length co39], .slice Aq t320.length cq] (by rfl) rfl rfl (by first | (simp only [List.map_toArray, List.map_cons, List.map_nil, Act.eval, Array.getD_eq_getD_getElem?, Option.getD_some, e_, f_]; done) | (simp only [List.map_toArray, List.map_cons, List.map_nil, Act.eval, Array.getD_eq_getD_getElem?, Option.getD_some, e_, f_]; rfl)) ?_
        with_reducible refine (plan_Range.calls kj3 (⟨#[116]⟩ : ByteArray) _ _ y289 _ _ t320 t323 t324 t325 t326 t327 t328 _ ?side1 ?side2 ?side3 ?side4 ?side5 A26.out).mono ?_
        (case side1 => exact Kd.C_below (Kd.R_reads' HO291.out).2.2 H7)
        (case side2 => exact (Kd.R_reads' HO291.out).2.1)
        (case side3 => exact (Kd.R_reads' r_).2.2)
        (case side4 => exact (Kd.R_reads' r_).2.1)
        (case side5 => exact GW_below HG.out (below_step HB.out H7))
        rintro e w2 ⟨rfl, hb⟩
        refine ⟨_, rfl, ?_⟩
        exact hK.out _ _ ⟨v2, .slice Aq t320.length cq, v10, g1, g2, g3, (by rw [ha.out]; exact putSel_upk 5 hb_ rfl rfl rfl), below_step H7 hb, R2.below hb, Rw.gone rfl, R10.below hb, B1.below hb, B2.below hb, B3.below hb, NE⟩
      refine steps_cons ?_ ?_
      · rintro b a w' ⟨v2, v6, v10, g1, g2, g3, ha, H7, R2, R6, R10, B1, B2, B3, NE⟩ hb_ hon hoff
        refine ⟨_, rfl, fun K hK => ?_⟩
        have e_ : a.tmps[7]? = some (.pointer (some ⟨gb292, 0, none⟩)) := by rw [ha]; exact (putSel_off rfl).trans rfl
        replace ha := Aside0.mk ha
        have hc0_ : w'.cell? ⟨gb292, 0, none⟩ = some (.string (⟨#[116]⟩ : ByteArray)) := (blk_cell (blk_below BK292.out H7) 0).trans rfl
        have hc1_ : w'.cell? ⟨gb292, 1, none⟩ = some (.slice Ao39 y289.length co39) := (blk_cell (blk_below BK292.out H7) 1).trans rfl
        refine value_ (w1 := w') (v := .agg #[.string (⟨#[116]⟩ : ByteArray), .slice Ao39 y289.length co39]) (by rfl) rfl ?_ ?_
        · go_simp
          (try simp only [i64_w])
          try rfl
        exact hK.out _ _ ⟨v2, v6, v10, g1, g2, g3, (by rw [ha.out]; exact putSel_upk 6 hb_ rfl rfl rfl), H7, R2, R6, R10, B1, B2, B3, NE⟩
      refine steps_cons ?_ ?_
      · rintro b a w' ⟨v2, v6, v10, g1, g2, g3, ha, H7, R2, R6, R10, B1, B2, B3, NE⟩ hb_ hon hoff
        refine ⟨_, rfl, fun K hK => ?_⟩
        have e_ : a.tmps[50]? = some (.slice Ao58 y308.length co58) := by rw [ha]; exact (putSel_off rfl).trans rfl
        replace ha := Aside0.mk ha
        refine goes_ Try.func7 (by kernel_rfl) rfl #[.slice Ao58 y308.length co58] (by rfl) rfl rfl (by first | (simp only [List.map_toArray, List.map_cons, List.map_nil, Act.eval, Array.getD_eq_getD_getElem?, Option.getD_some, e_]; done) | (simp only [List.map_toArray, List.map_cons, List.map_nil, Act.eval, Array.getD_eq_getD_getElem?, Option.getD_some, e_]; rfl)) ?_
        with_reducible refine (barbicanlaw22_gives.calls kj3 _ _ y308 t329 _ ?side1 ?side2 A27.out).mono ?_
        (case side1 => exact Kd.C_below (Kd.N_reads' HO310.out).2.2 H7)
        (case side2 => exact (Kd.N_reads' HO310.out).2.1)
        rintro e w2 ⟨v, rfl, ho0, hb⟩
        refine ⟨_, rfl, ?_⟩
        exact hK.out _ _ ⟨v2, v6, v, g1, g2, g3, (by rw [ha.out]; exact putSel_upk 7 hb_ rfl rfl rfl), below_step H7 hb, R2.below hb, R6.below hb, Rw.born ho0 H7.size B1.1 B2.1 B3.1, B1.below hb, B2.below hb, B3.below hb, NE⟩
      refine steps_cons ?_ ?_
      · rintro b a w' ⟨v2, v6, v10, g1, g2, g3, ha, H7, R2, R6, R10, B1, B2, B3, NE⟩ hb_ hon hoff
        refine ⟨_, rfl, fun K hK => ?_⟩
        have e_ : a.tmps[49]? = some (.agg #[.string (⟨#[116]⟩ : ByteArray), .slice Ao39 y289.length co39]) := by rw [ha]; exact putSel_on (e := (8, 49, .agg #[.string (⟨#[116]⟩ : ByteArray), .slice Ao39 y289.length co39])) 6 rfl rfl (hon 8 (by kernel_rfl)) rfl
        have f_ : a.tmps[51]? = some v10 := by rw [ha]; exact putSel_on (e := (10, 51, v10)) 7 rfl rfl (hon 10 (by kernel_rfl)) rfl
        replace ha := Aside0.mk ha
        have r_ := R10 (hon 10 (by kernel_rfl)) hb_
        obtain ⟨Aq, cq, eq_⟩ := Kd.R_slice r_
        subst eq_
        refine goes_ Try.func6 (by kernel_rfl) rfl #[.agg #[.string (⟨#[116]⟩ : ByteArray), .slice Ao39 y289.length co39], .slice Aq t329.length cq] (by rfl) rfl rfl (by first | (simp only [List.map_toArray, List.map_cons, List.map_nil, Act.eval, Array.getD_eq_getD_getElem?, Option.getD_some, e_, f_]; done) | (simp only [List.map_toArray, List.map_cons, List.map_nil, Act.eval, Array.getD_eq_getD_getElem?, Option.getD_some, e_, f_]; rfl)) ?_
        with_reducible refine (plan_Range.calls kj3 (⟨#[116]⟩ : ByteArray) _ _ y289 _ _ t329 t332 t333 t334 t335 t336 t337 _ ?side1 ?side2 ?side3 ?side4 ?side5 A28.out).mono ?_
        (case side1 => exact Kd.C_below (Kd.R_reads' HO291.out).2.2 H7)
        (case side2 => exact (Kd.R_reads' HO291.out).2.1)
        (case side3 => exact (Kd.R_reads' r_).2.2)
        (case side4 => exact (Kd.R_reads' r_).2.1)
        (case side5 => exact GW_below HG.out (below_step HB.out H7))
        rintro e w2 ⟨rfl, hb⟩
        refine ⟨_, rfl, ?_⟩
        exact hK.out _ _ ⟨v2, v6, .slice Aq t329.length cq, g1, g2, g3, (by rw [ha.out]; exact putSel_upk 8 hb_ rfl rfl rfl), below_step H7 hb, R2.below hb, R6.below hb, Rw.gone rfl, B1.below hb, B2.below hb, B3.below hb, NE⟩
      refine steps_cons ?_ ?_
      · rintro b a w' ⟨v2, v6, v10, g1, g2, g3, ha, H7, R2, R6, R10, B1, B2, B3, NE⟩ hb_ hon hoff
        refine ⟨_, rfl, fun K hK => ?_⟩
        replace ha := Aside0.mk ha
        refine box_step ?hg (N := 10) ?hd (cs := #[.string (⟨#[]⟩ : ByteArray), .string (⟨#[]⟩ : ByteArray), .bool false, .bool false, .bool false, .bool false]) (t := 35) ?hr ?_; (case hd => rfl); (case hg => rfl); (case hr => first | (go_simp; done) | (go_simp; rfl))
        intro g hg w2 hbox hb
        subst hg
        exact hK.out _ _ ⟨v2, v6, v10, w'.heap.size, g2, g3, (by rw [ha.out]; exact putSel_upk 9 hb_ rfl rfl rfl), below_step H7 hb, R2.new1.below hb, R6.new1.below hb, R10.new1.below hb, Bx.born H7.size hbox (hoff 15 (by kernel_rfl)), B2.below hb, B3.below hb, NE.new1 B2.1 B3.1⟩
      refine steps_cons ?_ ?_
      · rintro b a w' ⟨v2, v6, v10, g1, g2, g3, ha, H7, R2, R6, R10, B1, B2, B3, NE⟩ hb_ hon hoff
        refine ⟨_, rfl, fun K hK => ?_⟩
        replace ha := Aside0.mk ha
        refine box_step ?hg (N := 11) ?hd (cs := #[.string (⟨#[]⟩ : ByteArray), .string (⟨#[]⟩ : ByteArray), .bool false, .bool false, .bool false, .bool false]) (t := 35) ?hr ?_; (case hd => rfl); (case hg => rfl); (case hr => first | (go_simp; done) | (go_simp; rfl))
        intro g hg w2 hbox hb
        subst hg
        exact hK.out _ _ ⟨v2, v6, v10, g1, w'.heap.size, g3, (by rw [ha.out]; exact putSel_upk 10 hb_ rfl rfl rfl), below_step H7 hb, R2.new2.below hb, R6.new2.below hb, R10.new2.below hb, B1.below hb, Bx.born H7.size hbox (hoff 16 (by kernel_rfl)), B3.below hb, NE.new2 B1.1 B3.1⟩
      refine steps_cons ?_ ?_
      · rintro b a w' ⟨v2, v6, v10, g1, g2, g3, ha, H7, R2, R6, R10, B1, B2, B3, NE⟩ hb_ hon hoff
        refine ⟨_, rfl, fun K hK => ?_⟩
        replace ha := Aside0.mk ha
        refine box_step ?hg (N := 12) ?hd (cs := #[.string (⟨#[]⟩ : ByteArray), .string (⟨#[]⟩ : ByteArray), .bool false, .bool false, .bool false, .bool false]) (t := 35) ?hr ?_; (case hd => rfl); (case hg => rfl); (case hr => first | (go_simp; done) | (go_simp; rfl))
        intro g hg w2 hbox hb
        subst hg
        exact hK.out _ _ ⟨v2, v6, v10, g1, g2, w'.heap.size, (by rw [ha.out]; exact putSel_upk 11 hb_ rfl rfl rfl), below_step H7 hb, R2.new3.below hb, R6.new3.below hb, R10.new3.below hb, B1.below hb, B2.below hb, Bx.born H7.size hbox (hoff 17 (by kernel_rfl)), NE.new3 B1.1 B2.1⟩
      refine steps_cons ?_ ?_
      · rintro b a w' ⟨v2, v6, v10, g1, g2, g3, ha, H7, R2, R6, R10, B1, B2, B3, NE⟩ hb_ hon hoff
        refine ⟨_, rfl, fun K hK => ?_⟩
        have e_ : a.tmps[10]? = some (.pointer (some ⟨g1, 0, none⟩)) := by rw [ha]; exact putSel_on (e := (12, 10, .pointer (some ⟨g1, 0, none⟩))) 9 rfl rfl (hon 12 (by kernel_rfl)) rfl
        have f_ : a.tmps[44]? = some (.agg #[.string t314, .string t315, .bool t316, .bool t317, .bool t318, .bool t319]) := by rw [ha]; exact putSel_on (e := (3, 44, .agg #[.string t314, .string t315, .bool t316, .bool t317, .bool t318, .bool t319])) 2 rfl rfl (hon 3 (by kernel_rfl)) rfl
        replace ha := Aside0.mk ha
        have q_ := Aside0.mk ((B1.2.1 (hon 12 (by kernel_rfl))).2 hb_)
        have hs0_ : w'.cell? ⟨g1, 0, none⟩ = some (.string (⟨#[]⟩ : ByteArray)) := (blk_cell q_.out 0).trans rfl
        have hf0_ := blk_frozen q_.out 0
        have hs1_ : w'.cell? ⟨g1, 1, none⟩ = some (.string (⟨#[]⟩ : ByteArray)) := (blk_cell q_.out 1).trans rfl
        have hf1_ := blk_frozen q_.out 1
        have hs2_ : w'.cell? ⟨g1, 2, none⟩ = some (.bool false) := (blk_cell q_.out 2).trans rfl
        have hf2_ := blk_frozen q_.out 2
        have hs3_ : w'.cell? ⟨g1, 3, none⟩ = some (.bool false) := (blk_cell q_.out 3).trans rfl
        have hf3_ := blk_frozen q_.out 3
        have hs4_ : w'.cell? ⟨g1, 4, none⟩ = some (.bool false) := (blk_cell q_.out 4).trans rfl
        have hf4_ := blk_frozen q_.out 4
        have hs5_ : w'.cell? ⟨g1, 5, none⟩ = some (.bool false) := (blk_cell q_.out 5).trans rfl
        have hf5_ := blk_frozen q_.out 5
        refine skip_ (w1 := ?_) ?sh1 ?sh2 ?_ ?_
        case sh1 => rfl
        case sh2 => rfl
        rotate_left
        · go_simp
          rfl
        exact hK.out _ _ ⟨v2, v6, v10, g1, g2, g3, (by rw [ha.out]; exact putSel_none (v := undef) rfl), fill_below g1 [.string t314, .string t315, .bool t316, .bool t317, .bool t318, .bool t319] w' 0 H7 (B1.2.1 (hon 12 (by kernel_rfl))).1, R2.fill1 (i := 0) (vs := [.string t314, .string t315, .bool t316, .bool t317, .bool t318, .bool t319]), R6.fill1 (i := 0) (vs := [.string t314, .string t315, .bool t316, .bool t317, .bool t318, .bool t319]), R10.fill1 (i := 0) (vs := [.string t314, .string t315, .bool t316, .bool t317, .bool t318, .bool t319]), B1.filled (i := 0) (vs := [.string t314, .string t315, .bool t316, .bool t317, .bool t318, .bool t319]) (hon 12 (by kernel_rfl)) hb_ rfl rfl, B2.fill (i := 0) (vs := [.string t314, .string t315, .bool t316, .bool t317, .bool t318, .bool t319]) (Ne.symm (NE.1 (hon 12 (by kernel_rfl)) (hon 13 (by kernel_rfl)))), B3.fill (i := 0) (vs := [.string t314, .string t315, .bool t316, .bool t317, .bool t318, .bool t319]) (Ne.symm (NE.2.1 (hon 12 (by kernel_rfl)) (hon 14 (by kernel_rfl)))), NE⟩
      refine steps_cons ?_ ?_
      · rintro b a w' ⟨v2, v6, v10, g1, g2, g3, ha, H7, R2, R6, R10, B1, B2, B3, NE⟩ hb_ hon hoff
        refine ⟨_, rfl, fun K hK => ?_⟩
        have e_ : a.tmps[11]? = some (.pointer (some ⟨g2, 0, none⟩)) := by rw [ha]; exact putSel_on (e := (13, 11, .pointer (some ⟨g2, 0, none⟩))) 10 rfl rfl (hon 13 (by kernel_rfl)) rfl
        have f_ : a.tmps[48]? = some (.agg #[.string t323, .string t324, .bool t325, .bool t326, .bool t327, .bool t328]) := by rw [ha]; exact putSel_on (e := (7, 48, .agg #[.string t323, .string t324, .bool t325, .bool t326, .bool t327, .bool t328])) 5 rfl rfl (hon 7 (by kernel_rfl)) rfl
        replace ha := Aside0.mk ha
        have q_ := Aside0.mk ((B2.2.1 (hon 13 (by kernel_rfl))).2 hb_)
        have hs0_ : w'.cell? ⟨g2, 0, none⟩ = some (.string (⟨#[]⟩ : ByteArray)) := (blk_cell q_.out 0).trans rfl
        have hf0_ := blk_frozen q_.out 0
        have hs1_ : w'.cell? ⟨g2, 1, none⟩ = some (.string (⟨#[]⟩ : ByteArray)) := (blk_cell q_.out 1).trans rfl
        have hf1_ := blk_frozen q_.out 1
        have hs2_ : w'.cell? ⟨g2, 2, none⟩ = some (.bool false) := (blk_cell q_.out 2).trans rfl
        have hf2_ := blk_frozen q_.out 2
        have hs3_ : w'.cell? ⟨g2, 3, none⟩ = some (.bool false) := (blk_cell q_.out 3).trans rfl
        have hf3_ := blk_frozen q_.out 3
        have hs4_ : w'.cell? ⟨g2, 4, none⟩ = some (.bool false) := (blk_cell q_.out 4).trans rfl
        have hf4_ := blk_frozen q_.out 4
        have hs5_ : w'.cell? ⟨g2, 5, none⟩ = some (.bool false) := (blk_cell q_.out 5).trans rfl
        have hf5_ := blk_frozen q_.out 5
        refine skip_ (w1 := ?_) ?sh1 ?sh2 ?_ ?_
        case sh1 => rfl
        case sh2 => rfl
        rotate_left
        · go_simp
          rfl
        exact hK.out _ _ ⟨v2, v6, v10, g1, g2, g3, (by rw [ha.out]; exact putSel_none (v := undef) rfl), fill_below g2 [.string t323, .string t324, .bool t325, .bool t326, .bool t327, .bool t328] w' 0 H7 (B2.2.1 (hon 13 (by kernel_rfl))).1, R2.fill2 (i := 0) (vs := [.string t323, .string t324, .bool t325, .bool t326, .bool t327, .bool t328]), R6.fill2 (i := 0) (vs := [.string t323, .string t324, .bool t325, .bool t326, .bool t327, .bool t328]), R10.fill2 (i := 0) (vs := [.string t323, .string t324, .bool t325, .bool t326, .bool t327, .bool t328]), B1.fill (i := 0) (vs := [.string t323, .string t324, .bool t325, .bool t326, .bool t327, .bool t328]) (NE.1 (hon 12 (by kernel_rfl)) (hon 13 (by kernel_rfl))), B2.filled (i := 0) (vs := [.string t323, .string t324, .bool t325, .bool t326, .bool t327, .bool t328]) (hon 13 (by kernel_rfl)) hb_ rfl rfl, B3.fill (i := 0) (vs := [.string t323, .string t324, .bool t325, .bool t326, .bool t327, .bool t328]) (Ne.symm (NE.2.2 (hon 13 (by kernel_rfl)) (hon 14 (by kernel_rfl)))), NE⟩
      refine steps_cons ?_ ?_
      · rintro b a w' ⟨v2, v6, v10, g1, g2, g3, ha, H7, R2, R6, R10, B1, B2, B3, NE⟩ hb_ hon hoff
        refine ⟨_, rfl, fun K hK => ?_⟩
        have e_ : a.tmps[12]? = some (.pointer (some ⟨g3, 0, none⟩)) := by rw [ha]; exact putSel_on (e := (14, 12, .pointer (some ⟨g3, 0, none⟩))) 11 rfl rfl (hon 14 (by kernel_rfl)) rfl
        have f_ : a.tmps[52]? = some (.agg #[.string t332, .string t333, .bool t334, .bool t335, .bool t336, .bool t337]) := by rw [ha]; exact putSel_on (e := (11, 52, .agg #[.string t332, .string t333, .bool t334, .bool t335, .bool t336, .bool t337])) 8 rfl rfl (hon 11 (by kernel_rfl)) rfl
        replace ha := Aside0.mk ha
        have q_ := Aside0.mk ((B3.2.1 (hon 14 (by kernel_rfl))).2 hb_)
        have hs0_ : w'.cell? ⟨g3, 0, none⟩ = some (.string (⟨#[]⟩ : ByteArray)) := (blk_cell q_.out 0).trans rfl
        have hf0_ := blk_frozen q_.out 0
        have hs1_ : w'.cell? ⟨g3, 1, none⟩ = some (.string (⟨#[]⟩ : ByteArray)) := (blk_cell q_.out 1).trans rfl
        have hf1_ := blk_frozen q_.out 1
        have hs2_ : w'.cell? ⟨g3, 2, none⟩ = some (.bool false) := (blk_cell q_.out 2).trans rfl
        have hf2_ := blk_frozen q_.out 2
        have hs3_ : w'.cell? ⟨g3, 3, none⟩ = some (.bool false) := (blk_cell q_.out 3).trans rfl
        have hf3_ := blk_frozen q_.out 3
        have hs4_ : w'.cell? ⟨g3, 4, none⟩ = some (.bool false) := (blk_cell q_.out 4).trans rfl
        have hf4_ := blk_frozen q_.out 4
        have hs5_ : w'.cell? ⟨g3, 5, none⟩ = some (.bool false) := (blk_cell q_.out 5).trans rfl
        have hf5_ := blk_frozen q_.out 5
        refine skip_ (w1 := ?_) ?sh1 ?sh2 ?_ ?_
        case sh1 => rfl
        case sh2 => rfl
        rotate_left
        · go_simp
          rfl
        exact hK.out _ _ ⟨v2, v6, v10, g1, g2, g3, (by rw [ha.out]; exact putSel_none (v := undef) rfl), fill_below g3 [.string t332, .string t333, .bool t334, .bool t335, .bool t336, .bool t337] w' 0 H7 (B3.2.1 (hon 14 (by kernel_rfl))).1, R2.fill3 (i := 0) (vs := [.string t332, .string t333, .bool t334, .bool t335, .bool t336, .bool t337]), R6.fill3 (i := 0) (vs := [.string t332, .string t333, .bool t334, .bool t335, .bool t336, .bool t337]), R10.fill3 (i := 0) (vs := [.string t332, .string t333, .bool t334, .bool t335, .bool t336, .bool t337]), B1.fill (i := 0) (vs := [.string t332, .string t333, .bool t334, .bool t335, .bool t336, .bool t337]) (NE.2.1 (hon 12 (by kernel_rfl)) (hon 14 (by kernel_rfl))), B2.fill (i := 0) (vs := [.string t332, .string t333, .bool t334, .bool t335, .bool t336, .bool t337]) (NE.2.2 (hon 13 (by kernel_rfl)) (hon 14 (by kernel_rfl))), B3.filled (i := 0) (vs := [.string t332, .string t333, .bool t334, .bool t335, .bool t336, .bool t337]) (hon 14 (by kernel_rfl)) hb_ rfl rfl, NE⟩
      exact steps_nil
    rintro b a w91 hall ⟨v2, v6, v10, gb338, gb339, gb340, ha, H7, R2, R6, R10, B1, B2, B3, NE⟩
    have hb0_ := hall 0 (by kernel_rfl)
    have hb2_ := hall 2 (by kernel_rfl)
    have hb3_ := hall 3 (by kernel_rfl)
    have hb4_ := hall 4 (by kernel_rfl)
    have hb6_ := hall 6 (by kernel_rfl)
    have hb7_ := hall 7 (by kernel_rfl)
    have hb8_ := hall 8 (by kernel_rfl)
    have hb10_ := hall 10 (by kernel_rfl)
    have hb11_ := hall 11 (by kernel_rfl)
    have hb12_ := hall 12 (by kernel_rfl)
    have hb13_ := hall 13 (by kernel_rfl)
    have hb14_ := hall 14 (by kernel_rfl)
    have hb15_ := hall 15 (by kernel_rfl)
    have hb16_ := hall 16 (by kernel_rfl)
    have hb17_ := hall 17 (by kernel_rfl)
    subst ha
    simp only [putSel, hb0_, hb2_, hb3_, hb4_, hb6_, hb7_, hb8_, hb10_, hb11_, hb12_, hb13_, hb14_, if_true, Act.put, List.setIfInBounds_toArray, List.set_cons_zero, List.set_cons_succ]
    have BK338 := Aside0.mk (B1.2.2 hb15_)
    have BK339 := Aside0.mk (B2.2.2 hb16_)
    have BK340 := Aside0.mk (B3.2.2 hb17_)
    have HB_ := Aside0.mk (below_step HB.out H7)
    clear HB
    have HB := HB_
    clear HB_ R2 R6 R10 B1 B2 B3 NE H7 hall hb0_ hb2_ hb3_ hb4_ hb6_ hb7_ hb8_ hb10_ hb11_ hb12_ hb13_ hb14_ hb15_ hb16_ hb17_ HO_0 HO291 HO301 HO310 BK282 BK292
    try go_wp2
    have H := H_.out
    clear H_
    replace H := Option.bind_eq_some_iff.mp H
    obtain ⟨t341, A290, H⟩ := H
    (try dsimp only at H)
    have A29 := Aside0.mk A290
    clear A290
    by_cases c30 : t341 = true
    · subst c30
      rw [if_pos rfl] at H
      replace H := Option.bind_eq_some_iff.mp H
      obtain ⟨t342, A310, H⟩ := H
      (try dsimp only at H)
      have A31 := Aside0.mk A310
      clear A310
      have c32 : t342 = true := Classical.byContradiction fun c32 => by
        replace c32 := Bool.eq_false_iff.mpr c32
        subst c32
        rw [if_neg (show ¬ (false = true) by decide)] at H
        exact absurd H (by simp)
      subst c32
      rw [if_pos rfl] at H
      replace H := Option.bind_eq_some_iff.mp H
      obtain ⟨t343, A330, H⟩ := H
      (try dsimp only at H)
      have A33 := Aside0.mk A330
      clear A330
      replace H := Option.bind_eq_some_iff.mp H
      obtain ⟨t344, A340, H⟩ := H
      (try dsimp only at H)
      have A34 := Aside0.mk A340
      clear A340
      have c35 : (t343 == t344) = true := Classical.byContradiction fun c35 => by rw [if_neg c35] at H; exact absurd H (by simp)
      rw [if_pos c35] at H
      have c35b0 : (t343 == t344) = true := c35
      (try (have c35b1 : decide (t343 = t344) = true := by simpa using c35))
      (try (have c35b2 : (t343 == t344) = true := by simpa using c35))
      (try (have c35b3 : (!(t343 == t344)) = false := by first | simpa using c35 | (have h_ := c35; revert h_; cases t343 <;> cases t344 <;> simp)))
      (try rw [c35b3])
      (try (have c35b4 : ((!t343) == t344) = false := by first | (have h_ := c35; revert h_; cases t343 <;> cases t344 <;> simp; done) | simpa using c35))
      clear c35
      replace H := Option.bind_eq_some_iff.mp H
      obtain ⟨t345, A360, H⟩ := H
      (try dsimp only at H)
      have A36 := Aside0.mk A360
      clear A360
      obtain rfl := Option.some.inj H
      have n2_ := Aside0.mk (blk_drew BK338.out)
      have n3_ := Aside0.mk (blk_drew BK339.out)
      have n4_ := Aside0.mk (blk_drew BK340.out)
      have n5_ := Aside0.mk (below_drew1 HB.out)
      clear BK338
      clear BK339
      clear BK340
      clear HB
      have BK338 := n2_
      have BK339 := n3_
      have BK340 := n4_
      have HB := n5_
      clear n2_ n3_ n4_ n5_
      refine start_ (n := 22) (S := fun w' => w'.cell? ⟨gb339, 0, none⟩ = some (.string t323) ∧ w'.cell? ⟨gb339, 1, none⟩ = some (.string t324) ∧ w'.cell? ⟨gb339, 2, none⟩ = some (.bool t325) ∧ w'.cell? ⟨gb339, 3, none⟩ = some (.bool t326) ∧ w'.cell? ⟨gb339, 4, none⟩ = some (.bool t327) ∧ w'.cell? ⟨gb339, 5, none⟩ = some (.bool t328) ∧ w'.cell? ⟨gb338, 0, none⟩ = some (.string t314) ∧ w'.cell? ⟨gb338, 1, none⟩ = some (.string t315) ∧ w'.cell? ⟨gb338, 2, none⟩ = some (.bool t316) ∧ w'.cell? ⟨gb338, 3, none⟩ = some (.bool t317) ∧ w'.cell? ⟨gb338, 4, none⟩ = some (.bool t318) ∧ w'.cell? ⟨gb338, 5, none⟩ = some (.bool t319) ∧ w'.cell? ⟨gb340, 0, none⟩ = some (.string t332) ∧ w'.cell? ⟨gb340, 1, none⟩ = some (.string t333) ∧ w'.cell? ⟨gb340, 2, none⟩ = some (.bool t334) ∧ w'.cell? ⟨gb340, 3, none⟩ = some (.bool t335) ∧ w'.cell? ⟨gb340, 4, none⟩ = some (.bool t336) ∧ w'.cell? ⟨gb340, 5, none⟩ = some (.bool t337)) (ds := []) #[false, false, false, false, false, false, false, false, false, false, false, false, false, false, false, false, false, false, false, false, false, false] (by kernel_rfl) rfl rfl ⟨(blk_cell BK339.out 0).trans rfl, (blk_cell BK339.out 1).trans rfl, (blk_cell BK339.out 2).trans rfl, (blk_cell BK339.out 3).trans rfl, (blk_cell BK339.out 4).trans rfl, (blk_cell BK339.out 5).trans rfl, (blk_cell BK338.out 0).trans rfl, (blk_cell BK338.out 1).trans rfl, (blk_cell BK338.out 2).trans rfl, (blk_cell BK338.out 3).trans rfl, (blk_cell BK338.out 4).trans rfl, (blk_cell BK338.out 5).trans rfl, (blk_cell BK340.out 0).trans rfl, (blk_cell BK340.out 1).trans rfl, (blk_cell BK340.out 2).trans rfl, (blk_cell BK340.out 3).trans rfl, (blk_cell BK340.out 4).trans rfl, (blk_cell BK340.out 5).trans rfl⟩ (fun hHeld => ?_); refine with_tabW barbicanlaw22_PlanNarrows.tab8 barbicanlaw22_PlanNarrows.bits8 (fun HT_ HW_ => ?_)
      generalize w91.drew = w92 at BK338 BK339 BK340 HB hHeld ⊢
      refine pure_ (i := 1) (N := some 54) (v := ?_) (a' := ?_) #[false, true, false, false, false, false, false, false, false, false, false, false, false, false, false, false, false, false, false, false, false, false] rfl rfl (any_of HT_.out (by kernel_rfl)) (fun _ _ _ h => h) (Or.inl ⟨by rfl, ?_⟩) ?_ ?_
      rotate_left
      · intro w'
        go_simp
        with_reducible rfl
      rotate_left
      · simp only [Act.put, List.setIfInBounds_toArray, List.set_cons_zero, List.set_cons_succ, i64_w, i32_w]
        rfl
      refine take_ (i := 0) (N := some 53) (v := ?_) (a' := ?_) #[true, true, false, false, false, false, false, false, false, false, false, false, false, false, false, false, false, false, false, false, false, false] rfl rfl (take_ofW HT_.out HW_.out (by kernel_rfl)) (fun _ _ _ h => h) (Or.inl ⟨by rfl, ?_⟩) hHeld ?_ ?_
      rotate_left
      · rintro w' ⟨s0, s1, s2, s3, s4, s5, s6, s7, s8, s9, s10, s11, s12, s13, s14, s15, s16, s17⟩
        go_simp
        with_reducible rfl
      rotate_left
      · simp only [Act.put, List.setIfInBounds_toArray, List.set_cons_zero, List.set_cons_succ, i64_w, i32_w]
        rfl
      refine one_ (i := 2) (N := some 55) #[true, true, true, false, false, false, false, false, false, false, false, false, false, false, false, false, false, false, false, false, false, false] rfl rfl (one_of HT_.out (by kernel_rfl)) (by decide) (fun K hK => ?_)
      refine goes_ Try.func8 (by kernel_rfl) rfl #[.agg #[.string t323, .string t324, .bool t325, .bool t326, .bool t327, .bool t328], .string a2] (by rfl) rfl rfl (by (try simp only [List.map_toArray, List.map_cons, List.map_nil]); first | done | rfl | (simp only [List.length_drop, List.length_take]; rfl)) ?_
      with_reducible refine (cursor_Has.calls t323 t324 t325 t326 t327 t328 a2 true _ A29.out).mono ?_
      rintro e w93 ⟨rfl, hb⟩
      refine ⟨_, rfl, ?_⟩
      have n2_ := Aside0.mk (blk_below (g := gb338) (o := .cells #[.string t314, .string t315, .bool t316, .bool t317, .bool t318, .bool t319] 35 (0, 0)) (bl_ BK338.out) hb)
      have n3_ := Aside0.mk (blk_below (g := gb339) (o := .cells #[.string t323, .string t324, .bool t325, .bool t326, .bool t327, .bool t328] 35 (0, 0)) (bl_ BK339.out) hb)
      have n4_ := Aside0.mk (blk_below (g := gb340) (o := .cells #[.string t332, .string t333, .bool t334, .bool t335, .bool t336, .bool t337] 35 (0, 0)) (bl_ BK340.out) hb)
      have n5_ := Aside0.mk (below_step (bw_ HB.out) hb)
      clear BK338
      clear BK339
      clear BK340
      clear HB
      have BK338 := n2_
      have BK339 := n3_
      have BK340 := n4_
      have HB := n5_
      clear n2_ n3_ n4_ n5_
      (try clear hb); (try clear hb2); (try clear hk); (try clear hi)
      refine hK.out _ _ ⟨(blk_cell BK339.out 0).trans rfl, (blk_cell BK339.out 1).trans rfl, (blk_cell BK339.out 2).trans rfl, (blk_cell BK339.out 3).trans rfl, (blk_cell BK339.out 4).trans rfl, (blk_cell BK339.out 5).trans rfl, (blk_cell BK338.out 0).trans rfl, (blk_cell BK338.out 1).trans rfl, (blk_cell BK338.out 2).trans rfl, (blk_cell BK338.out 3).trans rfl, (blk_cell BK338.out 4).trans rfl, (blk_cell BK338.out 5).trans rfl, (blk_cell BK340.out 0).trans rfl, (blk_cell BK340.out 1).trans rfl, (blk_cell BK340.out 2).trans rfl, (blk_cell BK340.out 3).trans rfl, (blk_cell BK340.out 4).trans rfl, (blk_cell BK340.out 5).trans rfl⟩ (fun hHeld => ?_)
      clear hK K
      refine norm_ (a' := ?_) ?_ ?_
      rotate_left
      · show Act.put _ (some 55) _ = _
        simp only [Act.put, List.setIfInBounds_toArray, List.set_cons_zero, List.set_cons_succ, i64_w, i32_w]
        rfl
      refine pure_ (i := 3) (N := some 56) (v := ?_) (a' := ?_) #[true, true, true, true, false, false, false, false, false, false, false, false, false, false, false, false, false, false, false, false, false, false] rfl rfl (any_of HT_.out (by kernel_rfl)) (fun _ _ _ h => h) (Or.inl ⟨by rfl, ?_⟩) ?_ ?_
      rotate_left
      · intro w'
        go_simp
        with_reducible rfl
      rotate_left
      · simp only [Act.put, List.setIfInBounds_toArray, List.set_cons_zero, List.set_cons_succ, i64_w, i32_w]
        rfl
      refine pure_ (i := 4) (N := some 57) (v := ?_) (a' := ?_) #[true, true, true, true, true, false, false, false, false, false, false, false, false, false, false, false, false, false, false, false, false, false] rfl rfl (any_of HT_.out (by kernel_rfl)) (fun _ _ _ h => h) (Or.inl ⟨by rfl, ?_⟩) ?_ ?_
      rotate_left
      · intro w'
        go_simp
        with_reducible rfl
      rotate_left
      · simp only [Act.put, List.setIfInBounds_toArray, List.set_cons_zero, List.set_cons_succ, i64_w, i32_w]
        rfl
      refine pure_ (i := 6) (N := some 59) (v := ?_) (a' := ?_) #[true, true, true, true, true, false, true, false, false, false, false, false, false, false, false, false, false, false, false, false, false, false] rfl rfl (any_of HT_.out (by kernel_rfl)) (fun _ _ _ h => h) (Or.inl ⟨by rfl, ?_⟩) ?_ ?_
      rotate_left
      · intro w'
        go_simp
        with_reducible rfl
      rotate_left
      · simp only [Act.put, List.setIfInBounds_toArray, List.set_cons_zero, List.set_cons_succ, i64_w, i32_w]
        rfl
      refine take_ (i := 5) (N := some 58) (v := ?_) (a' := ?_) #[true, true, true, true, true, true, true, false, false, false, false, false, false, false, false, false, false, false, false, false, false, false] rfl rfl (take_ofW HT_.out HW_.out (by kernel_rfl)) (fun _ _ _ h => h) (Or.inl ⟨by rfl, ?_⟩) hHeld ?_ ?_
      rotate_left
      · rintro w' ⟨s0, s1, s2, s3, s4, s5, s6, s7, s8, s9, s10, s11, s12, s13, s14, s15, s16, s17⟩
        go_simp
        with_reducible rfl
      rotate_left
      · simp only [Act.put, List.setIfInBounds_toArray, List.set_cons_zero, List.set_cons_succ, i64_w, i32_w]
        rfl
      refine one_ (i := 7) (N := some 60) #[true, true, true, true, true, true, true, true, false, false, false, false, false, false, false, false, false, false, false, false, false, false] rfl rfl (one_of HT_.out (by kernel_rfl)) (by decide) (fun K hK => ?_)
      refine goes_ Try.func8 (by kernel_rfl) rfl #[.agg #[.string t314, .string t315, .bool t316, .bool t317, .bool t318, .bool t319], .string a2] (by rfl) rfl rfl (by (try simp only [List.map_toArray, List.map_cons, List.map_nil]); first | done | rfl | (simp only [List.length_drop, List.length_take]; rfl)) ?_
      with_reducible refine (cursor_Has.calls t314 t315 t316 t317 t318 t319 a2 true _ A31.out).mono ?_
      rintro e w94 ⟨rfl, hb⟩
      refine ⟨_, rfl, ?_⟩
      have n2_ := Aside0.mk (blk_below (g := gb338) (o := .cells #[.string t314, .string t315, .bool t316, .bool t317, .bool t318, .bool t319] 35 (0, 0)) (bl_ BK338.out) hb)
      have n3_ := Aside0.mk (blk_below (g := gb339) (o := .cells #[.string t323, .string t324, .bool t325, .bool t326, .bool t327, .bool t328] 35 (0, 0)) (bl_ BK339.out) hb)
      have n4_ := Aside0.mk (blk_below (g := gb340) (o := .cells #[.string t332, .string t333, .bool t334, .bool t335, .bool t336, .bool t337] 35 (0, 0)) (bl_ BK340.out) hb)
      have n5_ := Aside0.mk (below_step (bw_ HB.out) hb)
      clear BK338
      clear BK339
      clear BK340
      clear HB
      have BK338 := n2_
      have BK339 := n3_
      have BK340 := n4_
      have HB := n5_
      clear n2_ n3_ n4_ n5_
      (try clear hb); (try clear hb2); (try clear hk); (try clear hi)
      refine hK.out _ _ ⟨(blk_cell BK339.out 0).trans rfl, (blk_cell BK339.out 1).trans rfl, (blk_cell BK339.out 2).trans rfl, (blk_cell BK339.out 3).trans rfl, (blk_cell BK339.out 4).trans rfl, (blk_cell BK339.out 5).trans rfl, (blk_cell BK338.out 0).trans rfl, (blk_cell BK338.out 1).trans rfl, (blk_cell BK338.out 2).trans rfl, (blk_cell BK338.out 3).trans rfl, (blk_cell BK338.out 4).trans rfl, (blk_cell BK338.out 5).trans rfl, (blk_cell BK340.out 0).trans rfl, (blk_cell BK340.out 1).trans rfl, (blk_cell BK340.out 2).trans rfl, (blk_cell BK340.out 3).trans rfl, (blk_cell BK340.out 4).trans rfl, (blk_cell BK340.out 5).trans rfl⟩ (fun hHeld => ?_)
      clear hK K
      refine norm_ (a' := ?_) ?_ ?_
      rotate_left
      · show Act.put _ (some 60) _ = _
        simp only [Act.put, List.setIfInBounds_toArray, List.set_cons_zero, List.set_cons_succ, i64_w, i32_w]
        rfl
      refine pure_ (i := 8) (N := some 61) (v := ?_) (a' := ?_) #[true, true, true, true, true, true, true, true, true, false, false, false, false, false, false, false, false, false, false, false, false, false] rfl rfl (any_of HT_.out (by kernel_rfl)) (fun _ _ _ h => h) (Or.inl ⟨by rfl, ?_⟩) ?_ ?_
      rotate_left
      · intro w'
        go_simp
        with_reducible rfl
      rotate_left
      · simp only [Act.put, List.setIfInBounds_toArray, List.set_cons_zero, List.set_cons_succ, i64_w, i32_w]
        rfl
      refine pure_ (i := 9) (N := some 62) (v := ?_) (a' := ?_) #[true, true, true, true, true, true, true, true, true, true, false, false, false, false, false, false, false, false, false, false, false, false] rfl rfl (any_of HT_.out (by kernel_rfl)) (fun _ _ _ h => h) (Or.inl ⟨by rfl, ?_⟩) ?_ ?_
      rotate_left
      · intro w'
        go_simp
        with_reducible rfl
      rotate_left
      · simp only [Act.put, List.setIfInBounds_toArray, List.set_cons_zero, List.set_cons_succ, i64_w, i32_w]
        rfl
      refine pure_ (i := 11) (N := some 64) (v := ?_) (a' := ?_) #[true, true, true, true, true, true, true, true, true, true, false, true, false, false, false, false, false, false, false, false, false, false] rfl rfl (any_of HT_.out (by kernel_rfl)) (fun _ _ _ h => h) (Or.inl ⟨by rfl, ?_⟩) ?_ ?_
      rotate_left
      · intro w'
        go_simp
        with_reducible rfl
      rotate_left
      · simp only [Act.put, List.setIfInBounds_toArray, List.set_cons_zero, List.set_cons_succ, i64_w, i32_w]
        rfl
      refine pure_ (i := 14) (N := some 67) (v := ?_) (a' := ?_) #[true, true, true, true, true, true, true, true, true, true, false, true, false, false, true, false, false, false, false, false, false, false] rfl rfl (any_of HT_.out (by kernel_rfl)) (fun _ _ _ h => h) (Or.inl ⟨by rfl, ?_⟩) ?_ ?_
      rotate_left
      · intro w'
        go_simp
        with_reducible rfl
      rotate_left
      · simp only [Act.put, List.setIfInBounds_toArray, List.set_cons_zero, List.set_cons_succ, i64_w, i32_w]
        rfl
      refine take_ (i := 10) (N := some 63) (v := ?_) (a' := ?_) #[true, true, true, true, true, true, true, true, true, true, true, true, false, false, true, false, false, false, false, false, false, false] rfl rfl (take_ofW HT_.out HW_.out (by kernel_rfl)) (fun _ _ _ h => h) (Or.inl ⟨by rfl, ?_⟩) hHeld ?_ ?_
      rotate_left
      · rintro w' ⟨s0, s1, s2, s3, s4, s5, s6, s7, s8, s9, s10, s11, s12, s13, s14, s15, s16, s17⟩
        go_simp
        with_reducible rfl
      rotate_left
      · simp only [Act.put, List.setIfInBounds_toArray, List.set_cons_zero, List.set_cons_succ, i64_w, i32_w]
        rfl
      refine take_ (i := 13) (N := some 66) (v := ?_) (a' := ?_) #[true, true, true, true, true, true, true, true, true, true, true, true, false, true, true, false, false, false, false, false, false, false] rfl rfl (take_ofW HT_.out HW_.out (by kernel_rfl)) (fun _ _ _ h => h) (Or.inl ⟨by rfl, ?_⟩) hHeld ?_ ?_
      rotate_left
      · rintro w' ⟨s0, s1, s2, s3, s4, s5, s6, s7, s8, s9, s10, s11, s12, s13, s14, s15, s16, s17⟩
        go_simp
        with_reducible rfl
      rotate_left
      · simp only [Act.put, List.setIfInBounds_toArray, List.set_cons_zero, List.set_cons_succ, i64_w, i32_w]
        rfl
      refine one_ (i := 12) (N := some 65) #[true, true, true, true, true, true, true, true, true, true, true, true, true, true, true, false, false, false, false, false, false, false] rfl rfl (one_of HT_.out (by kernel_rfl)) (by decide) (fun K hK => ?_)
      refine goes_ Try.func8 (by kernel_rfl) rfl #[.agg #[.string t323, .string t324, .bool t325, .bool t326, .bool t327, .bool t328], .string a2] (by rfl) rfl rfl (by (try simp only [List.map_toArray, List.map_cons, List.map_nil]); first | done | rfl | (simp only [List.length_drop, List.length_take]; rfl)) ?_
      with_reducible refine (cursor_Has.calls t323 t324 t325 t326 t327 t328 a2 t343 _ A33.out).mono ?_
      rintro e w95 ⟨rfl, hb⟩
      refine ⟨_, rfl, ?_⟩
      have n2_ := Aside0.mk (blk_below (g := gb338) (o := .cells #[.string t314, .string t315, .bool t316, .bool t317, .bool t318, .bool t319] 35 (0, 0)) (bl_ BK338.out) hb)
      have n3_ := Aside0.mk (blk_below (g := gb339) (o := .cells #[.string t323, .string t324, .bool t325, .bool t326, .bool t327, .bool t328] 35 (0, 0)) (bl_ BK339.out) hb)
      have n4_ := Aside0.mk (blk_below (g := gb340) (o := .cells #[.string t332, .string t333, .bool t334, .bool t335, .bool t336, .bool t337] 35 (0, 0)) (bl_ BK340.out) hb)
      have n5_ := Aside0.mk (below_step (bw_ HB.out) hb)
      clear BK338
      clear BK339
      clear BK340
      clear HB
      have BK338 := n2_
      have BK339 := n3_
      have BK340 := n4_
      have HB := n5_
      clear n2_ n3_ n4_ n5_
      (try clear hb); (try clear hb2); (try clear hk); (try clear hi)
      refine hK.out _ _ ⟨(blk_cell BK339.out 0).trans rfl, (blk_cell BK339.out 1).trans rfl, (blk_cell BK339.out 2).trans rfl, (blk_cell BK339.out 3).trans rfl, (blk_cell BK339.out 4).trans rfl, (blk_cell BK339.out 5).trans rfl, (blk_cell BK338.out 0).trans rfl, (blk_cell BK338.out 1).trans rfl, (blk_cell BK338.out 2).trans rfl, (blk_cell BK338.out 3).trans rfl, (blk_cell BK338.out 4).trans rfl, (blk_cell BK338.out 5).trans rfl, (blk_cell BK340.out 0).trans rfl, (blk_cell BK340.out 1).trans rfl, (blk_cell BK340.out 2).trans rfl, (blk_cell BK340.out 3).trans rfl, (blk_cell BK340.out 4).trans rfl, (blk_cell BK340.out 5).trans rfl⟩ (fun hHeld => ?_)
      clear hK K
      refine norm_ (a' := ?_) ?_ ?_
      rotate_left
      · show Act.put _ (some 65) _ = _
        simp only [Act.put, List.setIfInBounds_toArray, List.set_cons_zero, List.set_cons_succ, i64_w, i32_w]
        rfl
      refine one_ (i := 15) (N := some 68) #[true, true, true, true, true, true, true, true, true, true, true, true, true, true, true, true, false, false, false, false, false, false] rfl rfl (one_of HT_.out (by kernel_rfl)) (by decide) (fun K hK => ?_)
      refine goes_ Try.func8 (by kernel_rfl) rfl #[.agg #[.string t332, .string t333, .bool t334, .bool t335, .bool t336, .bool t337], .string a2] (by rfl) rfl rfl (by (try simp only [List.map_toArray, List.map_cons, List.map_nil]); first | done | rfl | (simp only [List.length_drop, List.length_take]; rfl)) ?_
      with_reducible refine (cursor_Has.calls t332 t333 t334 t335 t336 t337 a2 t344 _ A34.out).mono ?_
      rintro e w96 ⟨rfl, hb⟩
      refine ⟨_, rfl, ?_⟩
      have n2_ := Aside0.mk (blk_below (g := gb338) (o := .cells #[.string t314, .string t315, .bool t316, .bool t317, .bool t318, .bool t319] 35 (0, 0)) (bl_ BK338.out) hb)
      have n3_ := Aside0.mk (blk_below (g := gb339) (o := .cells #[.string t323, .string t324, .bool t325, .bool t326, .bool t327, .bool t328] 35 (0, 0)) (bl_ BK339.out) hb)
      have n4_ := Aside0.mk (blk_below (g := gb340) (o := .cells #[.string t332, .string t333, .bool t334, .bool t335, .bool t336, .bool t337] 35 (0, 0)) (bl_ BK340.out) hb)
      have n5_ := Aside0.mk (below_step (bw_ HB.out) hb)
      clear BK338
      clear BK339
      clear BK340
      clear HB
      have BK338 := n2_
      have BK339 := n3_
      have BK340 := n4_
      have HB := n5_
      clear n2_ n3_ n4_ n5_
      (try clear hb); (try clear hb2); (try clear hk); (try clear hi)
      refine hK.out _ _ ⟨(blk_cell BK339.out 0).trans rfl, (blk_cell BK339.out 1).trans rfl, (blk_cell BK339.out 2).trans rfl, (blk_cell BK339.out 3).trans rfl, (blk_cell BK339.out 4).trans rfl, (blk_cell BK339.out 5).trans rfl, (blk_cell BK338.out 0).trans rfl, (blk_cell BK338.out 1).trans rfl, (blk_cell BK338.out 2).trans rfl, (blk_cell BK338.out 3).trans rfl, (blk_cell BK338.out 4).trans rfl, (blk_cell BK338.out 5).trans rfl, (blk_cell BK340.out 0).trans rfl, (blk_cell BK340.out 1).trans rfl, (blk_cell BK340.out 2).trans rfl, (blk_cell BK340.out 3).trans rfl, (blk_cell BK340.out 4).trans rfl, (blk_cell BK340.out 5).trans rfl⟩ (fun hHeld => ?_)
      clear hK K
      refine norm_ (a' := ?_) ?_ ?_
      rotate_left
      · show Act.put _ (some 68) _ = _
        simp only [Act.put, List.setIfInBounds_toArray, List.set_cons_zero, List.set_cons_succ, i64_w, i32_w]
        rfl
      refine pure_ (i := 16) (N := some 69) (v := ?_) (a' := ?_) #[true, true, true, true, true, true, true, true, true, true, true, true, true, true, true, true, true, false, false, false, false, false] rfl rfl (any_of HT_.out (by kernel_rfl)) (fun _ _ _ h => h) (Or.inl ⟨by rfl, ?_⟩) ?_ ?_
      rotate_left
      · intro w'
        go_simp
        with_reducible rfl
      rotate_left
      · simp only [Act.put, List.setIfInBounds_toArray, List.set_cons_zero, List.set_cons_succ, i64_w, i32_w]
        rfl
      refine pure_ (i := 17) (N := some 70) (v := ?_) (a' := ?_) #[true, true, true, true, true, true, true, true, true, true, true, true, true, true, true, true, true, true, false, false, false, false] rfl rfl (any_of HT_.out (by kernel_rfl)) (fun _ _ _ h => h) (Or.inl ⟨by rfl, ?_⟩) ?_ ?_
      rotate_left
      · intro w'
        go_simp
        with_reducible rfl
      rotate_left
      · simp only [Act.put, List.setIfInBounds_toArray, List.set_cons_zero, List.set_cons_succ, i64_w, i32_w]
        rfl
      refine pure_ (i := 18) (N := some 71) (v := ?_) (a' := ?_) #[true, true, true, true, true, true, true, true, true, true, true, true, true, true, true, true, true, true, true, false, false, false] rfl rfl (any_of HT_.out (by kernel_rfl)) (fun _ _ _ h => h) (Or.inl ⟨by rfl, ?_⟩) ?_ ?_
      rotate_left
      · intro w'
        go_simp
        with_reducible rfl
      rotate_left
      · simp only [Act.put, List.setIfInBounds_toArray, List.set_cons_zero, List.set_cons_succ, i64_w, i32_w]
        rfl
      refine one_ (i := 19) (N := some 72) #[true, true, true, true, true, true, true, true, true, true, true, true, true, true, true, true, true, true, true, true, false, false] rfl rfl (one_of HT_.out (by kernel_rfl)) (by decide) (fun K hK => ?_)
      refine goes_ Try.func5 (by kernel_rfl) rfl #[] (by rfl) rfl rfl (by (try simp only [List.map_toArray, List.map_cons, List.map_nil]); first | done | rfl | (simp only [List.length_drop, List.length_take]; rfl)) ?_
      with_reducible refine (barbicanlaw22_sure.calls kj3  t345 _ ?side1 A36.out).mono ?_
      (case side1 => exact GW_below HG.out (bw_ HB.out))
      rintro e w97 ⟨rfl, hb⟩
      refine ⟨_, rfl, ?_⟩
      have n2_ := Aside0.mk (blk_below (g := gb338) (o := .cells #[.string t314, .string t315, .bool t316, .bool t317, .bool t318, .bool t319] 35 (0, 0)) (bl_ BK338.out) hb)
      have n3_ := Aside0.mk (blk_below (g := gb339) (o := .cells #[.string t323, .string t324, .bool t325, .bool t326, .bool t327, .bool t328] 35 (0, 0)) (bl_ BK339.out) hb)
      have n4_ := Aside0.mk (blk_below (g := gb340) (o := .cells #[.string t332, .string t333, .bool t334, .bool t335, .bool t336, .bool t337] 35 (0, 0)) (bl_ BK340.out) hb)
      have n5_ := Aside0.mk (below_step (bw_ HB.out) hb)
      clear BK338
      clear BK339
      clear BK340
      clear HB
      have BK338 := n2_
      have BK339 := n3_
      have BK340 := n4_
      have HB := n5_
      clear n2_ n3_ n4_ n5_
      (try clear hb); (try clear hb2); (try clear hk); (try clear hi)
      refine hK.out _ _ ⟨(blk_cell BK339.out 0).trans rfl, (blk_cell BK339.out 1).trans rfl, (blk_cell BK339.out 2).trans rfl, (blk_cell BK339.out 3).trans rfl, (blk_cell BK339.out 4).trans rfl, (blk_cell BK339.out 5).trans rfl, (blk_cell BK338.out 0).trans rfl, (blk_cell BK338.out 1).trans rfl, (blk_cell BK338.out 2).trans rfl, (blk_cell BK338.out 3).trans rfl, (blk_cell BK338.out 4).trans rfl, (blk_cell BK338.out 5).trans rfl, (blk_cell BK340.out 0).trans rfl, (blk_cell BK340.out 1).trans rfl, (blk_cell BK340.out 2).trans rfl, (blk_cell BK340.out 3).trans rfl, (blk_cell BK340.out 4).trans rfl, (blk_cell BK340.out 5).trans rfl⟩ (fun hHeld => ?_)
      clear hK K
      refine norm_ (a' := ?_) ?_ ?_
      rotate_left
      · show Act.put _ (some 72) _ = _
        simp only [Act.put, List.setIfInBounds_toArray, List.set_cons_zero, List.set_cons_succ, i64_w, i32_w]
        rfl
      refine pure_ (i := 20) (N := some 73) (v := ?_) (a' := ?_) #[true, true, true, true, true, true, true, true, true, true, true, true, true, true, true, true, true, true, true, true, true, false] rfl rfl (any_of HT_.out (by kernel_rfl)) (fun _ _ _ h => h) (Or.inl ⟨by rfl, ?_⟩) ?_ ?_
      rotate_left
      · intro w'
        go_simp
        with_reducible rfl
      rotate_left
      · simp only [Act.put, List.setIfInBounds_toArray, List.set_cons_zero, List.set_cons_succ, i64_w, i32_w]
        rfl
      refine pure_ (i := 21) (N := some 6) (v := ?_) (a' := ?_) #[true, true, true, true, true, true, true, true, true, true, true, true, true, true, true, true, true, true, true, true, true, true] rfl rfl (any_of HT_.out (by kernel_rfl)) (fun _ _ _ h => h) (Or.inl ⟨by rfl, ?_⟩) ?_ ?_
      rotate_left
      · intro w'
        go_simp
        with_reducible rfl
      rotate_left
      · simp only [Act.put, List.setIfInBounds_toArray, List.set_cons_zero, List.set_cons_succ, i64_w, i32_w]
        rfl
      refine done_ (done_of HT_.out (by kernel_rfl)) ?_
      try go_wp2
      go_ret
      exact ⟨by first | rfl | (simp [errW_none, errW_some] <;> rfl) | (simp [*, errW_none, errW_some] <;> rfl), bw_ HB.out⟩
    replace c30 := Bool.eq_false_iff.mpr c30
    subst c30
    rw [if_neg (show ¬ (false = true) by decide)] at H
    replace H := Option.bind_eq_some_iff.mp H
    obtain ⟨t346, A980, H⟩ := H
    (try dsimp only at H)
    have A98 := Aside0.mk A980
    clear A980
    replace H := Option.bind_eq_some_iff.mp H
    obtain ⟨t347, A990, H⟩ := H
    (try dsimp only at H)
    have A99 := Aside0.mk A990
    clear A990
    have c100 : (t346 == t347) = true := Classical.byContradiction fun c100 => by rw [if_neg c100] at H; exact absurd H (by simp)
    rw [if_pos c100] at H
    have c100b0 : (t346 == t347) = true := c100
    (try (have c100b1 : decide (t346 = t347) = true := by simpa using c100))
    (try (have c100b2 : (t346 == t347) = true := by simpa using c100))
    (try (have c100b3 : (!(t346 == t347)) = false := by first | simpa using c100 | (have h_ := c100; revert h_; cases t346 <;> cases t347 <;> simp)))
    (try rw [c100b3])
    (try (have c100b4 : ((!t346) == t347) = false := by first | (have h_ := c100; revert h_; cases t346 <;> cases t347 <;> simp; done) | simpa using c100))
    clear c100
    replace H := Option.bind_eq_some_iff.mp H
    obtain ⟨t348, A1010, H⟩ := H
    (try dsimp only at H)
    have A101 := Aside0.mk A1010
    clear A1010
    obtain rfl := Option.some.inj H
    have n2_ := Aside0.mk (blk_drew BK338.out)
    have n3_ := Aside0.mk (blk_drew BK339.out)
    have n4_ := Aside0.mk (blk_drew BK340.out)
    have n5_ := Aside0.mk (below_drew1 HB.out)
    clear BK338
    clear BK339
    clear BK340
    clear HB
    have BK338 := n2_
    have BK339 := n3_
    have BK340 := n4_
    have HB := n5_
    clear n2_ n3_ n4_ n5_
    refine start_ (n := 22) (S := fun w' => w'.cell? ⟨gb339, 0, none⟩ = some (.string t323) ∧ w'.cell? ⟨gb339, 1, none⟩ = some (.string t324) ∧ w'.cell? ⟨gb339, 2, none⟩ = some (.bool t325) ∧ w'.cell? ⟨gb339, 3, none⟩ = some (.bool t326) ∧ w'.cell? ⟨gb339, 4, none⟩ = some (.bool t327) ∧ w'.cell? ⟨gb339, 5, none⟩ = some (.bool t328) ∧ w'.cell? ⟨gb340, 0, none⟩ = some (.string t332) ∧ w'.cell? ⟨gb340, 1, none⟩ = some (.string t333) ∧ w'.cell? ⟨gb340, 2, none⟩ = some (.bool t334) ∧ w'.cell? ⟨gb340, 3, none⟩ = some (.bool t335) ∧ w'.cell? ⟨gb340, 4, none⟩ = some (.bool t336) ∧ w'.cell? ⟨gb340, 5, none⟩ = some (.bool t337)) (ds := []) #[false, false, false, false, false, false, false, false, false, false, false, false, false, false, false, false, false, false, false, false, false, false] (by kernel_rfl) rfl rfl ⟨(blk_cell BK339.out 0).trans rfl, (blk_cell BK339.out 1).trans rfl, (blk_cell BK339.out 2).trans rfl, (blk_cell BK339.out 3).trans rfl, (blk_cell BK339.out 4).trans rfl, (blk_cell BK339.out 5).trans rfl, (blk_cell BK340.out 0).trans rfl, (blk_cell BK340.out 1).trans rfl, (blk_cell BK340.out 2).trans rfl, (blk_cell BK340.out 3).trans rfl, (blk_cell BK340.out 4).trans rfl, (blk_cell BK340.out 5).trans rfl⟩ (fun hHeld => ?_); refine with_tabW barbicanlaw22_PlanNarrows.tab8 barbicanlaw22_PlanNarrows.bits8 (fun HT_ HW_ => ?_)
    generalize w91.drew = w157 at BK338 BK339 BK340 HB hHeld ⊢
    refine pure_ (i := 1) (N := some 54) (v := ?_) (a' := ?_) #[false, true, false, false, false, false, false, false, false, false, false, false, false, false, false, false, false, false, false, false, false, false] rfl rfl (any_of HT_.out (by kernel_rfl)) (fun _ _ _ h => h) (Or.inl ⟨by rfl, ?_⟩) ?_ ?_
    rotate_left
    · intro w'
      go_simp
      with_reducible rfl
    rotate_left
    · simp only [Act.put, List.setIfInBounds_toArray, List.set_cons_zero, List.set_cons_succ, i64_w, i32_w]
      rfl
    refine take_ (i := 0) (N := some 53) (v := ?_) (a' := ?_) #[true, true, false, false, false, false, false, false, false, false, false, false, false, false, false, false, false, false, false, false, false, false] rfl rfl (take_ofW HT_.out HW_.out (by kernel_rfl)) (fun _ _ _ h => h) (Or.inl ⟨by rfl, ?_⟩) hHeld ?_ ?_
    rotate_left
    · rintro w' ⟨s0, s1, s2, s3, s4, s5, s6, s7, s8, s9, s10, s11⟩
      go_simp
      with_reducible rfl
    rotate_left
    · simp only [Act.put, List.setIfInBounds_toArray, List.set_cons_zero, List.set_cons_succ, i64_w, i32_w]
      rfl
    refine one_ (i := 2) (N := some 55) #[true, true, true, false, false, false, false, false, false, false, false, false, false, false, false, false, false, false, false, false, false, false] rfl rfl (one_of HT_.out (by kernel_rfl)) (by decide) (fun K hK => ?_)
    refine goes_ Try.func8 (by kernel_rfl) rfl #[.agg #[.string t323, .string t324, .bool t325, .bool t326, .bool t327, .bool t328], .string a2] (by rfl) rfl rfl (by (try simp only [List.map_toArray, List.map_cons, List.map_nil]); first | done | rfl | (simp only [List.length_drop, List.length_take]; rfl)) ?_
    with_reducible refine (cursor_Has.calls t323 t324 t325 t326 t327 t328 a2 false _ A29.out).mono ?_
    rintro e w158 ⟨rfl, hb⟩
    refine ⟨_, rfl, ?_⟩
    have n2_ := Aside0.mk (blk_below (g := gb338) (o := .cells #[.string t314, .string t315, .bool t316, .bool t317, .bool t318, .bool t319] 35 (0, 0)) (bl_ BK338.out) hb)
    have n3_ := Aside0.mk (blk_below (g := gb339) (o := .cells #[.string t323, .string t324, .bool t325, .bool t326, .bool t327, .bool t328] 35 (0, 0)) (bl_ BK339.out) hb)
    have n4_ := Aside0.mk (blk_below (g := gb340) (o := .cells #[.string t332, .string t333, .bool t334, .bool t335, .bool t336, .bool t337] 35 (0, 0)) (bl_ BK340.out) hb)
    have n5_ := Aside0.mk (below_step (bw_ HB.out) hb)
    clear BK338
    clear BK339
    clear BK340
    clear HB
    have BK338 := n2_
    have BK339 := n3_
    have BK340 := n4_
    have HB := n5_
    clear n2_ n3_ n4_ n5_
    (try clear hb); (try clear hb2); (try clear hk); (try clear hi)
    refine hK.out _ _ ⟨(blk_cell BK339.out 0).trans rfl, (blk_cell BK339.out 1).trans rfl, (blk_cell BK339.out 2).trans rfl, (blk_cell BK339.out 3).trans rfl, (blk_cell BK339.out 4).trans rfl, (blk_cell BK339.out 5).trans rfl, (blk_cell BK340.out 0).trans rfl, (blk_cell BK340.out 1).trans rfl, (blk_cell BK340.out 2).trans rfl, (blk_cell BK340.out 3).trans rfl, (blk_cell BK340.out 4).trans rfl, (blk_cell BK340.out 5).trans rfl⟩ (fun hHeld => ?_)
    clear hK K
    refine norm_ (a' := ?_) ?_ ?_
    rotate_left
    · show Act.put _ (some 55) _ = _
      simp only [Act.put, List.setIfInBounds_toArray, List.set_cons_zero, List.set_cons_succ, i64_w, i32_w]
      rfl
    refine pure_ (i := 3) (N := some 56) (v := ?_) (a' := ?_) #[true, true, true, true, false, false, false, false, false, false, false, false, false, false, false, false, false, false, false, false, false, false] rfl rfl (any_of HT_.out (by kernel_rfl)) (fun _ _ _ h => h) (Or.inl ⟨by rfl, ?_⟩) ?_ ?_
    rotate_left
    · intro w'
      go_simp
      with_reducible rfl
    rotate_left
    · simp only [Act.put, List.setIfInBounds_toArray, List.set_cons_zero, List.set_cons_succ, i64_w, i32_w]
      rfl
    refine pure_ (i := 4) (N := some 57) (v := ?_) (a' := ?_) #[true, true, true, true, true, false, false, false, false, false, false, false, false, false, false, false, false, false, false, false, false, false] rfl rfl (any_of HT_.out (by kernel_rfl)) (fun _ _ _ h => h) (Or.inl ⟨by rfl, ?_⟩) ?_ ?_
    rotate_left
    · intro w'
      go_simp
      with_reducible rfl
    rotate_left
    · simp only [Act.put, List.setIfInBounds_toArray, List.set_cons_zero, List.set_cons_succ, i64_w, i32_w]
      rfl
    refine pure_ (i := 5) (N := some 58) (v := undef) (a' := ?_) #[true, true, true, true, true, true, false, false, false, false, false, false, false, false, false, false, false, false, false, false, false, false] rfl rfl (any_of HT_.out (by kernel_rfl)) (fun _ _ _ h => h) (Or.inr ⟨by rfl, rfl⟩) ?_ ?_
    rotate_left
    · simp only [Act.put, List.setIfInBounds_toArray, List.set_cons_zero, List.set_cons_succ, i64_w, i32_w]
      rfl
    refine pure_ (i := 6) (N := some 59) (v := undef) (a' := ?_) #[true, true, true, true, true, true, true, false, false, false, false, false, false, false, false, false, false, false, false, false, false, false] rfl rfl (any_of HT_.out (by kernel_rfl)) (fun _ _ _ h => h) (Or.inr ⟨by rfl, rfl⟩) ?_ ?_
    rotate_left
    · simp only [Act.put, List.setIfInBounds_toArray, List.set_cons_zero, List.set_cons_succ, i64_w, i32_w]
      rfl
    refine pure_ (i := 7) (N := some 60) (v := undef) (a' := ?_) #[true, true, true, true, true, true, true, true, false, false, false, false, false, false, false, false, false, false, false, false, false, false] rfl rfl (any_of HT_.out (by kernel_rfl)) (fun _ _ _ h => h) (Or.inr ⟨by rfl, rfl⟩) ?_ ?_
    rotate_left
    · simp only [Act.put, List.setIfInBounds_toArray, List.set_cons_zero, List.set_cons_succ, i64_w, i32_w]
      rfl
    refine pure_ (i := 8) (N := some 61) (v := ?_) (a' := ?_) #[true, true, true, true, true, true, true, true, true, false, false, false, false, false, false, false, false, false, false, false, false, false] rfl rfl (any_of HT_.out (by kernel_rfl)) (fun _ _ _ h => h) (Or.inl ⟨by rfl, ?_⟩) ?_ ?_
    rotate_left
    · intro w'
      go_simp
      with_reducible rfl
    rotate_left
    · simp only [Act.put, List.setIfInBounds_toArray, List.set_cons_zero, List.set_cons_succ, i64_w, i32_w]
      rfl
    refine pure_ (i := 9) (N := some 62) (v := ?_) (a' := ?_) #[true, true, true, true, true, true, true, true, true, true, false, false, false, false, false, false, false, false, false, false, false, false] rfl rfl (any_of HT_.out (by kernel_rfl)) (fun _ _ _ h => h) (Or.inl ⟨by rfl, ?_⟩) ?_ ?_
    rotate_left
    · intro w'
      go_simp
      with_reducible rfl
    rotate_left
    · simp only [Act.put, List.setIfInBounds_toArray, List.set_cons_zero, List.set_cons_succ, i64_w, i32_w]
      rfl
    refine pure_ (i := 11) (N := some 64) (v := ?_) (a' := ?_) #[true, true, true, true, true, true, true, true, true, true, false, true, false, false, false, false, false, false, false, false, false, false] rfl rfl (any_of HT_.out (by kernel_rfl)) (fun _ _ _ h => h) (Or.inl ⟨by rfl, ?_⟩) ?_ ?_
    rotate_left
    · intro w'
      go_simp
      with_reducible rfl
    rotate_left
    · simp only [Act.put, List.setIfInBounds_toArray, List.set_cons_zero, List.set_cons_succ, i64_w, i32_w]
      rfl
    refine pure_ (i := 14) (N := some 67) (v := ?_) (a' := ?_) #[true, true, true, true, true, true, true, true, true, true, false, true, false, false, true, false, false, false, false, false, false, false] rfl rfl (any_of HT_.out (by kernel_rfl)) (fun _ _ _ h => h) (Or.inl ⟨by rfl, ?_⟩) ?_ ?_
    rotate_left
    · intro w'
      go_simp
      with_reducible rfl
    rotate_left
    · simp only [Act.put, List.setIfInBounds_toArray, List.set_cons_zero, List.set_cons_succ, i64_w, i32_w]
      rfl
    refine take_ (i := 10) (N := some 63) (v := ?_) (a' := ?_) #[true, true, true, true, true, true, true, true, true, true, true, true, false, false, true, false, false, false, false, false, false, false] rfl rfl (take_ofW HT_.out HW_.out (by kernel_rfl)) (fun _ _ _ h => h) (Or.inl ⟨by rfl, ?_⟩) hHeld ?_ ?_
    rotate_left
    · rintro w' ⟨s0, s1, s2, s3, s4, s5, s6, s7, s8, s9, s10, s11⟩
      go_simp
      with_reducible rfl
    rotate_left
    · simp only [Act.put, List.setIfInBounds_toArray, List.set_cons_zero, List.set_cons_succ, i64_w, i32_w]
      rfl
    refine take_ (i := 13) (N := some 66) (v := ?_) (a' := ?_) #[true, true, true, true, true, true, true, true, true, true, true, true, false, true, true, false, false, false, false, false, false, false] rfl rfl (take_ofW HT_.out HW_.out (by kernel_rfl)) (fun _ _ _ h => h) (Or.inl ⟨by rfl, ?_⟩) hHeld ?_ ?_
    rotate_left
    · rintro w' ⟨s0, s1, s2, s3, s4, s5, s6, s7, s8, s9, s10, s11⟩
      go_simp
      with_reducible rfl
    rotate_left
    · simp only [Act.put, List.setIfInBounds_toArray, List.set_cons_zero, List.set_cons_succ, i64_w, i32_w]
      rfl
    refine one_ (i := 12) (N := some 65) #[true, true, true, true, true, true, true, true, true, true, true, true, true, true, true, false, false, false, false, false, false, false] rfl rfl (one_of HT_.out (by kernel_rfl)) (by decide) (fun K hK => ?_)
    refine goes_ Try.func8 (by kernel_rfl) rfl #[.agg #[.string t323, .string t324, .bool t325, .bool t326, .bool t327, .bool t328], .string a2] (by rfl) rfl rfl (by (try simp only [List.map_toArray, List.map_cons, List.map_nil]); first | done | rfl | (simp only [List.length_drop, List.length_take]; rfl)) ?_
    with_reducible refine (cursor_Has.calls t323 t324 t325 t326 t327 t328 a2 t346 _ A98.out).mono ?_
    rintro e w159 ⟨rfl, hb⟩
    refine ⟨_, rfl, ?_⟩
    have n2_ := Aside0.mk (blk_below (g := gb338) (o := .cells #[.string t314, .string t315, .bool t316, .bool t317, .bool t318, .bool t319] 35 (0, 0)) (bl_ BK338.out) hb)
    have n3_ := Aside0.mk (blk_below (g := gb339) (o := .cells #[.string t323, .string t324, .bool t325, .bool t326, .bool t327, .bool t328] 35 (0, 0)) (bl_ BK339.out) hb)
    have n4_ := Aside0.mk (blk_below (g := gb340) (o := .cells #[.string t332, .string t333, .bool t334, .bool t335, .bool t336, .bool t337] 35 (0, 0)) (bl_ BK340.out) hb)
    have n5_ := Aside0.mk (below_step (bw_ HB.out) hb)
    clear BK338
    clear BK339
    clear BK340
    clear HB
    have BK338 := n2_
    have BK339 := n3_
    have BK340 := n4_
    have HB := n5_
    clear n2_ n3_ n4_ n5_
    (try clear hb); (try clear hb2); (try clear hk); (try clear hi)
    refine hK.out _ _ ⟨(blk_cell BK339.out 0).trans rfl, (blk_cell BK339.out 1).trans rfl, (blk_cell BK339.out 2).trans rfl, (blk_cell BK339.out 3).trans rfl, (blk_cell BK339.out 4).trans rfl, (blk_cell BK339.out 5).trans rfl, (blk_cell BK340.out 0).trans rfl, (blk_cell BK340.out 1).trans rfl, (blk_cell BK340.out 2).trans rfl, (blk_cell BK340.out 3).trans rfl, (blk_cell BK340.out 4).trans rfl, (blk_cell BK340.out 5).trans rfl⟩ (fun hHeld => ?_)
    clear hK K
    refine norm_ (a' := ?_) ?_ ?_
    rotate_left
    · show Act.put _ (some 65) _ = _
      simp only [Act.put, List.setIfInBounds_toArray, List.set_cons_zero, List.set_cons_succ, i64_w, i32_w]
      rfl
    refine one_ (i := 15) (N := some 68) #[true, true, true, true, true, true, true, true, true, true, true, true, true, true, true, true, false, false, false, false, false, false] rfl rfl (one_of HT_.out (by kernel_rfl)) (by decide) (fun K hK => ?_)
    refine goes_ Try.func8 (by kernel_rfl) rfl #[.agg #[.string t332, .string t333, .bool t334, .bool t335, .bool t336, .bool t337], .string a2] (by rfl) rfl rfl (by (try simp only [List.map_toArray, List.map_cons, List.map_nil]); first | done | rfl | (simp only [List.length_drop, List.length_take]; rfl)) ?_
    with_reducible refine (cursor_Has.calls t332 t333 t334 t335 t336 t337 a2 t347 _ A99.out).mono ?_
    rintro e w160 ⟨rfl, hb⟩
    refine ⟨_, rfl, ?_⟩
    have n2_ := Aside0.mk (blk_below (g := gb338) (o := .cells #[.string t314, .string t315, .bool t316, .bool t317, .bool t318, .bool t319] 35 (0, 0)) (bl_ BK338.out) hb)
    have n3_ := Aside0.mk (blk_below (g := gb339) (o := .cells #[.string t323, .string t324, .bool t325, .bool t326, .bool t327, .bool t328] 35 (0, 0)) (bl_ BK339.out) hb)
    have n4_ := Aside0.mk (blk_below (g := gb340) (o := .cells #[.string t332, .string t333, .bool t334, .bool t335, .bool t336, .bool t337] 35 (0, 0)) (bl_ BK340.out) hb)
    have n5_ := Aside0.mk (below_step (bw_ HB.out) hb)
    clear BK338
    clear BK339
    clear BK340
    clear HB
    have BK338 := n2_
    have BK339 := n3_
    have BK340 := n4_
    have HB := n5_
    clear n2_ n3_ n4_ n5_
    (try clear hb); (try clear hb2); (try clear hk); (try clear hi)
    refine hK.out _ _ ⟨(blk_cell BK339.out 0).trans rfl, (blk_cell BK339.out 1).trans rfl, (blk_cell BK339.out 2).trans rfl, (blk_cell BK339.out 3).trans rfl, (blk_cell BK339.out 4).trans rfl, (blk_cell BK339.out 5).trans rfl, (blk_cell BK340.out 0).trans rfl, (blk_cell BK340.out 1).trans rfl, (blk_cell BK340.out 2).trans rfl, (blk_cell BK340.out 3).trans rfl, (blk_cell BK340.out 4).trans rfl, (blk_cell BK340.out 5).trans rfl⟩ (fun hHeld => ?_)
    clear hK K
    refine norm_ (a' := ?_) ?_ ?_
    rotate_left
    · show Act.put _ (some 68) _ = _
      simp only [Act.put, List.setIfInBounds_toArray, List.set_cons_zero, List.set_cons_succ, i64_w, i32_w]
      rfl
    refine pure_ (i := 16) (N := some 69) (v := ?_) (a' := ?_) #[true, true, true, true, true, true, true, true, true, true, true, true, true, true, true, true, true, false, false, false, false, false] rfl rfl (any_of HT_.out (by kernel_rfl)) (fun _ _ _ h => h) (Or.inl ⟨by rfl, ?_⟩) ?_ ?_
    rotate_left
    · intro w'
      go_simp
      with_reducible rfl
    rotate_left
    · simp only [Act.put, List.setIfInBounds_toArray, List.set_cons_zero, List.set_cons_succ, i64_w, i32_w]
      rfl
    refine pure_ (i := 17) (N := some 70) (v := ?_) (a' := ?_) #[true, true, true, true, true, true, true, true, true, true, true, true, true, true, true, true, true, true, false, false, false, false] rfl rfl (any_of HT_.out (by kernel_rfl)) (fun _ _ _ h => h) (Or.inl ⟨by rfl, ?_⟩) ?_ ?_
    rotate_left
    · intro w'
      go_simp
      with_reducible rfl
    rotate_left
    · simp only [Act.put, List.setIfInBounds_toArray, List.set_cons_zero, List.set_cons_succ, i64_w, i32_w]
      rfl
    refine pure_ (i := 18) (N := some 71) (v := ?_) (a' := ?_) #[true, true, true, true, true, true, true, true, true, true, true, true, true, true, true, true, true, true, true, false, false, false] rfl rfl (any_of HT_.out (by kernel_rfl)) (fun _ _ _ h => h) (Or.inl ⟨by rfl, ?_⟩) ?_ ?_
    rotate_left
    · intro w'
      go_simp
      with_reducible rfl
    rotate_left
    · simp only [Act.put, List.setIfInBounds_toArray, List.set_cons_zero, List.set_cons_succ, i64_w, i32_w]
      rfl
    refine one_ (i := 19) (N := some 72) #[true, true, true, true, true, true, true, true, true, true, true, true, true, true, true, true, true, true, true, true, false, false] rfl rfl (one_of HT_.out (by kernel_rfl)) (by decide) (fun K hK => ?_)
    refine goes_ Try.func5 (by kernel_rfl) rfl #[] (by rfl) rfl rfl (by (try simp only [List.map_toArray, List.map_cons, List.map_nil]); first | done | rfl | (simp only [List.length_drop, List.length_take]; rfl)) ?_
    with_reducible refine (barbicanlaw22_sure.calls kj3  t348 _ ?side1 A101.out).mono ?_
    (case side1 => exact GW_below HG.out (bw_ HB.out))
    rintro e w161 ⟨rfl, hb⟩
    refine ⟨_, rfl, ?_⟩
    have n2_ := Aside0.mk (blk_below (g := gb338) (o := .cells #[.string t314, .string t315, .bool t316, .bool t317, .bool t318, .bool t319] 35 (0, 0)) (bl_ BK338.out) hb)
    have n3_ := Aside0.mk (blk_below (g := gb339) (o := .cells #[.string t323, .string t324, .bool t325, .bool t326, .bool t327, .bool t328] 35 (0, 0)) (bl_ BK339.out) hb)
    have n4_ := Aside0.mk (blk_below (g := gb340) (o := .cells #[.string t332, .string t333, .bool t334, .bool t335, .bool t336, .bool t337] 35 (0, 0)) (bl_ BK340.out) hb)
    have n5_ := Aside0.mk (below_step (bw_ HB.out) hb)
    clear BK338
    clear BK339
    clear BK340
    clear HB
    have BK338 := n2_
    have BK339 := n3_
    have BK340 := n4_
    have HB := n5_
    clear n2_ n3_ n4_ n5_
    (try clear hb); (try clear hb2); (try clear hk); (try clear hi)
    refine hK.out _ _ ⟨(blk_cell BK339.out 0).trans rfl, (blk_cell BK339.out 1).trans rfl, (blk_cell BK339.out 2).trans rfl, (blk_cell BK339.out 3).trans rfl, (blk_cell BK339.out 4).trans rfl, (blk_cell BK339.out 5).trans rfl, (blk_cell BK340.out 0).trans rfl, (blk_cell BK340.out 1).trans rfl, (blk_cell BK340.out 2).trans rfl, (blk_cell BK340.out 3).trans rfl, (blk_cell BK340.out 4).trans rfl, (blk_cell BK340.out 5).trans rfl⟩ (fun hHeld => ?_)
    clear hK K
    refine norm_ (a' := ?_) ?_ ?_
    rotate_left
    · show Act.put _ (some 72) _ = _
      simp only [Act.put, List.setIfInBounds_toArray, List.set_cons_zero, List.set_cons_succ, i64_w, i32_w]
      rfl
    refine pure_ (i := 20) (N := some 73) (v := ?_) (a' := ?_) #[true, true, true, true, true, true, true, true, true, true, true, true, true, true, true, true, true, true, true, true, true, false] rfl rfl (any_of HT_.out (by kernel_rfl)) (fun _ _ _ h => h) (Or.inl ⟨by rfl, ?_⟩) ?_ ?_
    rotate_left
    · intro w'
      go_simp
      with_reducible rfl
    rotate_left
    · simp only [Act.put, List.setIfInBounds_toArray, List.set_cons_zero, List.set_cons_succ, i64_w, i32_w]
      rfl
    refine pure_ (i := 21) (N := some 6) (v := ?_) (a' := ?_) #[true, true, true, true, true, true, true, true, true, true, true, true, true, true, true, true, true, true, true, true, true, true] rfl rfl (any_of HT_.out (by kernel_rfl)) (fun _ _ _ h => h) (Or.inl ⟨by rfl, ?_⟩) ?_ ?_
    rotate_left
    · intro w'
      go_simp
      with_reducible rfl
    rotate_left
    · simp only [Act.put, List.setIfInBounds_toArray, List.set_cons_zero, List.set_cons_succ, i64_w, i32_w]
      rfl
    refine done_ (done_of HT_.out (by kernel_rfl)) ?_
    try go_wp2
    go_ret
    exact ⟨by first | rfl | (simp [errW_none, errW_some] <;> rfl) | (simp [*, errW_none, errW_some] <;> rfl), bw_ HB.out⟩

end Go.Proofs.Ytddkbhglbkfelaa.P
