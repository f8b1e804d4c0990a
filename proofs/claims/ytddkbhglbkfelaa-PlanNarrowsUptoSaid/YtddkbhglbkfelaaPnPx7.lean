import Derived.Test.YtddkbhglbkfelaaPnPx0
import Derived.Test.YtddkbhglbkfelaaPnPx2
import Derived.Test.YtddkbhglbkfelaaPnPx5
import Derived.Test.YtddkbhglbkfelaaPnPx6
namespace Go.Proofs.Ytddkbhglbkfelaa.P
open Go.RowKit Go.Proofs.YtddkbhglbkfelaaW.PrintWords Go.Proofs.YtddkbhglbkfelaaW.PrintLast Go.Proofs.YtddkbhglbkfelaaW.PrintMore Go.Proofs.YtddkbhglbkfelaaX
attribute [local go_sem] max2_int min2_int max_two min_two max_three min_three max_four min_four
set_option linter.unusedVariables false
set_option linter.unusedSimpArgs false

/-! ### plan_Range: function 6 -/
def plan_Range.l0 : Nat → List Int → List (S43) → Int → Int → ByteArray → List (S30) → ByteArray → ByteArray → Bool → Bool → Bool → Bool → Option (ByteArray × ByteArray × Bool × Bool × Bool × Bool)
  | 0, _, _, _, _, _, _, _, _, _, _, _, _ => none
  | k + 1, x6, x19, x20, x21, x205000, x205001, x207000, x207001, x207002, x207003, x207004, x207005 => if x21 < x20 then (if 0 ≤ x21 then (if x21 < (x19.length : Int) then (if 0 < (x6.length : Int) then (if 0 ≤ (rd x6 0) then (if (rd x6 0) < (x205001.length : Int) then ((plan_bound.f k ((rd_T43 x19 x21).f0) ((rd_T43 x19 x21).f1) ((rd_T43 x19 x21).f2) ((rd_T43 x19 x21).f3.f0) ((rd_T43 x19 x21).f3.f1) ((rd_T43 x19 x21).f3.f2) ((rd_T43 x19 x21).f3.f3) ((rd_T43 x19 x21).f4) (rd x6 0) ((rd_T30 x205001 (rd x6 0)).f1)).bind fun bt218 => (if bt218.2.2.2.2.2.2 = true then ((cursor_Meet.f k x207000 x207001 x207002 x207003 x207004 x207005 bt218.1 bt218.2.1 bt218.2.2.1 bt218.2.2.2.1 bt218.2.2.2.2.1 bt218.2.2.2.2.2.1).bind fun bt226 => (plan_Range.l0 k x6 x19 x20 (wrap64 (x21 + 1)) x205000 x205001 bt226.1 bt226.2.1 bt226.2.2.1 bt226.2.2.2.1 bt226.2.2.2.2.1 bt226.2.2.2.2.2)) else (plan_Range.l0 k x6 x19 x20 (wrap64 (x21 + 1)) x205000 x205001 x207000 x207001 x207002 x207003 x207004 x207005))) else (none)) else (none)) else (none)) else (none)) else (none)) else (some (x207000, x207001, x207002, x207003, x207004, x207005))
def plan_Range.f (k : Nat) (a0_0 : ByteArray) (l0_1 : List (S30)) (l1 : List (S43)) : Option (ByteArray × ByteArray × Bool × Bool × Bool × Bool) := (row_Keys.f k a0_0 l0_1).bind fun t207 => (if (t207.length : Int) = 0 then (some ((⟨#[]⟩ : ByteArray), (⟨#[]⟩ : ByteArray), false, false, false, false)) else ((plan_Parts.f k l1).bind fun t210 => (plan_Range.l0 k t207 t210 (t210.length : Int) 0 a0_0 l0_1 (⟨#[]⟩ : ByteArray) (⟨#[]⟩ : ByteArray) false false false false)))
theorem plan_Range.mono_l : ∀ k, (∀ y0 y1 y2 y3 y4 y5 y6 y7 y8 y9 y10 y11, LeO (plan_Range.l0 k y0 y1 y2 y3 y4 y5 y6 y7 y8 y9 y10 y11) (plan_Range.l0 (k + 1) y0 y1 y2 y3 y4 y5 y6 y7 y8 y9 y10 y11))
  | 0 => fun _ _ _ _ _ _ _ _ _ _ _ _ r h => by simp [plan_Range.l0] at h
  | k + 1 => by
    have ih0 := plan_Range.mono_l k
    · intro y0 y1 y2 y3 y4 y5 y6 y7 y8 y9 y10 y11
      unfold plan_Range.l0
      repeat' first
      | (with_reducible exact ih0 _ _ _ _ _ _ _ _ _ _ _ _)
      | (with_reducible exact cursor_Meet.mono _ _ _ _ _ _ _ _ _ _ _ _ _)
      | (with_reducible exact plan_Parts.mono _ _)
      | (with_reducible exact plan_bound.mono _ _ _ _ _ _ _ _ _ _ _)
      | (with_reducible exact row_Keys.mono _ _ _)
      | (with_reducible exact LeO.refl _)
      | (with_reducible exact LeO.none _)
      | (with_reducible refine LeO.ite ?_ ?_)
      | (with_reducible refine LeO.bind ?_ (fun _ => ?_))
      | exact ih0 _ _ _ _ _ _ _ _ _ _ _ _
      | exact cursor_Meet.mono _ _ _ _ _ _ _ _ _ _ _ _ _
      | exact plan_Parts.mono _ _
      | exact plan_bound.mono _ _ _ _ _ _ _ _ _ _ _
      | exact row_Keys.mono _ _ _
      | exact LeO.none _
      | refine LeO.ite ?_ ?_
      | refine LeO.bind ?_ (fun _ => ?_)
theorem plan_Range.mono : ∀ a0 a1 a2 k, LeO (plan_Range.f k a0 a1 a2) (plan_Range.f (k + 1) a0 a1 a2) := by
  intro a0 a1 a2 k
  have ih0 := plan_Range.mono_l k
  unfold plan_Range.f
  repeat' first
      | (with_reducible exact ih0 _ _ _ _ _ _ _ _ _ _ _ _)
      | (with_reducible exact cursor_Meet.mono _ _ _ _ _ _ _ _ _ _ _ _ _)
      | (with_reducible exact plan_Parts.mono _ _)
      | (with_reducible exact plan_bound.mono _ _ _ _ _ _ _ _ _ _ _)
      | (with_reducible exact row_Keys.mono _ _ _)
      | (with_reducible exact LeO.refl _)
      | (with_reducible exact LeO.none _)
      | (with_reducible refine LeO.ite ?_ ?_)
      | (with_reducible refine LeO.bind ?_ (fun _ => ?_))
      | exact ih0 _ _ _ _ _ _ _ _ _ _ _ _
      | exact cursor_Meet.mono _ _ _ _ _ _ _ _ _ _ _ _ _
      | exact plan_Parts.mono _ _
      | exact plan_bound.mono _ _ _ _ _ _ _ _ _ _ _
      | exact row_Keys.mono _ _ _
      | exact LeO.none _
      | refine LeO.ite ?_ ?_
      | refine LeO.bind ?_ (fun _ => ?_)
def plan_Range.T8 : Bool × List (List Nat × List Nat) := (true, [([], []), ([], []), ([1], [1]), ([2], [2]), ([], []), ([4], [4]), ([], []), ([6], [6]), ([7], [7]), ([5, 8], [5, 8]), ([9], [9]), ([10], [10]), ([0, 3, 11], [0, 3, 11]), ([12], [12]), ([13], [13]), ([13], [13]), ([], []), ([16, 14, 12, 0, 1, 2, 3, 4, 5, 6, 7, 8, 9, 10, 11, 12, 13, 14, 16], [14, 16]), ([15, 17, 0, 1, 2, 3, 4, 5, 6, 7, 8, 9, 10, 11, 12, 13, 14, 15, 16, 17], [15])])
def plan_Range.B8 : List Nat := [0, 0, 2, 6, 0, 16, 0, 64, 192, 496, 1008, 2032, 4095, 8191, 16383, 16383, 0, 98303, 262143]
theorem plan_Range.tab8 : rtab .any (opsOf Try.f6 8) = plan_Range.T8 := by kernel_rfl
theorem plan_Range.bits8 : waitsOk plan_Range.T8.2 plan_Range.B8 = true := by kernel_rfl
set_option maxHeartbeats 8000000 in
set_option maxRecDepth 100000 in
theorem plan_Range.calls (k : Nat) (a0_0 : ByteArray) (A0_1 : Option Addr) (c0_1 : Nat) (l0_1 : List (S30)) (A1 : Option Addr) (c1 : Nat) (l1 : List (S43)) (r1 : ByteArray) (r2 : ByteArray) (r3 : Bool) (r4 : Bool) (r5 : Bool) (r6 : Bool) (w : World) (hr0_1 : Kd.C k30 w A0_1 l0_1.length l0_1) (hc0_1 : l0_1.length ≤ c0_1) (hr1 : Kd.C k43 w A1 l1.length l1) (hc1 : l1.length ≤ c1) (hG : GW w) (h : plan_Range.f k a0_0 l0_1 l1 = some (r1, r2, r3, r4, r5, r6)) :
    Calls Try.prog 6 #[.agg #[.string a0_0, .slice A0_1 l0_1.length c0_1], .slice A1 l1.length c1] w fun e w' => e = .returned (.agg #[.string r1, .string r2, .bool r3, .bool r4, .bool r5, .bool r6]) ∧ Below w.heap.size w w' := by
  have hu33 := Try.underlying33
  have hu35 := Try.underlying35
  have hu43 := Try.underlying43
  have HR0_1 := Aside0.mk hr0_1
  have HC0_1 := Aside0.mk hc0_1
  clear hr0_1 hc0_1
  have HR1 := Aside0.mk hr1
  have HC1 := Aside0.mk hc1
  clear hr1 hc1
  have HB := Aside0.mk (Below.refl w.heap.size w)
  have HG := Aside0.mk hG
  clear hG
  have H : ((row_Keys.f k a0_0 l0_1).bind fun t207 => (if (t207.length : Int) = 0 then (some ((⟨#[]⟩ : ByteArray), (⟨#[]⟩ : ByteArray), false, false, false, false)) else ((plan_Parts.f k l1).bind fun t210 => (plan_Range.l0 k t207 t210 (t210.length : Int) 0 a0_0 l0_1 (⟨#[]⟩ : ByteArray) (⟨#[]⟩ : ByteArray) false false false false)))) = some (r1, r2, r3, r4, r5, r6) := h
  clear h
  replace H := Option.bind_eq_some_iff.mp H
  obtain ⟨t207, A30, H⟩ := H
  (try dsimp only at H)
  have A3 := Aside0.mk A30
  clear A30
  by_cases c4 : (t207.length : Int) = 0
  · rw [if_pos c4] at H
    have c4b0 : ((t207.length : Int) == 0) = true := beq_iff_eq.mpr c4
    have c4b1 : ((t207.length : Int) != 0) = false := bne_eq_false_iff_eq.mpr c4
    clear c4
    simp only [Option.some.injEq, Prod.mk.injEq] at H
    obtain ⟨rfl, rfl, rfl, rfl, rfl, rfl⟩ := H
    go_enter Try.func6, Try.ntmps6
    go_wp2_with (first | ((with_reducible refine gate_dst (N := 2) rfl ?_); refine box_event ?hg (N := 2) ?hd (cs := #[.string a0_0, .slice A0_1 l0_1.length c0_1]) (t := 33) ?hr ?_; (case hd => rfl); (case hg => rfl); (case hr => first | (go_simp; done) | (go_simp; rfl)); intro gb204 hg w5 hbox hb; have n0_ := Aside0.mk (below_step (bw_ HB.out) hb); have n1_ := Aside0.mk (hbox); have n2_ := Aside0.mk ((by rw [hg]; exact (below_size (bw_ HB.out)) : w.heap.size ≤ gb204)); have n3_ := Aside0.mk ((by rw [hg]; exact (below_size (bw_ HB.out)) : w.heap.size ≤ gb204)); clear HB; have HB := n0_; have BK204 := n1_; have GW204 := n2_; have GE204 := n3_; clear n0_ n1_ n2_ n3_; clear hb hbox hg) | ((with_reducible refine gate_dst (N := 4) rfl ?_); refine box_event ?hg (N := 4) ?hd (cs := #[.string (⟨#[]⟩ : ByteArray), .string (⟨#[]⟩ : ByteArray), .bool false, .bool false, .bool false, .bool false]) (t := 35) ?hr ?_; (case hd => rfl); (case hg => rfl); (case hr => first | (go_simp; done) | (go_simp; rfl)); intro gb205 hg w6 hbox hb; have n0_ := Aside0.mk (blk_below (g := gb204) (o := .cells #[.string a0_0, .slice A0_1 l0_1.length c0_1] 33 (0, 0)) (bl_ BK204.out) hb); have n1_ := Aside0.mk (below_step (bw_ HB.out) hb); have n2_ := Aside0.mk (hbox); have n3_ := Aside0.mk ((by rw [hg]; exact (below_size (bw_ HB.out)) : w.heap.size ≤ gb205)); have n4_ := Aside0.mk ((by rw [hg]; exact (below_size (bw_ HB.out)) : w.heap.size ≤ gb205)); have n5_ := Aside0.mk ((by rw [hg]; exact Nat.ne_of_lt (blk_lt (g := gb204) (o := .cells #[.string a0_0, .slice A0_1 l0_1.length c0_1] 33 (0, 0)) (bl_ BK204.out)) : gb204 ≠ gb205)); have n6_ := Aside0.mk ((by rw [hg]; exact Nat.ne_of_gt (blk_lt (g := gb204) (o := .cells #[.string a0_0, .slice A0_1 l0_1.length c0_1] 33 (0, 0)) (bl_ BK204.out)) : gb205 ≠ gb204)); clear BK204; clear HB; have BK204 := n0_; have HB := n1_; have BK205 := n2_; have GW205 := n3_; have GE205 := n4_; have NB204_205 := n5_; have NB205_204 := n6_; clear n0_ n1_ n2_ n3_ n4_ n5_ n6_; clear hb hbox hg) | ((with_reducible refine gate_dst (N := 5) rfl ?_); refine box_event ?hg (N := 5) ?hd (cs := #[.string (⟨#[]⟩ : ByteArray), .string (⟨#[]⟩ : ByteArray), .bool false, .bool false, .bool false, .bool false]) (t := 35) ?hr ?_; (case hd => rfl); (case hg => rfl); (case hr => first | (go_simp; done) | (go_simp; rfl)); intro gb206 hg w7 hbox hb; have n0_ := Aside0.mk (blk_below (g := gb204) (o := .cells #[.string a0_0, .slice A0_1 l0_1.length c0_1] 33 (0, 0)) (bl_ BK204.out) hb); have n1_ := Aside0.mk (blk_below (g := gb205) (o := .cells #[.string (⟨#[]⟩ : ByteArray), .string (⟨#[]⟩ : ByteArray), .bool false, .bool false, .bool false, .bool false] 35 (0, 0)) (bl_ BK205.out) hb); have n2_ := Aside0.mk (below_step (bw_ HB.out) hb); have n3_ := Aside0.mk (hbox); have n4_ := Aside0.mk ((by rw [hg]; exact (below_size (bw_ HB.out)) : w.heap.size ≤ gb206)); have n5_ := Aside0.mk ((by rw [hg]; exact (below_size (bw_ HB.out)) : w.heap.size ≤ gb206)); have n6_ := Aside0.mk ((by rw [hg]; exact Nat.ne_of_lt (blk_lt (g := gb204) (o := .cells #[.string a0_0, .slice A0_1 l0_1.length c0_1] 33 (0, 0)) (bl_ BK204.out)) : gb204 ≠ gb206)); have n7_ := Aside0.mk ((by rw [hg]; exact Nat.ne_of_gt (blk_lt (g := gb204) (o := .cells #[.string a0_0, .slice A0_1 l0_1.length c0_1] 33 (0, 0)) (bl_ BK204.out)) : gb206 ≠ gb204)); have n8_ := Aside0.mk ((by rw [hg]; exact Nat.ne_of_lt (blk_lt (g := gb205) (o := .cells #[.string (⟨#[]⟩ : ByteArray), .string (⟨#[]⟩ : ByteArray), .bool false, .bool false, .bool false, .bool false] 35 (0, 0)) (bl_ BK205.out)) : gb205 ≠ gb206)); have n9_ := Aside0.mk ((by rw [hg]; exact Nat.ne_of_gt (blk_lt (g := gb205) (o := .cells #[.string (⟨#[]⟩ : ByteArray), .string (⟨#[]⟩ : ByteArray), .bool false, .bool false, .bool false, .bool false] 35 (0, 0)) (bl_ BK205.out)) : gb206 ≠ gb205)); clear BK204; clear BK205; clear HB; have BK204 := n0_; have BK205 := n1_; have HB := n2_; have BK206 := n3_; have GW206 := n4_; have GE206 := n5_; have NB204_206 := n6_; have NB206_204 := n7_; have NB205_206 := n8_; have NB206_205 := n9_; clear n0_ n1_ n2_ n3_ n4_ n5_ n6_ n7_ n8_ n9_; clear hb hbox hg; have hnb8 := NB206_204.out; have hnc8 := NB204_206.out; have hnb9 := NB206_205.out; have hnc9 := NB205_206.out; have hcz10_0 : w7.cell? ⟨gb206, 0, none⟩ = some (.string (⟨#[]⟩ : ByteArray)) := (blk_cell BK206.out 0).trans rfl; have hcz10_1 : w7.cell? ⟨gb206, 1, none⟩ = some (.string (⟨#[]⟩ : ByteArray)) := (blk_cell BK206.out 1).trans rfl; have hcz10_2 : w7.cell? ⟨gb206, 2, none⟩ = some (.bool false) := (blk_cell BK206.out 2).trans rfl; have hcz10_3 : w7.cell? ⟨gb206, 3, none⟩ = some (.bool false) := (blk_cell BK206.out 3).trans rfl; have hcz10_4 : w7.cell? ⟨gb206, 4, none⟩ = some (.bool false) := (blk_cell BK206.out 4).trans rfl; have hcz10_5 : w7.cell? ⟨gb206, 5, none⟩ = some (.bool false) := (blk_cell BK206.out 5).trans rfl; have hfz10_0 := blk_frozen BK206.out 0; have hfz10_1 := blk_frozen BK206.out 1; have hfz10_2 := blk_frozen BK206.out 2; have hfz10_3 := blk_frozen BK206.out 3; have hfz10_4 := blk_frozen BK206.out 4; have hfz10_5 := blk_frozen BK206.out 5; have hnb11 := NB204_205.out; have hnc11 := NB205_204.out; have hcz12_0 : w7.cell? ⟨gb204, 0, none⟩ = some (.string a0_0) := (blk_cell BK204.out 0).trans rfl; have hcz12_1 : w7.cell? ⟨gb204, 1, none⟩ = some (.slice A0_1 l0_1.length c0_1) := (blk_cell BK204.out 1).trans rfl; have hfz12_0 := blk_frozen BK204.out 0; have hfz12_1 := blk_frozen BK204.out 1) | ((with_reducible refine gate_callee (f := 10) rfl ?_); refine goesL_ (some 13) rfl rfl Try.func10 (by kernel_rfl) rfl #[.agg #[.string a0_0, .slice A0_1 l0_1.length c0_1]] rfl (by (try simp only [List.map_toArray, List.map_cons, List.map_nil]); first | done | rfl | (simp only [List.length_drop, List.length_take]; rfl)) ?_; (with_reducible refine (row_Keys.calls k a0_0 _ _ l0_1 t207 _ ?side1 ?side2 A3.out).mono ?_); (case side1 => exact Kd.C_below HR0_1.out (bw_ HB.out)); (case side2 => exact HC0_1.out); rintro e w13 ⟨v208, rfl, ho0, hb⟩; refine ⟨_, rfl, ?_⟩; have n0_ := Aside0.mk (Kd.R_lower ho0 (below_size (bw_ HB.out))); have n1_ := Aside0.mk (blk_below (g := gb204) (o := .cells #[.string a0_0, .slice A0_1 l0_1.length c0_1] 33 (0, 0)) (by (with_reducible repeat (first | refine blk_drewN ?_ _ | refine blk_drew ?_ | refine blk_alloc ?_ _)); refine blk_far ?_ NB204_206.out _; (with_reducible repeat (first | refine blk_drewN ?_ _ | refine blk_drew ?_ | refine blk_alloc ?_ _)); refine blk_far ?_ NB204_206.out _; (with_reducible repeat (first | refine blk_drewN ?_ _ | refine blk_drew ?_ | refine blk_alloc ?_ _)); refine blk_far ?_ NB204_206.out _; (with_reducible repeat (first | refine blk_drewN ?_ _ | refine blk_drew ?_ | refine blk_alloc ?_ _)); refine blk_far ?_ NB204_206.out _; (with_reducible repeat (first | refine blk_drewN ?_ _ | refine blk_drew ?_ | refine blk_alloc ?_ _)); refine blk_far ?_ NB204_206.out _; (with_reducible repeat (first | refine blk_drewN ?_ _ | refine blk_drew ?_ | refine blk_alloc ?_ _)); refine blk_far ?_ NB204_206.out _; (with_reducible repeat (first | refine blk_drewN ?_ _ | refine blk_drew ?_ | refine blk_alloc ?_ _)); exact BK204.out) hb); have n2_ := Aside0.mk (blk_below (g := gb205) (o := .cells #[.string (⟨#[]⟩ : ByteArray), .string (⟨#[]⟩ : ByteArray), .bool false, .bool false, .bool false, .bool false] 35 (0, 0)) (by (with_reducible repeat (first | refine blk_drewN ?_ _ | refine blk_drew ?_ | refine blk_alloc ?_ _)); refine blk_far ?_ NB205_206.out _; (with_reducible repeat (first | refine blk_drewN ?_ _ | refine blk_drew ?_ | refine blk_alloc ?_ _)); refine blk_far ?_ NB205_206.out _; (with_reducible repeat (first | refine blk_drewN ?_ _ | refine blk_drew ?_ | refine blk_alloc ?_ _)); refine blk_far ?_ NB205_206.out _; (with_reducible repeat (first | refine blk_drewN ?_ _ | refine blk_drew ?_ | refine blk_alloc ?_ _)); refine blk_far ?_ NB205_206.out _; (with_reducible repeat (first | refine blk_drewN ?_ _ | refine blk_drew ?_ | refine blk_alloc ?_ _)); refine blk_far ?_ NB205_206.out _; (with_reducible repeat (first | refine blk_drewN ?_ _ | refine blk_drew ?_ | refine blk_alloc ?_ _)); refine blk_far ?_ NB205_206.out _; (with_reducible repeat (first | refine blk_drewN ?_ _ | refine blk_drew ?_ | refine blk_alloc ?_ _)); exact BK205.out) hb); have n3_ := Aside0.mk (blk_below (g := gb206) (o := .cells #[.string (⟨#[]⟩ : ByteArray), .string (⟨#[]⟩ : ByteArray), .bool false, .bool false, .bool false, .bool false] 35 (0, 0)) (by (with_reducible repeat (first | refine blk_drewN ?_ _ | refine blk_drew ?_ | refine blk_alloc ?_ _)); refine blk_put (cs := #[.string (⟨#[]⟩ : ByteArray), .string (⟨#[]⟩ : ByteArray), .bool false, .bool false, .bool false, .bool false]) ?_ 5 _ rfl; (with_reducible repeat (first | refine blk_drewN ?_ _ | refine blk_drew ?_ | refine blk_alloc ?_ _)); refine blk_put (cs := #[.string (⟨#[]⟩ : ByteArray), .string (⟨#[]⟩ : ByteArray), .bool false, .bool false, .bool false, .bool false]) ?_ 4 _ rfl; (with_reducible repeat (first | refine blk_drewN ?_ _ | refine blk_drew ?_ | refine blk_alloc ?_ _)); refine blk_put (cs := #[.string (⟨#[]⟩ : ByteArray), .string (⟨#[]⟩ : ByteArray), .bool false, .bool false, .bool false, .bool false]) ?_ 3 _ rfl; (with_reducible repeat (first | refine blk_drewN ?_ _ | refine blk_drew ?_ | refine blk_alloc ?_ _)); refine blk_put (cs := #[.string (⟨#[]⟩ : ByteArray), .string (⟨#[]⟩ : ByteArray), .bool false, .bool false, .bool false, .bool false]) ?_ 2 _ rfl; (with_reducible repeat (first | refine blk_drewN ?_ _ | refine blk_drew ?_ | refine blk_alloc ?_ _)); refine blk_put (cs := #[.string (⟨#[]⟩ : ByteArray), .string (⟨#[]⟩ : ByteArray), .bool false, .bool false, .bool false, .bool false]) ?_ 1 _ rfl; (with_reducible repeat (first | refine blk_drewN ?_ _ | refine blk_drew ?_ | refine blk_alloc ?_ _)); refine blk_put (cs := #[.string (⟨#[]⟩ : ByteArray), .string (⟨#[]⟩ : ByteArray), .bool false, .bool false, .bool false, .bool false]) ?_ 0 _ rfl; (with_reducible repeat (first | refine blk_drewN ?_ _ | refine blk_drew ?_ | refine blk_alloc ?_ _)); exact BK206.out) hb); have n4_ := Aside0.mk (below_step (bw_ HB.out) hb); clear BK204; clear BK205; clear BK206; clear HB; have HO209 := n0_; have BK204 := n1_; have BK205 := n2_; have BK206 := n3_; have HB := n4_; clear n0_ n1_ n2_ n3_ n4_; (try clear hb); (try clear hb2); (try clear hk); (try clear hi); (try clear ho0); obtain ⟨Ao14, co14, eo14⟩ := Kd.R_slice HO209.out; subst eo14; have hcz15_0 : w13.cell? ⟨gb206, 0, none⟩ = some (.string (⟨#[]⟩ : ByteArray)) := (blk_cell BK206.out 0).trans rfl; have hcz15_1 : w13.cell? ⟨gb206, 1, none⟩ = some (.string (⟨#[]⟩ : ByteArray)) := (blk_cell BK206.out 1).trans rfl; have hcz15_2 : w13.cell? ⟨gb206, 2, none⟩ = some (.bool false) := (blk_cell BK206.out 2).trans rfl; have hcz15_3 : w13.cell? ⟨gb206, 3, none⟩ = some (.bool false) := (blk_cell BK206.out 3).trans rfl; have hcz15_4 : w13.cell? ⟨gb206, 4, none⟩ = some (.bool false) := (blk_cell BK206.out 4).trans rfl; have hcz15_5 : w13.cell? ⟨gb206, 5, none⟩ = some (.bool false) := (blk_cell BK206.out 5).trans rfl; have hfz15_0 := blk_frozen BK206.out 0; have hfz15_1 := blk_frozen BK206.out 1; have hfz15_2 := blk_frozen BK206.out 2; have hfz15_3 := blk_frozen BK206.out 3; have hfz15_4 := blk_frozen BK206.out 4; have hfz15_5 := blk_frozen BK206.out 5; have hcz16_0 : w13.cell? ⟨gb205, 0, none⟩ = some (.string (⟨#[]⟩ : ByteArray)) := (blk_cell BK205.out 0).trans rfl; have hcz16_1 : w13.cell? ⟨gb205, 1, none⟩ = some (.string (⟨#[]⟩ : ByteArray)) := (blk_cell BK205.out 1).trans rfl; have hcz16_2 : w13.cell? ⟨gb205, 2, none⟩ = some (.bool false) := (blk_cell BK205.out 2).trans rfl; have hcz16_3 : w13.cell? ⟨gb205, 3, none⟩ = some (.bool false) := (blk_cell BK205.out 3).trans rfl; have hcz16_4 : w13.cell? ⟨gb205, 4, none⟩ = some (.bool false) := (blk_cell BK205.out 4).trans rfl; have hcz16_5 : w13.cell? ⟨gb205, 5, none⟩ = some (.bool false) := (blk_cell BK205.out 5).trans rfl; have hfz16_0 := blk_frozen BK205.out 0; have hfz16_1 := blk_frozen BK205.out 1; have hfz16_2 := blk_frozen BK205.out 2; have hfz16_3 := blk_frozen BK205.out 3; have hfz16_4 := blk_frozen BK205.out 4; have hfz16_5 := blk_frozen BK205.out 5))
    refine bodyPost_ret (results_cell_row rfl _ _ gb205 35 #[.string (⟨#[]⟩ : ByteArray), .string (⟨#[]⟩ : ByteArray), .bool false, .bool false, .bool false, .bool false] (0, 0) _ rfl (by (with_reducible repeat (first | refine blk_drewN ?_ _ | refine blk_drew ?_ | refine blk_alloc ?_ _)); refine blk_put (cs := #[.string (⟨#[]⟩ : ByteArray), .string (⟨#[]⟩ : ByteArray), .bool false, .bool false, .bool false, .bool false]) ?_ 5 _ rfl; (with_reducible repeat (first | refine blk_drewN ?_ _ | refine blk_drew ?_ | refine blk_alloc ?_ _)); refine blk_put (cs := #[.string (⟨#[]⟩ : ByteArray), .string (⟨#[]⟩ : ByteArray), .bool false, .bool false, .bool false, .bool false]) ?_ 4 _ rfl; (with_reducible repeat (first | refine blk_drewN ?_ _ | refine blk_drew ?_ | refine blk_alloc ?_ _)); refine blk_put (cs := #[.string (⟨#[]⟩ : ByteArray), .string (⟨#[]⟩ : ByteArray), .bool false, .bool false, .bool false, .bool false]) ?_ 3 _ rfl; (with_reducible repeat (first | refine blk_drewN ?_ _ | refine blk_drew ?_ | refine blk_alloc ?_ _)); refine blk_put (cs := #[.string (⟨#[]⟩ : ByteArray), .string (⟨#[]⟩ : ByteArray), .bool false, .bool false, .bool false, .bool false]) ?_ 2 _ rfl; (with_reducible repeat (first | refine blk_drewN ?_ _ | refine blk_drew ?_ | refine blk_alloc ?_ _)); refine blk_put (cs := #[.string (⟨#[]⟩ : ByteArray), .string (⟨#[]⟩ : ByteArray), .bool false, .bool false, .bool false, .bool false]) ?_ 1 _ rfl; (with_reducible repeat (first | refine blk_drewN ?_ _ | refine blk_drew ?_ | refine blk_alloc ?_ _)); refine blk_put (cs := #[.string (⟨#[]⟩ : ByteArray), .string (⟨#[]⟩ : ByteArray), .bool false, .bool false, .bool false, .bool false]) ?_ 0 _ rfl; (with_reducible repeat (first | refine blk_drewN ?_ _ | refine blk_drew ?_ | refine blk_alloc ?_ _)); exact BK205.out) Try.underlying35 rfl (by kernel_rfl)) rfl ?_
    exact ⟨by first | rfl | (simp [errW_none, errW_some] <;> rfl) | (simp [*, errW_none, errW_some] <;> rfl), bw_ HB.out⟩
  rw [if_neg c4] at H
  have c4b0 : ((t207.length : Int) == 0) = false := beq_eq_false_iff_ne.mpr c4
  have c4b1 : ((t207.length : Int) != 0) = true := bne_iff_ne.mpr c4
  have c4b2 : ¬ (t207 = []) := fun h_ => c4 (by rw [h_]; rfl)
  replace H := Option.bind_eq_some_iff.mp H
  obtain ⟨t210, A170, H⟩ := H
  (try dsimp only at H)
  have A17 := Aside0.mk A170
  clear A170
  have H' := Aside0.mk H
  clear H
  go_enter Try.func6, Try.ntmps6
  go_wp2_with (first | ((with_reducible refine gate_dst (N := 2) rfl ?_); refine box_event ?hg (N := 2) ?hd (cs := #[.string a0_0, .slice A0_1 l0_1.length c0_1]) (t := 33) ?hr ?_; (case hd => rfl); (case hg => rfl); (case hr => first | (go_simp; done) | (go_simp; rfl)); intro gb204 hg w18 hbox hb; have n0_ := Aside0.mk (below_step (bw_ HB.out) hb); have n1_ := Aside0.mk (hbox); have n2_ := Aside0.mk ((by rw [hg]; exact (below_size (bw_ HB.out)) : w.heap.size ≤ gb204)); have n3_ := Aside0.mk ((by rw [hg]; exact (below_size (bw_ HB.out)) : w.heap.size ≤ gb204)); clear HB; have HB := n0_; have BK204 := n1_; have GW204 := n2_; have GE204 := n3_; clear n0_ n1_ n2_ n3_; clear hb hbox hg) | ((with_reducible refine gate_dst (N := 4) rfl ?_); refine box_event ?hg (N := 4) ?hd (cs := #[.string (⟨#[]⟩ : ByteArray), .string (⟨#[]⟩ : ByteArray), .bool false, .bool false, .bool false, .bool false]) (t := 35) ?hr ?_; (case hd => rfl); (case hg => rfl); (case hr => first | (go_simp; done) | (go_simp; rfl)); intro gb205 hg w19 hbox hb; have n0_ := Aside0.mk (blk_below (g := gb204) (o := .cells #[.string a0_0, .slice A0_1 l0_1.length c0_1] 33 (0, 0)) (bl_ BK204.out) hb); have n1_ := Aside0.mk (below_step (bw_ HB.out) hb); have n2_ := Aside0.mk (hbox); have n3_ := Aside0.mk ((by rw [hg]; exact (below_size (bw_ HB.out)) : w.heap.size ≤ gb205)); have n4_ := Aside0.mk ((by rw [hg]; exact (below_size (bw_ HB.out)) : w.heap.size ≤ gb205)); have n5_ := Aside0.mk ((by rw [hg]; exact Nat.ne_of_lt (blk_lt (g := gb204) (o := .cells #[.string a0_0, .slice A0_1 l0_1.length c0_1] 33 (0, 0)) (bl_ BK204.out)) : gb204 ≠ gb205)); have n6_ := Aside0.mk ((by rw [hg]; exact Nat.ne_of_gt (blk_lt (g := gb204) (o := .cells #[.string a0_0, .slice A0_1 l0_1.length c0_1] 33 (0, 0)) (bl_ BK204.out)) : gb205 ≠ gb204)); clear BK204; clear HB; have BK204 := n0_; have HB := n1_; have BK205 := n2_; have GW205 := n3_; have GE205 := n4_; have NB204_205 := n5_; have NB205_204 := n6_; clear n0_ n1_ n2_ n3_ n4_ n5_ n6_; clear hb hbox hg) | ((with_reducible refine gate_dst (N := 5) rfl ?_); refine box_event ?hg (N := 5) ?hd (cs := #[.string (⟨#[]⟩ : ByteArray), .string (⟨#[]⟩ : ByteArray), .bool false, .bool false, .bool false, .bool false]) (t := 35) ?hr ?_; (case hd => rfl); (case hg => rfl); (case hr => first | (go_simp; done) | (go_simp; rfl)); intro gb206 hg w20 hbox hb; have n0_ := Aside0.mk (blk_below (g := gb204) (o := .cells #[.string a0_0, .slice A0_1 l0_1.length c0_1] 33 (0, 0)) (bl_ BK204.out) hb); have n1_ := Aside0.mk (blk_below (g := gb205) (o := .cells #[.string (⟨#[]⟩ : ByteArray), .string (⟨#[]⟩ : ByteArray), .bool false, .bool false, .bool false, .bool false] 35 (0, 0)) (bl_ BK205.out) hb); have n2_ := Aside0.mk (below_step (bw_ HB.out) hb); have n3_ := Aside0.mk (hbox); have n4_ := Aside0.mk ((by rw [hg]; exact (below_size (bw_ HB.out)) : w.heap.size ≤ gb206)); have n5_ := Aside0.mk ((by rw [hg]; exact (below_size (bw_ HB.out)) : w.heap.size ≤ gb206)); have n6_ := Aside0.mk ((by rw [hg]; exact Nat.ne_of_lt (blk_lt (g := gb204) (o := .cells #[.string a0_0, .slice A0_1 l0_1.length c0_1] 33 (0, 0)) (bl_ BK204.out)) : gb204 ≠ gb206)); have n7_ := Aside0.mk ((by rw [hg]; exact Nat.ne_of_gt (blk_lt (g := gb204) (o := .cells #[.string a0_0, .slice A0_1 l0_1.length c0_1] 33 (0, 0)) (bl_ BK204.out)) : gb206 ≠ gb204)); have n8_ := Aside0.mk ((by rw [hg]; exact Nat.ne_of_lt (blk_lt (g := gb205) (o := .cells #[.string (⟨#[]⟩ : ByteArray), .string (⟨#[]⟩ : ByteArray), .bool false, .bool false, .bool false, .bool false] 35 (0, 0)) (bl_ BK205.out)) : gb205 ≠ gb206)); have n9_ := Aside0.mk ((by rw [hg]; exact Nat.ne_of_gt (blk_lt (g := gb205) (o := .cells #[.string (⟨#[]⟩ : ByteArray), .string (⟨#[]⟩ : ByteArray), .bool false, .bool false, .bool false, .bool false] 35 (0, 0)) (bl_ BK205.out)) : gb206 ≠ gb205)); clear BK204; clear BK205; clear HB; have BK204 := n0_; have BK205 := n1_; have HB := n2_; have BK206 := n3_; have GW206 := n4_; have GE206 := n5_; have NB204_206 := n6_; have NB206_204 := n7_; have NB205_206 := n8_; have NB206_205 := n9_; clear n0_ n1_ n2_ n3_ n4_ n5_ n6_ n7_ n8_ n9_; clear hb hbox hg; have hnb21 := NB206_204.out; have hnc21 := NB204_206.out; have hnb22 := NB206_205.out; have hnc22 := NB205_206.out; have hcz23_0 : w20.cell? ⟨gb206, 0, none⟩ = some (.string (⟨#[]⟩ : ByteArray)) := (blk_cell BK206.out 0).trans rfl; have hcz23_1 : w20.cell? ⟨gb206, 1, none⟩ = some (.string (⟨#[]⟩ : ByteArray)) := (blk_cell BK206.out 1).trans rfl; have hcz23_2 : w20.cell? ⟨gb206, 2, none⟩ = some (.bool false) := (blk_cell BK206.out 2).trans rfl; have hcz23_3 : w20.cell? ⟨gb206, 3, none⟩ = some (.bool false) := (blk_cell BK206.out 3).trans rfl; have hcz23_4 : w20.cell? ⟨gb206, 4, none⟩ = some (.bool false) := (blk_cell BK206.out 4).trans rfl; have hcz23_5 : w20.cell? ⟨gb206, 5, none⟩ = some (.bool false) := (blk_cell BK206.out 5).trans rfl; have hfz23_0 := blk_frozen BK206.out 0; have hfz23_1 := blk_frozen BK206.out 1; have hfz23_2 := blk_frozen BK206.out 2; have hfz23_3 := blk_frozen BK206.out 3; have hfz23_4 := blk_frozen BK206.out 4; have hfz23_5 := blk_frozen BK206.out 5; have hnb24 := NB204_205.out; have hnc24 := NB205_204.out; have hcz25_0 : w20.cell? ⟨gb204, 0, none⟩ = some (.string a0_0) := (blk_cell BK204.out 0).trans rfl; have hcz25_1 : w20.cell? ⟨gb204, 1, none⟩ = some (.slice A0_1 l0_1.length c0_1) := (blk_cell BK204.out 1).trans rfl; have hfz25_0 := blk_frozen BK204.out 0; have hfz25_1 := blk_frozen BK204.out 1) | ((with_reducible refine gate_callee (f := 10) rfl ?_); refine goesL_ (some 13) rfl rfl Try.func10 (by kernel_rfl) rfl #[.agg #[.string a0_0, .slice A0_1 l0_1.length c0_1]] rfl (by (try simp only [List.map_toArray, List.map_cons, List.map_nil]); first | done | rfl | (simp only [List.length_drop, List.length_take]; rfl)) ?_; (with_reducible refine (row_Keys.calls k a0_0 _ _ l0_1 t207 _ ?side1 ?side2 A3.out).mono ?_); (case side1 => exact Kd.C_below HR0_1.out (bw_ HB.out)); (case side2 => exact HC0_1.out); rintro e w26 ⟨v208, rfl, ho0, hb⟩; refine ⟨_, rfl, ?_⟩; have n0_ := Aside0.mk (Kd.R_lower ho0 (below_size (bw_ HB.out))); have n1_ := Aside0.mk (blk_below (g := gb204) (o := .cells #[.string a0_0, .slice A0_1 l0_1.length c0_1] 33 (0, 0)) (by (with_reducible repeat (first | refine blk_drewN ?_ _ | refine blk_drew ?_ | refine blk_alloc ?_ _)); refine blk_far ?_ NB204_206.out _; (with_reducible repeat (first | refine blk_drewN ?_ _ | refine blk_drew ?_ | refine blk_alloc ?_ _)); refine blk_far ?_ NB204_206.out _; (with_reducible repeat (first | refine blk_drewN ?_ _ | refine blk_drew ?_ | refine blk_alloc ?_ _)); refine blk_far ?_ NB204_206.out _; (with_reducible repeat (first | refine blk_drewN ?_ _ | refine blk_drew ?_ | refine blk_alloc ?_ _)); refine blk_far ?_ NB204_206.out _; (with_reducible repeat (first | refine blk_drewN ?_ _ | refine blk_drew ?_ | refine blk_alloc ?_ _)); refine blk_far ?_ NB204_206.out _; (with_reducible repeat (first | refine blk_drewN ?_ _ | refine blk_drew ?_ | refine blk_alloc ?_ _)); refine blk_far ?_ NB204_206.out _; (with_reducible repeat (first | refine blk_drewN ?_ _ | refine blk_drew ?_ | refine blk_alloc ?_ _)); exact BK204.out) hb); have n2_ := Aside0.mk (blk_below (g := gb205) (o := .cells #[.string (⟨#[]⟩ : ByteArray), .string (⟨#[]⟩ : ByteArray), .bool false, .bool false, .bool false, .bool false] 35 (0, 0)) (by (with_reducible repeat (first | refine blk_drewN ?_ _ | refine blk_drew ?_ | refine blk_alloc ?_ _)); refine blk_far ?_ NB205_206.out _; (with_reducible repeat (first | refine blk_drewN ?_ _ | refine blk_drew ?_ | refine blk_alloc ?_ _)); refine blk_far ?_ NB205_206.out _; (with_reducible repeat (first | refine blk_drewN ?_ _ | refine blk_drew ?_ | refine blk_alloc ?_ _)); refine blk_far ?_ NB205_206.out _; (with_reducible repeat (first | refine blk_drewN ?_ _ | refine blk_drew ?_ | refine blk_alloc ?_ _)); refine blk_far ?_ NB205_206.out _; (with_reducible repeat (first | refine blk_drewN ?_ _ | refine blk_drew ?_ | refine blk_alloc ?_ _)); refine blk_far ?_ NB205_206.out _; (with_reducible repeat (first | refine blk_drewN ?_ _ | refine blk_drew ?_ | refine blk_alloc ?_ _)); refine blk_far ?_ NB205_206.out _; (with_reducible repeat (first | refine blk_drewN ?_ _ | refine blk_drew ?_ | refine blk_alloc ?_ _)); exact BK205.out) hb); have n3_ := Aside0.mk (blk_below (g := gb206) (o := .cells #[.string (⟨#[]⟩ : ByteArray), .string (⟨#[]⟩ : ByteArray), .bool false, .bool false, .bool false, .bool false] 35 (0, 0)) (by (with_reducible repeat (first | refine blk_drewN ?_ _ | refine blk_drew ?_ | refine blk_alloc ?_ _)); refine blk_put (cs := #[.string (⟨#[]⟩ : ByteArray), .string (⟨#[]⟩ : ByteArray), .bool false, .bool false, .bool false, .bool false]) ?_ 5 _ rfl; (with_reducible repeat (first | refine blk_drewN ?_ _ | refine blk_drew ?_ | refine blk_alloc ?_ _)); refine blk_put (cs := #[.string (⟨#[]⟩ : ByteArray), .string (⟨#[]⟩ : ByteArray), .bool false, .bool false, .bool false, .bool false]) ?_ 4 _ rfl; (with_reducible repeat (first | refine blk_drewN ?_ _ | refine blk_drew ?_ | refine blk_alloc ?_ _)); refine blk_put (cs := #[.string (⟨#[]⟩ : ByteArray), .string (⟨#[]⟩ : ByteArray), .bool false, .bool false, .bool false, .bool false]) ?_ 3 _ rfl; (with_reducible repeat (first | refine blk_drewN ?_ _ | refine blk_drew ?_ | refine blk_alloc ?_ _)); refine blk_put (cs := #[.string (⟨#[]⟩ : ByteArray), .string (⟨#[]⟩ : ByteArray), .bool false, .bool false, .bool false, .bool false]) ?_ 2 _ rfl; (with_reducible repeat (first | refine blk_drewN ?_ _ | refine blk_drew ?_ | refine blk_alloc ?_ _)); refine blk_put (cs := #[.string (⟨#[]⟩ : ByteArray), .string (⟨#[]⟩ : ByteArray), .bool false, .bool false, .bool false, .bool false]) ?_ 1 _ rfl; (with_reducible repeat (first | refine blk_drewN ?_ _ | refine blk_drew ?_ | refine blk_alloc ?_ _)); refine blk_put (cs := #[.string (⟨#[]⟩ : ByteArray), .string (⟨#[]⟩ : ByteArray), .bool false, .bool false, .bool false, .bool false]) ?_ 0 _ rfl; (with_reducible repeat (first | refine blk_drewN ?_ _ | refine blk_drew ?_ | refine blk_alloc ?_ _)); exact BK206.out) hb); have n4_ := Aside0.mk (below_step (bw_ HB.out) hb); clear BK204; clear BK205; clear BK206; clear HB; have HO209 := n0_; have BK204 := n1_; have BK205 := n2_; have BK206 := n3_; have HB := n4_; clear n0_ n1_ n2_ n3_ n4_; (try clear hb); (try clear hb2); (try clear hk); (try clear hi); (try clear ho0); obtain ⟨Ao27, co27, eo27⟩ := Kd.R_slice HO209.out; subst eo27) | ((with_reducible refine gate_callee (f := 11) rfl ?_); refine goesL_ (some 19) rfl rfl Try.func11 (by kernel_rfl) rfl #[.slice A1 l1.length c1] rfl (by (try simp only [List.map_toArray, List.map_cons, List.map_nil]); first | done | rfl | (simp only [List.length_drop, List.length_take]; rfl)) ?_; (with_reducible refine (plan_Parts.calls k (fun k_ => k_ < w.heap.size) _ _ l1 t210 _ ?side1 A17.out).mono ?_); (case side1 => exact Kd.V_mk HC1.out (Kd.F_below (Kd.C_F k43_heap HR1.out) (bw_ HB.out))); rintro e w28 ⟨v211, rfl, ho0, hb⟩; refine ⟨_, rfl, ?_⟩; have n0_ := Aside0.mk (Kd.R_below (kR_ HO209.out) hb); have n1_ := Aside0.mk (Kd.N_lower (Kd.N_mono (ok' := fun k_ => some k_ ≠ (.slice Ao27 t207.length co27 : Value).ownBlock ∧ k_ ≠ gb204 ∧ k_ ≠ gb205 ∧ k_ ≠ gb206) ho0 (fun k_ hk_ => ⟨Or.elim hk_ (fun hs_ => fun e_ => Nat.not_le.2 hs_ (Kd.R_base HO209.out k_ e_.symm)) (fun hn_ => (Kd.fresh' (Kd.R_lt (kR_ HO209.out)) k_ hn_)), Or.elim hk_ (fun hs_ => fun e_ => Nat.not_le.2 hs_ (by rw [e_]; exact GW204.out)) (fun hn_ => (Kd.freshB (g := gb204) (o := .cells #[.string a0_0, .slice A0_1 l0_1.length c0_1] 33 (0, 0)) (bl_ BK204.out) k_ hn_)), Or.elim hk_ (fun hs_ => fun e_ => Nat.not_le.2 hs_ (by rw [e_]; exact GW205.out)) (fun hn_ => (Kd.freshB (g := gb205) (o := .cells #[.string (⟨#[]⟩ : ByteArray), .string (⟨#[]⟩ : ByteArray), .bool false, .bool false, .bool false, .bool false] 35 (0, 0)) (bl_ BK205.out) k_ hn_)), Or.elim hk_ (fun hs_ => fun e_ => Nat.not_le.2 hs_ (by rw [e_]; exact GW206.out)) (fun hn_ => (Kd.freshB (g := gb206) (o := .cells #[.string (⟨#[]⟩ : ByteArray), .string (⟨#[]⟩ : ByteArray), .bool false, .bool false, .bool false, .bool false] 35 (0, 0)) (bl_ BK206.out) k_ hn_))⟩)) (below_size (bw_ HB.out))); have n2_ := Aside0.mk (blk_below (g := gb204) (o := .cells #[.string a0_0, .slice A0_1 l0_1.length c0_1] 33 (0, 0)) (bl_ BK204.out) hb); have n3_ := Aside0.mk (blk_below (g := gb205) (o := .cells #[.string (⟨#[]⟩ : ByteArray), .string (⟨#[]⟩ : ByteArray), .bool false, .bool false, .bool false, .bool false] 35 (0, 0)) (bl_ BK205.out) hb); have n4_ := Aside0.mk (blk_below (g := gb206) (o := .cells #[.string (⟨#[]⟩ : ByteArray), .string (⟨#[]⟩ : ByteArray), .bool false, .bool false, .bool false, .bool false] 35 (0, 0)) (bl_ BK206.out) hb); have n5_ := Aside0.mk (below_step (bw_ HB.out) hb); clear HO209; clear BK204; clear BK205; clear BK206; clear HB; have HO209 := n0_; have HO212 := n1_; have BK204 := n2_; have BK205 := n3_; have BK206 := n4_; have HB := n5_; clear n0_ n1_ n2_ n3_ n4_ n5_; (try clear hb); (try clear hb2); (try clear hk); (try clear hi); (try clear ho0); obtain ⟨Ao29, co29, eo29⟩ := Kd.N_slice HO212.out; subst eo29))
  go_loopg [21] k (fun kq v21 w' => ∃ (x21_1 : Int) (x207000_1 : ByteArray) (x207001_1 : ByteArray) (x207002_1 : Bool) (x207003_1 : Bool) (x207004_1 : Bool) (x207005_1 : Bool), v21 = .int .i64 x21_1 ∧ Aside0 (plan_Range.l0 kq t207 t210 (t210.length : Int) x21_1 a0_0 l0_1 x207000_1 x207001_1 x207002_1 x207003_1 x207004_1 x207005_1 = some (r1, r2, r3, r4, r5, r6)) ∧ Aside0 (kq ≤ k) ∧ Aside0 (Kd.R (Kd.int .i64) 3 w' w.heap.size (fun _ => True) (.slice Ao27 t207.length co27) t207) ∧ Aside0 (Kd.N k43 43 w' w.heap.size (fun k_ => some k_ ≠ ((.slice Ao27 t207.length co27) : Value).ownBlock ∧ k_ ≠ gb204 ∧ k_ ≠ gb205 ∧ k_ ≠ gb206) (.slice Ao29 t210.length co29) t210) ∧ Aside0 (w'.heap[gb204]? = some (.cells #[.string a0_0, (.slice A0_1 l0_1.length c0_1)] 33 (0, 0))) ∧ Aside0 (w'.heap[gb205]? = some (.cells #[.string (⟨#[]⟩ : ByteArray), .string (⟨#[]⟩ : ByteArray), .bool false, .bool false, .bool false, .bool false] 35 (0, 0))) ∧ Aside0 (w'.heap[gb206]? = some (.cells #[.string x207000_1, .string x207001_1, .bool x207002_1, .bool x207003_1, .bool x207004_1, .bool x207005_1] 35 (0, 0))) ∧ Aside0 (Below w.heap.size w w'))
  case atStart => exact ⟨(0), ((⟨#[]⟩ : ByteArray)), ((⟨#[]⟩ : ByteArray)), (false), (false), (false), (false), (by first | rfl | (simp; done) | (simp [*]; done) | (simp [bne]; done)), H', ⟨Nat.le_refl _⟩, ⟨by (with_reducible repeat (first | apply Kd.R_alloc | apply Kd.R_drewN | apply Kd.R_drew)); exact HO209.out⟩, ⟨by (with_reducible repeat (first | apply Kd.N_alloc | apply Kd.N_drewN | apply Kd.N_drew)); exact HO212.out⟩, ⟨by (with_reducible repeat (first | refine blk_drewN ?_ _ | refine blk_drew ?_ | refine blk_alloc ?_ _)); exact BK204.out⟩, ⟨by (with_reducible repeat (first | refine blk_drewN ?_ _ | refine blk_drew ?_ | refine blk_alloc ?_ _)); exact BK205.out⟩, ⟨by (with_reducible repeat (first | refine blk_drewN ?_ _ | refine blk_drew ?_ | refine blk_alloc ?_ _)); exact BK206.out⟩, ⟨bw_ HB.out⟩⟩
  case round =>
    clear H'
    (try clear c1); (try clear c2); (try clear p2); (try clear c4); (try clear c4b0); (try clear c4b1); (try clear c4b2); (try clear c6); (try clear c8); (try clear c9); (try clear c10); (try clear c11)
    (try clear c21); (try clear c22); (try clear c24); (try clear hcz10_0); (try clear hcz10_1); (try clear hcz10_2); (try clear hcz10_3); (try clear hcz10_4); (try clear hcz10_5); (try clear hcz12_0); (try clear hcz12_1); (try clear hcz15_0)
    (try clear hcz15_1); (try clear hcz15_2); (try clear hcz15_3); (try clear hcz15_4); (try clear hcz15_5); (try clear hcz16_0); (try clear hcz16_1); (try clear hcz16_2); (try clear hcz16_3); (try clear hcz16_4); (try clear hcz16_5); (try clear hcz23_0)
    (try clear hcz23_1); (try clear hcz23_2); (try clear hcz23_3); (try clear hcz23_4); (try clear hcz23_5); (try clear hcz25_0); (try clear hcz25_1); (try clear hfz10_0); (try clear hfz10_1); (try clear hfz10_2); (try clear hfz10_3); (try clear hfz10_4)
    (try clear hfz10_5); (try clear hfz12_0); (try clear hfz12_1); (try clear hfz15_0); (try clear hfz15_1); (try clear hfz15_2); (try clear hfz15_3); (try clear hfz15_4); (try clear hfz15_5); (try clear hfz16_0); (try clear hfz16_1); (try clear hfz16_2)
    (try clear hfz16_3); (try clear hfz16_4); (try clear hfz16_5); (try clear hfz23_0); (try clear hfz23_1); (try clear hfz23_2); (try clear hfz23_3); (try clear hfz23_4); (try clear hfz23_5); (try clear hfz25_0); (try clear hfz25_1)
    obtain ⟨x21_1, x207000_1, x207001_1, x207002_1, x207003_1, x207004_1, x207005_1, rfl, HA, HK1, HO_6, HO_19, BK204, BK205, BK206, HB⟩ := hrel
    cases gk with
    | zero => exact absurd HA.out (by simp [plan_Range.l0])
    | succ k1 =>
      have H := HA.out
      clear HA
      simp only [plan_Range.l0] at H
      by_cases c30 : x21_1 < (t210.length : Int)
      · rw [if_pos c30] at H
        have c30b0 : decide (x21_1 < (t210.length : Int)) = true := decide_eq_true c30
        clear c30
        have c31 : 0 ≤ x21_1 := Classical.byContradiction fun c31 => by rw [if_neg c31] at H; exact absurd H (by simp)
        rw [if_pos c31] at H
        have c31b0 : decide (0 ≤ x21_1) = true := decide_eq_true c31
        clear c31
        have c32 : x21_1 < (t210.length : Int) := Classical.byContradiction fun c32 => by rw [if_neg c32] at H; exact absurd H (by simp)
        rw [if_pos c32] at H
        have c32b0 : decide (x21_1 < (t210.length : Int)) = true := decide_eq_true c32
        clear c32
        have c33 : 0 < (t207.length : Int) := Classical.byContradiction fun c33 => by rw [if_neg c33] at H; exact absurd H (by simp)
        rw [if_pos c33] at H
        have c33b0 : decide (0 < (t207.length : Int)) = true := decide_eq_true c33
        have c33b1 : decide (0 < t207.length) = true := decide_eq_true (by omega)
        clear c33
        have c34 : 0 ≤ (rd t207 0) := Classical.byContradiction fun c34 => by rw [if_neg c34] at H; exact absurd H (by simp)
        rw [if_pos c34] at H
        have c34b0 : decide (0 ≤ (rd t207 0)) = true := decide_eq_true c34
        clear c34
        have c35 : (rd t207 0) < (l0_1.length : Int) := Classical.byContradiction fun c35 => by rw [if_neg c35] at H; exact absurd H (by simp)
        rw [if_pos c35] at H
        have c35b0 : decide ((rd t207 0) < (l0_1.length : Int)) = true := decide_eq_true c35
        clear c35
        replace H := Option.bind_eq_some_iff.mp H
        obtain ⟨⟨t218, t219, t220, t221, t222, t223, t224⟩, A360, H⟩ := H
        (try dsimp only at H)
        have A36 := Aside0.mk A360
        clear A360
        by_cases c37 : t224 = true
        · subst c37
          rw [if_pos rfl] at H
          replace H := Option.bind_eq_some_iff.mp H
          obtain ⟨⟨t226, t227, t228, t229, t230, t231⟩, A380, H⟩ := H
          (try dsimp only at H)
          have A38 := Aside0.mk A380
          clear A380
          have H' := Aside0.mk H
          clear H
          have p213 : 0 ≤ (x21_1 : Int) := of_decide_eq_true (by first | (with_reducible assumption) | assumption)
          have q213 : x21_1 < (t210.length : Int) := of_decide_eq_true (by first | (with_reducible assumption) | assumption)
          obtain ⟨ad213, A213_7, c213_7, e213, hx213_0, hx213_1, hx213_2, hx213_3, hx213_4, hx213_5, hx213_6, hx213_7, hl213_7, hi213_7⟩ := at_T43 (Kd.N_reads' HO_19.out).2.2 x21_1 p213 q213
          cases e213
          obtain ⟨ce213, hce213, hMe213, hcc213⟩ := Kd.N_get HO_19.out z43 x21_1 p213 (by first | exact q213 | exact of_decide_eq_true (by first | (with_reducible assumption) | assumption) | (have e_ := (Kd.N_reads' HO_19.out).1; omega))
          obtain ⟨ua213_7, uc213_7, rfl, ul213_7, ge213_7⟩ := k43_openF hMe213
          have hv213_7 := hcc213 7 _ rfl
          rw [add_field _ _ 7 (by omega)] at hv213_7
          replace hv213_7 := Option.some.inj (hv213_7.symm.trans hx213_7)
          injection hv213_7 with hva_ hvn_ hvc_
          rw [hva_] at ge213_7
          rw [hvc_] at ul213_7
          have HL213_7 := Aside0.mk (show Kd.V k43 43 _ w.heap.size _ _ ((rd_T43 t210 x21_1).f4) from Kd.V_mk ul213_7 ge213_7)
          clear hva_ hvn_ hvc_ ge213_7 ul213_7
          clear hcc213 hce213
          have HR213_7 := Aside0.mk hi213_7
          have HC213_7 := Aside0.mk hl213_7
          clear hi213_7 hl213_7
          replace p213 := eq_true p213
          replace q213 := eq_true q213
          try go_wp2_with (first | ((with_reducible refine gate_dst (N := 8) rfl ?_); refine box_event ?hg (N := 8) ?hd (cs := #[.string (⟨#[]⟩ : ByteArray), .int .i64 0, .int .i64 0, .int .i64 0, .int .i64 0, .string (⟨#[]⟩ : ByteArray), .bool false, .slice none 0 0]) (t := 43) ?hr ?_; (case hd => rfl); (case hg => rfl); (case hr => first | (go_simp; done) | (go_simp; rfl)); intro gb214 hg w39 hbox hb; have n0_ := Aside0.mk (Kd.R_below (kR_ HO_6.out) hb); have n1_ := Aside0.mk (Kd.N_below (Kd.N_elderB (kN_ HO_19.out) gb214 (Nat.le_of_eq hg.symm)) hb); have n2_ := Aside0.mk (Kd.V_below (Kd.V_elderB (kV_ HL213_7.out) gb214 (Nat.le_of_eq hg.symm)) hb); have n3_ := Aside0.mk (blk_below (g := gb204) (o := .cells #[.string a0_0, .slice A0_1 l0_1.length c0_1] 33 (0, 0)) (bl_ BK204.out) hb); have n4_ := Aside0.mk (blk_below (g := gb205) (o := .cells #[.string (⟨#[]⟩ : ByteArray), .string (⟨#[]⟩ : ByteArray), .bool false, .bool false, .bool false, .bool false] 35 (0, 0)) (bl_ BK205.out) hb); have n5_ := Aside0.mk (blk_below (g := gb206) (o := .cells #[.string x207000_1, .string x207001_1, .bool x207002_1, .bool x207003_1, .bool x207004_1, .bool x207005_1] 35 (0, 0)) (bl_ BK206.out) hb); have n6_ := Aside0.mk (Kd.C_below (by repeat (first | (with_reducible exact HR213_7.out) | (with_reducible refine Kd.C_alloc ?_ _) | (with_reducible refine Kd.C_drewN ?_ _) | (with_reducible refine Kd.C_drew ?_) | exact HR213_7.out)) hb); have n7_ := Aside0.mk (below_step (bw_ HB.out) hb); have n8_ := Aside0.mk (hbox); have n9_ := Aside0.mk ((by rw [hg]; exact (below_size (bw_ HB.out)) : w.heap.size ≤ gb214)); have n10_ := Aside0.mk ((by rw [hg]; exact (below_size (bw_ HB.out)) : w.heap.size ≤ gb214)); have n11_ := Aside0.mk ((by rw [hg]; exact Nat.ne_of_lt (blk_lt (g := gb204) (o := .cells #[.string a0_0, .slice A0_1 l0_1.length c0_1] 33 (0, 0)) (bl_ BK204.out)) : gb204 ≠ gb214)); have n12_ := Aside0.mk ((by rw [hg]; exact Nat.ne_of_gt (blk_lt (g := gb204) (o := .cells #[.string a0_0, .slice A0_1 l0_1.length c0_1] 33 (0, 0)) (bl_ BK204.out)) : gb214 ≠ gb204)); have n13_ := Aside0.mk ((by rw [hg]; exact Nat.ne_of_lt (blk_lt (g := gb205) (o := .cells #[.string (⟨#[]⟩ : ByteArray), .string (⟨#[]⟩ : ByteArray), .bool false, .bool false, .bool false, .bool false] 35 (0, 0)) (bl_ BK205.out)) : gb205 ≠ gb214)); have n14_ := Aside0.mk ((by rw [hg]; exact Nat.ne_of_gt (blk_lt (g := gb205) (o := .cells #[.string (⟨#[]⟩ : ByteArray), .string (⟨#[]⟩ : ByteArray), .bool false, .bool false, .bool false, .bool false] 35 (0, 0)) (bl_ BK205.out)) : gb214 ≠ gb205)); have n15_ := Aside0.mk ((by rw [hg]; exact Nat.ne_of_lt (blk_lt (g := gb206) (o := .cells #[.string x207000_1, .string x207001_1, .bool x207002_1, .bool x207003_1, .bool x207004_1, .bool x207005_1] 35 (0, 0)) (bl_ BK206.out)) : gb206 ≠ gb214)); have n16_ := Aside0.mk ((by rw [hg]; exact Nat.ne_of_gt (blk_lt (g := gb206) (o := .cells #[.string x207000_1, .string x207001_1, .bool x207002_1, .bool x207003_1, .bool x207004_1, .bool x207005_1] 35 (0, 0)) (bl_ BK206.out)) : gb214 ≠ gb206)); clear HO_6; clear HO_19; clear HL213_7; clear BK204; clear BK205; clear BK206; clear HR213_7; clear HB; have HO_6 := n0_; have HO_19 := n1_; have HL213_7 := n2_; have BK204 := n3_; have BK205 := n4_; have BK206 := n5_; have HR213_7 := n6_; have HB := n7_; have BK214 := n8_; have GW214 := n9_; have GE214 := n10_; have NB204_214 := n11_; have NB214_204 := n12_; have NB205_214 := n13_; have NB214_205 := n14_; have NB206_214 := n15_; have NB214_206 := n16_; clear n0_ n1_ n2_ n3_ n4_ n5_ n6_ n7_ n8_ n9_ n10_ n11_ n12_ n13_ n14_ n15_ n16_; clear hb hbox hg; have hnb40 := NB214_204.out; have hnc40 := NB204_214.out; have hnb41 := NB214_205.out; have hnc41 := NB205_214.out; have hnb42 := NB214_206.out; have hnc42 := NB206_214.out; have hcz43_0 : w39.cell? ⟨gb214, 0, none⟩ = some (.string (⟨#[]⟩ : ByteArray)) := (blk_cell BK214.out 0).trans rfl; have hcz43_1 : w39.cell? ⟨gb214, 1, none⟩ = some (.int .i64 0) := (blk_cell BK214.out 1).trans rfl; have hcz43_2 : w39.cell? ⟨gb214, 2, none⟩ = some (.int .i64 0) := (blk_cell BK214.out 2).trans rfl; have hcz43_3 : w39.cell? ⟨gb214, 3, none⟩ = some (.int .i64 0) := (blk_cell BK214.out 3).trans rfl; have hcz43_4 : w39.cell? ⟨gb214, 4, none⟩ = some (.int .i64 0) := (blk_cell BK214.out 4).trans rfl; have hcz43_5 : w39.cell? ⟨gb214, 5, none⟩ = some (.string (⟨#[]⟩ : ByteArray)) := (blk_cell BK214.out 5).trans rfl; have hcz43_6 : w39.cell? ⟨gb214, 6, none⟩ = some (.bool false) := (blk_cell BK214.out 6).trans rfl; have hcz43_7 : w39.cell? ⟨gb214, 7, none⟩ = some (.slice none 0 0) := (blk_cell BK214.out 7).trans rfl; have hfz43_0 := blk_frozen BK214.out 0; have hfz43_1 := blk_frozen BK214.out 1; have hfz43_2 := blk_frozen BK214.out 2; have hfz43_3 := blk_frozen BK214.out 3; have hfz43_4 := blk_frozen BK214.out 4; have hfz43_5 := blk_frozen BK214.out 5; have hfz43_6 := blk_frozen BK214.out 6; have hfz43_7 := blk_frozen BK214.out 7))
          have n0_ : Aside0 (Kd.R (Kd.int .i64) 3 ((((((((w39.setCell ⟨gb214, 0, none⟩ (.string ((rd_T43 t210 x21_1).f0))).setCell ⟨gb214, 1, none⟩ (.int .i64 ((rd_T43 t210 x21_1).f1))).setCell ⟨gb214, 2, none⟩ (.int .i64 ((rd_T43 t210 x21_1).f2))).setCell ⟨gb214, 3, none⟩ (.int .i64 ((rd_T43 t210 x21_1).f3.f0))).setCell ⟨gb214, 4, none⟩ (.int .i64 ((rd_T43 t210 x21_1).f3.f1))).setCell ⟨gb214, 5, none⟩ (.string ((rd_T43 t210 x21_1).f3.f2))).setCell ⟨gb214, 6, none⟩ (.bool ((rd_T43 t210 x21_1).f3.f3))).setCell ⟨gb214, 7, none⟩ (.slice A213_7 ((rd_T43 t210 x21_1).f4).length c213_7)) w.heap.size (fun _ => True) (.slice Ao27 t207.length co27) t207) := ⟨by (with_reducible repeat (first | apply Kd.R_alloc | apply Kd.R_drewN | apply Kd.R_drew)); exact Kd.R_mono (Kd.R_far (p := ⟨gb214, 7, none⟩) (Kd.R_far (p := ⟨gb214, 6, none⟩) (Kd.R_far (p := ⟨gb214, 5, none⟩) (Kd.R_far (p := ⟨gb214, 4, none⟩) (Kd.R_far (p := ⟨gb214, 3, none⟩) (Kd.R_far (p := ⟨gb214, 2, none⟩) (Kd.R_far (p := ⟨gb214, 1, none⟩) (Kd.R_far (p := ⟨gb214, 0, none⟩) (Kd.R_types HO_6.out BK214.out (by decide)) (fun _ hk => hk.2) (.string ((rd_T43 t210 x21_1).f0))) (fun _ hk => hk.2) (.int .i64 ((rd_T43 t210 x21_1).f1))) (fun _ hk => hk.2) (.int .i64 ((rd_T43 t210 x21_1).f2))) (fun _ hk => hk.2) (.int .i64 ((rd_T43 t210 x21_1).f3.f0))) (fun _ hk => hk.2) (.int .i64 ((rd_T43 t210 x21_1).f3.f1))) (fun _ hk => hk.2) (.string ((rd_T43 t210 x21_1).f3.f2))) (fun _ hk => hk.2) (.bool ((rd_T43 t210 x21_1).f3.f3))) (fun _ hk => hk.2) (.slice A213_7 ((rd_T43 t210 x21_1).f4).length c213_7)) (fun _ hk => trivial)⟩
          have n1_ : Aside0 (Kd.N k43 43 ((((((((w39.setCell ⟨gb214, 0, none⟩ (.string ((rd_T43 t210 x21_1).f0))).setCell ⟨gb214, 1, none⟩ (.int .i64 ((rd_T43 t210 x21_1).f1))).setCell ⟨gb214, 2, none⟩ (.int .i64 ((rd_T43 t210 x21_1).f2))).setCell ⟨gb214, 3, none⟩ (.int .i64 ((rd_T43 t210 x21_1).f3.f0))).setCell ⟨gb214, 4, none⟩ (.int .i64 ((rd_T43 t210 x21_1).f3.f1))).setCell ⟨gb214, 5, none⟩ (.string ((rd_T43 t210 x21_1).f3.f2))).setCell ⟨gb214, 6, none⟩ (.bool ((rd_T43 t210 x21_1).f3.f3))).setCell ⟨gb214, 7, none⟩ (.slice A213_7 ((rd_T43 t210 x21_1).f4).length c213_7)) w.heap.size (fun k_ => some k_ ≠ (.slice Ao27 t207.length co27 : Value).ownBlock ∧ k_ ≠ gb204 ∧ k_ ≠ gb205 ∧ k_ ≠ gb206 ∧ k_ ≠ gb214) (.slice (some ad213) t210.length co29) t210) := ⟨by (with_reducible repeat (first | apply Kd.N_alloc | apply Kd.N_drewN | apply Kd.N_drew)); exact Kd.N_mono (Kd.N_far (p := ⟨gb214, 7, none⟩) (Kd.N_far (p := ⟨gb214, 6, none⟩) (Kd.N_far (p := ⟨gb214, 5, none⟩) (Kd.N_far (p := ⟨gb214, 4, none⟩) (Kd.N_far (p := ⟨gb214, 3, none⟩) (Kd.N_far (p := ⟨gb214, 2, none⟩) (Kd.N_far (p := ⟨gb214, 1, none⟩) (Kd.N_far (p := ⟨gb214, 0, none⟩) (Kd.N_mono HO_19.out (fun k_ hk => (⟨hk, hk.2⟩ : _ ∧ k_ ≠ gb214))) (fun _ hk => hk.2) (.string ((rd_T43 t210 x21_1).f0))) (fun _ hk => hk.2) (.int .i64 ((rd_T43 t210 x21_1).f1))) (fun _ hk => hk.2) (.int .i64 ((rd_T43 t210 x21_1).f2))) (fun _ hk => hk.2) (.int .i64 ((rd_T43 t210 x21_1).f3.f0))) (fun _ hk => hk.2) (.int .i64 ((rd_T43 t210 x21_1).f3.f1))) (fun _ hk => hk.2) (.string ((rd_T43 t210 x21_1).f3.f2))) (fun _ hk => hk.2) (.bool ((rd_T43 t210 x21_1).f3.f3))) (fun _ hk => hk.2) (.slice A213_7 ((rd_T43 t210 x21_1).f4).length c213_7)) (fun _ hk => ⟨hk.1.1.1, ⟨hk.1.1.2.1, ⟨hk.1.1.2.2.1, ⟨hk.1.1.2.2.2, hk.1.2⟩⟩⟩⟩)⟩
          have n2_ : Aside0 (Kd.V k43 43 ((((((((w39.setCell ⟨gb214, 0, none⟩ (.string ((rd_T43 t210 x21_1).f0))).setCell ⟨gb214, 1, none⟩ (.int .i64 ((rd_T43 t210 x21_1).f1))).setCell ⟨gb214, 2, none⟩ (.int .i64 ((rd_T43 t210 x21_1).f2))).setCell ⟨gb214, 3, none⟩ (.int .i64 ((rd_T43 t210 x21_1).f3.f0))).setCell ⟨gb214, 4, none⟩ (.int .i64 ((rd_T43 t210 x21_1).f3.f1))).setCell ⟨gb214, 5, none⟩ (.string ((rd_T43 t210 x21_1).f3.f2))).setCell ⟨gb214, 6, none⟩ (.bool ((rd_T43 t210 x21_1).f3.f3))).setCell ⟨gb214, 7, none⟩ (.slice A213_7 ((rd_T43 t210 x21_1).f4).length c213_7)) w.heap.size (fun k_ => some k_ ≠ (.slice Ao27 t207.length co27 : Value).ownBlock ∧ some k_ ≠ (.slice (some ad213) t210.length co29 : Value).ownBlock ∧ k_ ≠ gb204 ∧ k_ ≠ gb205 ∧ k_ ≠ gb206 ∧ k_ ≠ gb214) (.slice A213_7 ((rd_T43 t210 x21_1).f4).length c213_7) ((rd_T43 t210 x21_1).f4)) := ⟨by (with_reducible repeat (first | apply Kd.V_alloc | apply Kd.V_drewN | apply Kd.V_drew)); exact Kd.V_mono (Kd.V_far (p := ⟨gb214, 7, none⟩) (Kd.V_far (p := ⟨gb214, 6, none⟩) (Kd.V_far (p := ⟨gb214, 5, none⟩) (Kd.V_far (p := ⟨gb214, 4, none⟩) (Kd.V_far (p := ⟨gb214, 3, none⟩) (Kd.V_far (p := ⟨gb214, 2, none⟩) (Kd.V_far (p := ⟨gb214, 1, none⟩) (Kd.V_far (p := ⟨gb214, 0, none⟩) (Kd.V_mono HL213_7.out (fun k_ hk => (⟨hk, hk.2⟩ : _ ∧ k_ ≠ gb214))) (fun _ hk => hk.2) (.string ((rd_T43 t210 x21_1).f0))) (fun _ hk => hk.2) (.int .i64 ((rd_T43 t210 x21_1).f1))) (fun _ hk => hk.2) (.int .i64 ((rd_T43 t210 x21_1).f2))) (fun _ hk => hk.2) (.int .i64 ((rd_T43 t210 x21_1).f3.f0))) (fun _ hk => hk.2) (.int .i64 ((rd_T43 t210 x21_1).f3.f1))) (fun _ hk => hk.2) (.string ((rd_T43 t210 x21_1).f3.f2))) (fun _ hk => hk.2) (.bool ((rd_T43 t210 x21_1).f3.f3))) (fun _ hk => hk.2) (.slice A213_7 ((rd_T43 t210 x21_1).f4).length c213_7)) (fun _ hk => ⟨hk.1.1.1.1, ⟨hk.1.1.2, ⟨hk.1.1.1.2.1, ⟨hk.1.1.1.2.2.1, ⟨hk.1.1.1.2.2.2, hk.1.2⟩⟩⟩⟩⟩)⟩
          have n3_ : Aside0 (((((((((w39.setCell ⟨gb214, 0, none⟩ (.string ((rd_T43 t210 x21_1).f0))).setCell ⟨gb214, 1, none⟩ (.int .i64 ((rd_T43 t210 x21_1).f1))).setCell ⟨gb214, 2, none⟩ (.int .i64 ((rd_T43 t210 x21_1).f2))).setCell ⟨gb214, 3, none⟩ (.int .i64 ((rd_T43 t210 x21_1).f3.f0))).setCell ⟨gb214, 4, none⟩ (.int .i64 ((rd_T43 t210 x21_1).f3.f1))).setCell ⟨gb214, 5, none⟩ (.string ((rd_T43 t210 x21_1).f3.f2))).setCell ⟨gb214, 6, none⟩ (.bool ((rd_T43 t210 x21_1).f3.f3))).setCell ⟨gb214, 7, none⟩ (.slice A213_7 ((rd_T43 t210 x21_1).f4).length c213_7)).heap[gb204]? = some (.cells #[.string a0_0, .slice A0_1 l0_1.length c0_1] 33 (0, 0))) := ⟨by (with_reducible repeat (first | refine blk_drewN ?_ _ | refine blk_drew ?_ | refine blk_alloc ?_ _)); refine blk_far ?_ NB204_214.out _; (with_reducible repeat (first | refine blk_drewN ?_ _ | refine blk_drew ?_ | refine blk_alloc ?_ _)); refine blk_far ?_ NB204_214.out _; (with_reducible repeat (first | refine blk_drewN ?_ _ | refine blk_drew ?_ | refine blk_alloc ?_ _)); refine blk_far ?_ NB204_214.out _; (with_reducible repeat (first | refine blk_drewN ?_ _ | refine blk_drew ?_ | refine blk_alloc ?_ _)); refine blk_far ?_ NB204_214.out _; (with_reducible repeat (first | refine blk_drewN ?_ _ | refine blk_drew ?_ | refine blk_alloc ?_ _)); refine blk_far ?_ NB204_214.out _; (with_reducible repeat (first | refine blk_drewN ?_ _ | refine blk_drew ?_ | refine blk_alloc ?_ _)); refine blk_far ?_ NB204_214.out _; (with_reducible repeat (first | refine blk_drewN ?_ _ | refine blk_drew ?_ | refine blk_alloc ?_ _)); refine blk_far ?_ NB204_214.out _; (with_reducible repeat (first | refine blk_drewN ?_ _ | refine blk_drew ?_ | refine blk_alloc ?_ _)); refine blk_far ?_ NB204_214.out _; (with_reducible repeat (first | refine blk_drewN ?_ _ | refine blk_drew ?_ | refine blk_alloc ?_ _)); exact BK204.out⟩
          have n4_ : Aside0 (((((((((w39.setCell ⟨gb214, 0, none⟩ (.string ((rd_T43 t210 x21_1).f0))).setCell ⟨gb214, 1, none⟩ (.int .i64 ((rd_T43 t210 x21_1).f1))).setCell ⟨gb214, 2, none⟩ (.int .i64 ((rd_T43 t210 x21_1).f2))).setCell ⟨gb214, 3, none⟩ (.int .i64 ((rd_T43 t210 x21_1).f3.f0))).setCell ⟨gb214, 4, none⟩ (.int .i64 ((rd_T43 t210 x21_1).f3.f1))).setCell ⟨gb214, 5, none⟩ (.string ((rd_T43 t210 x21_1).f3.f2))).setCell ⟨gb214, 6, none⟩ (.bool ((rd_T43 t210 x21_1).f3.f3))).setCell ⟨gb214, 7, none⟩ (.slice A213_7 ((rd_T43 t210 x21_1).f4).length c213_7)).heap[gb205]? = some (.cells #[.string (⟨#[]⟩ : ByteArray), .string (⟨#[]⟩ : ByteArray), .bool false, .bool false, .bool false, .bool false] 35 (0, 0))) := ⟨by (with_reducible repeat (first | refine blk_drewN ?_ _ | refine blk_drew ?_ | refine blk_alloc ?_ _)); refine blk_far ?_ NB205_214.out _; (with_reducible repeat (first | refine blk_drewN ?_ _ | refine blk_drew ?_ | refine blk_alloc ?_ _)); refine blk_far ?_ NB205_214.out _; (with_reducible repeat (first | refine blk_drewN ?_ _ | refine blk_drew ?_ | refine blk_alloc ?_ _)); refine blk_far ?_ NB205_214.out _; (with_reducible repeat (first | refine blk_drewN ?_ _ | refine blk_drew ?_ | refine blk_alloc ?_ _)); refine blk_far ?_ NB205_214.out _; (with_reducible repeat (first | refine blk_drewN ?_ _ | refine blk_drew ?_ | refine blk_alloc ?_ _)); refine blk_far ?_ NB205_214.out _; (with_reducible repeat (first | refine blk_drewN ?_ _ | refine blk_drew ?_ | refine blk_alloc ?_ _)); refine blk_far ?_ NB205_214.out _; (with_reducible repeat (first | refine blk_drewN ?_ _ | refine blk_drew ?_ | refine blk_alloc ?_ _)); refine blk_far ?_ NB205_214.out _; (with_reducible repeat (first | refine blk_drewN ?_ _ | refine blk_drew ?_ | refine blk_alloc ?_ _)); refine blk_far ?_ NB205_214.out _; (with_reducible repeat (first | refine blk_drewN ?_ _ | refine blk_drew ?_ | refine blk_alloc ?_ _)); exact BK205.out⟩
          have n5_ : Aside0 (((((((((w39.setCell ⟨gb214, 0, none⟩ (.string ((rd_T43 t210 x21_1).f0))).setCell ⟨gb214, 1, none⟩ (.int .i64 ((rd_T43 t210 x21_1).f1))).setCell ⟨gb214, 2, none⟩ (.int .i64 ((rd_T43 t210 x21_1).f2))).setCell ⟨gb214, 3, none⟩ (.int .i64 ((rd_T43 t210 x21_1).f3.f0))).setCell ⟨gb214, 4, none⟩ (.int .i64 ((rd_T43 t210 x21_1).f3.f1))).setCell ⟨gb214, 5, none⟩ (.string ((rd_T43 t210 x21_1).f3.f2))).setCell ⟨gb214, 6, none⟩ (.bool ((rd_T43 t210 x21_1).f3.f3))).setCell ⟨gb214, 7, none⟩ (.slice A213_7 ((rd_T43 t210 x21_1).f4).length c213_7)).heap[gb206]? = some (.cells #[.string x207000_1, .string x207001_1, .bool x207002_1, .bool x207003_1, .bool x207004_1, .bool x207005_1] 35 (0, 0))) := ⟨by (with_reducible repeat (first | refine blk_drewN ?_ _ | refine blk_drew ?_ | refine blk_alloc ?_ _)); refine blk_far ?_ NB206_214.out _; (with_reducible repeat (first | refine blk_drewN ?_ _ | refine blk_drew ?_ | refine blk_alloc ?_ _)); refine blk_far ?_ NB206_214.out _; (with_reducible repeat (first | refine blk_drewN ?_ _ | refine blk_drew ?_ | refine blk_alloc ?_ _)); refine blk_far ?_ NB206_214.out _; (with_reducible repeat (first | refine blk_drewN ?_ _ | refine blk_drew ?_ | refine blk_alloc ?_ _)); refine blk_far ?_ NB206_214.out _; (with_reducible repeat (first | refine blk_drewN ?_ _ | refine blk_drew ?_ | refine blk_alloc ?_ _)); refine blk_far ?_ NB206_214.out _; (with_reducible repeat (first | refine blk_drewN ?_ _ | refine blk_drew ?_ | refine blk_alloc ?_ _)); refine blk_far ?_ NB206_214.out _; (with_reducible repeat (first | refine blk_drewN ?_ _ | refine blk_drew ?_ | refine blk_alloc ?_ _)); refine blk_far ?_ NB206_214.out _; (with_reducible repeat (first | refine blk_drewN ?_ _ | refine blk_drew ?_ | refine blk_alloc ?_ _)); refine blk_far ?_ NB206_214.out _; (with_reducible repeat (first | refine blk_drewN ?_ _ | refine blk_drew ?_ | refine blk_alloc ?_ _)); exact BK206.out⟩
          have n6_ : Aside0 (((((((((w39.setCell ⟨gb214, 0, none⟩ (.string ((rd_T43 t210 x21_1).f0))).setCell ⟨gb214, 1, none⟩ (.int .i64 ((rd_T43 t210 x21_1).f1))).setCell ⟨gb214, 2, none⟩ (.int .i64 ((rd_T43 t210 x21_1).f2))).setCell ⟨gb214, 3, none⟩ (.int .i64 ((rd_T43 t210 x21_1).f3.f0))).setCell ⟨gb214, 4, none⟩ (.int .i64 ((rd_T43 t210 x21_1).f3.f1))).setCell ⟨gb214, 5, none⟩ (.string ((rd_T43 t210 x21_1).f3.f2))).setCell ⟨gb214, 6, none⟩ (.bool ((rd_T43 t210 x21_1).f3.f3))).setCell ⟨gb214, 7, none⟩ (.slice A213_7 ((rd_T43 t210 x21_1).f4).length c213_7)).heap[gb214]? = some (.cells #[.string ((rd_T43 t210 x21_1).f0), .int .i64 ((rd_T43 t210 x21_1).f1), .int .i64 ((rd_T43 t210 x21_1).f2), .int .i64 ((rd_T43 t210 x21_1).f3.f0), .int .i64 ((rd_T43 t210 x21_1).f3.f1), .string ((rd_T43 t210 x21_1).f3.f2), .bool ((rd_T43 t210 x21_1).f3.f3), .slice A213_7 ((rd_T43 t210 x21_1).f4).length c213_7] 43 (0, 0))) := ⟨by (with_reducible repeat (first | refine blk_drewN ?_ _ | refine blk_drew ?_ | refine blk_alloc ?_ _)); refine blk_put (cs := #[.string ((rd_T43 t210 x21_1).f0), .int .i64 ((rd_T43 t210 x21_1).f1), .int .i64 ((rd_T43 t210 x21_1).f2), .int .i64 ((rd_T43 t210 x21_1).f3.f0), .int .i64 ((rd_T43 t210 x21_1).f3.f1), .string ((rd_T43 t210 x21_1).f3.f2), .bool ((rd_T43 t210 x21_1).f3.f3), .slice none 0 0]) ?_ 7 _ rfl; (with_reducible repeat (first | refine blk_drewN ?_ _ | refine blk_drew ?_ | refine blk_alloc ?_ _)); refine blk_put (cs := #[.string ((rd_T43 t210 x21_1).f0), .int .i64 ((rd_T43 t210 x21_1).f1), .int .i64 ((rd_T43 t210 x21_1).f2), .int .i64 ((rd_T43 t210 x21_1).f3.f0), .int .i64 ((rd_T43 t210 x21_1).f3.f1), .string ((rd_T43 t210 x21_1).f3.f2), .bool false, .slice none 0 0]) ?_ 6 _ rfl; (with_reducible repeat (first | refine blk_drewN ?_ _ | refine blk_drew ?_ | refine blk_alloc ?_ _)); refine blk_put (cs := #[.string ((rd_T43 t210 x21_1).f0), .int .i64 ((rd_T43 t210 x21_1).f1), .int .i64 ((rd_T43 t210 x21_1).f2), .int .i64 ((rd_T43 t210 x21_1).f3.f0), .int .i64 ((rd_T43 t210 x21_1).f3.f1), .string (⟨#[]⟩ : ByteArray), .bool false, .slice none 0 0]) ?_ 5 _ rfl; (with_reducible repeat (first | refine blk_drewN ?_ _ | refine blk_drew ?_ | refine blk_alloc ?_ _)); refine blk_put (cs := #[.string ((rd_T43 t210 x21_1).f0), .int .i64 ((rd_T43 t210 x21_1).f1), .int .i64 ((rd_T43 t210 x21_1).f2), .int .i64 ((rd_T43 t210 x21_1).f3.f0), .int .i64 0, .string (⟨#[]⟩ : ByteArray), .bool false, .slice none 0 0]) ?_ 4 _ rfl; (with_reducible repeat (first | refine blk_drewN ?_ _ | refine blk_drew ?_ | refine blk_alloc ?_ _)); refine blk_put (cs := #[.string ((rd_T43 t210 x21_1).f0), .int .i64 ((rd_T43 t210 x21_1).f1), .int .i64 ((rd_T43 t210 x21_1).f2), .int .i64 0, .int .i64 0, .string (⟨#[]⟩ : ByteArray), .bool false, .slice none 0 0]) ?_ 3 _ rfl; (with_reducible repeat (first | refine blk_drewN ?_ _ | refine blk_drew ?_ | refine blk_alloc ?_ _)); refine blk_put (cs := #[.string ((rd_T43 t210 x21_1).f0), .int .i64 ((rd_T43 t210 x21_1).f1), .int .i64 0, .int .i64 0, .int .i64 0, .string (⟨#[]⟩ : ByteArray), .bool false, .slice none 0 0]) ?_ 2 _ rfl; (with_reducible repeat (first | refine blk_drewN ?_ _ | refine blk_drew ?_ | refine blk_alloc ?_ _)); refine blk_put (cs := #[.string ((rd_T43 t210 x21_1).f0), .int .i64 0, .int .i64 0, .int .i64 0, .int .i64 0, .string (⟨#[]⟩ : ByteArray), .bool false, .slice none 0 0]) ?_ 1 _ rfl; (with_reducible repeat (first | refine blk_drewN ?_ _ | refine blk_drew ?_ | refine blk_alloc ?_ _)); refine blk_put (cs := #[.string (⟨#[]⟩ : ByteArray), .int .i64 0, .int .i64 0, .int .i64 0, .int .i64 0, .string (⟨#[]⟩ : ByteArray), .bool false, .slice none 0 0]) ?_ 0 _ rfl; (with_reducible repeat (first | refine blk_drewN ?_ _ | refine blk_drew ?_ | refine blk_alloc ?_ _)); exact BK214.out⟩
          have n7_ : Aside0 (Below w.heap.size w ((((((((w39.setCell ⟨gb214, 0, none⟩ (.string ((rd_T43 t210 x21_1).f0))).setCell ⟨gb214, 1, none⟩ (.int .i64 ((rd_T43 t210 x21_1).f1))).setCell ⟨gb214, 2, none⟩ (.int .i64 ((rd_T43 t210 x21_1).f2))).setCell ⟨gb214, 3, none⟩ (.int .i64 ((rd_T43 t210 x21_1).f3.f0))).setCell ⟨gb214, 4, none⟩ (.int .i64 ((rd_T43 t210 x21_1).f3.f1))).setCell ⟨gb214, 5, none⟩ (.string ((rd_T43 t210 x21_1).f3.f2))).setCell ⟨gb214, 6, none⟩ (.bool ((rd_T43 t210 x21_1).f3.f3))).setCell ⟨gb214, 7, none⟩ (.slice A213_7 ((rd_T43 t210 x21_1).f4).length c213_7))) := ⟨bw_ HB.out⟩
          (try clear HO_6); (try clear HO_19); (try clear HL213_7); (try clear BK204); (try clear BK205); (try clear BK206); (try clear BK214); (try clear HB)
          generalize ((((((((w39.setCell ⟨gb214, 0, none⟩ (.string ((rd_T43 t210 x21_1).f0))).setCell ⟨gb214, 1, none⟩ (.int .i64 ((rd_T43 t210 x21_1).f1))).setCell ⟨gb214, 2, none⟩ (.int .i64 ((rd_T43 t210 x21_1).f2))).setCell ⟨gb214, 3, none⟩ (.int .i64 ((rd_T43 t210 x21_1).f3.f0))).setCell ⟨gb214, 4, none⟩ (.int .i64 ((rd_T43 t210 x21_1).f3.f1))).setCell ⟨gb214, 5, none⟩ (.string ((rd_T43 t210 x21_1).f3.f2))).setCell ⟨gb214, 6, none⟩ (.bool ((rd_T43 t210 x21_1).f3.f3))).setCell ⟨gb214, 7, none⟩ (.slice A213_7 ((rd_T43 t210 x21_1).f4).length c213_7)) = w44 at n0_ n1_ n2_ n3_ n4_ n5_ n6_ n7_ ⊢
          have HO_6 := n0_
          have HO_19 := n1_
          have HL213_7 := n2_
          have BK204 := n3_
          have BK205 := n4_
          have BK206 := n5_
          have BK214 := n6_
          have HB := n7_
          clear n0_ n1_ n2_ n3_ n4_ n5_ n6_ n7_
          have n0_ := Aside0.mk (Kd.R_drew HO_6.out)
          have n1_ := Aside0.mk (Kd.N_drew HO_19.out)
          have n2_ := Aside0.mk (Kd.V_drew HL213_7.out)
          have n3_ := Aside0.mk (blk_drew BK204.out)
          have n4_ := Aside0.mk (blk_drew BK205.out)
          have n5_ := Aside0.mk (blk_drew BK206.out)
          have n6_ := Aside0.mk (blk_drew BK214.out)
          have n7_ := Aside0.mk (below_drew1 HB.out)
          clear HO_6
          clear HO_19
          clear HL213_7
          clear BK204
          clear BK205
          clear BK206
          clear BK214
          clear HB
          have HO_6 := n0_
          have HO_19 := n1_
          have HL213_7 := n2_
          have BK204 := n3_
          have BK205 := n4_
          have BK206 := n5_
          have BK214 := n6_
          have HB := n7_
          clear n0_ n1_ n2_ n3_ n4_ n5_ n6_ n7_
          have nK_ : Aside0 (Kd.V k43 43 w44.drew w.heap.size (fun k_ => some k_ ≠ (.slice (some ad213) t210.length co29 : Value).ownBlock ∧ some k_ ≠ (.slice Ao27 t207.length co27 : Value).ownBlock ∧ k_ ≠ gb204 ∧ k_ ≠ gb205 ∧ k_ ≠ gb206 ∧ k_ ≠ gb214) (.slice A213_7 ((rd_T43 t210 x21_1).f4).length c213_7) ((rd_T43 t210 x21_1).f4)) := ⟨by (with_reducible repeat (first | apply Kd.V_alloc | apply Kd.V_drewN | apply Kd.V_drew)); exact Kd.V_mono HL213_7.out (fun _ hk => ⟨hk.2.1, ⟨hk.1, ⟨hk.2.2.1, ⟨hk.2.2.2.1, ⟨hk.2.2.2.2.1, hk.2.2.2.2.2⟩⟩⟩⟩⟩)⟩
          clear HL213_7
          have HL213_7 := nK_
          clear nK_
          have p215 : 0 ≤ (0 : Int) := (by omega)
          have q215 : 0 < (t207.length : Int) := of_decide_eq_true (by first | (with_reducible assumption) | assumption)
          obtain ⟨ad215, e215, hx215_0⟩ := Kd.at_int (Kd.R_reads' HO_6.out).2.2 0 p215 q215
          cases e215
          have qi215 : (0 < t207.length) = True := eq_true (by omega)
          (try rw [show ((0 : Int)).toNat = 0 from rfl] at hx215_0)
          (try rw [Addr.add_zero'] at hx215_0)
          replace p215 := eq_true p215
          replace q215 := eq_true q215
          have p216 : 0 ≤ (0 : Int) := (by omega)
          have q216 : 0 < (t207.length : Int) := of_decide_eq_true (by first | (with_reducible assumption) | assumption)
          obtain ⟨ad216, e216, hx216_0⟩ := Kd.at_int (Kd.R_reads' HO_6.out).2.2 0 p216 q216
          obtain rfl : ad215 = ad216 := (by injection e216)
          have qi216 : (0 < t207.length) = True := eq_true (by omega)
          (try rw [show ((0 : Int)).toNat = 0 from rfl] at hx216_0)
          (try rw [Addr.add_zero'] at hx216_0)
          replace p216 := eq_true p216
          replace q216 := eq_true q216
          have p217 : 0 ≤ ((rd t207 0) : Int) := of_decide_eq_true (by first | (with_reducible assumption) | assumption)
          have q217 : (rd t207 0) < (l0_1.length : Int) := of_decide_eq_true (by first | (with_reducible assumption) | assumption)
          obtain ⟨ad217, e217, hx217_0, hx217_1, hx217_2, hx217_3⟩ := at_T30 HR0_1.out (rd t207 0) p217 q217
          have hw217_3 := hx217_3
          have hw217_2 := hx217_2
          have hw217_1 := hx217_1
          have hw217_0 := hx217_0
          cases e217
          replace hx217_0 := (HB.out.cell (World.block_lt_of_cell? w _ hx217_0)).trans hx217_0
          replace hx217_1 := (HB.out.cell (World.block_lt_of_cell? w _ hx217_1)).trans hx217_1
          replace hx217_2 := (HB.out.cell (World.block_lt_of_cell? w _ hx217_2)).trans hx217_2
          replace hx217_3 := (HB.out.cell (World.block_lt_of_cell? w _ hx217_3)).trans hx217_3
          replace p217 := eq_true p217
          replace q217 := eq_true q217
          refine start_ (n := 19) (S := fun w' => True) (ds := []) #[false, false, false, false, false, false, false, false, false, false, false, false, false, false, false, false, false, false, false] (by kernel_rfl) rfl rfl trivial (fun hHeld => ?_); refine with_tabW plan_Range.tab8 plan_Range.bits8 (fun HT_ HW_ => ?_)
          generalize w44.drew = w45 at HO_6 HO_19 HL213_7 BK204 BK205 BK206 BK214 HB hx215_0 hx216_0 hx217_0 hx217_1 hx217_2 hx217_3 hHeld ⊢
          refine pure_ (i := 1) (N := some 27) (v := ?_) (a' := ?_) #[false, true, false, false, false, false, false, false, false, false, false, false, false, false, false, false, false, false, false] rfl rfl (any_of HT_.out (by kernel_rfl)) (fun _ _ _ h => h) (Or.inl ⟨by rfl, ?_⟩) ?_ ?_
          rotate_left
          · intro w'
            go_simp
            with_reducible rfl
          rotate_left
          · simp only [Act.put, List.setIfInBounds_toArray, List.set_cons_zero, List.set_cons_succ, i64_w, i32_w]
            rfl
          refine pure_ (i := 4) (N := some 30) (v := ?_) (a' := ?_) #[false, true, false, false, true, false, false, false, false, false, false, false, false, false, false, false, false, false, false] rfl rfl (any_of HT_.out (by kernel_rfl)) (fun _ _ _ h => h) (Or.inl ⟨by rfl, ?_⟩) ?_ ?_
          rotate_left
          · intro w'
            go_simp
            with_reducible rfl
          rotate_left
          · simp only [Act.put, List.setIfInBounds_toArray, List.set_cons_zero, List.set_cons_succ, i64_w, i32_w]
            rfl
          refine pure_ (i := 6) (N := some 32) (v := ?_) (a' := ?_) #[false, true, false, false, true, false, true, false, false, false, false, false, false, false, false, false, false, false, false] rfl rfl (any_of HT_.out (by kernel_rfl)) (fun _ _ _ h => h) (Or.inl ⟨by rfl, ?_⟩) ?_ ?_
          rotate_left
          · intro w'
            go_simp
            with_reducible rfl
          rotate_left
          · simp only [Act.put, List.setIfInBounds_toArray, List.set_cons_zero, List.set_cons_succ, i64_w, i32_w]
            rfl
          refine inv_at [0, 2, 3, 5, 7, 8, 9, 10, 11, 12, 13, 14, 15, 16, 17, 18] (fun a0_ b a w' => ∃ (gb225 : Nat) (m16_ : Value), a = putSel a0_ b [(0, 26, .agg #[.string ((rd_T43 t210 x21_1).f0), .int .i64 ((rd_T43 t210 x21_1).f1), .int .i64 ((rd_T43 t210 x21_1).f2), .int .i64 ((rd_T43 t210 x21_1).f3.f0), .int .i64 ((rd_T43 t210 x21_1).f3.f1), .string ((rd_T43 t210 x21_1).f3.f2), .bool ((rd_T43 t210 x21_1).f3.f3), .slice A213_7 ((rd_T43 t210 x21_1).f4).length c213_7]), (2, 28, .pointer (some ad215)), (3, 29, .int .i64 (rd t207 0)), (5, 31, .slice (some ad217) l0_1.length c0_1), (7, 33, .pointer (some ad215)), (8, 34, .int .i64 (rd t207 0)), (9, 35, .pointer (some (ad217.add (((rd t207 0)).toNat * 4)))), (10, 36, .pointer (some ⟨(ad217.add (((rd t207 0)).toNat * 4)).block, (ad217.add (((rd t207 0)).toNat * 4)).off + 1, none⟩)), (11, 37, .int .i64 ((rd_T30 l0_1 (rd t207 0)).f1)), (12, 38, .tuple #[.agg #[.string t218, .string t219, .bool t220, .bool t221, .bool t222, .bool t223], .bool true]), (13, 25, .tuple #[.agg #[.string t218, .string t219, .bool t220, .bool t221, .bool t222, .bool t223], .bool true]), (14, 39, .agg #[.string t218, .string t219, .bool t220, .bool t221, .bool t222, .bool t223]), (15, 40, .bool true), (16, 9, m16_), (18, 10, .bool true)] ∧ (Kd.V k43 43 w' w.heap.size (fun k_ => some k_ ≠ (.slice (some ad213) t210.length co29 : Value).ownBlock ∧ some k_ ≠ (.slice (some ad215) t207.length co27 : Value).ownBlock ∧ k_ ≠ gb204 ∧ k_ ≠ gb205 ∧ k_ ≠ gb206 ∧ k_ ≠ gb214) (.slice A213_7 ((rd_T43 t210 x21_1).f4).length c213_7) ((rd_T43 t210 x21_1).f4)) ∧ (Kd.N k43 43 w' w.heap.size (fun k_ => some k_ ≠ (.slice (some ad215) t207.length co27 : Value).ownBlock ∧ k_ ≠ gb204 ∧ k_ ≠ gb205 ∧ k_ ≠ gb206 ∧ k_ ≠ gb214) (.slice (some ad213) t210.length co29) t210) ∧ (Kd.R (Kd.int .i64) 3 w' w.heap.size (fun _ => True) (.slice (some ad215) t207.length co27) t207) ∧ (w'.heap[gb204]? = some (.cells #[.string a0_0, .slice (some ad217) l0_1.length c0_1] 33 (0, 0))) ∧ (w'.heap[gb205]? = some (.cells #[.string (⟨#[]⟩ : ByteArray), .string (⟨#[]⟩ : ByteArray), .bool false, .bool false, .bool false, .bool false] 35 (0, 0))) ∧ (w'.heap[gb206]? = some (.cells #[.string x207000_1, .string x207001_1, .bool x207002_1, .bool x207003_1, .bool x207004_1, .bool x207005_1] 35 (0, 0))) ∧ (w'.heap[gb214]? = some (.cells #[.string ((rd_T43 t210 x21_1).f0), .int .i64 ((rd_T43 t210 x21_1).f1), .int .i64 ((rd_T43 t210 x21_1).f2), .int .i64 ((rd_T43 t210 x21_1).f3.f0), .int .i64 ((rd_T43 t210 x21_1).f3.f1), .string ((rd_T43 t210 x21_1).f3.f2), .bool ((rd_T43 t210 x21_1).f3.f3), .slice A213_7 ((rd_T43 t210 x21_1).f4).length c213_7] 43 (0, 0))) ∧ (Below w.heap.size w w') ∧ (b 16 = true → Kd.V k43 43 w' w.heap.size (fun k_ => some k_ ≠ (.slice (some ad213) t210.length co29 : Value).ownBlock ∧ some k_ ≠ (.slice (some ad215) t207.length co27 : Value).ownBlock ∧ k_ ≠ gb204 ∧ k_ ≠ gb205 ∧ k_ ≠ gb206 ∧ k_ ≠ gb214 ∧ k_ ≠ gb225) (.slice A213_7 ((rd_T43 t210 x21_1).f4).length c213_7) ((rd_T43 t210 x21_1).f4)) ∧ (b 16 = true → Kd.N k43 43 w' w.heap.size (fun k_ => some k_ ≠ (.slice (some ad215) t207.length co27 : Value).ownBlock ∧ k_ ≠ gb204 ∧ k_ ≠ gb205 ∧ k_ ≠ gb206 ∧ k_ ≠ gb214 ∧ k_ ≠ gb225) (.slice (some ad213) t210.length co29) t210) ∧ (b 16 = true → b 17 = false → w'.heap[gb225]? = some (.cells #[.string (⟨#[]⟩ : ByteArray), .string (⟨#[]⟩ : ByteArray), .bool false, .bool false, .bool false, .bool false] 35 (0, 0))) ∧ (b 16 = true → w.heap.size ≤ gb225) ∧ (b 16 = true → w.heap.size ≤ gb225) ∧ (b 16 = true → gb204 ≠ gb225) ∧ (b 16 = true → gb225 ≠ gb204) ∧ (b 16 = true → gb205 ≠ gb225) ∧ (b 16 = true → gb225 ≠ gb205) ∧ (b 16 = true → gb206 ≠ gb225) ∧ (b 16 = true → gb225 ≠ gb206) ∧ (b 16 = true → gb214 ≠ gb225) ∧ (b 16 = true → gb225 ≠ gb214) ∧ (b 17 = true → w'.heap[gb225]? = some (.cells #[.string t218, .string t219, .bool t220, .bool t221, .bool t222, .bool t223] 35 (0, 0))) ∧ (b 16 = true → (m16_ : Value) = .pointer (some ⟨gb225, 0, none⟩))) HT_.out HW_.out (by kernel_rfl) (by kernel_rfl) ?_ ?_ ?_
          · exact ⟨0, .bool false, by simp only [putSel, Bool.false_eq_true, if_false], HL213_7.out, HO_19.out, HO_6.out, BK204.out, BK205.out, BK206.out, BK214.out, HB.out, fun h_ => absurd h_ (by decide), fun h_ => absurd h_ (by decide), fun h_ => absurd h_ (by decide), fun h_ => absurd h_ (by decide), fun h_ => absurd h_ (by decide), fun h_ => absurd h_ (by decide), fun h_ => absurd h_ (by decide), fun h_ => absurd h_ (by decide), fun h_ => absurd h_ (by decide), fun h_ => absurd h_ (by decide), fun h_ => absurd h_ (by decide), fun h_ => absurd h_ (by decide), fun h_ => absurd h_ (by decide), fun h_ => absurd h_ (by decide), fun h_ => absurd h_ (by decide)⟩
          · skip
            clear BK204 BK205 BK206 BK214 HB HL213_7 HO_19 HO_6
            refine steps_cons ?_ ?_
            · rintro b a w' ⟨gb225, m16_, ha, Q_HL213_7, Q_HO_19, Q_HO_6, Q_BK204, Q_BK205, Q_BK206, Q_BK214, Q_HB, Q_HL213_7_e16, Q_HO_19_e16, Q_BK225, Q_GW225, Q_GE225, Q_NB204_225, Q_NB225_204, Q_NB205_225, Q_NB225_205, Q_NB206_225, Q_NB225_206, Q_NB214_225, Q_NB225_214, Q_BK225_e17, Q_X16_⟩ hb_ hon hoff
              refine ⟨_, rfl, fun K hK => ?_⟩
              have e8 : a.tmps[8]? = some (.pointer (some ⟨gb214, 0, none⟩)) := by rw [ha]; exact (putSel_off rfl).trans rfl
              replace ha := Aside0.mk ha
              have HL213_7 := Aside0.mk Q_HL213_7
              have HO_19 := Aside0.mk Q_HO_19
              have HO_6 := Aside0.mk Q_HO_6
              have BK204 := Aside0.mk Q_BK204
              have BK205 := Aside0.mk Q_BK205
              have BK206 := Aside0.mk Q_BK206
              have BK214 := Aside0.mk Q_BK214
              have HB := Aside0.mk Q_HB
              have hc0_ : w'.cell? ⟨gb214, 0, none⟩ = some (.string ((rd_T43 t210 x21_1).f0)) := (blk_cell BK214.out 0).trans rfl
              have hc1_ : w'.cell? ⟨gb214, 1, none⟩ = some (.int .i64 ((rd_T43 t210 x21_1).f1)) := (blk_cell BK214.out 1).trans rfl
              have hc2_ : w'.cell? ⟨gb214, 2, none⟩ = some (.int .i64 ((rd_T43 t210 x21_1).f2)) := (blk_cell BK214.out 2).trans rfl
              have hc3_ : w'.cell? ⟨gb214, 3, none⟩ = some (.int .i64 ((rd_T43 t210 x21_1).f3.f0)) := (blk_cell BK214.out 3).trans rfl
              have hc4_ : w'.cell? ⟨gb214, 4, none⟩ = some (.int .i64 ((rd_T43 t210 x21_1).f3.f1)) := (blk_cell BK214.out 4).trans rfl
              have hc5_ : w'.cell? ⟨gb214, 5, none⟩ = some (.string ((rd_T43 t210 x21_1).f3.f2)) := (blk_cell BK214.out 5).trans rfl
              have hc6_ : w'.cell? ⟨gb214, 6, none⟩ = some (.bool ((rd_T43 t210 x21_1).f3.f3)) := (blk_cell BK214.out 6).trans rfl
              have hc7_ : w'.cell? ⟨gb214, 7, none⟩ = some (.slice A213_7 ((rd_T43 t210 x21_1).f4).length c213_7) := (blk_cell BK214.out 7).trans rfl
              refine value_ (w1 := w') (v := .agg #[.string ((rd_T43 t210 x21_1).f0), .int .i64 ((rd_T43 t210 x21_1).f1), .int .i64 ((rd_T43 t210 x21_1).f2), .int .i64 ((rd_T43 t210 x21_1).f3.f0), .int .i64 ((rd_T43 t210 x21_1).f3.f1), .string ((rd_T43 t210 x21_1).f3.f2), .bool ((rd_T43 t210 x21_1).f3.f3), .slice A213_7 ((rd_T43 t210 x21_1).f4).length c213_7]) (by rfl) rfl ?_ ?_
              · go_simp
                (try simp only [i64_w])
                try rfl
              refine hK.out _ _ ⟨gb225, m16_, (by rw [ha.out]; exact putSel_upk 0 hb_ rfl rfl rfl), Q_HL213_7, Q_HO_19, Q_HO_6, Q_BK204, Q_BK205, Q_BK206, Q_BK214, Q_HB, Q_HL213_7_e16, Q_HO_19_e16, Q_BK225, Q_GW225, Q_GE225, Q_NB204_225, Q_NB225_204, Q_NB205_225, Q_NB225_205, Q_NB206_225, Q_NB225_206, Q_NB214_225, Q_NB225_214, fun h0_ => absurd ((hoff 17 (by kernel_rfl)).symm.trans h0_) (by decide), Q_X16_⟩
            refine steps_cons ?_ ?_
            · rintro b a w' ⟨gb225, m16_, ha, Q_HL213_7, Q_HO_19, Q_HO_6, Q_BK204, Q_BK205, Q_BK206, Q_BK214, Q_HB, Q_HL213_7_e16, Q_HO_19_e16, Q_BK225, Q_GW225, Q_GE225, Q_NB204_225, Q_NB225_204, Q_NB205_225, Q_NB225_205, Q_NB206_225, Q_NB225_206, Q_NB214_225, Q_NB225_214, Q_BK225_e17, Q_X16_⟩ hb_ hon hoff
              refine ⟨_, rfl, fun K hK => ?_⟩
              have e27 : a.tmps[27]? = some (.slice (some ad215) t207.length co27) := by rw [ha]; exact (putSel_off rfl).trans rfl
              replace ha := Aside0.mk ha
              have HL213_7 := Aside0.mk Q_HL213_7
              have HO_19 := Aside0.mk Q_HO_19
              have HO_6 := Aside0.mk Q_HO_6
              have BK204 := Aside0.mk Q_BK204
              have BK205 := Aside0.mk Q_BK205
              have BK206 := Aside0.mk Q_BK206
              have BK214 := Aside0.mk Q_BK214
              have HB := Aside0.mk Q_HB
              refine value_ (w1 := w') (v := .pointer (some ad215)) (by rfl) rfl ?_ ?_
              · go_simp
                (try simp only [i64_w])
                try rfl
              refine hK.out _ _ ⟨gb225, m16_, (by rw [ha.out]; exact putSel_upk 1 hb_ rfl rfl rfl), Q_HL213_7, Q_HO_19, Q_HO_6, Q_BK204, Q_BK205, Q_BK206, Q_BK214, Q_HB, Q_HL213_7_e16, Q_HO_19_e16, Q_BK225, Q_GW225, Q_GE225, Q_NB204_225, Q_NB225_204, Q_NB205_225, Q_NB225_205, Q_NB206_225, Q_NB225_206, Q_NB214_225, Q_NB225_214, fun h0_ => absurd ((hoff 17 (by kernel_rfl)).symm.trans h0_) (by decide), Q_X16_⟩
            refine steps_cons ?_ ?_
            · rintro b a w' ⟨gb225, m16_, ha, Q_HL213_7, Q_HO_19, Q_HO_6, Q_BK204, Q_BK205, Q_BK206, Q_BK214, Q_HB, Q_HL213_7_e16, Q_HO_19_e16, Q_BK225, Q_GW225, Q_GE225, Q_NB204_225, Q_NB225_204, Q_NB205_225, Q_NB225_205, Q_NB206_225, Q_NB225_206, Q_NB214_225, Q_NB225_214, Q_BK225_e17, Q_X16_⟩ hb_ hon hoff
              refine ⟨_, rfl, fun K hK => ?_⟩
              have e28 : a.tmps[28]? = some (.pointer (some ad215)) := by rw [ha]; exact putSel_on (e := (2, 28, .pointer (some ad215))) 1 rfl rfl (hon 2 (by kernel_rfl)) rfl
              replace ha := Aside0.mk ha
              have HL213_7 := Aside0.mk Q_HL213_7
              have HO_19 := Aside0.mk Q_HO_19
              have HO_6 := Aside0.mk Q_HO_6
              have BK204 := Aside0.mk Q_BK204
              have BK205 := Aside0.mk Q_BK205
              have BK206 := Aside0.mk Q_BK206
              have BK214 := Aside0.mk Q_BK214
              have HB := Aside0.mk Q_HB
              obtain ⟨ad215_z, e215_z, hx215_0_z⟩ := Kd.at_int (Kd.R_reads' HO_6.out).2.2 0 (of_eq_true p215) (of_eq_true q215)
              cases e215_z
              have hs0_ : w'.cell? ad215 = some (.int .i64 (rd t207 0)) := (by first | exact hx215_0_z | (have h_ := hx215_0_z; (try simp only [Int.reduceToNat, Nat.zero_mul, Nat.reduceMul, Nat.reduceEqDiff, Go.Addr.add, ↓reduceIte, Addr.add_zero'] at h_); exact h_))
              refine value_ (w1 := w') (v := .int .i64 (rd t207 0)) (by rfl) rfl ?_ ?_
              · go_simp
                (try simp only [i64_w])
                try rfl
              refine hK.out _ _ ⟨gb225, m16_, (by rw [ha.out]; exact putSel_upk 2 hb_ rfl rfl rfl), Q_HL213_7, Q_HO_19, Q_HO_6, Q_BK204, Q_BK205, Q_BK206, Q_BK214, Q_HB, Q_HL213_7_e16, Q_HO_19_e16, Q_BK225, Q_GW225, Q_GE225, Q_NB204_225, Q_NB225_204, Q_NB205_225, Q_NB225_205, Q_NB206_225, Q_NB225_206, Q_NB214_225, Q_NB225_214, fun h0_ => absurd ((hoff 17 (by kernel_rfl)).symm.trans h0_) (by decide), Q_X16_⟩
            refine steps_cons ?_ ?_
            · rintro b a w' ⟨gb225, m16_, ha, Q_HL213_7, Q_HO_19, Q_HO_6, Q_BK204, Q_BK205, Q_BK206, Q_BK214, Q_HB, Q_HL213_7_e16, Q_HO_19_e16, Q_BK225, Q_GW225, Q_GE225, Q_NB204_225, Q_NB225_204, Q_NB205_225, Q_NB225_205, Q_NB206_225, Q_NB225_206, Q_NB214_225, Q_NB225_214, Q_BK225_e17, Q_X16_⟩ hb_ hon hoff
              refine ⟨_, rfl, fun K hK => ?_⟩
              have e30 : a.tmps[30]? = some (.pointer (some ⟨gb204, 1, none⟩)) := by rw [ha]; exact (putSel_off rfl).trans rfl
              replace ha := Aside0.mk ha
              have HL213_7 := Aside0.mk Q_HL213_7
              have HO_19 := Aside0.mk Q_HO_19
              have HO_6 := Aside0.mk Q_HO_6
              have BK204 := Aside0.mk Q_BK204
              have BK205 := Aside0.mk Q_BK205
              have BK206 := Aside0.mk Q_BK206
              have BK214 := Aside0.mk Q_BK214
              have HB := Aside0.mk Q_HB
              have hc0_ : w'.cell? ⟨gb204, 0, none⟩ = some (.string a0_0) := (blk_cell BK204.out 0).trans rfl
              have hc1_ : w'.cell? ⟨gb204, 1, none⟩ = some (.slice (some ad217) l0_1.length c0_1) := (blk_cell BK204.out 1).trans rfl
              refine value_ (w1 := w') (v := .slice (some ad217) l0_1.length c0_1) (by rfl) rfl ?_ ?_
              · go_simp
                (try simp only [i64_w])
                try rfl
              refine hK.out _ _ ⟨gb225, m16_, (by rw [ha.out]; exact putSel_upk 3 hb_ rfl rfl rfl), Q_HL213_7, Q_HO_19, Q_HO_6, Q_BK204, Q_BK205, Q_BK206, Q_BK214, Q_HB, Q_HL213_7_e16, Q_HO_19_e16, Q_BK225, Q_GW225, Q_GE225, Q_NB204_225, Q_NB225_204, Q_NB205_225, Q_NB225_205, Q_NB206_225, Q_NB225_206, Q_NB214_225, Q_NB225_214, fun h0_ => absurd ((hoff 17 (by kernel_rfl)).symm.trans h0_) (by decide), Q_X16_⟩
            refine steps_cons ?_ ?_
            · rintro b a w' ⟨gb225, m16_, ha, Q_HL213_7, Q_HO_19, Q_HO_6, Q_BK204, Q_BK205, Q_BK206, Q_BK214, Q_HB, Q_HL213_7_e16, Q_HO_19_e16, Q_BK225, Q_GW225, Q_GE225, Q_NB204_225, Q_NB225_204, Q_NB205_225, Q_NB225_205, Q_NB206_225, Q_NB225_206, Q_NB214_225, Q_NB225_214, Q_BK225_e17, Q_X16_⟩ hb_ hon hoff
              refine ⟨_, rfl, fun K hK => ?_⟩
              have e32 : a.tmps[32]? = some (.slice (some ad215) t207.length co27) := by rw [ha]; exact (putSel_off rfl).trans rfl
              replace ha := Aside0.mk ha
              have HL213_7 := Aside0.mk Q_HL213_7
              have HO_19 := Aside0.mk Q_HO_19
              have HO_6 := Aside0.mk Q_HO_6
              have BK204 := Aside0.mk Q_BK204
              have BK205 := Aside0.mk Q_BK205
              have BK206 := Aside0.mk Q_BK206
              have BK214 := Aside0.mk Q_BK214
              have HB := Aside0.mk Q_HB
              refine value_ (w1 := w') (v := .pointer (some ad215)) (by rfl) rfl ?_ ?_
              · go_simp
                (try simp only [i64_w])
                try rfl
              refine hK.out _ _ ⟨gb225, m16_, (by rw [ha.out]; exact putSel_upk 4 hb_ rfl rfl rfl), Q_HL213_7, Q_HO_19, Q_HO_6, Q_BK204, Q_BK205, Q_BK206, Q_BK214, Q_HB, Q_HL213_7_e16, Q_HO_19_e16, Q_BK225, Q_GW225, Q_GE225, Q_NB204_225, Q_NB225_204, Q_NB205_225, Q_NB225_205, Q_NB206_225, Q_NB225_206, Q_NB214_225, Q_NB225_214, fun h0_ => absurd ((hoff 17 (by kernel_rfl)).symm.trans h0_) (by decide), Q_X16_⟩
            refine steps_cons ?_ ?_
            · rintro b a w' ⟨gb225, m16_, ha, Q_HL213_7, Q_HO_19, Q_HO_6, Q_BK204, Q_BK205, Q_BK206, Q_BK214, Q_HB, Q_HL213_7_e16, Q_HO_19_e16, Q_BK225, Q_GW225, Q_GE225, Q_NB204_225, Q_NB225_204, Q_NB205_225, Q_NB225_205, Q_NB206_225, Q_NB225_206, Q_NB214_225, Q_NB225_214, Q_BK225_e17, Q_X16_⟩ hb_ hon hoff
              refine ⟨_, rfl, fun K hK => ?_⟩
              have e33 : a.tmps[33]? = some (.pointer (some ad215)) := by rw [ha]; exact putSel_on (e := (7, 33, .pointer (some ad215))) 4 rfl rfl (hon 7 (by kernel_rfl)) rfl
              replace ha := Aside0.mk ha
              have HL213_7 := Aside0.mk Q_HL213_7
              have HO_19 := Aside0.mk Q_HO_19
              have HO_6 := Aside0.mk Q_HO_6
              have BK204 := Aside0.mk Q_BK204
              have BK205 := Aside0.mk Q_BK205
              have BK206 := Aside0.mk Q_BK206
              have BK214 := Aside0.mk Q_BK214
              have HB := Aside0.mk Q_HB
              obtain ⟨ad216_z, e216_z, hx216_0_z⟩ := Kd.at_int (Kd.R_reads' HO_6.out).2.2 0 (of_eq_true p216) (of_eq_true q216)
              cases e216_z
              have hs1_ : w'.cell? ad215 = some (.int .i64 (rd t207 0)) := (by first | exact hx216_0_z | (have h_ := hx216_0_z; (try simp only [Int.reduceToNat, Nat.zero_mul, Nat.reduceMul, Nat.reduceEqDiff, Go.Addr.add, ↓reduceIte, Addr.add_zero'] at h_); exact h_))
              refine value_ (w1 := w') (v := .int .i64 (rd t207 0)) (by rfl) rfl ?_ ?_
              · go_simp
                (try simp only [i64_w])
                try rfl
              refine hK.out _ _ ⟨gb225, m16_, (by rw [ha.out]; exact putSel_upk 5 hb_ rfl rfl rfl), Q_HL213_7, Q_HO_19, Q_HO_6, Q_BK204, Q_BK205, Q_BK206, Q_BK214, Q_HB, Q_HL213_7_e16, Q_HO_19_e16, Q_BK225, Q_GW225, Q_GE225, Q_NB204_225, Q_NB225_204, Q_NB205_225, Q_NB225_205, Q_NB206_225, Q_NB225_206, Q_NB214_225, Q_NB225_214, fun h0_ => absurd ((hoff 17 (by kernel_rfl)).symm.trans h0_) (by decide), Q_X16_⟩
            refine steps_cons ?_ ?_
            · rintro b a w' ⟨gb225, m16_, ha, Q_HL213_7, Q_HO_19, Q_HO_6, Q_BK204, Q_BK205, Q_BK206, Q_BK214, Q_HB, Q_HL213_7_e16, Q_HO_19_e16, Q_BK225, Q_GW225, Q_GE225, Q_NB204_225, Q_NB225_204, Q_NB205_225, Q_NB225_205, Q_NB206_225, Q_NB225_206, Q_NB214_225, Q_NB225_214, Q_BK225_e17, Q_X16_⟩ hb_ hon hoff
              refine ⟨_, rfl, fun K hK => ?_⟩
              have e31 : a.tmps[31]? = some (.slice (some ad217) l0_1.length c0_1) := by rw [ha]; exact putSel_on (e := (5, 31, .slice (some ad217) l0_1.length c0_1)) 3 rfl rfl (hon 5 (by kernel_rfl)) rfl
              have e34 : a.tmps[34]? = some (.int .i64 (rd t207 0)) := by rw [ha]; exact putSel_on (e := (8, 34, .int .i64 (rd t207 0))) 5 rfl rfl (hon 8 (by kernel_rfl)) rfl
              replace ha := Aside0.mk ha
              have HL213_7 := Aside0.mk Q_HL213_7
              have HO_19 := Aside0.mk Q_HO_19
              have HO_6 := Aside0.mk Q_HO_6
              have BK204 := Aside0.mk Q_BK204
              have BK205 := Aside0.mk Q_BK205
              have BK206 := Aside0.mk Q_BK206
              have BK214 := Aside0.mk Q_BK214
              have HB := Aside0.mk Q_HB
              have hs2_ : w'.cell? (ad217.add (((rd t207 0)).toNat * 4)) = some (.string ((rd_T30 l0_1 (rd t207 0)).f0)) := ((HB.out.cell (World.block_lt_of_cell? w _ hw217_0)).trans hw217_0)
              have hs3_ : w'.cell? ⟨(ad217.add (((rd t207 0)).toNat * 4)).block, (ad217.add (((rd t207 0)).toNat * 4)).off + 1, none⟩ = some (.int .i64 ((rd_T30 l0_1 (rd t207 0)).f1)) := ((HB.out.cell (World.block_lt_of_cell? w _ hw217_1)).trans hw217_1)
              have hs4_ : w'.cell? ⟨(ad217.add (((rd t207 0)).toNat * 4)).block, (ad217.add (((rd t207 0)).toNat * 4)).off + 2, none⟩ = some (.bool ((rd_T30 l0_1 (rd t207 0)).f2)) := ((HB.out.cell (World.block_lt_of_cell? w _ hw217_2)).trans hw217_2)
              have hs5_ : w'.cell? ⟨(ad217.add (((rd t207 0)).toNat * 4)).block, (ad217.add (((rd t207 0)).toNat * 4)).off + 3, none⟩ = some (.bool ((rd_T30 l0_1 (rd t207 0)).f3)) := ((HB.out.cell (World.block_lt_of_cell? w _ hw217_3)).trans hw217_3)
              refine value_ (w1 := w') (v := .pointer (some (ad217.add (((rd t207 0)).toNat * 4)))) (by rfl) rfl ?_ ?_
              · go_simp
                (try simp only [i64_w])
                try rfl
              refine hK.out _ _ ⟨gb225, m16_, (by rw [ha.out]; exact putSel_upk 6 hb_ rfl rfl rfl), Q_HL213_7, Q_HO_19, Q_HO_6, Q_BK204, Q_BK205, Q_BK206, Q_BK214, Q_HB, Q_HL213_7_e16, Q_HO_19_e16, Q_BK225, Q_GW225, Q_GE225, Q_NB204_225, Q_NB225_204, Q_NB205_225, Q_NB225_205, Q_NB206_225, Q_NB225_206, Q_NB214_225, Q_NB225_214, fun h0_ => absurd ((hoff 17 (by kernel_rfl)).symm.trans h0_) (by decide), Q_X16_⟩
            refine steps_cons ?_ ?_
            · rintro b a w' ⟨gb225, m16_, ha, Q_HL213_7, Q_HO_19, Q_HO_6, Q_BK204, Q_BK205, Q_BK206, Q_BK214, Q_HB, Q_HL213_7_e16, Q_HO_19_e16, Q_BK225, Q_GW225, Q_GE225, Q_NB204_225, Q_NB225_204, Q_NB205_225, Q_NB225_205, Q_NB206_225, Q_NB225_206, Q_NB214_225, Q_NB225_214, Q_BK225_e17, Q_X16_⟩ hb_ hon hoff
              refine ⟨_, rfl, fun K hK => ?_⟩
              have e35 : a.tmps[35]? = some (.pointer (some (ad217.add (((rd t207 0)).toNat * 4)))) := by rw [ha]; exact putSel_on (e := (9, 35, .pointer (some (ad217.add (((rd t207 0)).toNat * 4))))) 6 rfl rfl (hon 9 (by kernel_rfl)) rfl
              replace ha := Aside0.mk ha
              have HL213_7 := Aside0.mk Q_HL213_7
              have HO_19 := Aside0.mk Q_HO_19
              have HO_6 := Aside0.mk Q_HO_6
              have BK204 := Aside0.mk Q_BK204
              have BK205 := Aside0.mk Q_BK205
              have BK206 := Aside0.mk Q_BK206
              have BK214 := Aside0.mk Q_BK214
              have HB := Aside0.mk Q_HB
              refine value_ (w1 := w') (v := .pointer (some ⟨(ad217.add (((rd t207 0)).toNat * 4)).block, (ad217.add (((rd t207 0)).toNat * 4)).off + 1, none⟩)) (by rfl) rfl ?_ ?_
              · go_simp
                (try simp only [i64_w])
                try rfl
              refine hK.out _ _ ⟨gb225, m16_, (by rw [ha.out]; exact putSel_upk 7 hb_ rfl rfl rfl), Q_HL213_7, Q_HO_19, Q_HO_6, Q_BK204, Q_BK205, Q_BK206, Q_BK214, Q_HB, Q_HL213_7_e16, Q_HO_19_e16, Q_BK225, Q_GW225, Q_GE225, Q_NB204_225, Q_NB225_204, Q_NB205_225, Q_NB225_205, Q_NB206_225, Q_NB225_206, Q_NB214_225, Q_NB225_214, fun h0_ => absurd ((hoff 17 (by kernel_rfl)).symm.trans h0_) (by decide), Q_X16_⟩
            refine steps_cons ?_ ?_
            · rintro b a w' ⟨gb225, m16_, ha, Q_HL213_7, Q_HO_19, Q_HO_6, Q_BK204, Q_BK205, Q_BK206, Q_BK214, Q_HB, Q_HL213_7_e16, Q_HO_19_e16, Q_BK225, Q_GW225, Q_GE225, Q_NB204_225, Q_NB225_204, Q_NB205_225, Q_NB225_205, Q_NB206_225, Q_NB225_206, Q_NB214_225, Q_NB225_214, Q_BK225_e17, Q_X16_⟩ hb_ hon hoff
              refine ⟨_, rfl, fun K hK => ?_⟩
              have e36 : a.tmps[36]? = some (.pointer (some ⟨(ad217.add (((rd t207 0)).toNat * 4)).block, (ad217.add (((rd t207 0)).toNat * 4)).off + 1, none⟩)) := by rw [ha]; exact putSel_on (e := (10, 36, .pointer (some ⟨(ad217.add (((rd t207 0)).toNat * 4)).block, (ad217.add (((rd t207 0)).toNat * 4)).off + 1, none⟩))) 7 rfl rfl (hon 10 (by kernel_rfl)) rfl
              replace ha := Aside0.mk ha
              have HL213_7 := Aside0.mk Q_HL213_7
              have HO_19 := Aside0.mk Q_HO_19
              have HO_6 := Aside0.mk Q_HO_6
              have BK204 := Aside0.mk Q_BK204
              have BK205 := Aside0.mk Q_BK205
              have BK206 := Aside0.mk Q_BK206
              have BK214 := Aside0.mk Q_BK214
              have HB := Aside0.mk Q_HB
              have hs2_ : w'.cell? (ad217.add (((rd t207 0)).toNat * 4)) = some (.string ((rd_T30 l0_1 (rd t207 0)).f0)) := ((HB.out.cell (World.block_lt_of_cell? w _ hw217_0)).trans hw217_0)
              have hs3_ : w'.cell? ⟨(ad217.add (((rd t207 0)).toNat * 4)).block, (ad217.add (((rd t207 0)).toNat * 4)).off + 1, none⟩ = some (.int .i64 ((rd_T30 l0_1 (rd t207 0)).f1)) := ((HB.out.cell (World.block_lt_of_cell? w _ hw217_1)).trans hw217_1)
              have hs4_ : w'.cell? ⟨(ad217.add (((rd t207 0)).toNat * 4)).block, (ad217.add (((rd t207 0)).toNat * 4)).off + 2, none⟩ = some (.bool ((rd_T30 l0_1 (rd t207 0)).f2)) := ((HB.out.cell (World.block_lt_of_cell? w _ hw217_2)).trans hw217_2)
              have hs5_ : w'.cell? ⟨(ad217.add (((rd t207 0)).toNat * 4)).block, (ad217.add (((rd t207 0)).toNat * 4)).off + 3, none⟩ = some (.bool ((rd_T30 l0_1 (rd t207 0)).f3)) := ((HB.out.cell (World.block_lt_of_cell? w _ hw217_3)).trans hw217_3)
              refine value_ (w1 := w') (v := .int .i64 ((rd_T30 l0_1 (rd t207 0)).f1)) (by rfl) rfl ?_ ?_
              · go_simp
                (try simp only [i64_w])
                try rfl
              refine hK.out _ _ ⟨gb225, m16_, (by rw [ha.out]; exact putSel_upk 8 hb_ rfl rfl rfl), Q_HL213_7, Q_HO_19, Q_HO_6, Q_BK204, Q_BK205, Q_BK206, Q_BK214, Q_HB, Q_HL213_7_e16, Q_HO_19_e16, Q_BK225, Q_GW225, Q_GE225, Q_NB204_225, Q_NB225_204, Q_NB205_225, Q_NB225_205, Q_NB206_225, Q_NB225_206, Q_NB214_225, Q_NB225_214, fun h0_ => absurd ((hoff 17 (by kernel_rfl)).symm.trans h0_) (by decide), Q_X16_⟩
            refine steps_cons ?_ ?_
            · rintro b a w' ⟨gb225, m16_, ha, Q_HL213_7, Q_HO_19, Q_HO_6, Q_BK204, Q_BK205, Q_BK206, Q_BK214, Q_HB, Q_HL213_7_e16, Q_HO_19_e16, Q_BK225, Q_GW225, Q_GE225, Q_NB204_225, Q_NB225_204, Q_NB205_225, Q_NB225_205, Q_NB206_225, Q_NB225_206, Q_NB214_225, Q_NB225_214, Q_BK225_e17, Q_X16_⟩ hb_ hon hoff
              refine ⟨_, rfl, fun K hK => ?_⟩
              have e26 : a.tmps[26]? = some (.agg #[.string ((rd_T43 t210 x21_1).f0), .int .i64 ((rd_T43 t210 x21_1).f1), .int .i64 ((rd_T43 t210 x21_1).f2), .int .i64 ((rd_T43 t210 x21_1).f3.f0), .int .i64 ((rd_T43 t210 x21_1).f3.f1), .string ((rd_T43 t210 x21_1).f3.f2), .bool ((rd_T43 t210 x21_1).f3.f3), .slice A213_7 ((rd_T43 t210 x21_1).f4).length c213_7]) := by rw [ha]; exact putSel_on (e := (0, 26, .agg #[.string ((rd_T43 t210 x21_1).f0), .int .i64 ((rd_T43 t210 x21_1).f1), .int .i64 ((rd_T43 t210 x21_1).f2), .int .i64 ((rd_T43 t210 x21_1).f3.f0), .int .i64 ((rd_T43 t210 x21_1).f3.f1), .string ((rd_T43 t210 x21_1).f3.f2), .bool ((rd_T43 t210 x21_1).f3.f3), .slice A213_7 ((rd_T43 t210 x21_1).f4).length c213_7])) 0 rfl rfl (hon 0 (by kernel_rfl)) rfl
              have e29 : a.tmps[29]? = some (.int .i64 (rd t207 0)) := by rw [ha]; exact putSel_on (e := (3, 29, .int .i64 (rd t207 0))) 2 rfl rfl (hon 3 (by kernel_rfl)) rfl
              have e37 : a.tmps[37]? = some (.int .i64 ((rd_T30 l0_1 (rd t207 0)).f1)) := by rw [ha]; exact putSel_on (e := (11, 37, .int .i64 ((rd_T30 l0_1 (rd t207 0)).f1))) 8 rfl rfl (hon 11 (by kernel_rfl)) rfl
              replace ha := Aside0.mk ha
              have HL213_7 := Aside0.mk Q_HL213_7
              have HO_19 := Aside0.mk Q_HO_19
              have HO_6 := Aside0.mk Q_HO_6
              have BK204 := Aside0.mk Q_BK204
              have BK205 := Aside0.mk Q_BK205
              have BK206 := Aside0.mk Q_BK206
              have BK214 := Aside0.mk Q_BK214
              have HB := Aside0.mk Q_HB
              refine goes_ Try.func12 (by kernel_rfl) rfl #[.agg #[.string ((rd_T43 t210 x21_1).f0), .int .i64 ((rd_T43 t210 x21_1).f1), .int .i64 ((rd_T43 t210 x21_1).f2), .int .i64 ((rd_T43 t210 x21_1).f3.f0), .int .i64 ((rd_T43 t210 x21_1).f3.f1), .string ((rd_T43 t210 x21_1).f3.f2), .bool ((rd_T43 t210 x21_1).f3.f3), .slice A213_7 ((rd_T43 t210 x21_1).f4).length c213_7], .int .i64 (rd t207 0), .int .i64 ((rd_T30 l0_1 (rd t207 0)).f1)] (by rfl) rfl rfl (by first | (simp only [List.map_toArray, List.map_cons, List.map_nil, Act.eval, Array.getD_eq_getD_getElem?, Option.getD_some, e26, e29, e37]; done) | (simp only [List.map_toArray, List.map_cons, List.map_nil, Act.eval, Array.getD_eq_getD_getElem?, Option.getD_some, e26, e29, e37]; rfl)) ?_
              with_reducible refine (plan_bound.calls k1 ((rd_T43 t210 x21_1).f0) ((rd_T43 t210 x21_1).f1) ((rd_T43 t210 x21_1).f2) ((rd_T43 t210 x21_1).f3.f0) ((rd_T43 t210 x21_1).f3.f1) ((rd_T43 t210 x21_1).f3.f2) ((rd_T43 t210 x21_1).f3.f3) _ _ ((rd_T43 t210 x21_1).f4) (rd t207 0) ((rd_T30 l0_1 (rd t207 0)).f1) t218 t219 t220 t221 t222 t223 true _ ?side1 ?side2 ?side3 A36.out).mono ?_
              (case side1 => repeat (first | exact ((Kd.V_reads' (kV_ HL213_7.out)).2.2) | (with_reducible refine Kd.C_alloc ?_ _) | (with_reducible refine Kd.C_drewN ?_ _) | (with_reducible refine Kd.C_drew ?_)))
              (case side2 => exact HC213_7.out)
              (case side3 => exact GW_below HG.out (bw_ HB.out))
              rintro e w46 ⟨rfl, hb⟩
              refine ⟨_, rfl, ?_⟩
              have n0_ := Aside0.mk (Kd.R_below (kR_ HO_6.out) hb)
              have n1_ := Aside0.mk (Kd.N_below (kN_ HO_19.out) hb)
              have n2_ := Aside0.mk (Kd.V_below (kV_ HL213_7.out) hb)
              have n3_ := Aside0.mk (blk_below (g := gb204) (o := .cells #[.string a0_0, .slice (some ad217) l0_1.length c0_1] 33 (0, 0)) (bl_ BK204.out) hb)
              have n4_ := Aside0.mk (blk_below (g := gb205) (o := .cells #[.string (⟨#[]⟩ : ByteArray), .string (⟨#[]⟩ : ByteArray), .bool false, .bool false, .bool false, .bool false] 35 (0, 0)) (bl_ BK205.out) hb)
              have n5_ := Aside0.mk (blk_below (g := gb206) (o := .cells #[.string x207000_1, .string x207001_1, .bool x207002_1, .bool x207003_1, .bool x207004_1, .bool x207005_1] 35 (0, 0)) (bl_ BK206.out) hb)
              have n6_ := Aside0.mk (blk_below (g := gb214) (o := .cells #[.string ((rd_T43 t210 x21_1).f0), .int .i64 ((rd_T43 t210 x21_1).f1), .int .i64 ((rd_T43 t210 x21_1).f2), .int .i64 ((rd_T43 t210 x21_1).f3.f0), .int .i64 ((rd_T43 t210 x21_1).f3.f1), .string ((rd_T43 t210 x21_1).f3.f2), .bool ((rd_T43 t210 x21_1).f3.f3), .slice A213_7 ((rd_T43 t210 x21_1).f4).length c213_7] 43 (0, 0)) (bl_ BK214.out) hb)
              have n7_ := Aside0.mk (below_step (bw_ HB.out) hb)
              have z_HL213_7_e16 := fun (h0_ : b 16 = true) => (show Kd.V k43 43 w46 w.heap.size (fun k_ => some k_ ≠ (.slice (some ad213) t210.length co29 : Value).ownBlock ∧ some k_ ≠ (.slice (some ad215) t207.length co27 : Value).ownBlock ∧ k_ ≠ gb204 ∧ k_ ≠ gb205 ∧ k_ ≠ gb206 ∧ k_ ≠ gb214 ∧ k_ ≠ gb225) (.slice A213_7 ((rd_T43 t210 x21_1).f4).length c213_7) ((rd_T43 t210 x21_1).f4) from by first | exact (Kd.V_below (by (with_reducible repeat (first | apply Kd.V_alloc | apply Kd.V_drewN | apply Kd.V_drew)); exact (Q_HL213_7_e16 h0_)) hb) | exact Kd.V_mono (Kd.V_below (by (with_reducible repeat (first | apply Kd.V_alloc | apply Kd.V_drewN | apply Kd.V_drew)); exact (Q_HL213_7_e16 h0_)) hb) (fun _ h_ => by first | trivial | exact h_ | exact h_.1))
              have z_HO_19_e16 := fun (h0_ : b 16 = true) => (show Kd.N k43 43 w46 w.heap.size (fun k_ => some k_ ≠ (.slice (some ad215) t207.length co27 : Value).ownBlock ∧ k_ ≠ gb204 ∧ k_ ≠ gb205 ∧ k_ ≠ gb206 ∧ k_ ≠ gb214 ∧ k_ ≠ gb225) (.slice (some ad213) t210.length co29) t210 from by first | exact (Kd.N_below (by (with_reducible repeat (first | apply Kd.N_alloc | apply Kd.N_drewN | apply Kd.N_drew)); exact (Q_HO_19_e16 h0_)) hb) | exact Kd.N_mono (Kd.N_below (by (with_reducible repeat (first | apply Kd.N_alloc | apply Kd.N_drewN | apply Kd.N_drew)); exact (Q_HO_19_e16 h0_)) hb) (fun _ h_ => by first | trivial | exact h_ | exact h_.1))
              have z_BK225 := fun (h0_ : b 16 = true) (h1_ : b 17 = false) => (show w46.heap[gb225]? = some (.cells #[.string (⟨#[]⟩ : ByteArray), .string (⟨#[]⟩ : ByteArray), .bool false, .bool false, .bool false, .bool false] 35 (0, 0)) from by first | exact (blk_below (g := gb225) (o := .cells #[.string (⟨#[]⟩ : ByteArray), .string (⟨#[]⟩ : ByteArray), .bool false, .bool false, .bool false, .bool false] 35 (0, 0)) (by (with_reducible repeat (first | refine blk_drewN ?_ _ | refine blk_drew ?_ | refine blk_alloc ?_ _)); exact (Q_BK225 h0_ h1_)) hb))
              clear HO_6
              clear HO_19
              clear HL213_7
              clear BK204
              clear BK205
              clear BK206
              clear BK214
              clear HB
              have HO_6 := n0_
              have HO_19 := n1_
              have HL213_7 := n2_
              have BK204 := n3_
              have BK205 := n4_
              have BK206 := n5_
              have BK214 := n6_
              have HB := n7_
              clear n0_ n1_ n2_ n3_ n4_ n5_ n6_ n7_
              (try clear hb); (try clear hb2); (try clear hk); (try clear hi)
              refine hK.out _ _ ⟨gb225, m16_, (by rw [ha.out]; exact putSel_upk 9 hb_ rfl rfl rfl), (kV_ HL213_7.out), (kN_ HO_19.out), (kR_ HO_6.out), (bl_ BK204.out), (bl_ BK205.out), (bl_ BK206.out), (bl_ BK214.out), (bw_ HB.out), z_HL213_7_e16, z_HO_19_e16, z_BK225, Q_GW225, Q_GE225, Q_NB204_225, Q_NB225_204, Q_NB205_225, Q_NB225_205, Q_NB206_225, Q_NB225_206, Q_NB214_225, Q_NB225_214, fun h0_ => absurd ((hoff 17 (by kernel_rfl)).symm.trans h0_) (by decide), Q_X16_⟩
            refine steps_cons ?_ ?_
            · rintro b a w' ⟨gb225, m16_, ha, Q_HL213_7, Q_HO_19, Q_HO_6, Q_BK204, Q_BK205, Q_BK206, Q_BK214, Q_HB, Q_HL213_7_e16, Q_HO_19_e16, Q_BK225, Q_GW225, Q_GE225, Q_NB204_225, Q_NB225_204, Q_NB205_225, Q_NB225_205, Q_NB206_225, Q_NB225_206, Q_NB214_225, Q_NB225_214, Q_BK225_e17, Q_X16_⟩ hb_ hon hoff
              refine ⟨_, rfl, fun K hK => ?_⟩
              have e38 : a.tmps[38]? = some (.tuple #[.agg #[.string t218, .string t219, .bool t220, .bool t221, .bool t222, .bool t223], .bool true]) := by rw [ha]; exact putSel_on (e := (12, 38, .tuple #[.agg #[.string t218, .string t219, .bool t220, .bool t221, .bool t222, .bool t223], .bool true])) 9 rfl rfl (hon 12 (by kernel_rfl)) rfl
              replace ha := Aside0.mk ha
              have HL213_7 := Aside0.mk Q_HL213_7
              have HO_19 := Aside0.mk Q_HO_19
              have HO_6 := Aside0.mk Q_HO_6
              have BK204 := Aside0.mk Q_BK204
              have BK205 := Aside0.mk Q_BK205
              have BK206 := Aside0.mk Q_BK206
              have BK214 := Aside0.mk Q_BK214
              have HB := Aside0.mk Q_HB
              refine value_ (w1 := w') (v := .tuple #[.agg #[.string t218, .string t219, .bool t220, .bool t221, .bool t222, .bool t223], .bool true]) (by rfl) rfl ?_ ?_
              · go_simp
                (try simp only [i64_w])
                try rfl
              refine hK.out _ _ ⟨gb225, m16_, (by rw [ha.out]; exact putSel_upk 10 hb_ rfl rfl rfl), Q_HL213_7, Q_HO_19, Q_HO_6, Q_BK204, Q_BK205, Q_BK206, Q_BK214, Q_HB, Q_HL213_7_e16, Q_HO_19_e16, Q_BK225, Q_GW225, Q_GE225, Q_NB204_225, Q_NB225_204, Q_NB205_225, Q_NB225_205, Q_NB206_225, Q_NB225_206, Q_NB214_225, Q_NB225_214, fun h0_ => absurd ((hoff 17 (by kernel_rfl)).symm.trans h0_) (by decide), Q_X16_⟩
            refine steps_cons ?_ ?_
            · rintro b a w' ⟨gb225, m16_, ha, Q_HL213_7, Q_HO_19, Q_HO_6, Q_BK204, Q_BK205, Q_BK206, Q_BK214, Q_HB, Q_HL213_7_e16, Q_HO_19_e16, Q_BK225, Q_GW225, Q_GE225, Q_NB204_225, Q_NB225_204, Q_NB205_225, Q_NB225_205, Q_NB206_225, Q_NB225_206, Q_NB214_225, Q_NB225_214, Q_BK225_e17, Q_X16_⟩ hb_ hon hoff
              refine ⟨_, rfl, fun K hK => ?_⟩
              have e25 : a.tmps[25]? = some (.tuple #[.agg #[.string t218, .string t219, .bool t220, .bool t221, .bool t222, .bool t223], .bool true]) := by rw [ha]; exact putSel_on (e := (13, 25, .tuple #[.agg #[.string t218, .string t219, .bool t220, .bool t221, .bool t222, .bool t223], .bool true])) 10 rfl rfl (hon 13 (by kernel_rfl)) rfl
              replace ha := Aside0.mk ha
              have HL213_7 := Aside0.mk Q_HL213_7
              have HO_19 := Aside0.mk Q_HO_19
              have HO_6 := Aside0.mk Q_HO_6
              have BK204 := Aside0.mk Q_BK204
              have BK205 := Aside0.mk Q_BK205
              have BK206 := Aside0.mk Q_BK206
              have BK214 := Aside0.mk Q_BK214
              have HB := Aside0.mk Q_HB
              refine value_ (w1 := w') (v := .agg #[.string t218, .string t219, .bool t220, .bool t221, .bool t222, .bool t223]) (by rfl) rfl ?_ ?_
              · go_simp
                (try simp only [i64_w])
                try rfl
              refine hK.out _ _ ⟨gb225, m16_, (by rw [ha.out]; exact putSel_upk 11 hb_ rfl rfl rfl), Q_HL213_7, Q_HO_19, Q_HO_6, Q_BK204, Q_BK205, Q_BK206, Q_BK214, Q_HB, Q_HL213_7_e16, Q_HO_19_e16, Q_BK225, Q_GW225, Q_GE225, Q_NB204_225, Q_NB225_204, Q_NB205_225, Q_NB225_205, Q_NB206_225, Q_NB225_206, Q_NB214_225, Q_NB225_214, fun h0_ => absurd ((hoff 17 (by kernel_rfl)).symm.trans h0_) (by decide), Q_X16_⟩
            refine steps_cons ?_ ?_
            · rintro b a w' ⟨gb225, m16_, ha, Q_HL213_7, Q_HO_19, Q_HO_6, Q_BK204, Q_BK205, Q_BK206, Q_BK214, Q_HB, Q_HL213_7_e16, Q_HO_19_e16, Q_BK225, Q_GW225, Q_GE225, Q_NB204_225, Q_NB225_204, Q_NB205_225, Q_NB225_205, Q_NB206_225, Q_NB225_206, Q_NB214_225, Q_NB225_214, Q_BK225_e17, Q_X16_⟩ hb_ hon hoff
              refine ⟨_, rfl, fun K hK => ?_⟩
              have e25 : a.tmps[25]? = some (.tuple #[.agg #[.string t218, .string t219, .bool t220, .bool t221, .bool t222, .bool t223], .bool true]) := by rw [ha]; exact putSel_on (e := (13, 25, .tuple #[.agg #[.string t218, .string t219, .bool t220, .bool t221, .bool t222, .bool t223], .bool true])) 10 rfl rfl (hon 13 (by kernel_rfl)) rfl
              replace ha := Aside0.mk ha
              have HL213_7 := Aside0.mk Q_HL213_7
              have HO_19 := Aside0.mk Q_HO_19
              have HO_6 := Aside0.mk Q_HO_6
              have BK204 := Aside0.mk Q_BK204
              have BK205 := Aside0.mk Q_BK205
              have BK206 := Aside0.mk Q_BK206
              have BK214 := Aside0.mk Q_BK214
              have HB := Aside0.mk Q_HB
              refine value_ (w1 := w') (v := .bool true) (by rfl) rfl ?_ ?_
              · go_simp
                (try simp only [i64_w])
                try rfl
              refine hK.out _ _ ⟨gb225, m16_, (by rw [ha.out]; exact putSel_upk 12 hb_ rfl rfl rfl), Q_HL213_7, Q_HO_19, Q_HO_6, Q_BK204, Q_BK205, Q_BK206, Q_BK214, Q_HB, Q_HL213_7_e16, Q_HO_19_e16, Q_BK225, Q_GW225, Q_GE225, Q_NB204_225, Q_NB225_204, Q_NB205_225, Q_NB225_205, Q_NB206_225, Q_NB225_206, Q_NB214_225, Q_NB225_214, Q_BK225_e17, Q_X16_⟩
            refine steps_cons ?_ ?_
            · rintro b a w' ⟨gb225, m16_, ha, Q_HL213_7, Q_HO_19, Q_HO_6, Q_BK204, Q_BK205, Q_BK206, Q_BK214, Q_HB, Q_HL213_7_e16, Q_HO_19_e16, Q_BK225, Q_GW225, Q_GE225, Q_NB204_225, Q_NB225_204, Q_NB205_225, Q_NB225_205, Q_NB206_225, Q_NB225_206, Q_NB214_225, Q_NB225_214, Q_BK225_e17, Q_X16_⟩ hb_ hon hoff
              refine ⟨_, rfl, fun K hK => ?_⟩
              replace ha := Aside0.mk ha
              have HL213_7 := Aside0.mk Q_HL213_7
              have HO_19 := Aside0.mk Q_HO_19
              have HO_6 := Aside0.mk Q_HO_6
              have BK204 := Aside0.mk Q_BK204
              have BK205 := Aside0.mk Q_BK205
              have BK206 := Aside0.mk Q_BK206
              have BK214 := Aside0.mk Q_BK214
              have HB := Aside0.mk Q_HB
              refine box_step ?hg (N := 9) ?hd (cs := #[.string (⟨#[]⟩ : ByteArray), .string (⟨#[]⟩ : ByteArray), .bool false, .bool false, .bool false, .bool false]) (t := 35) ?hr ?_; (case hd => rfl); (case hg => rfl); (case hr => first | (go_simp; done) | (go_simp; rfl))
              intro gb225 hg w46 hbox hb
              have n0_ := Aside0.mk (Kd.R_below (kR_ HO_6.out) hb)
              have n1_ := Aside0.mk (Kd.N_below (Kd.N_elderB (kN_ HO_19.out) gb225 (Nat.le_of_eq hg.symm)) hb)
              have n2_ := Aside0.mk (Kd.V_below (Kd.V_elderB (kV_ HL213_7.out) gb225 (Nat.le_of_eq hg.symm)) hb)
              have n3_ := Aside0.mk (blk_below (g := gb204) (o := .cells #[.string a0_0, .slice (some ad217) l0_1.length c0_1] 33 (0, 0)) (bl_ BK204.out) hb)
              have n4_ := Aside0.mk (blk_below (g := gb205) (o := .cells #[.string (⟨#[]⟩ : ByteArray), .string (⟨#[]⟩ : ByteArray), .bool false, .bool false, .bool false, .bool false] 35 (0, 0)) (bl_ BK205.out) hb)
              have n5_ := Aside0.mk (blk_below (g := gb206) (o := .cells #[.string x207000_1, .string x207001_1, .bool x207002_1, .bool x207003_1, .bool x207004_1, .bool x207005_1] 35 (0, 0)) (bl_ BK206.out) hb)
              have n6_ := Aside0.mk (blk_below (g := gb214) (o := .cells #[.string ((rd_T43 t210 x21_1).f0), .int .i64 ((rd_T43 t210 x21_1).f1), .int .i64 ((rd_T43 t210 x21_1).f2), .int .i64 ((rd_T43 t210 x21_1).f3.f0), .int .i64 ((rd_T43 t210 x21_1).f3.f1), .string ((rd_T43 t210 x21_1).f3.f2), .bool ((rd_T43 t210 x21_1).f3.f3), .slice A213_7 ((rd_T43 t210 x21_1).f4).length c213_7] 43 (0, 0)) (bl_ BK214.out) hb)
              have n7_ := Aside0.mk (below_step (bw_ HB.out) hb)
              have n8_ := Aside0.mk (hbox)
              have n9_ := Aside0.mk ((by rw [hg]; exact (below_size (bw_ HB.out)) : w.heap.size ≤ gb225))
              have n10_ := Aside0.mk ((by rw [hg]; exact (below_size (bw_ HB.out)) : w.heap.size ≤ gb225))
              have n11_ := Aside0.mk ((by rw [hg]; exact Nat.ne_of_lt (blk_lt (g := gb204) (o := .cells #[.string a0_0, .slice (some ad217) l0_1.length c0_1] 33 (0, 0)) (bl_ BK204.out)) : gb204 ≠ gb225))
              have n12_ := Aside0.mk ((by rw [hg]; exact Nat.ne_of_gt (blk_lt (g := gb204) (o := .cells #[.string a0_0, .slice (some ad217) l0_1.length c0_1] 33 (0, 0)) (bl_ BK204.out)) : gb225 ≠ gb204))
              have n13_ := Aside0.mk ((by rw [hg]; exact Nat.ne_of_lt (blk_lt (g := gb205) (o := .cells #[.string (⟨#[]⟩ : ByteArray), .string (⟨#[]⟩ : ByteArray), .bool false, .bool false, .bool false, .bool false] 35 (0, 0)) (bl_ BK205.out)) : gb205 ≠ gb225))
              have n14_ := Aside0.mk ((by rw [hg]; exact Nat.ne_of_gt (blk_lt (g := gb205) (o := .cells #[.string (⟨#[]⟩ : ByteArray), .string (⟨#[]⟩ : ByteArray), .bool false, .bool false, .bool false, .bool false] 35 (0, 0)) (bl_ BK205.out)) : gb225 ≠ gb205))
              have n15_ := Aside0.mk ((by rw [hg]; exact Nat.ne_of_lt (blk_lt (g := gb206) (o := .cells #[.string x207000_1, .string x207001_1, .bool x207002_1, .bool x207003_1, .bool x207004_1, .bool x207005_1] 35 (0, 0)) (bl_ BK206.out)) : gb206 ≠ gb225))
              have n16_ := Aside0.mk ((by rw [hg]; exact Nat.ne_of_gt (blk_lt (g := gb206) (o := .cells #[.string x207000_1, .string x207001_1, .bool x207002_1, .bool x207003_1, .bool x207004_1, .bool x207005_1] 35 (0, 0)) (bl_ BK206.out)) : gb225 ≠ gb206))
              have n17_ := Aside0.mk ((by rw [hg]; exact Nat.ne_of_lt (blk_lt (g := gb214) (o := .cells #[.string ((rd_T43 t210 x21_1).f0), .int .i64 ((rd_T43 t210 x21_1).f1), .int .i64 ((rd_T43 t210 x21_1).f2), .int .i64 ((rd_T43 t210 x21_1).f3.f0), .int .i64 ((rd_T43 t210 x21_1).f3.f1), .string ((rd_T43 t210 x21_1).f3.f2), .bool ((rd_T43 t210 x21_1).f3.f3), .slice A213_7 ((rd_T43 t210 x21_1).f4).length c213_7] 43 (0, 0)) (bl_ BK214.out)) : gb214 ≠ gb225))
              have n18_ := Aside0.mk ((by rw [hg]; exact Nat.ne_of_gt (blk_lt (g := gb214) (o := .cells #[.string ((rd_T43 t210 x21_1).f0), .int .i64 ((rd_T43 t210 x21_1).f1), .int .i64 ((rd_T43 t210 x21_1).f2), .int .i64 ((rd_T43 t210 x21_1).f3.f0), .int .i64 ((rd_T43 t210 x21_1).f3.f1), .string ((rd_T43 t210 x21_1).f3.f2), .bool ((rd_T43 t210 x21_1).f3.f3), .slice A213_7 ((rd_T43 t210 x21_1).f4).length c213_7] 43 (0, 0)) (bl_ BK214.out)) : gb225 ≠ gb214))
              clear HO_6
              clear HO_19
              clear HL213_7
              clear BK204
              clear BK205
              clear BK206
              clear BK214
              clear HB
              have HO_6 := n0_
              have HO_19 := n1_
              have HL213_7 := n2_
              have BK204 := n3_
              have BK205 := n4_
              have BK206 := n5_
              have BK214 := n6_
              have HB := n7_
              have BK225 := n8_
              have GW225 := n9_
              have GE225 := n10_
              have NB204_225 := n11_
              have NB225_204 := n12_
              have NB205_225 := n13_
              have NB225_205 := n14_
              have NB206_225 := n15_
              have NB225_206 := n16_
              have NB214_225 := n17_
              have NB225_214 := n18_
              clear n0_ n1_ n2_ n3_ n4_ n5_ n6_ n7_ n8_ n9_ n10_ n11_ n12_ n13_ n14_ n15_ n16_ n17_ n18_
              clear hb hbox hg
              refine hK.out _ _ ⟨gb225, (.pointer (some ⟨gb225, 0, none⟩)), (by rw [ha.out]; exact putSel_upk 13 hb_ rfl rfl rfl), (Kd.V_mono (ok := fun k_ => some k_ ≠ (.slice (some ad213) t210.length co29 : Value).ownBlock ∧ some k_ ≠ (.slice (some ad215) t207.length co27 : Value).ownBlock ∧ k_ ≠ gb204 ∧ k_ ≠ gb205 ∧ k_ ≠ gb206 ∧ k_ ≠ gb214 ∧ k_ ≠ gb225) (by (with_reducible repeat (first | apply Kd.V_alloc | apply Kd.V_drewN | apply Kd.V_drew)); exact Kd.V_mono HL213_7.out (fun _ hk => ⟨hk.1.1, ⟨hk.1.2.1, ⟨hk.1.2.2.1, ⟨hk.1.2.2.2.1, ⟨hk.1.2.2.2.2.1, ⟨hk.1.2.2.2.2.2, hk.2⟩⟩⟩⟩⟩⟩)) (fun k_ h_ => ⟨h_.1, h_.2.1, h_.2.2.1, h_.2.2.2.1, h_.2.2.2.2.1, h_.2.2.2.2.2.1⟩)), (Kd.N_mono (ok := fun k_ => some k_ ≠ (.slice (some ad215) t207.length co27 : Value).ownBlock ∧ k_ ≠ gb204 ∧ k_ ≠ gb205 ∧ k_ ≠ gb206 ∧ k_ ≠ gb214 ∧ k_ ≠ gb225) (by (with_reducible repeat (first | apply Kd.N_alloc | apply Kd.N_drewN | apply Kd.N_drew)); exact Kd.N_mono HO_19.out (fun _ hk => ⟨hk.1.1, ⟨hk.1.2.1, ⟨hk.1.2.2.1, ⟨hk.1.2.2.2.1, ⟨hk.1.2.2.2.2, hk.2⟩⟩⟩⟩⟩)) (fun k_ h_ => ⟨h_.1, h_.2.1, h_.2.2.1, h_.2.2.2.1, h_.2.2.2.2.1⟩)), (kR_ HO_6.out), (bl_ BK204.out), (bl_ BK205.out), (bl_ BK206.out), (bl_ BK214.out), (bw_ HB.out), fun _ => (by (with_reducible repeat (first | apply Kd.V_alloc | apply Kd.V_drewN | apply Kd.V_drew)); exact Kd.V_mono HL213_7.out (fun _ hk => ⟨hk.1.1, ⟨hk.1.2.1, ⟨hk.1.2.2.1, ⟨hk.1.2.2.2.1, ⟨hk.1.2.2.2.2.1, ⟨hk.1.2.2.2.2.2, hk.2⟩⟩⟩⟩⟩⟩)), fun _ => (by (with_reducible repeat (first | apply Kd.N_alloc | apply Kd.N_drewN | apply Kd.N_drew)); exact Kd.N_mono HO_19.out (fun _ hk => ⟨hk.1.1, ⟨hk.1.2.1, ⟨hk.1.2.2.1, ⟨hk.1.2.2.2.1, ⟨hk.1.2.2.2.2, hk.2⟩⟩⟩⟩⟩)), fun _ _ => (bl_ BK225.out), fun _ => GW225.out, fun _ => GE225.out, fun _ => NB204_225.out, fun _ => NB225_204.out, fun _ => NB205_225.out, fun _ => NB225_205.out, fun _ => NB206_225.out, fun _ => NB225_206.out, fun _ => NB214_225.out, fun _ => NB225_214.out, fun h0_ => absurd ((hoff 17 (by kernel_rfl)).symm.trans h0_) (by decide), fun _ => rfl⟩
            refine steps_cons ?_ ?_
            · rintro b a w' ⟨gb225, m16_, ha, Q_HL213_7, Q_HO_19, Q_HO_6, Q_BK204, Q_BK205, Q_BK206, Q_BK214, Q_HB, Q_HL213_7_e16, Q_HO_19_e16, Q_BK225, Q_GW225, Q_GE225, Q_NB204_225, Q_NB225_204, Q_NB205_225, Q_NB225_205, Q_NB206_225, Q_NB225_206, Q_NB214_225, Q_NB225_214, Q_BK225_e17, Q_X16_⟩ hb_ hon hoff
              refine ⟨_, rfl, fun K hK => ?_⟩
              have e9 : a.tmps[9]? = some (m16_) := by rw [ha]; exact putSel_on (e := (16, 9, m16_)) 13 rfl rfl (hon 16 (by kernel_rfl)) rfl
              rw [Q_X16_ (hon 16 (by kernel_rfl))] at e9
              have e39 : a.tmps[39]? = some (.agg #[.string t218, .string t219, .bool t220, .bool t221, .bool t222, .bool t223]) := by rw [ha]; exact putSel_on (e := (14, 39, .agg #[.string t218, .string t219, .bool t220, .bool t221, .bool t222, .bool t223])) 11 rfl rfl (hon 14 (by kernel_rfl)) rfl
              replace ha := Aside0.mk ha
              have HL213_7 := Aside0.mk Q_HL213_7
              have HO_19 := Aside0.mk Q_HO_19
              have HO_6 := Aside0.mk Q_HO_6
              have BK204 := Aside0.mk Q_BK204
              have BK205 := Aside0.mk Q_BK205
              have BK206 := Aside0.mk Q_BK206
              have BK214 := Aside0.mk Q_BK214
              have HB := Aside0.mk Q_HB
              have HL213_7 := Aside0.mk (Q_HL213_7_e16 (hon 16 (by kernel_rfl)))
              have HO_19 := Aside0.mk (Q_HO_19_e16 (hon 16 (by kernel_rfl)))
              have BK225 := Aside0.mk (Q_BK225 (hon 16 (by kernel_rfl)) hb_)
              have GW225 := Aside0.mk (Q_GW225 (hon 16 (by kernel_rfl)))
              have GE225 := Aside0.mk (Q_GE225 (hon 16 (by kernel_rfl)))
              have NB204_225 := Aside0.mk (Q_NB204_225 (hon 16 (by kernel_rfl)))
              have NB225_204 := Aside0.mk (Q_NB225_204 (hon 16 (by kernel_rfl)))
              have NB205_225 := Aside0.mk (Q_NB205_225 (hon 16 (by kernel_rfl)))
              have NB225_205 := Aside0.mk (Q_NB225_205 (hon 16 (by kernel_rfl)))
              have NB206_225 := Aside0.mk (Q_NB206_225 (hon 16 (by kernel_rfl)))
              have NB225_206 := Aside0.mk (Q_NB225_206 (hon 16 (by kernel_rfl)))
              have NB214_225 := Aside0.mk (Q_NB214_225 (hon 16 (by kernel_rfl)))
              have NB225_214 := Aside0.mk (Q_NB225_214 (hon 16 (by kernel_rfl)))
              have hs49 : w'.cell? ⟨gb225, 0, none⟩ = some (.string (⟨#[]⟩ : ByteArray)) := (blk_cell BK225.out 0).trans rfl
              have hfs49 := blk_frozen BK225.out 0
              have hns49_0 := NB204_225.out
              have hns49_1 := NB205_225.out
              have hns49_2 := NB206_225.out
              have hns49_3 := NB214_225.out
              have hms49_0 := NB225_204.out
              have hms49_1 := NB225_205.out
              have hms49_2 := NB225_206.out
              have hms49_3 := NB225_214.out
              have hs50 : w'.cell? ⟨gb225, 1, none⟩ = some (.string (⟨#[]⟩ : ByteArray)) := (blk_cell BK225.out 1).trans rfl
              have hfs50 := blk_frozen BK225.out 1
              have hs51 : w'.cell? ⟨gb225, 2, none⟩ = some (.bool false) := (blk_cell BK225.out 2).trans rfl
              have hfs51 := blk_frozen BK225.out 2
              have hs52 : w'.cell? ⟨gb225, 3, none⟩ = some (.bool false) := (blk_cell BK225.out 3).trans rfl
              have hfs52 := blk_frozen BK225.out 3
              have hs53 : w'.cell? ⟨gb225, 4, none⟩ = some (.bool false) := (blk_cell BK225.out 4).trans rfl
              have hfs53 := blk_frozen BK225.out 4
              have hs54 : w'.cell? ⟨gb225, 5, none⟩ = some (.bool false) := (blk_cell BK225.out 5).trans rfl
              have hfs54 := blk_frozen BK225.out 5
              refine skip_ (w1 := ?_) ?sh1 ?sh2 ?_ ?_
              case sh1 => rfl
              case sh2 => rfl
              rotate_left
              · go_simp
                rfl
              refine hK.out _ _ ⟨gb225, m16_, (by rw [ha.out]; exact putSel_none (v := undef) rfl), (Kd.V_mono (ok := fun k_ => some k_ ≠ (.slice (some ad213) t210.length co29 : Value).ownBlock ∧ some k_ ≠ (.slice (some ad215) t207.length co27 : Value).ownBlock ∧ k_ ≠ gb204 ∧ k_ ≠ gb205 ∧ k_ ≠ gb206 ∧ k_ ≠ gb214 ∧ k_ ≠ gb225) (by (with_reducible repeat (first | apply Kd.V_alloc | apply Kd.V_drewN | apply Kd.V_drew)); exact Kd.V_mono (Kd.V_far (p := ⟨gb225, 5, none⟩) (Kd.V_far (p := ⟨gb225, 4, none⟩) (Kd.V_far (p := ⟨gb225, 3, none⟩) (Kd.V_far (p := ⟨gb225, 2, none⟩) (Kd.V_far (p := ⟨gb225, 1, none⟩) (Kd.V_far (p := ⟨gb225, 0, none⟩) (Kd.V_mono HL213_7.out (fun k_ hk => (⟨hk, hk.2.2.2.2.2.2⟩ : _ ∧ k_ ≠ gb225))) (fun _ hk => hk.2) (.string t218)) (fun _ hk => hk.2) (.string t219)) (fun _ hk => hk.2) (.bool t220)) (fun _ hk => hk.2) (.bool t221)) (fun _ hk => hk.2) (.bool t222)) (fun _ hk => hk.2) (.bool t223)) (fun _ hk => ⟨hk.1.1, ⟨hk.1.2.1, ⟨hk.1.2.2.1, ⟨hk.1.2.2.2.1, ⟨hk.1.2.2.2.2.1, ⟨hk.1.2.2.2.2.2.1, hk.1.2.2.2.2.2.2⟩⟩⟩⟩⟩⟩)) (fun k_ h_ => ⟨h_.1, h_.2.1, h_.2.2.1, h_.2.2.2.1, h_.2.2.2.2.1, h_.2.2.2.2.2.1⟩)), (Kd.N_mono (ok := fun k_ => some k_ ≠ (.slice (some ad215) t207.length co27 : Value).ownBlock ∧ k_ ≠ gb204 ∧ k_ ≠ gb205 ∧ k_ ≠ gb206 ∧ k_ ≠ gb214 ∧ k_ ≠ gb225) (by (with_reducible repeat (first | apply Kd.N_alloc | apply Kd.N_drewN | apply Kd.N_drew)); exact Kd.N_mono (Kd.N_far (p := ⟨gb225, 5, none⟩) (Kd.N_far (p := ⟨gb225, 4, none⟩) (Kd.N_far (p := ⟨gb225, 3, none⟩) (Kd.N_far (p := ⟨gb225, 2, none⟩) (Kd.N_far (p := ⟨gb225, 1, none⟩) (Kd.N_far (p := ⟨gb225, 0, none⟩) (Kd.N_mono HO_19.out (fun k_ hk => (⟨hk, hk.2.2.2.2.2⟩ : _ ∧ k_ ≠ gb225))) (fun _ hk => hk.2) (.string t218)) (fun _ hk => hk.2) (.string t219)) (fun _ hk => hk.2) (.bool t220)) (fun _ hk => hk.2) (.bool t221)) (fun _ hk => hk.2) (.bool t222)) (fun _ hk => hk.2) (.bool t223)) (fun _ hk => ⟨hk.1.1, ⟨hk.1.2.1, ⟨hk.1.2.2.1, ⟨hk.1.2.2.2.1, ⟨hk.1.2.2.2.2.1, hk.1.2.2.2.2.2⟩⟩⟩⟩⟩)) (fun k_ h_ => ⟨h_.1, h_.2.1, h_.2.2.1, h_.2.2.2.1, h_.2.2.2.2.1⟩)), (by (with_reducible repeat (first | apply Kd.R_alloc | apply Kd.R_drewN | apply Kd.R_drew)); exact Kd.R_mono (Kd.R_far (p := ⟨gb225, 5, none⟩) (Kd.R_far (p := ⟨gb225, 4, none⟩) (Kd.R_far (p := ⟨gb225, 3, none⟩) (Kd.R_far (p := ⟨gb225, 2, none⟩) (Kd.R_far (p := ⟨gb225, 1, none⟩) (Kd.R_far (p := ⟨gb225, 0, none⟩) (Kd.R_types HO_6.out BK225.out (by decide)) (fun _ hk => hk.2) (.string t218)) (fun _ hk => hk.2) (.string t219)) (fun _ hk => hk.2) (.bool t220)) (fun _ hk => hk.2) (.bool t221)) (fun _ hk => hk.2) (.bool t222)) (fun _ hk => hk.2) (.bool t223)) (fun _ hk => trivial)), (by (with_reducible repeat (first | refine blk_drewN ?_ _ | refine blk_drew ?_ | refine blk_alloc ?_ _)); refine blk_far ?_ NB204_225.out _; (with_reducible repeat (first | refine blk_drewN ?_ _ | refine blk_drew ?_ | refine blk_alloc ?_ _)); refine blk_far ?_ NB204_225.out _; (with_reducible repeat (first | refine blk_drewN ?_ _ | refine blk_drew ?_ | refine blk_alloc ?_ _)); refine blk_far ?_ NB204_225.out _; (with_reducible repeat (first | refine blk_drewN ?_ _ | refine blk_drew ?_ | refine blk_alloc ?_ _)); refine blk_far ?_ NB204_225.out _; (with_reducible repeat (first | refine blk_drewN ?_ _ | refine blk_drew ?_ | refine blk_alloc ?_ _)); refine blk_far ?_ NB204_225.out _; (with_reducible repeat (first | refine blk_drewN ?_ _ | refine blk_drew ?_ | refine blk_alloc ?_ _)); refine blk_far ?_ NB204_225.out _; (with_reducible repeat (first | refine blk_drewN ?_ _ | refine blk_drew ?_ | refine blk_alloc ?_ _)); exact BK204.out), (by (with_reducible repeat (first | refine blk_drewN ?_ _ | refine blk_drew ?_ | refine blk_alloc ?_ _)); refine blk_far ?_ NB205_225.out _; (with_reducible repeat (first | refine blk_drewN ?_ _ | refine blk_drew ?_ | refine blk_alloc ?_ _)); refine blk_far ?_ NB205_225.out _; (with_reducible repeat (first | refine blk_drewN ?_ _ | refine blk_drew ?_ | refine blk_alloc ?_ _)); refine blk_far ?_ NB205_225.out _; (with_reducible repeat (first | refine blk_drewN ?_ _ | refine blk_drew ?_ | refine blk_alloc ?_ _)); refine blk_far ?_ NB205_225.out _; (with_reducible repeat (first | refine blk_drewN ?_ _ | refine blk_drew ?_ | refine blk_alloc ?_ _)); refine blk_far ?_ NB205_225.out _; (with_reducible repeat (first | refine blk_drewN ?_ _ | refine blk_drew ?_ | refine blk_alloc ?_ _)); refine blk_far ?_ NB205_225.out _; (with_reducible repeat (first | refine blk_drewN ?_ _ | refine blk_drew ?_ | refine blk_alloc ?_ _)); exact BK205.out), (by (with_reducible repeat (first | refine blk_drewN ?_ _ | refine blk_drew ?_ | refine blk_alloc ?_ _)); refine blk_far ?_ NB206_225.out _; (with_reducible repeat (first | refine blk_drewN ?_ _ | refine blk_drew ?_ | refine blk_alloc ?_ _)); refine blk_far ?_ NB206_225.out _; (with_reducible repeat (first | refine blk_drewN ?_ _ | refine blk_drew ?_ | refine blk_alloc ?_ _)); refine blk_far ?_ NB206_225.out _; (with_reducible repeat (first | refine blk_drewN ?_ _ | refine blk_drew ?_ | refine blk_alloc ?_ _)); refine blk_far ?_ NB206_225.out _; (with_reducible repeat (first | refine blk_drewN ?_ _ | refine blk_drew ?_ | refine blk_alloc ?_ _)); refine blk_far ?_ NB206_225.out _; (with_reducible repeat (first | refine blk_drewN ?_ _ | refine blk_drew ?_ | refine blk_alloc ?_ _)); refine blk_far ?_ NB206_225.out _; (with_reducible repeat (first | refine blk_drewN ?_ _ | refine blk_drew ?_ | refine blk_alloc ?_ _)); exact BK206.out), (by (with_reducible repeat (first | refine blk_drewN ?_ _ | refine blk_drew ?_ | refine blk_alloc ?_ _)); refine blk_far ?_ NB214_225.out _; (with_reducible repeat (first | refine blk_drewN ?_ _ | refine blk_drew ?_ | refine blk_alloc ?_ _)); refine blk_far ?_ NB214_225.out _; (with_reducible repeat (first | refine blk_drewN ?_ _ | refine blk_drew ?_ | refine blk_alloc ?_ _)); refine blk_far ?_ NB214_225.out _; (with_reducible repeat (first | refine blk_drewN ?_ _ | refine blk_drew ?_ | refine blk_alloc ?_ _)); refine blk_far ?_ NB214_225.out _; (with_reducible repeat (first | refine blk_drewN ?_ _ | refine blk_drew ?_ | refine blk_alloc ?_ _)); refine blk_far ?_ NB214_225.out _; (with_reducible repeat (first | refine blk_drewN ?_ _ | refine blk_drew ?_ | refine blk_alloc ?_ _)); refine blk_far ?_ NB214_225.out _; (with_reducible repeat (first | refine blk_drewN ?_ _ | refine blk_drew ?_ | refine blk_alloc ?_ _)); exact BK214.out), (bw_ HB.out), fun _ => (by (with_reducible repeat (first | apply Kd.V_alloc | apply Kd.V_drewN | apply Kd.V_drew)); exact Kd.V_mono (Kd.V_far (p := ⟨gb225, 5, none⟩) (Kd.V_far (p := ⟨gb225, 4, none⟩) (Kd.V_far (p := ⟨gb225, 3, none⟩) (Kd.V_far (p := ⟨gb225, 2, none⟩) (Kd.V_far (p := ⟨gb225, 1, none⟩) (Kd.V_far (p := ⟨gb225, 0, none⟩) (Kd.V_mono HL213_7.out (fun k_ hk => (⟨hk, hk.2.2.2.2.2.2⟩ : _ ∧ k_ ≠ gb225))) (fun _ hk => hk.2) (.string t218)) (fun _ hk => hk.2) (.string t219)) (fun _ hk => hk.2) (.bool t220)) (fun _ hk => hk.2) (.bool t221)) (fun _ hk => hk.2) (.bool t222)) (fun _ hk => hk.2) (.bool t223)) (fun _ hk => ⟨hk.1.1, ⟨hk.1.2.1, ⟨hk.1.2.2.1, ⟨hk.1.2.2.2.1, ⟨hk.1.2.2.2.2.1, ⟨hk.1.2.2.2.2.2.1, hk.1.2.2.2.2.2.2⟩⟩⟩⟩⟩⟩)), fun _ => (by (with_reducible repeat (first | apply Kd.N_alloc | apply Kd.N_drewN | apply Kd.N_drew)); exact Kd.N_mono (Kd.N_far (p := ⟨gb225, 5, none⟩) (Kd.N_far (p := ⟨gb225, 4, none⟩) (Kd.N_far (p := ⟨gb225, 3, none⟩) (Kd.N_far (p := ⟨gb225, 2, none⟩) (Kd.N_far (p := ⟨gb225, 1, none⟩) (Kd.N_far (p := ⟨gb225, 0, none⟩) (Kd.N_mono HO_19.out (fun k_ hk => (⟨hk, hk.2.2.2.2.2⟩ : _ ∧ k_ ≠ gb225))) (fun _ hk => hk.2) (.string t218)) (fun _ hk => hk.2) (.string t219)) (fun _ hk => hk.2) (.bool t220)) (fun _ hk => hk.2) (.bool t221)) (fun _ hk => hk.2) (.bool t222)) (fun _ hk => hk.2) (.bool t223)) (fun _ hk => ⟨hk.1.1, ⟨hk.1.2.1, ⟨hk.1.2.2.1, ⟨hk.1.2.2.2.1, ⟨hk.1.2.2.2.2.1, hk.1.2.2.2.2.2⟩⟩⟩⟩⟩)), fun _ h1_ => absurd ((up_self b 17).symm.trans h1_) (by decide), fun _ => GW225.out, fun _ => GE225.out, fun _ => NB204_225.out, fun _ => NB225_204.out, fun _ => NB205_225.out, fun _ => NB225_205.out, fun _ => NB206_225.out, fun _ => NB225_206.out, fun _ => NB214_225.out, fun _ => NB225_214.out, fun _ => (by (with_reducible repeat (first | refine blk_drewN ?_ _ | refine blk_drew ?_ | refine blk_alloc ?_ _)); refine blk_put (cs := #[.string t218, .string t219, .bool t220, .bool t221, .bool t222, .bool false]) ?_ 5 _ rfl; (with_reducible repeat (first | refine blk_drewN ?_ _ | refine blk_drew ?_ | refine blk_alloc ?_ _)); refine blk_put (cs := #[.string t218, .string t219, .bool t220, .bool t221, .bool false, .bool false]) ?_ 4 _ rfl; (with_reducible repeat (first | refine blk_drewN ?_ _ | refine blk_drew ?_ | refine blk_alloc ?_ _)); refine blk_put (cs := #[.string t218, .string t219, .bool t220, .bool false, .bool false, .bool false]) ?_ 3 _ rfl; (with_reducible repeat (first | refine blk_drewN ?_ _ | refine blk_drew ?_ | refine blk_alloc ?_ _)); refine blk_put (cs := #[.string t218, .string t219, .bool false, .bool false, .bool false, .bool false]) ?_ 2 _ rfl; (with_reducible repeat (first | refine blk_drewN ?_ _ | refine blk_drew ?_ | refine blk_alloc ?_ _)); refine blk_put (cs := #[.string t218, .string (⟨#[]⟩ : ByteArray), .bool false, .bool false, .bool false, .bool false]) ?_ 1 _ rfl; (with_reducible repeat (first | refine blk_drewN ?_ _ | refine blk_drew ?_ | refine blk_alloc ?_ _)); refine blk_put (cs := #[.string (⟨#[]⟩ : ByteArray), .string (⟨#[]⟩ : ByteArray), .bool false, .bool false, .bool false, .bool false]) ?_ 0 _ rfl; (with_reducible repeat (first | refine blk_drewN ?_ _ | refine blk_drew ?_ | refine blk_alloc ?_ _)); exact BK225.out), Q_X16_⟩
            refine steps_cons ?_ ?_
            · rintro b a w' ⟨gb225, m16_, ha, Q_HL213_7, Q_HO_19, Q_HO_6, Q_BK204, Q_BK205, Q_BK206, Q_BK214, Q_HB, Q_HL213_7_e16, Q_HO_19_e16, Q_BK225, Q_GW225, Q_GE225, Q_NB204_225, Q_NB225_204, Q_NB205_225, Q_NB225_205, Q_NB206_225, Q_NB225_206, Q_NB214_225, Q_NB225_214, Q_BK225_e17, Q_X16_⟩ hb_ hon hoff
              refine ⟨_, rfl, fun K hK => ?_⟩
              have e40 : a.tmps[40]? = some (.bool true) := by rw [ha]; exact putSel_on (e := (15, 40, .bool true)) 12 rfl rfl (hon 15 (by kernel_rfl)) rfl
              replace ha := Aside0.mk ha
              have HL213_7 := Aside0.mk Q_HL213_7
              have HO_19 := Aside0.mk Q_HO_19
              have HO_6 := Aside0.mk Q_HO_6
              have BK204 := Aside0.mk Q_BK204
              have BK205 := Aside0.mk Q_BK205
              have BK206 := Aside0.mk Q_BK206
              have BK214 := Aside0.mk Q_BK214
              have HB := Aside0.mk Q_HB
              have HL213_7 := Aside0.mk (Q_HL213_7_e16 (hon 16 (by kernel_rfl)))
              have HO_19 := Aside0.mk (Q_HO_19_e16 (hon 16 (by kernel_rfl)))
              have GW225 := Aside0.mk (Q_GW225 (hon 16 (by kernel_rfl)))
              have GE225 := Aside0.mk (Q_GE225 (hon 16 (by kernel_rfl)))
              have NB204_225 := Aside0.mk (Q_NB204_225 (hon 16 (by kernel_rfl)))
              have NB225_204 := Aside0.mk (Q_NB225_204 (hon 16 (by kernel_rfl)))
              have NB205_225 := Aside0.mk (Q_NB205_225 (hon 16 (by kernel_rfl)))
              have NB225_205 := Aside0.mk (Q_NB225_205 (hon 16 (by kernel_rfl)))
              have NB206_225 := Aside0.mk (Q_NB206_225 (hon 16 (by kernel_rfl)))
              have NB225_206 := Aside0.mk (Q_NB225_206 (hon 16 (by kernel_rfl)))
              have NB214_225 := Aside0.mk (Q_NB214_225 (hon 16 (by kernel_rfl)))
              have NB225_214 := Aside0.mk (Q_NB225_214 (hon 16 (by kernel_rfl)))
              have BK225 := Aside0.mk (Q_BK225_e17 (hon 17 (by kernel_rfl)))
              refine value_ (w1 := w') (v := .bool true) (by rfl) rfl ?_ ?_
              · go_simp
                (try simp only [i64_w])
                try rfl
              refine hK.out _ _ ⟨gb225, m16_, (by rw [ha.out]; exact putSel_upk 14 hb_ rfl rfl rfl), Q_HL213_7, Q_HO_19, Q_HO_6, Q_BK204, Q_BK205, Q_BK206, Q_BK214, Q_HB, Q_HL213_7_e16, Q_HO_19_e16, fun _ h1_ => absurd ((hon 17 (by kernel_rfl)).symm.trans h1_) (by decide), Q_GW225, Q_GE225, Q_NB204_225, Q_NB225_204, Q_NB205_225, Q_NB225_205, Q_NB206_225, Q_NB225_206, Q_NB214_225, Q_NB225_214, Q_BK225_e17, Q_X16_⟩
            exact steps_nil
          rintro b a w54 hall ⟨gb225, m16_, ha, Q_HL213_7, Q_HO_19, Q_HO_6, Q_BK204, Q_BK205, Q_BK206, Q_BK214, Q_HB, Q_HL213_7_e16, Q_HO_19_e16, Q_BK225, Q_GW225, Q_GE225, Q_NB204_225, Q_NB225_204, Q_NB205_225, Q_NB225_205, Q_NB206_225, Q_NB225_206, Q_NB214_225, Q_NB225_214, Q_BK225_e17, Q_X16_⟩
          clear BK204 BK205 BK206 BK214 HB HL213_7 HO_19 HO_6
          have hb0_ := hall 0 (by kernel_rfl)
          have hb2_ := hall 2 (by kernel_rfl)
          have hb3_ := hall 3 (by kernel_rfl)
          have hb5_ := hall 5 (by kernel_rfl)
          have hb7_ := hall 7 (by kernel_rfl)
          have hb8_ := hall 8 (by kernel_rfl)
          have hb9_ := hall 9 (by kernel_rfl)
          have hb10_ := hall 10 (by kernel_rfl)
          have hb11_ := hall 11 (by kernel_rfl)
          have hb12_ := hall 12 (by kernel_rfl)
          have hb13_ := hall 13 (by kernel_rfl)
          have hb14_ := hall 14 (by kernel_rfl)
          have hb15_ := hall 15 (by kernel_rfl)
          have hb16_ := hall 16 (by kernel_rfl)
          have hb17_ := hall 17 (by kernel_rfl)
          have hb18_ := hall 18 (by kernel_rfl)
          subst ha
          obtain rfl := Q_X16_ hb16_
          simp only [putSel, hb0_, hb2_, hb3_, hb5_, hb7_, hb8_, hb9_, hb10_, hb11_, hb12_, hb13_, hb14_, hb15_, hb16_, hb17_, hb18_, if_true, Act.put, List.setIfInBounds_toArray, List.set_cons_zero, List.set_cons_succ]
          have HL213_7 := Aside0.mk Q_HL213_7
          clear Q_HL213_7
          have HO_19 := Aside0.mk Q_HO_19
          clear Q_HO_19
          have HO_6 := Aside0.mk Q_HO_6
          clear Q_HO_6
          have BK204 := Aside0.mk Q_BK204
          clear Q_BK204
          have BK205 := Aside0.mk Q_BK205
          clear Q_BK205
          have BK206 := Aside0.mk Q_BK206
          clear Q_BK206
          have BK214 := Aside0.mk Q_BK214
          clear Q_BK214
          have HB := Aside0.mk Q_HB
          clear Q_HB
          have HL213_7 := Aside0.mk (Q_HL213_7_e16 hb16_)
          clear Q_HL213_7_e16
          have HO_19 := Aside0.mk (Q_HO_19_e16 hb16_)
          clear Q_HO_19_e16
          clear Q_BK225
          have GW225 := Aside0.mk (Q_GW225 hb16_)
          clear Q_GW225
          have GE225 := Aside0.mk (Q_GE225 hb16_)
          clear Q_GE225
          have NB204_225 := Aside0.mk (Q_NB204_225 hb16_)
          clear Q_NB204_225
          have NB225_204 := Aside0.mk (Q_NB225_204 hb16_)
          clear Q_NB225_204
          have NB205_225 := Aside0.mk (Q_NB205_225 hb16_)
          clear Q_NB205_225
          have NB225_205 := Aside0.mk (Q_NB225_205 hb16_)
          clear Q_NB225_205
          have NB206_225 := Aside0.mk (Q_NB206_225 hb16_)
          clear Q_NB206_225
          have NB225_206 := Aside0.mk (Q_NB225_206 hb16_)
          clear Q_NB225_206
          have NB214_225 := Aside0.mk (Q_NB214_225 hb16_)
          clear Q_NB214_225
          have NB225_214 := Aside0.mk (Q_NB225_214 hb16_)
          clear Q_NB225_214
          have BK225 := Aside0.mk (Q_BK225_e17 hb17_)
          clear Q_BK225_e17
          clear hall hb0_ hb2_ hb3_ hb5_ hb7_ hb8_ hb9_ hb10_ hb11_ hb12_ hb13_ hb14_ hb15_ hb16_ hb17_ hb18_
          have hnb55 := NB206_204.out
          have hnc55 := NB204_206.out
          have hnb56 := NB206_205.out
          have hnc56 := NB205_206.out
          have hnb57 := NB206_225.out
          have hnc57 := NB225_206.out
          have hcz58_0 : w54.cell? ⟨gb206, 0, none⟩ = some (.string x207000_1) := (blk_cell BK206.out 0).trans rfl
          have hcz58_1 : w54.cell? ⟨gb206, 1, none⟩ = some (.string x207001_1) := (blk_cell BK206.out 1).trans rfl
          have hcz58_2 : w54.cell? ⟨gb206, 2, none⟩ = some (.bool x207002_1) := (blk_cell BK206.out 2).trans rfl
          have hcz58_3 : w54.cell? ⟨gb206, 3, none⟩ = some (.bool x207003_1) := (blk_cell BK206.out 3).trans rfl
          have hcz58_4 : w54.cell? ⟨gb206, 4, none⟩ = some (.bool x207004_1) := (blk_cell BK206.out 4).trans rfl
          have hcz58_5 : w54.cell? ⟨gb206, 5, none⟩ = some (.bool x207005_1) := (blk_cell BK206.out 5).trans rfl
          have hfz58_0 := blk_frozen BK206.out 0
          have hfz58_1 := blk_frozen BK206.out 1
          have hfz58_2 := blk_frozen BK206.out 2
          have hfz58_3 := blk_frozen BK206.out 3
          have hfz58_4 := blk_frozen BK206.out 4
          have hfz58_5 := blk_frozen BK206.out 5
          have hnb59 := NB225_204.out
          have hnc59 := NB204_225.out
          have hnb60 := NB225_205.out
          have hnc60 := NB205_225.out
          have hnb61 := NB225_214.out
          have hnc61 := NB214_225.out
          have hcz62_0 : w54.cell? ⟨gb225, 0, none⟩ = some (.string t218) := (blk_cell BK225.out 0).trans rfl
          have hcz62_1 : w54.cell? ⟨gb225, 1, none⟩ = some (.string t219) := (blk_cell BK225.out 1).trans rfl
          have hcz62_2 : w54.cell? ⟨gb225, 2, none⟩ = some (.bool t220) := (blk_cell BK225.out 2).trans rfl
          have hcz62_3 : w54.cell? ⟨gb225, 3, none⟩ = some (.bool t221) := (blk_cell BK225.out 3).trans rfl
          have hcz62_4 : w54.cell? ⟨gb225, 4, none⟩ = some (.bool t222) := (blk_cell BK225.out 4).trans rfl
          have hcz62_5 : w54.cell? ⟨gb225, 5, none⟩ = some (.bool t223) := (blk_cell BK225.out 5).trans rfl
          have hfz62_0 := blk_frozen BK225.out 0
          have hfz62_1 := blk_frozen BK225.out 1
          have hfz62_2 := blk_frozen BK225.out 2
          have hfz62_3 := blk_frozen BK225.out 3
          have hfz62_4 := blk_frozen BK225.out 4
          have hfz62_5 := blk_frozen BK225.out 5
          try go_wp2_with (first | ((with_reducible refine gate_callee (f := 13) rfl ?_); refine goesL_ (some 44) rfl rfl Try.func13 (by kernel_rfl) rfl #[.agg #[.string x207000_1, .string x207001_1, .bool x207002_1, .bool x207003_1, .bool x207004_1, .bool x207005_1], .agg #[.string t218, .string t219, .bool t220, .bool t221, .bool t222, .bool t223]] rfl (by (try simp only [List.map_toArray, List.map_cons, List.map_nil]); first | done | rfl | (simp only [List.length_drop, List.length_take]; rfl)) ?_; (with_reducible refine (cursor_Meet.calls k1 x207000_1 x207001_1 x207002_1 x207003_1 x207004_1 x207005_1 t218 t219 t220 t221 t222 t223 t226 t227 t228 t229 t230 t231 _ A38.out).mono ?_); rintro e w63 ⟨rfl, hb⟩; refine ⟨_, rfl, ?_⟩; have n0_ := Aside0.mk (Kd.R_below (kR_ HO_6.out) hb); have n1_ := Aside0.mk (Kd.N_below (kN_ HO_19.out) hb); have n2_ := Aside0.mk (Kd.V_below (kV_ HL213_7.out) hb); have n3_ := Aside0.mk (blk_below (g := gb204) (o := .cells #[.string a0_0, .slice (some ad217) l0_1.length c0_1] 33 (0, 0)) (bl_ BK204.out) hb); have n4_ := Aside0.mk (blk_below (g := gb205) (o := .cells #[.string (⟨#[]⟩ : ByteArray), .string (⟨#[]⟩ : ByteArray), .bool false, .bool false, .bool false, .bool false] 35 (0, 0)) (bl_ BK205.out) hb); have n5_ := Aside0.mk (blk_below (g := gb206) (o := .cells #[.string x207000_1, .string x207001_1, .bool x207002_1, .bool x207003_1, .bool x207004_1, .bool x207005_1] 35 (0, 0)) (bl_ BK206.out) hb); have n6_ := Aside0.mk (blk_below (g := gb214) (o := .cells #[.string ((rd_T43 t210 x21_1).f0), .int .i64 ((rd_T43 t210 x21_1).f1), .int .i64 ((rd_T43 t210 x21_1).f2), .int .i64 ((rd_T43 t210 x21_1).f3.f0), .int .i64 ((rd_T43 t210 x21_1).f3.f1), .string ((rd_T43 t210 x21_1).f3.f2), .bool ((rd_T43 t210 x21_1).f3.f3), .slice A213_7 ((rd_T43 t210 x21_1).f4).length c213_7] 43 (0, 0)) (bl_ BK214.out) hb); have n7_ := Aside0.mk (blk_below (g := gb225) (o := .cells #[.string t218, .string t219, .bool t220, .bool t221, .bool t222, .bool t223] 35 (0, 0)) (bl_ BK225.out) hb); have n8_ := Aside0.mk (below_step (bw_ HB.out) hb); clear HO_6; clear HO_19; clear HL213_7; clear BK204; clear BK205; clear BK206; clear BK214; clear BK225; clear HB; have HO_6 := n0_; have HO_19 := n1_; have HL213_7 := n2_; have BK204 := n3_; have BK205 := n4_; have BK206 := n5_; have BK214 := n6_; have BK225 := n7_; have HB := n8_; clear n0_ n1_ n2_ n3_ n4_ n5_ n6_ n7_ n8_; (try clear hb); (try clear hb2); (try clear hk); (try clear hi); have hcz64_0 : w63.cell? ⟨gb206, 0, none⟩ = some (.string x207000_1) := (blk_cell BK206.out 0).trans rfl; have hcz64_1 : w63.cell? ⟨gb206, 1, none⟩ = some (.string x207001_1) := (blk_cell BK206.out 1).trans rfl; have hcz64_2 : w63.cell? ⟨gb206, 2, none⟩ = some (.bool x207002_1) := (blk_cell BK206.out 2).trans rfl; have hcz64_3 : w63.cell? ⟨gb206, 3, none⟩ = some (.bool x207003_1) := (blk_cell BK206.out 3).trans rfl; have hcz64_4 : w63.cell? ⟨gb206, 4, none⟩ = some (.bool x207004_1) := (blk_cell BK206.out 4).trans rfl; have hcz64_5 : w63.cell? ⟨gb206, 5, none⟩ = some (.bool x207005_1) := (blk_cell BK206.out 5).trans rfl; have hfz64_0 := blk_frozen BK206.out 0; have hfz64_1 := blk_frozen BK206.out 1; have hfz64_2 := blk_frozen BK206.out 2; have hfz64_3 := blk_frozen BK206.out 3; have hfz64_4 := blk_frozen BK206.out 4; have hfz64_5 := blk_frozen BK206.out 5))
          go_roundg k1
          case measure => have := HK1.out; omega
          case rel => exact ⟨(wrap64 (x21_1 + 1)), (t226), (t227), (t228), (t229), (t230), (t231), (by first | rfl | (simp; done) | (simp [*]; done) | (simp [bne]; done)), H', ⟨by have := HK1.out; omega⟩, ⟨by (with_reducible repeat (first | apply Kd.R_alloc | apply Kd.R_drewN | apply Kd.R_drew)); exact Kd.R_mono (Kd.R_far (p := ⟨gb206, 5, none⟩) (Kd.R_far (p := ⟨gb206, 4, none⟩) (Kd.R_far (p := ⟨gb206, 3, none⟩) (Kd.R_far (p := ⟨gb206, 2, none⟩) (Kd.R_far (p := ⟨gb206, 1, none⟩) (Kd.R_far (p := ⟨gb206, 0, none⟩) (Kd.R_types HO_6.out BK206.out (by decide)) (fun _ hk => hk.2) (.string t226)) (fun _ hk => hk.2) (.string t227)) (fun _ hk => hk.2) (.bool t228)) (fun _ hk => hk.2) (.bool t229)) (fun _ hk => hk.2) (.bool t230)) (fun _ hk => hk.2) (.bool t231)) (fun _ hk => trivial)⟩, ⟨by (with_reducible repeat (first | apply Kd.N_alloc | apply Kd.N_drewN | apply Kd.N_drew)); exact Kd.N_mono (Kd.N_far (p := ⟨gb206, 5, none⟩) (Kd.N_far (p := ⟨gb206, 4, none⟩) (Kd.N_far (p := ⟨gb206, 3, none⟩) (Kd.N_far (p := ⟨gb206, 2, none⟩) (Kd.N_far (p := ⟨gb206, 1, none⟩) (Kd.N_far (p := ⟨gb206, 0, none⟩) (Kd.N_mono HO_19.out (fun k_ hk => (⟨hk, hk.2.2.2.1⟩ : _ ∧ k_ ≠ gb206))) (fun _ hk => hk.2) (.string t226)) (fun _ hk => hk.2) (.string t227)) (fun _ hk => hk.2) (.bool t228)) (fun _ hk => hk.2) (.bool t229)) (fun _ hk => hk.2) (.bool t230)) (fun _ hk => hk.2) (.bool t231)) (fun _ hk => ⟨hk.1.1, ⟨hk.1.2.1, ⟨hk.1.2.2.1, hk.1.2.2.2.1⟩⟩⟩)⟩, ⟨by (with_reducible repeat (first | refine blk_drewN ?_ _ | refine blk_drew ?_ | refine blk_alloc ?_ _)); refine blk_far ?_ NB204_206.out _; (with_reducible repeat (first | refine blk_drewN ?_ _ | refine blk_drew ?_ | refine blk_alloc ?_ _)); refine blk_far ?_ NB204_206.out _; (with_reducible repeat (first | refine blk_drewN ?_ _ | refine blk_drew ?_ | refine blk_alloc ?_ _)); refine blk_far ?_ NB204_206.out _; (with_reducible repeat (first | refine blk_drewN ?_ _ | refine blk_drew ?_ | refine blk_alloc ?_ _)); refine blk_far ?_ NB204_206.out _; (with_reducible repeat (first | refine blk_drewN ?_ _ | refine blk_drew ?_ | refine blk_alloc ?_ _)); refine blk_far ?_ NB204_206.out _; (with_reducible repeat (first | refine blk_drewN ?_ _ | refine blk_drew ?_ | refine blk_alloc ?_ _)); refine blk_far ?_ NB204_206.out _; (with_reducible repeat (first | refine blk_drewN ?_ _ | refine blk_drew ?_ | refine blk_alloc ?_ _)); exact BK204.out⟩, ⟨by (with_reducible repeat (first | refine blk_drewN ?_ _ | refine blk_drew ?_ | refine blk_alloc ?_ _)); refine blk_far ?_ NB205_206.out _; (with_reducible repeat (first | refine blk_drewN ?_ _ | refine blk_drew ?_ | refine blk_alloc ?_ _)); refine blk_far ?_ NB205_206.out _; (with_reducible repeat (first | refine blk_drewN ?_ _ | refine blk_drew ?_ | refine blk_alloc ?_ _)); refine blk_far ?_ NB205_206.out _; (with_reducible repeat (first | refine blk_drewN ?_ _ | refine blk_drew ?_ | refine blk_alloc ?_ _)); refine blk_far ?_ NB205_206.out _; (with_reducible repeat (first | refine blk_drewN ?_ _ | refine blk_drew ?_ | refine blk_alloc ?_ _)); refine blk_far ?_ NB205_206.out _; (with_reducible repeat (first | refine blk_drewN ?_ _ | refine blk_drew ?_ | refine blk_alloc ?_ _)); refine blk_far ?_ NB205_206.out _; (with_reducible repeat (first | refine blk_drewN ?_ _ | refine blk_drew ?_ | refine blk_alloc ?_ _)); exact BK205.out⟩, ⟨by (with_reducible repeat (first | refine blk_drewN ?_ _ | refine blk_drew ?_ | refine blk_alloc ?_ _)); refine blk_put (cs := #[.string t226, .string t227, .bool t228, .bool t229, .bool t230, .bool x207005_1]) ?_ 5 _ rfl; (with_reducible repeat (first | refine blk_drewN ?_ _ | refine blk_drew ?_ | refine blk_alloc ?_ _)); refine blk_put (cs := #[.string t226, .string t227, .bool t228, .bool t229, .bool x207004_1, .bool x207005_1]) ?_ 4 _ rfl; (with_reducible repeat (first | refine blk_drewN ?_ _ | refine blk_drew ?_ | refine blk_alloc ?_ _)); refine blk_put (cs := #[.string t226, .string t227, .bool t228, .bool x207003_1, .bool x207004_1, .bool x207005_1]) ?_ 3 _ rfl; (with_reducible repeat (first | refine blk_drewN ?_ _ | refine blk_drew ?_ | refine blk_alloc ?_ _)); refine blk_put (cs := #[.string t226, .string t227, .bool x207002_1, .bool x207003_1, .bool x207004_1, .bool x207005_1]) ?_ 2 _ rfl; (with_reducible repeat (first | refine blk_drewN ?_ _ | refine blk_drew ?_ | refine blk_alloc ?_ _)); refine blk_put (cs := #[.string t226, .string x207001_1, .bool x207002_1, .bool x207003_1, .bool x207004_1, .bool x207005_1]) ?_ 1 _ rfl; (with_reducible repeat (first | refine blk_drewN ?_ _ | refine blk_drew ?_ | refine blk_alloc ?_ _)); refine blk_put (cs := #[.string x207000_1, .string x207001_1, .bool x207002_1, .bool x207003_1, .bool x207004_1, .bool x207005_1]) ?_ 0 _ rfl; (with_reducible repeat (first | refine blk_drewN ?_ _ | refine blk_drew ?_ | refine blk_alloc ?_ _)); exact BK206.out⟩, ⟨bw_ HB.out⟩⟩
        replace c37 := Bool.eq_false_iff.mpr c37
        subst c37
        rw [if_neg (show ¬ (false = true) by decide)] at H
        have H' := Aside0.mk H
        clear H
        have p213 : 0 ≤ (x21_1 : Int) := of_decide_eq_true (by first | (with_reducible assumption) | assumption)
        have q213 : x21_1 < (t210.length : Int) := of_decide_eq_true (by first | (with_reducible assumption) | assumption)
        obtain ⟨ad213, A213_7, c213_7, e213, hx213_0, hx213_1, hx213_2, hx213_3, hx213_4, hx213_5, hx213_6, hx213_7, hl213_7, hi213_7⟩ := at_T43 (Kd.N_reads' HO_19.out).2.2 x21_1 p213 q213
        cases e213
        obtain ⟨ce213, hce213, hMe213, hcc213⟩ := Kd.N_get HO_19.out z43 x21_1 p213 (by first | exact q213 | exact of_decide_eq_true (by first | (with_reducible assumption) | assumption) | (have e_ := (Kd.N_reads' HO_19.out).1; omega))
        obtain ⟨ua213_7, uc213_7, rfl, ul213_7, ge213_7⟩ := k43_openF hMe213
        have hv213_7 := hcc213 7 _ rfl
        rw [add_field _ _ 7 (by omega)] at hv213_7
        replace hv213_7 := Option.some.inj (hv213_7.symm.trans hx213_7)
        injection hv213_7 with hva_ hvn_ hvc_
        rw [hva_] at ge213_7
        rw [hvc_] at ul213_7
        have HL213_7 := Aside0.mk (show Kd.V k43 43 _ w.heap.size _ _ ((rd_T43 t210 x21_1).f4) from Kd.V_mk ul213_7 ge213_7)
        clear hva_ hvn_ hvc_ ge213_7 ul213_7
        clear hcc213 hce213
        have HR213_7 := Aside0.mk hi213_7
        have HC213_7 := Aside0.mk hl213_7
        clear hi213_7 hl213_7
        replace p213 := eq_true p213
        replace q213 := eq_true q213
        try go_wp2_with (first | ((with_reducible refine gate_dst (N := 8) rfl ?_); refine box_event ?hg (N := 8) ?hd (cs := #[.string (⟨#[]⟩ : ByteArray), .int .i64 0, .int .i64 0, .int .i64 0, .int .i64 0, .string (⟨#[]⟩ : ByteArray), .bool false, .slice none 0 0]) (t := 43) ?hr ?_; (case hd => rfl); (case hg => rfl); (case hr => first | (go_simp; done) | (go_simp; rfl)); intro gb214 hg w65 hbox hb; have n0_ := Aside0.mk (Kd.R_below (kR_ HO_6.out) hb); have n1_ := Aside0.mk (Kd.N_below (Kd.N_elderB (kN_ HO_19.out) gb214 (Nat.le_of_eq hg.symm)) hb); have n2_ := Aside0.mk (Kd.V_below (Kd.V_elderB (kV_ HL213_7.out) gb214 (Nat.le_of_eq hg.symm)) hb); have n3_ := Aside0.mk (blk_below (g := gb204) (o := .cells #[.string a0_0, .slice A0_1 l0_1.length c0_1] 33 (0, 0)) (bl_ BK204.out) hb); have n4_ := Aside0.mk (blk_below (g := gb205) (o := .cells #[.string (⟨#[]⟩ : ByteArray), .string (⟨#[]⟩ : ByteArray), .bool false, .bool false, .bool false, .bool false] 35 (0, 0)) (bl_ BK205.out) hb); have n5_ := Aside0.mk (blk_below (g := gb206) (o := .cells #[.string x207000_1, .string x207001_1, .bool x207002_1, .bool x207003_1, .bool x207004_1, .bool x207005_1] 35 (0, 0)) (bl_ BK206.out) hb); have n6_ := Aside0.mk (Kd.C_below (by repeat (first | (with_reducible exact HR213_7.out) | (with_reducible refine Kd.C_alloc ?_ _) | (with_reducible refine Kd.C_drewN ?_ _) | (with_reducible refine Kd.C_drew ?_) | exact HR213_7.out)) hb); have n7_ := Aside0.mk (below_step (bw_ HB.out) hb); have n8_ := Aside0.mk (hbox); have n9_ := Aside0.mk ((by rw [hg]; exact (below_size (bw_ HB.out)) : w.heap.size ≤ gb214)); have n10_ := Aside0.mk ((by rw [hg]; exact (below_size (bw_ HB.out)) : w.heap.size ≤ gb214)); have n11_ := Aside0.mk ((by rw [hg]; exact Nat.ne_of_lt (blk_lt (g := gb204) (o := .cells #[.string a0_0, .slice A0_1 l0_1.length c0_1] 33 (0, 0)) (bl_ BK204.out)) : gb204 ≠ gb214)); have n12_ := Aside0.mk ((by rw [hg]; exact Nat.ne_of_gt (blk_lt (g := gb204) (o := .cells #[.string a0_0, .slice A0_1 l0_1.length c0_1] 33 (0, 0)) (bl_ BK204.out)) : gb214 ≠ gb204)); have n13_ := Aside0.mk ((by rw [hg]; exact Nat.ne_of_lt (blk_lt (g := gb205) (o := .cells #[.string (⟨#[]⟩ : ByteArray), .string (⟨#[]⟩ : ByteArray), .bool false, .bool false, .bool false, .bool false] 35 (0, 0)) (bl_ BK205.out)) : gb205 ≠ gb214)); have n14_ := Aside0.mk ((by rw [hg]; exact Nat.ne_of_gt (blk_lt (g := gb205) (o := .cells #[.string (⟨#[]⟩ : ByteArray), .string (⟨#[]⟩ : ByteArray), .bool false, .bool false, .bool false, .bool false] 35 (0, 0)) (bl_ BK205.out)) : gb214 ≠ gb205)); have n15_ := Aside0.mk ((by rw [hg]; exact Nat.ne_of_lt (blk_lt (g := gb206) (o := .cells #[.string x207000_1, .string x207001_1, .bool x207002_1, .bool x207003_1, .bool x207004_1, .bool x207005_1] 35 (0, 0)) (bl_ BK206.out)) : gb206 ≠ gb214)); have n16_ := Aside0.mk ((by rw [hg]; exact Nat.ne_of_gt (blk_lt (g := gb206) (o := .cells #[.string x207000_1, .string x207001_1, .bool x207002_1, .bool x207003_1, .bool x207004_1, .bool x207005_1] 35 (0, 0)) (bl_ BK206.out)) : gb214 ≠ gb206)); clear HO_6; clear HO_19; clear HL213_7; clear BK204; clear BK205; clear BK206; clear HR213_7; clear HB; have HO_6 := n0_; have HO_19 := n1_; have HL213_7 := n2_; have BK204 := n3_; have BK205 := n4_; have BK206 := n5_; have HR213_7 := n6_; have HB := n7_; have BK214 := n8_; have GW214 := n9_; have GE214 := n10_; have NB204_214 := n11_; have NB214_204 := n12_; have NB205_214 := n13_; have NB214_205 := n14_; have NB206_214 := n15_; have NB214_206 := n16_; clear n0_ n1_ n2_ n3_ n4_ n5_ n6_ n7_ n8_ n9_ n10_ n11_ n12_ n13_ n14_ n15_ n16_; clear hb hbox hg; have hnb66 := NB214_204.out; have hnc66 := NB204_214.out; have hnb67 := NB214_205.out; have hnc67 := NB205_214.out; have hnb68 := NB214_206.out; have hnc68 := NB206_214.out; have hcz69_0 : w65.cell? ⟨gb214, 0, none⟩ = some (.string (⟨#[]⟩ : ByteArray)) := (blk_cell BK214.out 0).trans rfl; have hcz69_1 : w65.cell? ⟨gb214, 1, none⟩ = some (.int .i64 0) := (blk_cell BK214.out 1).trans rfl; have hcz69_2 : w65.cell? ⟨gb214, 2, none⟩ = some (.int .i64 0) := (blk_cell BK214.out 2).trans rfl; have hcz69_3 : w65.cell? ⟨gb214, 3, none⟩ = some (.int .i64 0) := (blk_cell BK214.out 3).trans rfl; have hcz69_4 : w65.cell? ⟨gb214, 4, none⟩ = some (.int .i64 0) := (blk_cell BK214.out 4).trans rfl; have hcz69_5 : w65.cell? ⟨gb214, 5, none⟩ = some (.string (⟨#[]⟩ : ByteArray)) := (blk_cell BK214.out 5).trans rfl; have hcz69_6 : w65.cell? ⟨gb214, 6, none⟩ = some (.bool false) := (blk_cell BK214.out 6).trans rfl; have hcz69_7 : w65.cell? ⟨gb214, 7, none⟩ = some (.slice none 0 0) := (blk_cell BK214.out 7).trans rfl; have hfz69_0 := blk_frozen BK214.out 0; have hfz69_1 := blk_frozen BK214.out 1; have hfz69_2 := blk_frozen BK214.out 2; have hfz69_3 := blk_frozen BK214.out 3; have hfz69_4 := blk_frozen BK214.out 4; have hfz69_5 := blk_frozen BK214.out 5; have hfz69_6 := blk_frozen BK214.out 6; have hfz69_7 := blk_frozen BK214.out 7))
        have n0_ : Aside0 (Kd.R (Kd.int .i64) 3 ((((((((w65.setCell ⟨gb214, 0, none⟩ (.string ((rd_T43 t210 x21_1).f0))).setCell ⟨gb214, 1, none⟩ (.int .i64 ((rd_T43 t210 x21_1).f1))).setCell ⟨gb214, 2, none⟩ (.int .i64 ((rd_T43 t210 x21_1).f2))).setCell ⟨gb214, 3, none⟩ (.int .i64 ((rd_T43 t210 x21_1).f3.f0))).setCell ⟨gb214, 4, none⟩ (.int .i64 ((rd_T43 t210 x21_1).f3.f1))).setCell ⟨gb214, 5, none⟩ (.string ((rd_T43 t210 x21_1).f3.f2))).setCell ⟨gb214, 6, none⟩ (.bool ((rd_T43 t210 x21_1).f3.f3))).setCell ⟨gb214, 7, none⟩ (.slice A213_7 ((rd_T43 t210 x21_1).f4).length c213_7)) w.heap.size (fun _ => True) (.slice Ao27 t207.length co27) t207) := ⟨by (with_reducible repeat (first | apply Kd.R_alloc | apply Kd.R_drewN | apply Kd.R_drew)); exact Kd.R_mono (Kd.R_far (p := ⟨gb214, 7, none⟩) (Kd.R_far (p := ⟨gb214, 6, none⟩) (Kd.R_far (p := ⟨gb214, 5, none⟩) (Kd.R_far (p := ⟨gb214, 4, none⟩) (Kd.R_far (p := ⟨gb214, 3, none⟩) (Kd.R_far (p := ⟨gb214, 2, none⟩) (Kd.R_far (p := ⟨gb214, 1, none⟩) (Kd.R_far (p := ⟨gb214, 0, none⟩) (Kd.R_types HO_6.out BK214.out (by decide)) (fun _ hk => hk.2) (.string ((rd_T43 t210 x21_1).f0))) (fun _ hk => hk.2) (.int .i64 ((rd_T43 t210 x21_1).f1))) (fun _ hk => hk.2) (.int .i64 ((rd_T43 t210 x21_1).f2))) (fun _ hk => hk.2) (.int .i64 ((rd_T43 t210 x21_1).f3.f0))) (fun _ hk => hk.2) (.int .i64 ((rd_T43 t210 x21_1).f3.f1))) (fun _ hk => hk.2) (.string ((rd_T43 t210 x21_1).f3.f2))) (fun _ hk => hk.2) (.bool ((rd_T43 t210 x21_1).f3.f3))) (fun _ hk => hk.2) (.slice A213_7 ((rd_T43 t210 x21_1).f4).length c213_7)) (fun _ hk => trivial)⟩
        have n1_ : Aside0 (Kd.N k43 43 ((((((((w65.setCell ⟨gb214, 0, none⟩ (.string ((rd_T43 t210 x21_1).f0))).setCell ⟨gb214, 1, none⟩ (.int .i64 ((rd_T43 t210 x21_1).f1))).setCell ⟨gb214, 2, none⟩ (.int .i64 ((rd_T43 t210 x21_1).f2))).setCell ⟨gb214, 3, none⟩ (.int .i64 ((rd_T43 t210 x21_1).f3.f0))).setCell ⟨gb214, 4, none⟩ (.int .i64 ((rd_T43 t210 x21_1).f3.f1))).setCell ⟨gb214, 5, none⟩ (.string ((rd_T43 t210 x21_1).f3.f2))).setCell ⟨gb214, 6, none⟩ (.bool ((rd_T43 t210 x21_1).f3.f3))).setCell ⟨gb214, 7, none⟩ (.slice A213_7 ((rd_T43 t210 x21_1).f4).length c213_7)) w.heap.size (fun k_ => some k_ ≠ (.slice Ao27 t207.length co27 : Value).ownBlock ∧ k_ ≠ gb204 ∧ k_ ≠ gb205 ∧ k_ ≠ gb206 ∧ k_ ≠ gb214) (.slice (some ad213) t210.length co29) t210) := ⟨by (with_reducible repeat (first | apply Kd.N_alloc | apply Kd.N_drewN | apply Kd.N_drew)); exact Kd.N_mono (Kd.N_far (p := ⟨gb214, 7, none⟩) (Kd.N_far (p := ⟨gb214, 6, none⟩) (Kd.N_far (p := ⟨gb214, 5, none⟩) (Kd.N_far (p := ⟨gb214, 4, none⟩) (Kd.N_far (p := ⟨gb214, 3, none⟩) (Kd.N_far (p := ⟨gb214, 2, none⟩) (Kd.N_far (p := ⟨gb214, 1, none⟩) (Kd.N_far (p := ⟨gb214, 0, none⟩) (Kd.N_mono HO_19.out (fun k_ hk => (⟨hk, hk.2⟩ : _ ∧ k_ ≠ gb214))) (fun _ hk => hk.2) (.string ((rd_T43 t210 x21_1).f0))) (fun _ hk => hk.2) (.int .i64 ((rd_T43 t210 x21_1).f1))) (fun _ hk => hk.2) (.int .i64 ((rd_T43 t210 x21_1).f2))) (fun _ hk => hk.2) (.int .i64 ((rd_T43 t210 x21_1).f3.f0))) (fun _ hk => hk.2) (.int .i64 ((rd_T43 t210 x21_1).f3.f1))) (fun _ hk => hk.2) (.string ((rd_T43 t210 x21_1).f3.f2))) (fun _ hk => hk.2) (.bool ((rd_T43 t210 x21_1).f3.f3))) (fun _ hk => hk.2) (.slice A213_7 ((rd_T43 t210 x21_1).f4).length c213_7)) (fun _ hk => ⟨hk.1.1.1, ⟨hk.1.1.2.1, ⟨hk.1.1.2.2.1, ⟨hk.1.1.2.2.2, hk.1.2⟩⟩⟩⟩)⟩
        have n2_ : Aside0 (Kd.V k43 43 ((((((((w65.setCell ⟨gb214, 0, none⟩ (.string ((rd_T43 t210 x21_1).f0))).setCell ⟨gb214, 1, none⟩ (.int .i64 ((rd_T43 t210 x21_1).f1))).setCell ⟨gb214, 2, none⟩ (.int .i64 ((rd_T43 t210 x21_1).f2))).setCell ⟨gb214, 3, none⟩ (.int .i64 ((rd_T43 t210 x21_1).f3.f0))).setCell ⟨gb214, 4, none⟩ (.int .i64 ((rd_T43 t210 x21_1).f3.f1))).setCell ⟨gb214, 5, none⟩ (.string ((rd_T43 t210 x21_1).f3.f2))).setCell ⟨gb214, 6, none⟩ (.bool ((rd_T43 t210 x21_1).f3.f3))).setCell ⟨gb214, 7, none⟩ (.slice A213_7 ((rd_T43 t210 x21_1).f4).length c213_7)) w.heap.size (fun k_ => some k_ ≠ (.slice Ao27 t207.length co27 : Value).ownBlock ∧ some k_ ≠ (.slice (some ad213) t210.length co29 : Value).ownBlock ∧ k_ ≠ gb204 ∧ k_ ≠ gb205 ∧ k_ ≠ gb206 ∧ k_ ≠ gb214) (.slice A213_7 ((rd_T43 t210 x21_1).f4).length c213_7) ((rd_T43 t210 x21_1).f4)) := ⟨by (with_reducible repeat (first | apply Kd.V_alloc | apply Kd.V_drewN | apply Kd.V_drew)); exact Kd.V_mono (Kd.V_far (p := ⟨gb214, 7, none⟩) (Kd.V_far (p := ⟨gb214, 6, none⟩) (Kd.V_far (p := ⟨gb214, 5, none⟩) (Kd.V_far (p := ⟨gb214, 4, none⟩) (Kd.V_far (p := ⟨gb214, 3, none⟩) (Kd.V_far (p := ⟨gb214, 2, none⟩) (Kd.V_far (p := ⟨gb214, 1, none⟩) (Kd.V_far (p := ⟨gb214, 0, none⟩) (Kd.V_mono HL213_7.out (fun k_ hk => (⟨hk, hk.2⟩ : _ ∧ k_ ≠ gb214))) (fun _ hk => hk.2) (.string ((rd_T43 t210 x21_1).f0))) (fun _ hk => hk.2) (.int .i64 ((rd_T43 t210 x21_1).f1))) (fun _ hk => hk.2) (.int .i64 ((rd_T43 t210 x21_1).f2))) (fun _ hk => hk.2) (.int .i64 ((rd_T43 t210 x21_1).f3.f0))) (fun _ hk => hk.2) (.int .i64 ((rd_T43 t210 x21_1).f3.f1))) (fun _ hk => hk.2) (.string ((rd_T43 t210 x21_1).f3.f2))) (fun _ hk => hk.2) (.bool ((rd_T43 t210 x21_1).f3.f3))) (fun _ hk => hk.2) (.slice A213_7 ((rd_T43 t210 x21_1).f4).length c213_7)) (fun _ hk => ⟨hk.1.1.1.1, ⟨hk.1.1.2, ⟨hk.1.1.1.2.1, ⟨hk.1.1.1.2.2.1, ⟨hk.1.1.1.2.2.2, hk.1.2⟩⟩⟩⟩⟩)⟩
        have n3_ : Aside0 (((((((((w65.setCell ⟨gb214, 0, none⟩ (.string ((rd_T43 t210 x21_1).f0))).setCell ⟨gb214, 1, none⟩ (.int .i64 ((rd_T43 t210 x21_1).f1))).setCell ⟨gb214, 2, none⟩ (.int .i64 ((rd_T43 t210 x21_1).f2))).setCell ⟨gb214, 3, none⟩ (.int .i64 ((rd_T43 t210 x21_1).f3.f0))).setCell ⟨gb214, 4, none⟩ (.int .i64 ((rd_T43 t210 x21_1).f3.f1))).setCell ⟨gb214, 5, none⟩ (.string ((rd_T43 t210 x21_1).f3.f2))).setCell ⟨gb214, 6, none⟩ (.bool ((rd_T43 t210 x21_1).f3.f3))).setCell ⟨gb214, 7, none⟩ (.slice A213_7 ((rd_T43 t210 x21_1).f4).length c213_7)).heap[gb204]? = some (.cells #[.string a0_0, .slice A0_1 l0_1.length c0_1] 33 (0, 0))) := ⟨by (with_reducible repeat (first | refine blk_drewN ?_ _ | refine blk_drew ?_ | refine blk_alloc ?_ _)); refine blk_far ?_ NB204_214.out _; (with_reducible repeat (first | refine blk_drewN ?_ _ | refine blk_drew ?_ | refine blk_alloc ?_ _)); refine blk_far ?_ NB204_214.out _; (with_reducible repeat (first | refine blk_drewN ?_ _ | refine blk_drew ?_ | refine blk_alloc ?_ _)); refine blk_far ?_ NB204_214.out _; (with_reducible repeat (first | refine blk_drewN ?_ _ | refine blk_drew ?_ | refine blk_alloc ?_ _)); refine blk_far ?_ NB204_214.out _; (with_reducible repeat (first | refine blk_drewN ?_ _ | refine blk_drew ?_ | refine blk_alloc ?_ _)); refine blk_far ?_ NB204_214.out _; (with_reducible repeat (first | refine blk_drewN ?_ _ | refine blk_drew ?_ | refine blk_alloc ?_ _)); refine blk_far ?_ NB204_214.out _; (with_reducible repeat (first | refine blk_drewN ?_ _ | refine blk_drew ?_ | refine blk_alloc ?_ _)); refine blk_far ?_ NB204_214.out _; (with_reducible repeat (first | refine blk_drewN ?_ _ | refine blk_drew ?_ | refine blk_alloc ?_ _)); refine blk_far ?_ NB204_214.out _; (with_reducible repeat (first | refine blk_drewN ?_ _ | refine blk_drew ?_ | refine blk_alloc ?_ _)); exact BK204.out⟩
        have n4_ : Aside0 (((((((((w65.setCell ⟨gb214, 0, none⟩ (.string ((rd_T43 t210 x21_1).f0))).setCell ⟨gb214, 1, none⟩ (.int .i64 ((rd_T43 t210 x21_1).f1))).setCell ⟨gb214, 2, none⟩ (.int .i64 ((rd_T43 t210 x21_1).f2))).setCell ⟨gb214, 3, none⟩ (.int .i64 ((rd_T43 t210 x21_1).f3.f0))).setCell ⟨gb214, 4, none⟩ (.int .i64 ((rd_T43 t210 x21_1).f3.f1))).setCell ⟨gb214, 5, none⟩ (.string ((rd_T43 t210 x21_1).f3.f2))).setCell ⟨gb214, 6, none⟩ (.bool ((rd_T43 t210 x21_1).f3.f3))).setCell ⟨gb214, 7, none⟩ (.slice A213_7 ((rd_T43 t210 x21_1).f4).length c213_7)).heap[gb205]? = some (.cells #[.string (⟨#[]⟩ : ByteArray), .string (⟨#[]⟩ : ByteArray), .bool false, .bool false, .bool false, .bool false] 35 (0, 0))) := ⟨by (with_reducible repeat (first | refine blk_drewN ?_ _ | refine blk_drew ?_ | refine blk_alloc ?_ _)); refine blk_far ?_ NB205_214.out _; (with_reducible repeat (first | refine blk_drewN ?_ _ | refine blk_drew ?_ | refine blk_alloc ?_ _)); refine blk_far ?_ NB205_214.out _; (with_reducible repeat (first | refine blk_drewN ?_ _ | refine blk_drew ?_ | refine blk_alloc ?_ _)); refine blk_far ?_ NB205_214.out _; (with_reducible repeat (first | refine blk_drewN ?_ _ | refine blk_drew ?_ | refine blk_alloc ?_ _)); refine blk_far ?_ NB205_214.out _; (with_reducible repeat (first | refine blk_drewN ?_ _ | refine blk_drew ?_ | refine blk_alloc ?_ _)); refine blk_far ?_ NB205_214.out _; (with_reducible repeat (first | refine blk_drewN ?_ _ | refine blk_drew ?_ | refine blk_alloc ?_ _)); refine blk_far ?_ NB205_214.out _; (with_reducible repeat (first | refine blk_drewN ?_ _ | refine blk_drew ?_ | refine blk_alloc ?_ _)); refine blk_far ?_ NB205_214.out _; (with_reducible repeat (first | refine blk_drewN ?_ _ | refine blk_drew ?_ | refine blk_alloc ?_ _)); refine blk_far ?_ NB205_214.out _; (with_reducible repeat (first | refine blk_drewN ?_ _ | refine blk_drew ?_ | refine blk_alloc ?_ _)); exact BK205.out⟩
        have n5_ : Aside0 (((((((((w65.setCell ⟨gb214, 0, none⟩ (.string ((rd_T43 t210 x21_1).f0))).setCell ⟨gb214, 1, none⟩ (.int .i64 ((rd_T43 t210 x21_1).f1))).setCell ⟨gb214, 2, none⟩ (.int .i64 ((rd_T43 t210 x21_1).f2))).setCell ⟨gb214, 3, none⟩ (.int .i64 ((rd_T43 t210 x21_1).f3.f0))).setCell ⟨gb214, 4, none⟩ (.int .i64 ((rd_T43 t210 x21_1).f3.f1))).setCell ⟨gb214, 5, none⟩ (.string ((rd_T43 t210 x21_1).f3.f2))).setCell ⟨gb214, 6, none⟩ (.bool ((rd_T43 t210 x21_1).f3.f3))).setCell ⟨gb214, 7, none⟩ (.slice A213_7 ((rd_T43 t210 x21_1).f4).length c213_7)).heap[gb206]? = some (.cells #[.string x207000_1, .string x207001_1, .bool x207002_1, .bool x207003_1, .bool x207004_1, .bool x207005_1] 35 (0, 0))) := ⟨by (with_reducible repeat (first | refine blk_drewN ?_ _ | refine blk_drew ?_ | refine blk_alloc ?_ _)); refine blk_far ?_ NB206_214.out _; (with_reducible repeat (first | refine blk_drewN ?_ _ | refine blk_drew ?_ | refine blk_alloc ?_ _)); refine blk_far ?_ NB206_214.out _; (with_reducible repeat (first | refine blk_drewN ?_ _ | refine blk_drew ?_ | refine blk_alloc ?_ _)); refine blk_far ?_ NB206_214.out _; (with_reducible repeat (first | refine blk_drewN ?_ _ | refine blk_drew ?_ | refine blk_alloc ?_ _)); refine blk_far ?_ NB206_214.out _; (with_reducible repeat (first | refine blk_drewN ?_ _ | refine blk_drew ?_ | refine blk_alloc ?_ _)); refine blk_far ?_ NB206_214.out _; (with_reducible repeat (first | refine blk_drewN ?_ _ | refine blk_drew ?_ | refine blk_alloc ?_ _)); refine blk_far ?_ NB206_214.out _; (with_reducible repeat (first | refine blk_drewN ?_ _ | refine blk_drew ?_ | refine blk_alloc ?_ _)); refine blk_far ?_ NB206_214.out _; (with_reducible repeat (first | refine blk_drewN ?_ _ | refine blk_drew ?_ | refine blk_alloc ?_ _)); refine blk_far ?_ NB206_214.out _; (with_reducible repeat (first | refine blk_drewN ?_ _ | refine blk_drew ?_ | refine blk_alloc ?_ _)); exact BK206.out⟩
        have n6_ : Aside0 (((((((((w65.setCell ⟨gb214, 0, none⟩ (.string ((rd_T43 t210 x21_1).f0))).setCell ⟨gb214, 1, none⟩ (.int .i64 ((rd_T43 t210 x21_1).f1))).setCell ⟨gb214, 2, none⟩ (.int .i64 ((rd_T43 t210 x21_1).f2))).setCell ⟨gb214, 3, none⟩ (.int .i64 ((rd_T43 t210 x21_1).f3.f0))).setCell ⟨gb214, 4, none⟩ (.int .i64 ((rd_T43 t210 x21_1).f3.f1))).setCell ⟨gb214, 5, none⟩ (.string ((rd_T43 t210 x21_1).f3.f2))).setCell ⟨gb214, 6, none⟩ (.bool ((rd_T43 t210 x21_1).f3.f3))).setCell ⟨gb214, 7, none⟩ (.slice A213_7 ((rd_T43 t210 x21_1).f4).length c213_7)).heap[gb214]? = some (.cells #[.string ((rd_T43 t210 x21_1).f0), .int .i64 ((rd_T43 t210 x21_1).f1), .int .i64 ((rd_T43 t210 x21_1).f2), .int .i64 ((rd_T43 t210 x21_1).f3.f0), .int .i64 ((rd_T43 t210 x21_1).f3.f1), .string ((rd_T43 t210 x21_1).f3.f2), .bool ((rd_T43 t210 x21_1).f3.f3), .slice A213_7 ((rd_T43 t210 x21_1).f4).length c213_7] 43 (0, 0))) := ⟨by (with_reducible repeat (first | refine blk_drewN ?_ _ | refine blk_drew ?_ | refine blk_alloc ?_ _)); refine blk_put (cs := #[.string ((rd_T43 t210 x21_1).f0), .int .i64 ((rd_T43 t210 x21_1).f1), .int .i64 ((rd_T43 t210 x21_1).f2), .int .i64 ((rd_T43 t210 x21_1).f3.f0), .int .i64 ((rd_T43 t210 x21_1).f3.f1), .string ((rd_T43 t210 x21_1).f3.f2), .bool ((rd_T43 t210 x21_1).f3.f3), .slice none 0 0]) ?_ 7 _ rfl; (with_reducible repeat (first | refine blk_drewN ?_ _ | refine blk_drew ?_ | refine blk_alloc ?_ _)); refine blk_put (cs := #[.string ((rd_T43 t210 x21_1).f0), .int .i64 ((rd_T43 t210 x21_1).f1), .int .i64 ((rd_T43 t210 x21_1).f2), .int .i64 ((rd_T43 t210 x21_1).f3.f0), .int .i64 ((rd_T43 t210 x21_1).f3.f1), .string ((rd_T43 t210 x21_1).f3.f2), .bool false, .slice none 0 0]) ?_ 6 _ rfl; (with_reducible repeat (first | refine blk_drewN ?_ _ | refine blk_drew ?_ | refine blk_alloc ?_ _)); refine blk_put (cs := #[.string ((rd_T43 t210 x21_1).f0), .int .i64 ((rd_T43 t210 x21_1).f1), .int .i64 ((rd_T43 t210 x21_1).f2), .int .i64 ((rd_T43 t210 x21_1).f3.f0), .int .i64 ((rd_T43 t210 x21_1).f3.f1), .string (⟨#[]⟩ : ByteArray), .bool false, .slice none 0 0]) ?_ 5 _ rfl; (with_reducible repeat (first | refine blk_drewN ?_ _ | refine blk_drew ?_ | refine blk_alloc ?_ _)); refine blk_put (cs := #[.string ((rd_T43 t210 x21_1).f0), .int .i64 ((rd_T43 t210 x21_1).f1), .int .i64 ((rd_T43 t210 x21_1).f2), .int .i64 ((rd_T43 t210 x21_1).f3.f0), .int .i64 0, .string (⟨#[]⟩ : ByteArray), .bool false, .slice none 0 0]) ?_ 4 _ rfl; (with_reducible repeat (first | refine blk_drewN ?_ _ | refine blk_drew ?_ | refine blk_alloc ?_ _)); refine blk_put (cs := #[.string ((rd_T43 t210 x21_1).f0), .int .i64 ((rd_T43 t210 x21_1).f1), .int .i64 ((rd_T43 t210 x21_1).f2), .int .i64 0, .int .i64 0, .string (⟨#[]⟩ : ByteArray), .bool false, .slice none 0 0]) ?_ 3 _ rfl; (with_reducible repeat (first | refine blk_drewN ?_ _ | refine blk_drew ?_ | refine blk_alloc ?_ _)); refine blk_put (cs := #[.string ((rd_T43 t210 x21_1).f0), .int .i64 ((rd_T43 t210 x21_1).f1), .int .i64 0, .int .i64 0, .int .i64 0, .string (⟨#[]⟩ : ByteArray), .bool false, .slice none 0 0]) ?_ 2 _ rfl; (with_reducible repeat (first | refine blk_drewN ?_ _ | refine blk_drew ?_ | refine blk_alloc ?_ _)); refine blk_put (cs := #[.string ((rd_T43 t210 x21_1).f0), .int .i64 0, .int .i64 0, .int .i64 0, .int .i64 0, .string (⟨#[]⟩ : ByteArray), .bool false, .slice none 0 0]) ?_ 1 _ rfl; (with_reducible repeat (first | refine blk_drewN ?_ _ | refine blk_drew ?_ | refine blk_alloc ?_ _)); refine blk_put (cs := #[.string (⟨#[]⟩ : ByteArray), .int .i64 0, .int .i64 0, .int .i64 0, .int .i64 0, .string (⟨#[]⟩ : ByteArray), .bool false, .slice none 0 0]) ?_ 0 _ rfl; (with_reducible repeat (first | refine blk_drewN ?_ _ | refine blk_drew ?_ | refine blk_alloc ?_ _)); exact BK214.out⟩
        have n7_ : Aside0 (Below w.heap.size w ((((((((w65.setCell ⟨gb214, 0, none⟩ (.string ((rd_T43 t210 x21_1).f0))).setCell ⟨gb214, 1, none⟩ (.int .i64 ((rd_T43 t210 x21_1).f1))).setCell ⟨gb214, 2, none⟩ (.int .i64 ((rd_T43 t210 x21_1).f2))).setCell ⟨gb214, 3, none⟩ (.int .i64 ((rd_T43 t210 x21_1).f3.f0))).setCell ⟨gb214, 4, none⟩ (.int .i64 ((rd_T43 t210 x21_1).f3.f1))).setCell ⟨gb214, 5, none⟩ (.string ((rd_T43 t210 x21_1).f3.f2))).setCell ⟨gb214, 6, none⟩ (.bool ((rd_T43 t210 x21_1).f3.f3))).setCell ⟨gb214, 7, none⟩ (.slice A213_7 ((rd_T43 t210 x21_1).f4).length c213_7))) := ⟨bw_ HB.out⟩
        (try clear HO_6); (try clear HO_19); (try clear HL213_7); (try clear BK204); (try clear BK205); (try clear BK206); (try clear BK214); (try clear HB)
        generalize ((((((((w65.setCell ⟨gb214, 0, none⟩ (.string ((rd_T43 t210 x21_1).f0))).setCell ⟨gb214, 1, none⟩ (.int .i64 ((rd_T43 t210 x21_1).f1))).setCell ⟨gb214, 2, none⟩ (.int .i64 ((rd_T43 t210 x21_1).f2))).setCell ⟨gb214, 3, none⟩ (.int .i64 ((rd_T43 t210 x21_1).f3.f0))).setCell ⟨gb214, 4, none⟩ (.int .i64 ((rd_T43 t210 x21_1).f3.f1))).setCell ⟨gb214, 5, none⟩ (.string ((rd_T43 t210 x21_1).f3.f2))).setCell ⟨gb214, 6, none⟩ (.bool ((rd_T43 t210 x21_1).f3.f3))).setCell ⟨gb214, 7, none⟩ (.slice A213_7 ((rd_T43 t210 x21_1).f4).length c213_7)) = w70 at n0_ n1_ n2_ n3_ n4_ n5_ n6_ n7_ ⊢
        have HO_6 := n0_
        have HO_19 := n1_
        have HL213_7 := n2_
        have BK204 := n3_
        have BK205 := n4_
        have BK206 := n5_
        have BK214 := n6_
        have HB := n7_
        clear n0_ n1_ n2_ n3_ n4_ n5_ n6_ n7_
        have n0_ := Aside0.mk (Kd.R_drew HO_6.out)
        have n1_ := Aside0.mk (Kd.N_drew HO_19.out)
        have n2_ := Aside0.mk (Kd.V_drew HL213_7.out)
        have n3_ := Aside0.mk (blk_drew BK204.out)
        have n4_ := Aside0.mk (blk_drew BK205.out)
        have n5_ := Aside0.mk (blk_drew BK206.out)
        have n6_ := Aside0.mk (blk_drew BK214.out)
        have n7_ := Aside0.mk (below_drew1 HB.out)
        clear HO_6
        clear HO_19
        clear HL213_7
        clear BK204
        clear BK205
        clear BK206
        clear BK214
        clear HB
        have HO_6 := n0_
        have HO_19 := n1_
        have HL213_7 := n2_
        have BK204 := n3_
        have BK205 := n4_
        have BK206 := n5_
        have BK214 := n6_
        have HB := n7_
        clear n0_ n1_ n2_ n3_ n4_ n5_ n6_ n7_
        have nK_ : Aside0 (Kd.V k43 43 w70.drew w.heap.size (fun k_ => some k_ ≠ (.slice (some ad213) t210.length co29 : Value).ownBlock ∧ some k_ ≠ (.slice Ao27 t207.length co27 : Value).ownBlock ∧ k_ ≠ gb204 ∧ k_ ≠ gb205 ∧ k_ ≠ gb206 ∧ k_ ≠ gb214) (.slice A213_7 ((rd_T43 t210 x21_1).f4).length c213_7) ((rd_T43 t210 x21_1).f4)) := ⟨by (with_reducible repeat (first | apply Kd.V_alloc | apply Kd.V_drewN | apply Kd.V_drew)); exact Kd.V_mono HL213_7.out (fun _ hk => ⟨hk.2.1, ⟨hk.1, ⟨hk.2.2.1, ⟨hk.2.2.2.1, ⟨hk.2.2.2.2.1, hk.2.2.2.2.2⟩⟩⟩⟩⟩)⟩
        clear HL213_7
        have HL213_7 := nK_
        clear nK_
        have p215 : 0 ≤ (0 : Int) := (by omega)
        have q215 : 0 < (t207.length : Int) := of_decide_eq_true (by first | (with_reducible assumption) | assumption)
        obtain ⟨ad215, e215, hx215_0⟩ := Kd.at_int (Kd.R_reads' HO_6.out).2.2 0 p215 q215
        cases e215
        have qi215 : (0 < t207.length) = True := eq_true (by omega)
        (try rw [show ((0 : Int)).toNat = 0 from rfl] at hx215_0)
        (try rw [Addr.add_zero'] at hx215_0)
        replace p215 := eq_true p215
        replace q215 := eq_true q215
        have p216 : 0 ≤ (0 : Int) := (by omega)
        have q216 : 0 < (t207.length : Int) := of_decide_eq_true (by first | (with_reducible assumption) | assumption)
        obtain ⟨ad216, e216, hx216_0⟩ := Kd.at_int (Kd.R_reads' HO_6.out).2.2 0 p216 q216
        obtain rfl : ad215 = ad216 := (by injection e216)
        have qi216 : (0 < t207.length) = True := eq_true (by omega)
        (try rw [show ((0 : Int)).toNat = 0 from rfl] at hx216_0)
        (try rw [Addr.add_zero'] at hx216_0)
        replace p216 := eq_true p216
        replace q216 := eq_true q216
        have p217 : 0 ≤ ((rd t207 0) : Int) := of_decide_eq_true (by first | (with_reducible assumption) | assumption)
        have q217 : (rd t207 0) < (l0_1.length : Int) := of_decide_eq_true (by first | (with_reducible assumption) | assumption)
        obtain ⟨ad217, e217, hx217_0, hx217_1, hx217_2, hx217_3⟩ := at_T30 HR0_1.out (rd t207 0) p217 q217
        have hw217_3 := hx217_3
        have hw217_2 := hx217_2
        have hw217_1 := hx217_1
        have hw217_0 := hx217_0
        cases e217
        replace hx217_0 := (HB.out.cell (World.block_lt_of_cell? w _ hx217_0)).trans hx217_0
        replace hx217_1 := (HB.out.cell (World.block_lt_of_cell? w _ hx217_1)).trans hx217_1
        replace hx217_2 := (HB.out.cell (World.block_lt_of_cell? w _ hx217_2)).trans hx217_2
        replace hx217_3 := (HB.out.cell (World.block_lt_of_cell? w _ hx217_3)).trans hx217_3
        replace p217 := eq_true p217
        replace q217 := eq_true q217
        refine start_ (n := 19) (S := fun w' => True) (ds := []) #[false, false, false, false, false, false, false, false, false, false, false, false, false, false, false, false, false, false, false] (by kernel_rfl) rfl rfl trivial (fun hHeld => ?_); refine with_tabW plan_Range.tab8 plan_Range.bits8 (fun HT_ HW_ => ?_)
        generalize w70.drew = w71 at HO_6 HO_19 HL213_7 BK204 BK205 BK206 BK214 HB hx215_0 hx216_0 hx217_0 hx217_1 hx217_2 hx217_3 hHeld ⊢
        refine pure_ (i := 1) (N := some 27) (v := ?_) (a' := ?_) #[false, true, false, false, false, false, false, false, false, false, false, false, false, false, false, false, false, false, false] rfl rfl (any_of HT_.out (by kernel_rfl)) (fun _ _ _ h => h) (Or.inl ⟨by rfl, ?_⟩) ?_ ?_
        rotate_left
        · intro w'
          go_simp
          with_reducible rfl
        rotate_left
        · simp only [Act.put, List.setIfInBounds_toArray, List.set_cons_zero, List.set_cons_succ, i64_w, i32_w]
          rfl
        refine pure_ (i := 4) (N := some 30) (v := ?_) (a' := ?_) #[false, true, false, false, true, false, false, false, false, false, false, false, false, false, false, false, false, false, false] rfl rfl (any_of HT_.out (by kernel_rfl)) (fun _ _ _ h => h) (Or.inl ⟨by rfl, ?_⟩) ?_ ?_
        rotate_left
        · intro w'
          go_simp
          with_reducible rfl
        rotate_left
        · simp only [Act.put, List.setIfInBounds_toArray, List.set_cons_zero, List.set_cons_succ, i64_w, i32_w]
          rfl
        refine pure_ (i := 6) (N := some 32) (v := ?_) (a' := ?_) #[false, true, false, false, true, false, true, false, false, false, false, false, false, false, false, false, false, false, false] rfl rfl (any_of HT_.out (by kernel_rfl)) (fun _ _ _ h => h) (Or.inl ⟨by rfl, ?_⟩) ?_ ?_
        rotate_left
        · intro w'
          go_simp
          with_reducible rfl
        rotate_left
        · simp only [Act.put, List.setIfInBounds_toArray, List.set_cons_zero, List.set_cons_succ, i64_w, i32_w]
          rfl
        refine inv_at [0, 2, 3, 5, 7, 8, 9, 10, 11, 12, 13, 14, 15, 16, 17, 18] (fun a0_ b a w' => ∃ (gb225 : Nat) (m16_ : Value), a = putSel a0_ b [(0, 26, .agg #[.string ((rd_T43 t210 x21_1).f0), .int .i64 ((rd_T43 t210 x21_1).f1), .int .i64 ((rd_T43 t210 x21_1).f2), .int .i64 ((rd_T43 t210 x21_1).f3.f0), .int .i64 ((rd_T43 t210 x21_1).f3.f1), .string ((rd_T43 t210 x21_1).f3.f2), .bool ((rd_T43 t210 x21_1).f3.f3), .slice A213_7 ((rd_T43 t210 x21_1).f4).length c213_7]), (2, 28, .pointer (some ad215)), (3, 29, .int .i64 (rd t207 0)), (5, 31, .slice (some ad217) l0_1.length c0_1), (7, 33, .pointer (some ad215)), (8, 34, .int .i64 (rd t207 0)), (9, 35, .pointer (some (ad217.add (((rd t207 0)).toNat * 4)))), (10, 36, .pointer (some ⟨(ad217.add (((rd t207 0)).toNat * 4)).block, (ad217.add (((rd t207 0)).toNat * 4)).off + 1, none⟩)), (11, 37, .int .i64 ((rd_T30 l0_1 (rd t207 0)).f1)), (12, 38, .tuple #[.agg #[.string t218, .string t219, .bool t220, .bool t221, .bool t222, .bool t223], .bool false]), (13, 25, .tuple #[.agg #[.string t218, .string t219, .bool t220, .bool t221, .bool t222, .bool t223], .bool false]), (14, 39, .agg #[.string t218, .string t219, .bool t220, .bool t221, .bool t222, .bool t223]), (15, 40, .bool false), (16, 9, m16_), (18, 10, .bool false)] ∧ (Kd.V k43 43 w' w.heap.size (fun k_ => some k_ ≠ (.slice (some ad213) t210.length co29 : Value).ownBlock ∧ some k_ ≠ (.slice (some ad215) t207.length co27 : Value).ownBlock ∧ k_ ≠ gb204 ∧ k_ ≠ gb205 ∧ k_ ≠ gb206 ∧ k_ ≠ gb214) (.slice A213_7 ((rd_T43 t210 x21_1).f4).length c213_7) ((rd_T43 t210 x21_1).f4)) ∧ (Kd.N k43 43 w' w.heap.size (fun k_ => some k_ ≠ (.slice (some ad215) t207.length co27 : Value).ownBlock ∧ k_ ≠ gb204 ∧ k_ ≠ gb205 ∧ k_ ≠ gb206 ∧ k_ ≠ gb214) (.slice (some ad213) t210.length co29) t210) ∧ (Kd.R (Kd.int .i64) 3 w' w.heap.size (fun _ => True) (.slice (some ad215) t207.length co27) t207) ∧ (w'.heap[gb204]? = some (.cells #[.string a0_0, .slice (some ad217) l0_1.length c0_1] 33 (0, 0))) ∧ (w'.heap[gb205]? = some (.cells #[.string (⟨#[]⟩ : ByteArray), .string (⟨#[]⟩ : ByteArray), .bool false, .bool false, .bool false, .bool false] 35 (0, 0))) ∧ (w'.heap[gb206]? = some (.cells #[.string x207000_1, .string x207001_1, .bool x207002_1, .bool x207003_1, .bool x207004_1, .bool x207005_1] 35 (0, 0))) ∧ (w'.heap[gb214]? = some (.cells #[.string ((rd_T43 t210 x21_1).f0), .int .i64 ((rd_T43 t210 x21_1).f1), .int .i64 ((rd_T43 t210 x21_1).f2), .int .i64 ((rd_T43 t210 x21_1).f3.f0), .int .i64 ((rd_T43 t210 x21_1).f3.f1), .string ((rd_T43 t210 x21_1).f3.f2), .bool ((rd_T43 t210 x21_1).f3.f3), .slice A213_7 ((rd_T43 t210 x21_1).f4).length c213_7] 43 (0, 0))) ∧ (Below w.heap.size w w') ∧ (b 16 = true → Kd.V k43 43 w' w.heap.size (fun k_ => some k_ ≠ (.slice (some ad213) t210.length co29 : Value).ownBlock ∧ some k_ ≠ (.slice (some ad215) t207.length co27 : Value).ownBlock ∧ k_ ≠ gb204 ∧ k_ ≠ gb205 ∧ k_ ≠ gb206 ∧ k_ ≠ gb214 ∧ k_ ≠ gb225) (.slice A213_7 ((rd_T43 t210 x21_1).f4).length c213_7) ((rd_T43 t210 x21_1).f4)) ∧ (b 16 = true → Kd.N k43 43 w' w.heap.size (fun k_ => some k_ ≠ (.slice (some ad215) t207.length co27 : Value).ownBlock ∧ k_ ≠ gb204 ∧ k_ ≠ gb205 ∧ k_ ≠ gb206 ∧ k_ ≠ gb214 ∧ k_ ≠ gb225) (.slice (some ad213) t210.length co29) t210) ∧ (b 16 = true → b 17 = false → w'.heap[gb225]? = some (.cells #[.string (⟨#[]⟩ : ByteArray), .string (⟨#[]⟩ : ByteArray), .bool false, .bool false, .bool false, .bool false] 35 (0, 0))) ∧ (b 16 = true → w.heap.size ≤ gb225) ∧ (b 16 = true → w.heap.size ≤ gb225) ∧ (b 16 = true → gb204 ≠ gb225) ∧ (b 16 = true → gb225 ≠ gb204) ∧ (b 16 = true → gb205 ≠ gb225) ∧ (b 16 = true → gb225 ≠ gb205) ∧ (b 16 = true → gb206 ≠ gb225) ∧ (b 16 = true → gb225 ≠ gb206) ∧ (b 16 = true → gb214 ≠ gb225) ∧ (b 16 = true → gb225 ≠ gb214) ∧ (b 17 = true → w'.heap[gb225]? = some (.cells #[.string t218, .string t219, .bool t220, .bool t221, .bool t222, .bool t223] 35 (0, 0))) ∧ (b 16 = true → (m16_ : Value) = .pointer (some ⟨gb225, 0, none⟩))) HT_.out HW_.out (by kernel_rfl) (by kernel_rfl) ?_ ?_ ?_
        · exact ⟨0, .bool false, by simp only [putSel, Bool.false_eq_true, if_false], HL213_7.out, HO_19.out, HO_6.out, BK204.out, BK205.out, BK206.out, BK214.out, HB.out, fun h_ => absurd h_ (by decide), fun h_ => absurd h_ (by decide), fun h_ => absurd h_ (by decide), fun h_ => absurd h_ (by decide), fun h_ => absurd h_ (by decide), fun h_ => absurd h_ (by decide), fun h_ => absurd h_ (by decide), fun h_ => absurd h_ (by decide), fun h_ => absurd h_ (by decide), fun h_ => absurd h_ (by decide), fun h_ => absurd h_ (by decide), fun h_ => absurd h_ (by decide), fun h_ => absurd h_ (by decide), fun h_ => absurd h_ (by decide), fun h_ => absurd h_ (by decide)⟩
        · skip
          clear BK204 BK205 BK206 BK214 HB HL213_7 HO_19 HO_6
          refine steps_cons ?_ ?_
          · rintro b a w' ⟨gb225, m16_, ha, Q_HL213_7, Q_HO_19, Q_HO_6, Q_BK204, Q_BK205, Q_BK206, Q_BK214, Q_HB, Q_HL213_7_e16, Q_HO_19_e16, Q_BK225, Q_GW225, Q_GE225, Q_NB204_225, Q_NB225_204, Q_NB205_225, Q_NB225_205, Q_NB206_225, Q_NB225_206, Q_NB214_225, Q_NB225_214, Q_BK225_e17, Q_X16_⟩ hb_ hon hoff
            refine ⟨_, rfl, fun K hK => ?_⟩
            have e8 : a.tmps[8]? = some (.pointer (some ⟨gb214, 0, none⟩)) := by rw [ha]; exact (putSel_off rfl).trans rfl
            replace ha := Aside0.mk ha
            have HL213_7 := Aside0.mk Q_HL213_7
            have HO_19 := Aside0.mk Q_HO_19
            have HO_6 := Aside0.mk Q_HO_6
            have BK204 := Aside0.mk Q_BK204
            have BK205 := Aside0.mk Q_BK205
            have BK206 := Aside0.mk Q_BK206
            have BK214 := Aside0.mk Q_BK214
            have HB := Aside0.mk Q_HB
            have hc0_ : w'.cell? ⟨gb214, 0, none⟩ = some (.string ((rd_T43 t210 x21_1).f0)) := (blk_cell BK214.out 0).trans rfl
            have hc1_ : w'.cell? ⟨gb214, 1, none⟩ = some (.int .i64 ((rd_T43 t210 x21_1).f1)) := (blk_cell BK214.out 1).trans rfl
            have hc2_ : w'.cell? ⟨gb214, 2, none⟩ = some (.int .i64 ((rd_T43 t210 x21_1).f2)) := (blk_cell BK214.out 2).trans rfl
            have hc3_ : w'.cell? ⟨gb214, 3, none⟩ = some (.int .i64 ((rd_T43 t210 x21_1).f3.f0)) := (blk_cell BK214.out 3).trans rfl
            have hc4_ : w'.cell? ⟨gb214, 4, none⟩ = some (.int .i64 ((rd_T43 t210 x21_1).f3.f1)) := (blk_cell BK214.out 4).trans rfl
            have hc5_ : w'.cell? ⟨gb214, 5, none⟩ = some (.string ((rd_T43 t210 x21_1).f3.f2)) := (blk_cell BK214.out 5).trans rfl
            have hc6_ : w'.cell? ⟨gb214, 6, none⟩ = some (.bool ((rd_T43 t210 x21_1).f3.f3)) := (blk_cell BK214.out 6).trans rfl
            have hc7_ : w'.cell? ⟨gb214, 7, none⟩ = some (.slice A213_7 ((rd_T43 t210 x21_1).f4).length c213_7) := (blk_cell BK214.out 7).trans rfl
            refine value_ (w1 := w') (v := .agg #[.string ((rd_T43 t210 x21_1).f0), .int .i64 ((rd_T43 t210 x21_1).f1), .int .i64 ((rd_T43 t210 x21_1).f2), .int .i64 ((rd_T43 t210 x21_1).f3.f0), .int .i64 ((rd_T43 t210 x21_1).f3.f1), .string ((rd_T43 t210 x21_1).f3.f2), .bool ((rd_T43 t210 x21_1).f3.f3), .slice A213_7 ((rd_T43 t210 x21_1).f4).length c213_7]) (by rfl) rfl ?_ ?_
            · go_simp
              (try simp only [i64_w])
              try rfl
            refine hK.out _ _ ⟨gb225, m16_, (by rw [ha.out]; exact putSel_upk 0 hb_ rfl rfl rfl), Q_HL213_7, Q_HO_19, Q_HO_6, Q_BK204, Q_BK205, Q_BK206, Q_BK214, Q_HB, Q_HL213_7_e16, Q_HO_19_e16, Q_BK225, Q_GW225, Q_GE225, Q_NB204_225, Q_NB225_204, Q_NB205_225, Q_NB225_205, Q_NB206_225, Q_NB225_206, Q_NB214_225, Q_NB225_214, fun h0_ => absurd ((hoff 17 (by kernel_rfl)).symm.trans h0_) (by decide), Q_X16_⟩
          refine steps_cons ?_ ?_
          · rintro b a w' ⟨gb225, m16_, ha, Q_HL213_7, Q_HO_19, Q_HO_6, Q_BK204, Q_BK205, Q_BK206, Q_BK214, Q_HB, Q_HL213_7_e16, Q_HO_19_e16, Q_BK225, Q_GW225, Q_GE225, Q_NB204_225, Q_NB225_204, Q_NB205_225, Q_NB225_205, Q_NB206_225, Q_NB225_206, Q_NB214_225, Q_NB225_214, Q_BK225_e17, Q_X16_⟩ hb_ hon hoff
            refine ⟨_, rfl, fun K hK => ?_⟩
            have e27 : a.tmps[27]? = some (.slice (some ad215) t207.length co27) := by rw [ha]; exact (putSel_off rfl).trans rfl
            replace ha := Aside0.mk ha
            have HL213_7 := Aside0.mk Q_HL213_7
            have HO_19 := Aside0.mk Q_HO_19
            have HO_6 := Aside0.mk Q_HO_6
            have BK204 := Aside0.mk Q_BK204
            have BK205 := Aside0.mk Q_BK205
            have BK206 := Aside0.mk Q_BK206
            have BK214 := Aside0.mk Q_BK214
            have HB := Aside0.mk Q_HB
            refine value_ (w1 := w') (v := .pointer (some ad215)) (by rfl) rfl ?_ ?_
            · go_simp
              (try simp only [i64_w])
              try rfl
            refine hK.out _ _ ⟨gb225, m16_, (by rw [ha.out]; exact putSel_upk 1 hb_ rfl rfl rfl), Q_HL213_7, Q_HO_19, Q_HO_6, Q_BK204, Q_BK205, Q_BK206, Q_BK214, Q_HB, Q_HL213_7_e16, Q_HO_19_e16, Q_BK225, Q_GW225, Q_GE225, Q_NB204_225, Q_NB225_204, Q_NB205_225, Q_NB225_205, Q_NB206_225, Q_NB225_206, Q_NB214_225, Q_NB225_214, fun h0_ => absurd ((hoff 17 (by kernel_rfl)).symm.trans h0_) (by decide), Q_X16_⟩
          refine steps_cons ?_ ?_
          · rintro b a w' ⟨gb225, m16_, ha, Q_HL213_7, Q_HO_19, Q_HO_6, Q_BK204, Q_BK205, Q_BK206, Q_BK214, Q_HB, Q_HL213_7_e16, Q_HO_19_e16, Q_BK225, Q_GW225, Q_GE225, Q_NB204_225, Q_NB225_204, Q_NB205_225, Q_NB225_205, Q_NB206_225, Q_NB225_206, Q_NB214_225, Q_NB225_214, Q_BK225_e17, Q_X16_⟩ hb_ hon hoff
            refine ⟨_, rfl, fun K hK => ?_⟩
            have e28 : a.tmps[28]? = some (.pointer (some ad215)) := by rw [ha]; exact putSel_on (e := (2, 28, .pointer (some ad215))) 1 rfl rfl (hon 2 (by kernel_rfl)) rfl
            replace ha := Aside0.mk ha
            have HL213_7 := Aside0.mk Q_HL213_7
            have HO_19 := Aside0.mk Q_HO_19
            have HO_6 := Aside0.mk Q_HO_6
            have BK204 := Aside0.mk Q_BK204
            have BK205 := Aside0.mk Q_BK205
            have BK206 := Aside0.mk Q_BK206
            have BK214 := Aside0.mk Q_BK214
            have HB := Aside0.mk Q_HB
            obtain ⟨ad215_z, e215_z, hx215_0_z⟩ := Kd.at_int (Kd.R_reads' HO_6.out).2.2 0 (of_eq_true p215) (of_eq_true q215)
            cases e215_z
            have hs0_ : w'.cell? ad215 = some (.int .i64 (rd t207 0)) := (by first | exact hx215_0_z | (have h_ := hx215_0_z; (try simp only [Int.reduceToNat, Nat.zero_mul, Nat.reduceMul, Nat.reduceEqDiff, Go.Addr.add, ↓reduceIte, Addr.add_zero'] at h_); exact h_))
            refine value_ (w1 := w') (v := .int .i64 (rd t207 0)) (by rfl) rfl ?_ ?_
            · go_simp
              (try simp only [i64_w])
              try rfl
            refine hK.out _ _ ⟨gb225, m16_, (by rw [ha.out]; exact putSel_upk 2 hb_ rfl rfl rfl), Q_HL213_7, Q_HO_19, Q_HO_6, Q_BK204, Q_BK205, Q_BK206, Q_BK214, Q_HB, Q_HL213_7_e16, Q_HO_19_e16, Q_BK225, Q_GW225, Q_GE225, Q_NB204_225, Q_NB225_204, Q_NB205_225, Q_NB225_205, Q_NB206_225, Q_NB225_206, Q_NB214_225, Q_NB225_214, fun h0_ => absurd ((hoff 17 (by kernel_rfl)).symm.trans h0_) (by decide), Q_X16_⟩
          refine steps_cons ?_ ?_
          · rintro b a w' ⟨gb225, m16_, ha, Q_HL213_7, Q_HO_19, Q_HO_6, Q_BK204, Q_BK205, Q_BK206, Q_BK214, Q_HB, Q_HL213_7_e16, Q_HO_19_e16, Q_BK225, Q_GW225, Q_GE225, Q_NB204_225, Q_NB225_204, Q_NB205_225, Q_NB225_205, Q_NB206_225, Q_NB225_206, Q_NB214_225, Q_NB225_214, Q_BK225_e17, Q_X16_⟩ hb_ hon hoff
            refine ⟨_, rfl, fun K hK => ?_⟩
            have e30 : a.tmps[30]? = some (.pointer (some ⟨gb204, 1, none⟩)) := by rw [ha]; exact (putSel_off rfl).trans rfl
            replace ha := Aside0.mk ha
            have HL213_7 := Aside0.mk Q_HL213_7
            have HO_19 := Aside0.mk Q_HO_19
            have HO_6 := Aside0.mk Q_HO_6
            have BK204 := Aside0.mk Q_BK204
            have BK205 := Aside0.mk Q_BK205
            have BK206 := Aside0.mk Q_BK206
            have BK214 := Aside0.mk Q_BK214
            have HB := Aside0.mk Q_HB
            have hc0_ : w'.cell? ⟨gb204, 0, none⟩ = some (.string a0_0) := (blk_cell BK204.out 0).trans rfl
            have hc1_ : w'.cell? ⟨gb204, 1, none⟩ = some (.slice (some ad217) l0_1.length c0_1) := (blk_cell BK204.out 1).trans rfl
            refine value_ (w1 := w') (v := .slice (some ad217) l0_1.length c0_1) (by rfl) rfl ?_ ?_
            · go_simp
              (try simp only [i64_w])
              try rfl
            refine hK.out _ _ ⟨gb225, m16_, (by rw [ha.out]; exact putSel_upk 3 hb_ rfl rfl rfl), Q_HL213_7, Q_HO_19, Q_HO_6, Q_BK204, Q_BK205, Q_BK206, Q_BK214, Q_HB, Q_HL213_7_e16, Q_HO_19_e16, Q_BK225, Q_GW225, Q_GE225, Q_NB204_225, Q_NB225_204, Q_NB205_225, Q_NB225_205, Q_NB206_225, Q_NB225_206, Q_NB214_225, Q_NB225_214, fun h0_ => absurd ((hoff 17 (by kernel_rfl)).symm.trans h0_) (by decide), Q_X16_⟩
          refine steps_cons ?_ ?_
          · rintro b a w' ⟨gb225, m16_, ha, Q_HL213_7, Q_HO_19, Q_HO_6, Q_BK204, Q_BK205, Q_BK206, Q_BK214, Q_HB, Q_HL213_7_e16, Q_HO_19_e16, Q_BK225, Q_GW225, Q_GE225, Q_NB204_225, Q_NB225_204, Q_NB205_225, Q_NB225_205, Q_NB206_225, Q_NB225_206, Q_NB214_225, Q_NB225_214, Q_BK225_e17, Q_X16_⟩ hb_ hon hoff
            refine ⟨_, rfl, fun K hK => ?_⟩
            have e32 : a.tmps[32]? = some (.slice (some ad215) t207.length co27) := by rw [ha]; exact (putSel_off rfl).trans rfl
            replace ha := Aside0.mk ha
            have HL213_7 := Aside0.mk Q_HL213_7
            have HO_19 := Aside0.mk Q_HO_19
            have HO_6 := Aside0.mk Q_HO_6
            have BK204 := Aside0.mk Q_BK204
            have BK205 := Aside0.mk Q_BK205
            have BK206 := Aside0.mk Q_BK206
            have BK214 := Aside0.mk Q_BK214
            have HB := Aside0.mk Q_HB
            refine value_ (w1 := w') (v := .pointer (some ad215)) (by rfl) rfl ?_ ?_
            · go_simp
              (try simp only [i64_w])
              try rfl
            refine hK.out _ _ ⟨gb225, m16_, (by rw [ha.out]; exact putSel_upk 4 hb_ rfl rfl rfl), Q_HL213_7, Q_HO_19, Q_HO_6, Q_BK204, Q_BK205, Q_BK206, Q_BK214, Q_HB, Q_HL213_7_e16, Q_HO_19_e16, Q_BK225, Q_GW225, Q_GE225, Q_NB204_225, Q_NB225_204, Q_NB205_225, Q_NB225_205, Q_NB206_225, Q_NB225_206, Q_NB214_225, Q_NB225_214, fun h0_ => absurd ((hoff 17 (by kernel_rfl)).symm.trans h0_) (by decide), Q_X16_⟩
          refine steps_cons ?_ ?_
          · rintro b a w' ⟨gb225, m16_, ha, Q_HL213_7, Q_HO_19, Q_HO_6, Q_BK204, Q_BK205, Q_BK206, Q_BK214, Q_HB, Q_HL213_7_e16, Q_HO_19_e16, Q_BK225, Q_GW225, Q_GE225, Q_NB204_225, Q_NB225_204, Q_NB205_225, Q_NB225_205, Q_NB206_225, Q_NB225_206, Q_NB214_225, Q_NB225_214, Q_BK225_e17, Q_X16_⟩ hb_ hon hoff
            refine ⟨_, rfl, fun K hK => ?_⟩
            have e33 : a.tmps[33]? = some (.pointer (some ad215)) := by rw [ha]; exact putSel_on (e := (7, 33, .pointer (some ad215))) 4 rfl rfl (hon 7 (by kernel_rfl)) rfl
            replace ha := Aside0.mk ha
            have HL213_7 := Aside0.mk Q_HL213_7
            have HO_19 := Aside0.mk Q_HO_19
            have HO_6 := Aside0.mk Q_HO_6
            have BK204 := Aside0.mk Q_BK204
            have BK205 := Aside0.mk Q_BK205
            have BK206 := Aside0.mk Q_BK206
            have BK214 := Aside0.mk Q_BK214
            have HB := Aside0.mk Q_HB
            obtain ⟨ad216_z, e216_z, hx216_0_z⟩ := Kd.at_int (Kd.R_reads' HO_6.out).2.2 0 (of_eq_true p216) (of_eq_true q216)
            cases e216_z
            have hs1_ : w'.cell? ad215 = some (.int .i64 (rd t207 0)) := (by first | exact hx216_0_z | (have h_ := hx216_0_z; (try simp only [Int.reduceToNat, Nat.zero_mul, Nat.reduceMul, Nat.reduceEqDiff, Go.Addr.add, ↓reduceIte, Addr.add_zero'] at h_); exact h_))
            refine value_ (w1 := w') (v := .int .i64 (rd t207 0)) (by rfl) rfl ?_ ?_
            · go_simp
              (try simp only [i64_w])
              try rfl
            refine hK.out _ _ ⟨gb225, m16_, (by rw [ha.out]; exact putSel_upk 5 hb_ rfl rfl rfl), Q_HL213_7, Q_HO_19, Q_HO_6, Q_BK204, Q_BK205, Q_BK206, Q_BK214, Q_HB, Q_HL213_7_e16, Q_HO_19_e16, Q_BK225, Q_GW225, Q_GE225, Q_NB204_225, Q_NB225_204, Q_NB205_225, Q_NB225_205, Q_NB206_225, Q_NB225_206, Q_NB214_225, Q_NB225_214, fun h0_ => absurd ((hoff 17 (by kernel_rfl)).symm.trans h0_) (by decide), Q_X16_⟩
          refine steps_cons ?_ ?_
          · rintro b a w' ⟨gb225, m16_, ha, Q_HL213_7, Q_HO_19, Q_HO_6, Q_BK204, Q_BK205, Q_BK206, Q_BK214, Q_HB, Q_HL213_7_e16, Q_HO_19_e16, Q_BK225, Q_GW225, Q_GE225, Q_NB204_225, Q_NB225_204, Q_NB205_225, Q_NB225_205, Q_NB206_225, Q_NB225_206, Q_NB214_225, Q_NB225_214, Q_BK225_e17, Q_X16_⟩ hb_ hon hoff
            refine ⟨_, rfl, fun K hK => ?_⟩
            have e31 : a.tmps[31]? = some (.slice (some ad217) l0_1.length c0_1) := by rw [ha]; exact putSel_on (e := (5, 31, .slice (some ad217) l0_1.length c0_1)) 3 rfl rfl (hon 5 (by kernel_rfl)) rfl
            have e34 : a.tmps[34]? = some (.int .i64 (rd t207 0)) := by rw [ha]; exact putSel_on (e := (8, 34, .int .i64 (rd t207 0))) 5 rfl rfl (hon 8 (by kernel_rfl)) rfl
            replace ha := Aside0.mk ha
            have HL213_7 := Aside0.mk Q_HL213_7
            have HO_19 := Aside0.mk Q_HO_19
            have HO_6 := Aside0.mk Q_HO_6
            have BK204 := Aside0.mk Q_BK204
            have BK205 := Aside0.mk Q_BK205
            have BK206 := Aside0.mk Q_BK206
            have BK214 := Aside0.mk Q_BK214
            have HB := Aside0.mk Q_HB
            have hs2_ : w'.cell? (ad217.add (((rd t207 0)).toNat * 4)) = some (.string ((rd_T30 l0_1 (rd t207 0)).f0)) := ((HB.out.cell (World.block_lt_of_cell? w _ hw217_0)).trans hw217_0)
            have hs3_ : w'.cell? ⟨(ad217.add (((rd t207 0)).toNat * 4)).block, (ad217.add (((rd t207 0)).toNat * 4)).off + 1, none⟩ = some (.int .i64 ((rd_T30 l0_1 (rd t207 0)).f1)) := ((HB.out.cell (World.block_lt_of_cell? w _ hw217_1)).trans hw217_1)
            have hs4_ : w'.cell? ⟨(ad217.add (((rd t207 0)).toNat * 4)).block, (ad217.add (((rd t207 0)).toNat * 4)).off + 2, none⟩ = some (.bool ((rd_T30 l0_1 (rd t207 0)).f2)) := ((HB.out.cell (World.block_lt_of_cell? w _ hw217_2)).trans hw217_2)
            have hs5_ : w'.cell? ⟨(ad217.add (((rd t207 0)).toNat * 4)).block, (ad217.add (((rd t207 0)).toNat * 4)).off + 3, none⟩ = some (.bool ((rd_T30 l0_1 (rd t207 0)).f3)) := ((HB.out.cell (World.block_lt_of_cell? w _ hw217_3)).trans hw217_3)
            refine value_ (w1 := w') (v := .pointer (some (ad217.add (((rd t207 0)).toNat * 4)))) (by rfl) rfl ?_ ?_
            · go_simp
              (try simp only [i64_w])
              try rfl
            refine hK.out _ _ ⟨gb225, m16_, (by rw [ha.out]; exact putSel_upk 6 hb_ rfl rfl rfl), Q_HL213_7, Q_HO_19, Q_HO_6, Q_BK204, Q_BK205, Q_BK206, Q_BK214, Q_HB, Q_HL213_7_e16, Q_HO_19_e16, Q_BK225, Q_GW225, Q_GE225, Q_NB204_225, Q_NB225_204, Q_NB205_225, Q_NB225_205, Q_NB206_225, Q_NB225_206, Q_NB214_225, Q_NB225_214, fun h0_ => absurd ((hoff 17 (by kernel_rfl)).symm.trans h0_) (by decide), Q_X16_⟩
          refine steps_cons ?_ ?_
          · rintro b a w' ⟨gb225, m16_, ha, Q_HL213_7, Q_HO_19, Q_HO_6, Q_BK204, Q_BK205, Q_BK206, Q_BK214, Q_HB, Q_HL213_7_e16, Q_HO_19_e16, Q_BK225, Q_GW225, Q_GE225, Q_NB204_225, Q_NB225_204, Q_NB205_225, Q_NB225_205, Q_NB206_225, Q_NB225_206, Q_NB214_225, Q_NB225_214, Q_BK225_e17, Q_X16_⟩ hb_ hon hoff
            refine ⟨_, rfl, fun K hK => ?_⟩
            have e35 : a.tmps[35]? = some (.pointer (some (ad217.add (((rd t207 0)).toNat * 4)))) := by rw [ha]; exact putSel_on (e := (9, 35, .pointer (some (ad217.add (((rd t207 0)).toNat * 4))))) 6 rfl rfl (hon 9 (by kernel_rfl)) rfl
            replace ha := Aside0.mk ha
            have HL213_7 := Aside0.mk Q_HL213_7
            have HO_19 := Aside0.mk Q_HO_19
            have HO_6 := Aside0.mk Q_HO_6
            have BK204 := Aside0.mk Q_BK204
            have BK205 := Aside0.mk Q_BK205
            have BK206 := Aside0.mk Q_BK206
            have BK214 := Aside0.mk Q_BK214
            have HB := Aside0.mk Q_HB
            refine value_ (w1 := w') (v := .pointer (some ⟨(ad217.add (((rd t207 0)).toNat * 4)).block, (ad217.add (((rd t207 0)).toNat * 4)).off + 1, none⟩)) (by rfl) rfl ?_ ?_
            · go_simp
              (try simp only [i64_w])
              try rfl
            refine hK.out _ _ ⟨gb225, m16_, (by rw [ha.out]; exact putSel_upk 7 hb_ rfl rfl rfl), Q_HL213_7, Q_HO_19, Q_HO_6, Q_BK204, Q_BK205, Q_BK206, Q_BK214, Q_HB, Q_HL213_7_e16, Q_HO_19_e16, Q_BK225, Q_GW225, Q_GE225, Q_NB204_225, Q_NB225_204, Q_NB205_225, Q_NB225_205, Q_NB206_225, Q_NB225_206, Q_NB214_225, Q_NB225_214, fun h0_ => absurd ((hoff 17 (by kernel_rfl)).symm.trans h0_) (by decide), Q_X16_⟩
          refine steps_cons ?_ ?_
          · rintro b a w' ⟨gb225, m16_, ha, Q_HL213_7, Q_HO_19, Q_HO_6, Q_BK204, Q_BK205, Q_BK206, Q_BK214, Q_HB, Q_HL213_7_e16, Q_HO_19_e16, Q_BK225, Q_GW225, Q_GE225, Q_NB204_225, Q_NB225_204, Q_NB205_225, Q_NB225_205, Q_NB206_225, Q_NB225_206, Q_NB214_225, Q_NB225_214, Q_BK225_e17, Q_X16_⟩ hb_ hon hoff
            refine ⟨_, rfl, fun K hK => ?_⟩
            have e36 : a.tmps[36]? = some (.pointer (some ⟨(ad217.add (((rd t207 0)).toNat * 4)).block, (ad217.add (((rd t207 0)).toNat * 4)).off + 1, none⟩)) := by rw [ha]; exact putSel_on (e := (10, 36, .pointer (some ⟨(ad217.add (((rd t207 0)).toNat * 4)).block, (ad217.add (((rd t207 0)).toNat * 4)).off + 1, none⟩))) 7 rfl rfl (hon 10 (by kernel_rfl)) rfl
            replace ha := Aside0.mk ha
            have HL213_7 := Aside0.mk Q_HL213_7
            have HO_19 := Aside0.mk Q_HO_19
            have HO_6 := Aside0.mk Q_HO_6
            have BK204 := Aside0.mk Q_BK204
            have BK205 := Aside0.mk Q_BK205
            have BK206 := Aside0.mk Q_BK206
            have BK214 := Aside0.mk Q_BK214
            have HB := Aside0.mk Q_HB
            have hs2_ : w'.cell? (ad217.add (((rd t207 0)).toNat * 4)) = some (.string ((rd_T30 l0_1 (rd t207 0)).f0)) := ((HB.out.cell (World.block_lt_of_cell? w _ hw217_0)).trans hw217_0)
            have hs3_ : w'.cell? ⟨(ad217.add (((rd t207 0)).toNat * 4)).block, (ad217.add (((rd t207 0)).toNat * 4)).off + 1, none⟩ = some (.int .i64 ((rd_T30 l0_1 (rd t207 0)).f1)) := ((HB.out.cell (World.block_lt_of_cell? w _ hw217_1)).trans hw217_1)
            have hs4_ : w'.cell? ⟨(ad217.add (((rd t207 0)).toNat * 4)).block, (ad217.add (((rd t207 0)).toNat * 4)).off + 2, none⟩ = some (.bool ((rd_T30 l0_1 (rd t207 0)).f2)) := ((HB.out.cell (World.block_lt_of_cell? w _ hw217_2)).trans hw217_2)
            have hs5_ : w'.cell? ⟨(ad217.add (((rd t207 0)).toNat * 4)).block, (ad217.add (((rd t207 0)).toNat * 4)).off + 3, none⟩ = some (.bool ((rd_T30 l0_1 (rd t207 0)).f3)) := ((HB.out.cell (World.block_lt_of_cell? w _ hw217_3)).trans hw217_3)
            refine value_ (w1 := w') (v := .int .i64 ((rd_T30 l0_1 (rd t207 0)).f1)) (by rfl) rfl ?_ ?_
            · go_simp
              (try simp only [i64_w])
              try rfl
            refine hK.out _ _ ⟨gb225, m16_, (by rw [ha.out]; exact putSel_upk 8 hb_ rfl rfl rfl), Q_HL213_7, Q_HO_19, Q_HO_6, Q_BK204, Q_BK205, Q_BK206, Q_BK214, Q_HB, Q_HL213_7_e16, Q_HO_19_e16, Q_BK225, Q_GW225, Q_GE225, Q_NB204_225, Q_NB225_204, Q_NB205_225, Q_NB225_205, Q_NB206_225, Q_NB225_206, Q_NB214_225, Q_NB225_214, fun h0_ => absurd ((hoff 17 (by kernel_rfl)).symm.trans h0_) (by decide), Q_X16_⟩
          refine steps_cons ?_ ?_
          · rintro b a w' ⟨gb225, m16_, ha, Q_HL213_7, Q_HO_19, Q_HO_6, Q_BK204, Q_BK205, Q_BK206, Q_BK214, Q_HB, Q_HL213_7_e16, Q_HO_19_e16, Q_BK225, Q_GW225, Q_GE225, Q_NB204_225, Q_NB225_204, Q_NB205_225, Q_NB225_205, Q_NB206_225, Q_NB225_206, Q_NB214_225, Q_NB225_214, Q_BK225_e17, Q_X16_⟩ hb_ hon hoff
            refine ⟨_, rfl, fun K hK => ?_⟩
            have e26 : a.tmps[26]? = some (.agg #[.string ((rd_T43 t210 x21_1).f0), .int .i64 ((rd_T43 t210 x21_1).f1), .int .i64 ((rd_T43 t210 x21_1).f2), .int .i64 ((rd_T43 t210 x21_1).f3.f0), .int .i64 ((rd_T43 t210 x21_1).f3.f1), .string ((rd_T43 t210 x21_1).f3.f2), .bool ((rd_T43 t210 x21_1).f3.f3), .slice A213_7 ((rd_T43 t210 x21_1).f4).length c213_7]) := by rw [ha]; exact putSel_on (e := (0, 26, .agg #[.string ((rd_T43 t210 x21_1).f0), .int .i64 ((rd_T43 t210 x21_1).f1), .int .i64 ((rd_T43 t210 x21_1).f2), .int .i64 ((rd_T43 t210 x21_1).f3.f0), .int .i64 ((rd_T43 t210 x21_1).f3.f1), .string ((rd_T43 t210 x21_1).f3.f2), .bool ((rd_T43 t210 x21_1).f3.f3), .slice A213_7 ((rd_T43 t210 x21_1).f4).length c213_7])) 0 rfl rfl (hon 0 (by kernel_rfl)) rfl
            have e29 : a.tmps[29]? = some (.int .i64 (rd t207 0)) := by rw [ha]; exact putSel_on (e := (3, 29, .int .i64 (rd t207 0))) 2 rfl rfl (hon 3 (by kernel_rfl)) rfl
            have e37 : a.tmps[37]? = some (.int .i64 ((rd_T30 l0_1 (rd t207 0)).f1)) := by rw [ha]; exact putSel_on (e := (11, 37, .int .i64 ((rd_T30 l0_1 (rd t207 0)).f1))) 8 rfl rfl (hon 11 (by kernel_rfl)) rfl
            replace ha := Aside0.mk ha
            have HL213_7 := Aside0.mk Q_HL213_7
            have HO_19 := Aside0.mk Q_HO_19
            have HO_6 := Aside0.mk Q_HO_6
            have BK204 := Aside0.mk Q_BK204
            have BK205 := Aside0.mk Q_BK205
            have BK206 := Aside0.mk Q_BK206
            have BK214 := Aside0.mk Q_BK214
            have HB := Aside0.mk Q_HB
            refine goes_ Try.func12 (by kernel_rfl) rfl #[.agg #[.string ((rd_T43 t210 x21_1).f0), .int .i64 ((rd_T43 t210 x21_1).f1), .int .i64 ((rd_T43 t210 x21_1).f2), .int .i64 ((rd_T43 t210 x21_1).f3.f0), .int .i64 ((rd_T43 t210 x21_1).f3.f1), .string ((rd_T43 t210 x21_1).f3.f2), .bool ((rd_T43 t210 x21_1).f3.f3), .slice A213_7 ((rd_T43 t210 x21_1).f4).length c213_7], .int .i64 (rd t207 0), .int .i64 ((rd_T30 l0_1 (rd t207 0)).f1)] (by rfl) rfl rfl (by first | (simp only [List.map_toArray, List.map_cons, List.map_nil, Act.eval, Array.getD_eq_getD_getElem?, Option.getD_some, e26, e29, e37]; done) | (simp only [List.map_toArray, List.map_cons, List.map_nil, Act.eval, Array.getD_eq_getD_getElem?, Option.getD_some, e26, e29, e37]; rfl)) ?_
            with_reducible refine (plan_bound.calls k1 ((rd_T43 t210 x21_1).f0) ((rd_T43 t210 x21_1).f1) ((rd_T43 t210 x21_1).f2) ((rd_T43 t210 x21_1).f3.f0) ((rd_T43 t210 x21_1).f3.f1) ((rd_T43 t210 x21_1).f3.f2) ((rd_T43 t210 x21_1).f3.f3) _ _ ((rd_T43 t210 x21_1).f4) (rd t207 0) ((rd_T30 l0_1 (rd t207 0)).f1) t218 t219 t220 t221 t222 t223 false _ ?side1 ?side2 ?side3 A36.out).mono ?_
            (case side1 => repeat (first | exact ((Kd.V_reads' (kV_ HL213_7.out)).2.2) | (with_reducible refine Kd.C_alloc ?_ _) | (with_reducible refine Kd.C_drewN ?_ _) | (with_reducible refine Kd.C_drew ?_)))
            (case side2 => exact HC213_7.out)
            (case side3 => exact GW_below HG.out (bw_ HB.out))
            rintro e w72 ⟨rfl, hb⟩
            refine ⟨_, rfl, ?_⟩
            have n0_ := Aside0.mk (Kd.R_below (kR_ HO_6.out) hb)
            have n1_ := Aside0.mk (Kd.N_below (kN_ HO_19.out) hb)
            have n2_ := Aside0.mk (Kd.V_below (kV_ HL213_7.out) hb)
            have n3_ := Aside0.mk (blk_below (g := gb204) (o := .cells #[.string a0_0, .slice (some ad217) l0_1.length c0_1] 33 (0, 0)) (bl_ BK204.out) hb)
            have n4_ := Aside0.mk (blk_below (g := gb205) (o := .cells #[.string (⟨#[]⟩ : ByteArray), .string (⟨#[]⟩ : ByteArray), .bool false, .bool false, .bool false, .bool false] 35 (0, 0)) (bl_ BK205.out) hb)
            have n5_ := Aside0.mk (blk_below (g := gb206) (o := .cells #[.string x207000_1, .string x207001_1, .bool x207002_1, .bool x207003_1, .bool x207004_1, .bool x207005_1] 35 (0, 0)) (bl_ BK206.out) hb)
            have n6_ := Aside0.mk (blk_below (g := gb214) (o := .cells #[.string ((rd_T43 t210 x21_1).f0), .int .i64 ((rd_T43 t210 x21_1).f1), .int .i64 ((rd_T43 t210 x21_1).f2), .int .i64 ((rd_T43 t210 x21_1).f3.f0), .int .i64 ((rd_T43 t210 x21_1).f3.f1), .string ((rd_T43 t210 x21_1).f3.f2), .bool ((rd_T43 t210 x21_1).f3.f3), .slice A213_7 ((rd_T43 t210 x21_1).f4).length c213_7] 43 (0, 0)) (bl_ BK214.out) hb)
            have n7_ := Aside0.mk (below_step (bw_ HB.out) hb)
            have z_HL213_7_e16 := fun (h0_ : b 16 = true) => (show Kd.V k43 43 w72 w.heap.size (fun k_ => some k_ ≠ (.slice (some ad213) t210.length co29 : Value).ownBlock ∧ some k_ ≠ (.slice (some ad215) t207.length co27 : Value).ownBlock ∧ k_ ≠ gb204 ∧ k_ ≠ gb205 ∧ k_ ≠ gb206 ∧ k_ ≠ gb214 ∧ k_ ≠ gb225) (.slice A213_7 ((rd_T43 t210 x21_1).f4).length c213_7) ((rd_T43 t210 x21_1).f4) from by first | exact (Kd.V_below (by (with_reducible repeat (first | apply Kd.V_alloc | apply Kd.V_drewN | apply Kd.V_drew)); exact (Q_HL213_7_e16 h0_)) hb) | exact Kd.V_mono (Kd.V_below (by (with_reducible repeat (first | apply Kd.V_alloc | apply Kd.V_drewN | apply Kd.V_drew)); exact (Q_HL213_7_e16 h0_)) hb) (fun _ h_ => by first | trivial | exact h_ | exact h_.1))
            have z_HO_19_e16 := fun (h0_ : b 16 = true) => (show Kd.N k43 43 w72 w.heap.size (fun k_ => some k_ ≠ (.slice (some ad215) t207.length co27 : Value).ownBlock ∧ k_ ≠ gb204 ∧ k_ ≠ gb205 ∧ k_ ≠ gb206 ∧ k_ ≠ gb214 ∧ k_ ≠ gb225) (.slice (some ad213) t210.length co29) t210 from by first | exact (Kd.N_below (by (with_reducible repeat (first | apply Kd.N_alloc | apply Kd.N_drewN | apply Kd.N_drew)); exact (Q_HO_19_e16 h0_)) hb) | exact Kd.N_mono (Kd.N_below (by (with_reducible repeat (first | apply Kd.N_alloc | apply Kd.N_drewN | apply Kd.N_drew)); exact (Q_HO_19_e16 h0_)) hb) (fun _ h_ => by first | trivial | exact h_ | exact h_.1))
            have z_BK225 := fun (h0_ : b 16 = true) (h1_ : b 17 = false) => (show w72.heap[gb225]? = some (.cells #[.string (⟨#[]⟩ : ByteArray), .string (⟨#[]⟩ : ByteArray), .bool false, .bool false, .bool false, .bool false] 35 (0, 0)) from by first | exact (blk_below (g := gb225) (o := .cells #[.string (⟨#[]⟩ : ByteArray), .string (⟨#[]⟩ : ByteArray), .bool false, .bool false, .bool false, .bool false] 35 (0, 0)) (by (with_reducible repeat (first | refine blk_drewN ?_ _ | refine blk_drew ?_ | refine blk_alloc ?_ _)); exact (Q_BK225 h0_ h1_)) hb))
            clear HO_6
            clear HO_19
            clear HL213_7
            clear BK204
            clear BK205
            clear BK206
            clear BK214
            clear HB
            have HO_6 := n0_
            have HO_19 := n1_
            have HL213_7 := n2_
            have BK204 := n3_
            have BK205 := n4_
            have BK206 := n5_
            have BK214 := n6_
            have HB := n7_
            clear n0_ n1_ n2_ n3_ n4_ n5_ n6_ n7_
            (try clear hb); (try clear hb2); (try clear hk); (try clear hi)
            refine hK.out _ _ ⟨gb225, m16_, (by rw [ha.out]; exact putSel_upk 9 hb_ rfl rfl rfl), (kV_ HL213_7.out), (kN_ HO_19.out), (kR_ HO_6.out), (bl_ BK204.out), (bl_ BK205.out), (bl_ BK206.out), (bl_ BK214.out), (bw_ HB.out), z_HL213_7_e16, z_HO_19_e16, z_BK225, Q_GW225, Q_GE225, Q_NB204_225, Q_NB225_204, Q_NB205_225, Q_NB225_205, Q_NB206_225, Q_NB225_206, Q_NB214_225, Q_NB225_214, fun h0_ => absurd ((hoff 17 (by kernel_rfl)).symm.trans h0_) (by decide), Q_X16_⟩
          refine steps_cons ?_ ?_
          · rintro b a w' ⟨gb225, m16_, ha, Q_HL213_7, Q_HO_19, Q_HO_6, Q_BK204, Q_BK205, Q_BK206, Q_BK214, Q_HB, Q_HL213_7_e16, Q_HO_19_e16, Q_BK225, Q_GW225, Q_GE225, Q_NB204_225, Q_NB225_204, Q_NB205_225, Q_NB225_205, Q_NB206_225, Q_NB225_206, Q_NB214_225, Q_NB225_214, Q_BK225_e17, Q_X16_⟩ hb_ hon hoff
            refine ⟨_, rfl, fun K hK => ?_⟩
            have e38 : a.tmps[38]? = some (.tuple #[.agg #[.string t218, .string t219, .bool t220, .bool t221, .bool t222, .bool t223], .bool false]) := by rw [ha]; exact putSel_on (e := (12, 38, .tuple #[.agg #[.string t218, .string t219, .bool t220, .bool t221, .bool t222, .bool t223], .bool false])) 9 rfl rfl (hon 12 (by kernel_rfl)) rfl
            replace ha := Aside0.mk ha
            have HL213_7 := Aside0.mk Q_HL213_7
            have HO_19 := Aside0.mk Q_HO_19
            have HO_6 := Aside0.mk Q_HO_6
            have BK204 := Aside0.mk Q_BK204
            have BK205 := Aside0.mk Q_BK205
            have BK206 := Aside0.mk Q_BK206
            have BK214 := Aside0.mk Q_BK214
            have HB := Aside0.mk Q_HB
            refine value_ (w1 := w') (v := .tuple #[.agg #[.string t218, .string t219, .bool t220, .bool t221, .bool t222, .bool t223], .bool false]) (by rfl) rfl ?_ ?_
            · go_simp
              (try simp only [i64_w])
              try rfl
            refine hK.out _ _ ⟨gb225, m16_, (by rw [ha.out]; exact putSel_upk 10 hb_ rfl rfl rfl), Q_HL213_7, Q_HO_19, Q_HO_6, Q_BK204, Q_BK205, Q_BK206, Q_BK214, Q_HB, Q_HL213_7_e16, Q_HO_19_e16, Q_BK225, Q_GW225, Q_GE225, Q_NB204_225, Q_NB225_204, Q_NB205_225, Q_NB225_205, Q_NB206_225, Q_NB225_206, Q_NB214_225, Q_NB225_214, fun h0_ => absurd ((hoff 17 (by kernel_rfl)).symm.trans h0_) (by decide), Q_X16_⟩
          refine steps_cons ?_ ?_
          · rintro b a w' ⟨gb225, m16_, ha, Q_HL213_7, Q_HO_19, Q_HO_6, Q_BK204, Q_BK205, Q_BK206, Q_BK214, Q_HB, Q_HL213_7_e16, Q_HO_19_e16, Q_BK225, Q_GW225, Q_GE225, Q_NB204_225, Q_NB225_204, Q_NB205_225, Q_NB225_205, Q_NB206_225, Q_NB225_206, Q_NB214_225, Q_NB225_214, Q_BK225_e17, Q_X16_⟩ hb_ hon hoff
            refine ⟨_, rfl, fun K hK => ?_⟩
            have e25 : a.tmps[25]? = some (.tuple #[.agg #[.string t218, .string t219, .bool t220, .bool t221, .bool t222, .bool t223], .bool false]) := by rw [ha]; exact putSel_on (e := (13, 25, .tuple #[.agg #[.string t218, .string t219, .bool t220, .bool t221, .bool t222, .bool t223], .bool false])) 10 rfl rfl (hon 13 (by kernel_rfl)) rfl
            replace ha := Aside0.mk ha
            have HL213_7 := Aside0.mk Q_HL213_7
            have HO_19 := Aside0.mk Q_HO_19
            have HO_6 := Aside0.mk Q_HO_6
            have BK204 := Aside0.mk Q_BK204
            have BK205 := Aside0.mk Q_BK205
            have BK206 := Aside0.mk Q_BK206
            have BK214 := Aside0.mk Q_BK214
            have HB := Aside0.mk Q_HB
            refine value_ (w1 := w') (v := .agg #[.string t218, .string t219, .bool t220, .bool t221, .bool t222, .bool t223]) (by rfl) rfl ?_ ?_
            · go_simp
              (try simp only [i64_w])
              try rfl
            refine hK.out _ _ ⟨gb225, m16_, (by rw [ha.out]; exact putSel_upk 11 hb_ rfl rfl rfl), Q_HL213_7, Q_HO_19, Q_HO_6, Q_BK204, Q_BK205, Q_BK206, Q_BK214, Q_HB, Q_HL213_7_e16, Q_HO_19_e16, Q_BK225, Q_GW225, Q_GE225, Q_NB204_225, Q_NB225_204, Q_NB205_225, Q_NB225_205, Q_NB206_225, Q_NB225_206, Q_NB214_225, Q_NB225_214, fun h0_ => absurd ((hoff 17 (by kernel_rfl)).symm.trans h0_) (by decide), Q_X16_⟩
          refine steps_cons ?_ ?_
          · rintro b a w' ⟨gb225, m16_, ha, Q_HL213_7, Q_HO_19, Q_HO_6, Q_BK204, Q_BK205, Q_BK206, Q_BK214, Q_HB, Q_HL213_7_e16, Q_HO_19_e16, Q_BK225, Q_GW225, Q_GE225, Q_NB204_225, Q_NB225_204, Q_NB205_225, Q_NB225_205, Q_NB206_225, Q_NB225_206, Q_NB214_225, Q_NB225_214, Q_BK225_e17, Q_X16_⟩ hb_ hon hoff
            refine ⟨_, rfl, fun K hK => ?_⟩
            have e25 : a.tmps[25]? = some (.tuple #[.agg #[.string t218, .string t219, .bool t220, .bool t221, .bool t222, .bool t223], .bool false]) := by rw [ha]; exact putSel_on (e := (13, 25, .tuple #[.agg #[.string t218, .string t219, .bool t220, .bool t221, .bool t222, .bool t223], .bool false])) 10 rfl rfl (hon 13 (by kernel_rfl)) rfl
            replace ha := Aside0.mk ha
            have HL213_7 := Aside0.mk Q_HL213_7
            have HO_19 := Aside0.mk Q_HO_19
            have HO_6 := Aside0.mk Q_HO_6
            have BK204 := Aside0.mk Q_BK204
            have BK205 := Aside0.mk Q_BK205
            have BK206 := Aside0.mk Q_BK206
            have BK214 := Aside0.mk Q_BK214
            have HB := Aside0.mk Q_HB
            refine value_ (w1 := w') (v := .bool false) (by rfl) rfl ?_ ?_
            · go_simp
              (try simp only [i64_w])
              try rfl
            refine hK.out _ _ ⟨gb225, m16_, (by rw [ha.out]; exact putSel_upk 12 hb_ rfl rfl rfl), Q_HL213_7, Q_HO_19, Q_HO_6, Q_BK204, Q_BK205, Q_BK206, Q_BK214, Q_HB, Q_HL213_7_e16, Q_HO_19_e16, Q_BK225, Q_GW225, Q_GE225, Q_NB204_225, Q_NB225_204, Q_NB205_225, Q_NB225_205, Q_NB206_225, Q_NB225_206, Q_NB214_225, Q_NB225_214, Q_BK225_e17, Q_X16_⟩
          refine steps_cons ?_ ?_
          · rintro b a w' ⟨gb225, m16_, ha, Q_HL213_7, Q_HO_19, Q_HO_6, Q_BK204, Q_BK205, Q_BK206, Q_BK214, Q_HB, Q_HL213_7_e16, Q_HO_19_e16, Q_BK225, Q_GW225, Q_GE225, Q_NB204_225, Q_NB225_204, Q_NB205_225, Q_NB225_205, Q_NB206_225, Q_NB225_206, Q_NB214_225, Q_NB225_214, Q_BK225_e17, Q_X16_⟩ hb_ hon hoff
            refine ⟨_, rfl, fun K hK => ?_⟩
            replace ha := Aside0.mk ha
            have HL213_7 := Aside0.mk Q_HL213_7
            have HO_19 := Aside0.mk Q_HO_19
            have HO_6 := Aside0.mk Q_HO_6
            have BK204 := Aside0.mk Q_BK204
            have BK205 := Aside0.mk Q_BK205
            have BK206 := Aside0.mk Q_BK206
            have BK214 := Aside0.mk Q_BK214
            have HB := Aside0.mk Q_HB
            refine box_step ?hg (N := 9) ?hd (cs := #[.string (⟨#[]⟩ : ByteArray), .string (⟨#[]⟩ : ByteArray), .bool false, .bool false, .bool false, .bool false]) (t := 35) ?hr ?_; (case hd => rfl); (case hg => rfl); (case hr => first | (go_simp; done) | (go_simp; rfl))
            intro gb225 hg w72 hbox hb
            have n0_ := Aside0.mk (Kd.R_below (kR_ HO_6.out) hb)
            have n1_ := Aside0.mk (Kd.N_below (Kd.N_elderB (kN_ HO_19.out) gb225 (Nat.le_of_eq hg.symm)) hb)
            have n2_ := Aside0.mk (Kd.V_below (Kd.V_elderB (kV_ HL213_7.out) gb225 (Nat.le_of_eq hg.symm)) hb)
            have n3_ := Aside0.mk (blk_below (g := gb204) (o := .cells #[.string a0_0, .slice (some ad217) l0_1.length c0_1] 33 (0, 0)) (bl_ BK204.out) hb)
            have n4_ := Aside0.mk (blk_below (g := gb205) (o := .cells #[.string (⟨#[]⟩ : ByteArray), .string (⟨#[]⟩ : ByteArray), .bool false, .bool false, .bool false, .bool false] 35 (0, 0)) (bl_ BK205.out) hb)
            have n5_ := Aside0.mk (blk_below (g := gb206) (o := .cells #[.string x207000_1, .string x207001_1, .bool x207002_1, .bool x207003_1, .bool x207004_1, .bool x207005_1] 35 (0, 0)) (bl_ BK206.out) hb)
            have n6_ := Aside0.mk (blk_below (g := gb214) (o := .cells #[.string ((rd_T43 t210 x21_1).f0), .int .i64 ((rd_T43 t210 x21_1).f1), .int .i64 ((rd_T43 t210 x21_1).f2), .int .i64 ((rd_T43 t210 x21_1).f3.f0), .int .i64 ((rd_T43 t210 x21_1).f3.f1), .string ((rd_T43 t210 x21_1).f3.f2), .bool ((rd_T43 t210 x21_1).f3.f3), .slice A213_7 ((rd_T43 t210 x21_1).f4).length c213_7] 43 (0, 0)) (bl_ BK214.out) hb)
            have n7_ := Aside0.mk (below_step (bw_ HB.out) hb)
            have n8_ := Aside0.mk (hbox)
            have n9_ := Aside0.mk ((by rw [hg]; exact (below_size (bw_ HB.out)) : w.heap.size ≤ gb225))
            have n10_ := Aside0.mk ((by rw [hg]; exact (below_size (bw_ HB.out)) : w.heap.size ≤ gb225))
            have n11_ := Aside0.mk ((by rw [hg]; exact Nat.ne_of_lt (blk_lt (g := gb204) (o := .cells #[.string a0_0, .slice (some ad217) l0_1.length c0_1] 33 (0, 0)) (bl_ BK204.out)) : gb204 ≠ gb225))
            have n12_ := Aside0.mk ((by rw [hg]; exact Nat.ne_of_gt (blk_lt (g := gb204) (o := .cells #[.string a0_0, .slice (some ad217) l0_1.length c0_1] 33 (0, 0)) (bl_ BK204.out)) : gb225 ≠ gb204))
            have n13_ := Aside0.mk ((by rw [hg]; exact Nat.ne_of_lt (blk_lt (g := gb205) (o := .cells #[.string (⟨#[]⟩ : ByteArray), .string (⟨#[]⟩ : ByteArray), .bool false, .bool false, .bool false, .bool false] 35 (0, 0)) (bl_ BK205.out)) : gb205 ≠ gb225))
            have n14_ := Aside0.mk ((by rw [hg]; exact Nat.ne_of_gt (blk_lt (g := gb205) (o := .cells #[.string (⟨#[]⟩ : ByteArray), .string (⟨#[]⟩ : ByteArray), .bool false, .bool false, .bool false, .bool false] 35 (0, 0)) (bl_ BK205.out)) : gb225 ≠ gb205))
            have n15_ := Aside0.mk ((by rw [hg]; exact Nat.ne_of_lt (blk_lt (g := gb206) (o := .cells #[.string x207000_1, .string x207001_1, .bool x207002_1, .bool x207003_1, .bool x207004_1, .bool x207005_1] 35 (0, 0)) (bl_ BK206.out)) : gb206 ≠ gb225))
            have n16_ := Aside0.mk ((by rw [hg]; exact Nat.ne_of_gt (blk_lt (g := gb206) (o := .cells #[.string x207000_1, .string x207001_1, .bool x207002_1, .bool x207003_1, .bool x207004_1, .bool x207005_1] 35 (0, 0)) (bl_ BK206.out)) : gb225 ≠ gb206))
            have n17_ := Aside0.mk ((by rw [hg]; exact Nat.ne_of_lt (blk_lt (g := gb214) (o := .cells #[.string ((rd_T43 t210 x21_1).f0), .int .i64 ((rd_T43 t210 x21_1).f1), .int .i64 ((rd_T43 t210 x21_1).f2), .int .i64 ((rd_T43 t210 x21_1).f3.f0), .int .i64 ((rd_T43 t210 x21_1).f3.f1), .string ((rd_T43 t210 x21_1).f3.f2), .bool ((rd_T43 t210 x21_1).f3.f3), .slice A213_7 ((rd_T43 t210 x21_1).f4).length c213_7] 43 (0, 0)) (bl_ BK214.out)) : gb214 ≠ gb225))
            have n18_ := Aside0.mk ((by rw [hg]; exact Nat.ne_of_gt (blk_lt (g := gb214) (o := .cells #[.string ((rd_T43 t210 x21_1).f0), .int .i64 ((rd_T43 t210 x21_1).f1), .int .i64 ((rd_T43 t210 x21_1).f2), .int .i64 ((rd_T43 t210 x21_1).f3.f0), .int .i64 ((rd_T43 t210 x21_1).f3.f1), .string ((rd_T43 t210 x21_1).f3.f2), .bool ((rd_T43 t210 x21_1).f3.f3), .slice A213_7 ((rd_T43 t210 x21_1).f4).length c213_7] 43 (0, 0)) (bl_ BK214.out)) : gb225 ≠ gb214))
            clear HO_6
            clear HO_19
            clear HL213_7
            clear BK204
            clear BK205
            clear BK206
            clear BK214
            clear HB
            have HO_6 := n0_
            have HO_19 := n1_
            have HL213_7 := n2_
            have BK204 := n3_
            have BK205 := n4_
            have BK206 := n5_
            have BK214 := n6_
            have HB := n7_
            have BK225 := n8_
            have GW225 := n9_
            have GE225 := n10_
            have NB204_225 := n11_
            have NB225_204 := n12_
            have NB205_225 := n13_
            have NB225_205 := n14_
            have NB206_225 := n15_
            have NB225_206 := n16_
            have NB214_225 := n17_
            have NB225_214 := n18_
            clear n0_ n1_ n2_ n3_ n4_ n5_ n6_ n7_ n8_ n9_ n10_ n11_ n12_ n13_ n14_ n15_ n16_ n17_ n18_
            clear hb hbox hg
            refine hK.out _ _ ⟨gb225, (.pointer (some ⟨gb225, 0, none⟩)), (by rw [ha.out]; exact putSel_upk 13 hb_ rfl rfl rfl), (Kd.V_mono (ok := fun k_ => some k_ ≠ (.slice (some ad213) t210.length co29 : Value).ownBlock ∧ some k_ ≠ (.slice (some ad215) t207.length co27 : Value).ownBlock ∧ k_ ≠ gb204 ∧ k_ ≠ gb205 ∧ k_ ≠ gb206 ∧ k_ ≠ gb214 ∧ k_ ≠ gb225) (by (with_reducible repeat (first | apply Kd.V_alloc | apply Kd.V_drewN | apply Kd.V_drew)); exact Kd.V_mono HL213_7.out (fun _ hk => ⟨hk.1.1, ⟨hk.1.2.1, ⟨hk.1.2.2.1, ⟨hk.1.2.2.2.1, ⟨hk.1.2.2.2.2.1, ⟨hk.1.2.2.2.2.2, hk.2⟩⟩⟩⟩⟩⟩)) (fun k_ h_ => ⟨h_.1, h_.2.1, h_.2.2.1, h_.2.2.2.1, h_.2.2.2.2.1, h_.2.2.2.2.2.1⟩)), (Kd.N_mono (ok := fun k_ => some k_ ≠ (.slice (some ad215) t207.length co27 : Value).ownBlock ∧ k_ ≠ gb204 ∧ k_ ≠ gb205 ∧ k_ ≠ gb206 ∧ k_ ≠ gb214 ∧ k_ ≠ gb225) (by (with_reducible repeat (first | apply Kd.N_alloc | apply Kd.N_drewN | apply Kd.N_drew)); exact Kd.N_mono HO_19.out (fun _ hk => ⟨hk.1.1, ⟨hk.1.2.1, ⟨hk.1.2.2.1, ⟨hk.1.2.2.2.1, ⟨hk.1.2.2.2.2, hk.2⟩⟩⟩⟩⟩)) (fun k_ h_ => ⟨h_.1, h_.2.1, h_.2.2.1, h_.2.2.2.1, h_.2.2.2.2.1⟩)), (kR_ HO_6.out), (bl_ BK204.out), (bl_ BK205.out), (bl_ BK206.out), (bl_ BK214.out), (bw_ HB.out), fun _ => (by (with_reducible repeat (first | apply Kd.V_alloc | apply Kd.V_drewN | apply Kd.V_drew)); exact Kd.V_mono HL213_7.out (fun _ hk => ⟨hk.1.1, ⟨hk.1.2.1, ⟨hk.1.2.2.1, ⟨hk.1.2.2.2.1, ⟨hk.1.2.2.2.2.1, ⟨hk.1.2.2.2.2.2, hk.2⟩⟩⟩⟩⟩⟩)), fun _ => (by (with_reducible repeat (first | apply Kd.N_alloc | apply Kd.N_drewN | apply Kd.N_drew)); exact Kd.N_mono HO_19.out (fun _ hk => ⟨hk.1.1, ⟨hk.1.2.1, ⟨hk.1.2.2.1, ⟨hk.1.2.2.2.1, ⟨hk.1.2.2.2.2, hk.2⟩⟩⟩⟩⟩)), fun _ _ => (bl_ BK225.out), fun _ => GW225.out, fun _ => GE225.out, fun _ => NB204_225.out, fun _ => NB225_204.out, fun _ => NB205_225.out, fun _ => NB225_205.out, fun _ => NB206_225.out, fun _ => NB225_206.out, fun _ => NB214_225.out, fun _ => NB225_214.out, fun h0_ => absurd ((hoff 17 (by kernel_rfl)).symm.trans h0_) (by decide), fun _ => rfl⟩
          refine steps_cons ?_ ?_
          · rintro b a w' ⟨gb225, m16_, ha, Q_HL213_7, Q_HO_19, Q_HO_6, Q_BK204, Q_BK205, Q_BK206, Q_BK214, Q_HB, Q_HL213_7_e16, Q_HO_19_e16, Q_BK225, Q_GW225, Q_GE225, Q_NB204_225, Q_NB225_204, Q_NB205_225, Q_NB225_205, Q_NB206_225, Q_NB225_206, Q_NB214_225, Q_NB225_214, Q_BK225_e17, Q_X16_⟩ hb_ hon hoff
            refine ⟨_, rfl, fun K hK => ?_⟩
            have e9 : a.tmps[9]? = some (m16_) := by rw [ha]; exact putSel_on (e := (16, 9, m16_)) 13 rfl rfl (hon 16 (by kernel_rfl)) rfl
            rw [Q_X16_ (hon 16 (by kernel_rfl))] at e9
            have e39 : a.tmps[39]? = some (.agg #[.string t218, .string t219, .bool t220, .bool t221, .bool t222, .bool t223]) := by rw [ha]; exact putSel_on (e := (14, 39, .agg #[.string t218, .string t219, .bool t220, .bool t221, .bool t222, .bool t223])) 11 rfl rfl (hon 14 (by kernel_rfl)) rfl
            replace ha := Aside0.mk ha
            have HL213_7 := Aside0.mk Q_HL213_7
            have HO_19 := Aside0.mk Q_HO_19
            have HO_6 := Aside0.mk Q_HO_6
            have BK204 := Aside0.mk Q_BK204
            have BK205 := Aside0.mk Q_BK205
            have BK206 := Aside0.mk Q_BK206
            have BK214 := Aside0.mk Q_BK214
            have HB := Aside0.mk Q_HB
            have HL213_7 := Aside0.mk (Q_HL213_7_e16 (hon 16 (by kernel_rfl)))
            have HO_19 := Aside0.mk (Q_HO_19_e16 (hon 16 (by kernel_rfl)))
            have BK225 := Aside0.mk (Q_BK225 (hon 16 (by kernel_rfl)) hb_)
            have GW225 := Aside0.mk (Q_GW225 (hon 16 (by kernel_rfl)))
            have GE225 := Aside0.mk (Q_GE225 (hon 16 (by kernel_rfl)))
            have NB204_225 := Aside0.mk (Q_NB204_225 (hon 16 (by kernel_rfl)))
            have NB225_204 := Aside0.mk (Q_NB225_204 (hon 16 (by kernel_rfl)))
            have NB205_225 := Aside0.mk (Q_NB205_225 (hon 16 (by kernel_rfl)))
            have NB225_205 := Aside0.mk (Q_NB225_205 (hon 16 (by kernel_rfl)))
            have NB206_225 := Aside0.mk (Q_NB206_225 (hon 16 (by kernel_rfl)))
            have NB225_206 := Aside0.mk (Q_NB225_206 (hon 16 (by kernel_rfl)))
            have NB214_225 := Aside0.mk (Q_NB214_225 (hon 16 (by kernel_rfl)))
            have NB225_214 := Aside0.mk (Q_NB225_214 (hon 16 (by kernel_rfl)))
            have hs75 : w'.cell? ⟨gb225, 0, none⟩ = some (.string (⟨#[]⟩ : ByteArray)) := (blk_cell BK225.out 0).trans rfl
            have hfs75 := blk_frozen BK225.out 0
            have hns75_0 := NB204_225.out
            have hns75_1 := NB205_225.out
            have hns75_2 := NB206_225.out
            have hns75_3 := NB214_225.out
            have hms75_0 := NB225_204.out
            have hms75_1 := NB225_205.out
            have hms75_2 := NB225_206.out
            have hms75_3 := NB225_214.out
            have hs76 : w'.cell? ⟨gb225, 1, none⟩ = some (.string (⟨#[]⟩ : ByteArray)) := (blk_cell BK225.out 1).trans rfl
            have hfs76 := blk_frozen BK225.out 1
            have hs77 : w'.cell? ⟨gb225, 2, none⟩ = some (.bool false) := (blk_cell BK225.out 2).trans rfl
            have hfs77 := blk_frozen BK225.out 2
            have hs78 : w'.cell? ⟨gb225, 3, none⟩ = some (.bool false) := (blk_cell BK225.out 3).trans rfl
            have hfs78 := blk_frozen BK225.out 3
            have hs79 : w'.cell? ⟨gb225, 4, none⟩ = some (.bool false) := (blk_cell BK225.out 4).trans rfl
            have hfs79 := blk_frozen BK225.out 4
            have hs80 : w'.cell? ⟨gb225, 5, none⟩ = some (.bool false) := (blk_cell BK225.out 5).trans rfl
            have hfs80 := blk_frozen BK225.out 5
            refine skip_ (w1 := ?_) ?sh1 ?sh2 ?_ ?_
            case sh1 => rfl
            case sh2 => rfl
            rotate_left
            · go_simp
              rfl
            refine hK.out _ _ ⟨gb225, m16_, (by rw [ha.out]; exact putSel_none (v := undef) rfl), (Kd.V_mono (ok := fun k_ => some k_ ≠ (.slice (some ad213) t210.length co29 : Value).ownBlock ∧ some k_ ≠ (.slice (some ad215) t207.length co27 : Value).ownBlock ∧ k_ ≠ gb204 ∧ k_ ≠ gb205 ∧ k_ ≠ gb206 ∧ k_ ≠ gb214 ∧ k_ ≠ gb225) (by (with_reducible repeat (first | apply Kd.V_alloc | apply Kd.V_drewN | apply Kd.V_drew)); exact Kd.V_mono (Kd.V_far (p := ⟨gb225, 5, none⟩) (Kd.V_far (p := ⟨gb225, 4, none⟩) (Kd.V_far (p := ⟨gb225, 3, none⟩) (Kd.V_far (p := ⟨gb225, 2, none⟩) (Kd.V_far (p := ⟨gb225, 1, none⟩) (Kd.V_far (p := ⟨gb225, 0, none⟩) (Kd.V_mono HL213_7.out (fun k_ hk => (⟨hk, hk.2.2.2.2.2.2⟩ : _ ∧ k_ ≠ gb225))) (fun _ hk => hk.2) (.string t218)) (fun _ hk => hk.2) (.string t219)) (fun _ hk => hk.2) (.bool t220)) (fun _ hk => hk.2) (.bool t221)) (fun _ hk => hk.2) (.bool t222)) (fun _ hk => hk.2) (.bool t223)) (fun _ hk => ⟨hk.1.1, ⟨hk.1.2.1, ⟨hk.1.2.2.1, ⟨hk.1.2.2.2.1, ⟨hk.1.2.2.2.2.1, ⟨hk.1.2.2.2.2.2.1, hk.1.2.2.2.2.2.2⟩⟩⟩⟩⟩⟩)) (fun k_ h_ => ⟨h_.1, h_.2.1, h_.2.2.1, h_.2.2.2.1, h_.2.2.2.2.1, h_.2.2.2.2.2.1⟩)), (Kd.N_mono (ok := fun k_ => some k_ ≠ (.slice (some ad215) t207.length co27 : Value).ownBlock ∧ k_ ≠ gb204 ∧ k_ ≠ gb205 ∧ k_ ≠ gb206 ∧ k_ ≠ gb214 ∧ k_ ≠ gb225) (by (with_reducible repeat (first | apply Kd.N_alloc | apply Kd.N_drewN | apply Kd.N_drew)); exact Kd.N_mono (Kd.N_far (p := ⟨gb225, 5, none⟩) (Kd.N_far (p := ⟨gb225, 4, none⟩) (Kd.N_far (p := ⟨gb225, 3, none⟩) (Kd.N_far (p := ⟨gb225, 2, none⟩) (Kd.N_far (p := ⟨gb225, 1, none⟩) (Kd.N_far (p := ⟨gb225, 0, none⟩) (Kd.N_mono HO_19.out (fun k_ hk => (⟨hk, hk.2.2.2.2.2⟩ : _ ∧ k_ ≠ gb225))) (fun _ hk => hk.2) (.string t218)) (fun _ hk => hk.2) (.string t219)) (fun _ hk => hk.2) (.bool t220)) (fun _ hk => hk.2) (.bool t221)) (fun _ hk => hk.2) (.bool t222)) (fun _ hk => hk.2) (.bool t223)) (fun _ hk => ⟨hk.1.1, ⟨hk.1.2.1, ⟨hk.1.2.2.1, ⟨hk.1.2.2.2.1, ⟨hk.1.2.2.2.2.1, hk.1.2.2.2.2.2⟩⟩⟩⟩⟩)) (fun k_ h_ => ⟨h_.1, h_.2.1, h_.2.2.1, h_.2.2.2.1, h_.2.2.2.2.1⟩)), (by (with_reducible repeat (first | apply Kd.R_alloc | apply Kd.R_drewN | apply Kd.R_drew)); exact Kd.R_mono (Kd.R_far (p := ⟨gb225, 5, none⟩) (Kd.R_far (p := ⟨gb225, 4, none⟩) (Kd.R_far (p := ⟨gb225, 3, none⟩) (Kd.R_far (p := ⟨gb225, 2, none⟩) (Kd.R_far (p := ⟨gb225, 1, none⟩) (Kd.R_far (p := ⟨gb225, 0, none⟩) (Kd.R_types HO_6.out BK225.out (by decide)) (fun _ hk => hk.2) (.string t218)) (fun _ hk => hk.2) (.string t219)) (fun _ hk => hk.2) (.bool t220)) (fun _ hk => hk.2) (.bool t221)) (fun _ hk => hk.2) (.bool t222)) (fun _ hk => hk.2) (.bool t223)) (fun _ hk => trivial)), (by (with_reducible repeat (first | refine blk_drewN ?_ _ | refine blk_drew ?_ | refine blk_alloc ?_ _)); refine blk_far ?_ NB204_225.out _; (with_reducible repeat (first | refine blk_drewN ?_ _ | refine blk_drew ?_ | refine blk_alloc ?_ _)); refine blk_far ?_ NB204_225.out _; (with_reducible repeat (first | refine blk_drewN ?_ _ | refine blk_drew ?_ | refine blk_alloc ?_ _)); refine blk_far ?_ NB204_225.out _; (with_reducible repeat (first | refine blk_drewN ?_ _ | refine blk_drew ?_ | refine blk_alloc ?_ _)); refine blk_far ?_ NB204_225.out _; (with_reducible repeat (first | refine blk_drewN ?_ _ | refine blk_drew ?_ | refine blk_alloc ?_ _)); refine blk_far ?_ NB204_225.out _; (with_reducible repeat (first | refine blk_drewN ?_ _ | refine blk_drew ?_ | refine blk_alloc ?_ _)); refine blk_far ?_ NB204_225.out _; (with_reducible repeat (first | refine blk_drewN ?_ _ | refine blk_drew ?_ | refine blk_alloc ?_ _)); exact BK204.out), (by (with_reducible repeat (first | refine blk_drewN ?_ _ | refine blk_drew ?_ | refine blk_alloc ?_ _)); refine blk_far ?_ NB205_225.out _; (with_reducible repeat (first | refine blk_drewN ?_ _ | refine blk_drew ?_ | refine blk_alloc ?_ _)); refine blk_far ?_ NB205_225.out _; (with_reducible repeat (first | refine blk_drewN ?_ _ | refine blk_drew ?_ | refine blk_alloc ?_ _)); refine blk_far ?_ NB205_225.out _; (with_reducible repeat (first | refine blk_drewN ?_ _ | refine blk_drew ?_ | refine blk_alloc ?_ _)); refine blk_far ?_ NB205_225.out _; (with_reducible repeat (first | refine blk_drewN ?_ _ | refine blk_drew ?_ | refine blk_alloc ?_ _)); refine blk_far ?_ NB205_225.out _; (with_reducible repeat (first | refine blk_drewN ?_ _ | refine blk_drew ?_ | refine blk_alloc ?_ _)); refine blk_far ?_ NB205_225.out _; (with_reducible repeat (first | refine blk_drewN ?_ _ | refine blk_drew ?_ | refine blk_alloc ?_ _)); exact BK205.out), (by (with_reducible repeat (first | refine blk_drewN ?_ _ | refine blk_drew ?_ | refine blk_alloc ?_ _)); refine blk_far ?_ NB206_225.out _; (with_reducible repeat (first | refine blk_drewN ?_ _ | refine blk_drew ?_ | refine blk_alloc ?_ _)); refine blk_far ?_ NB206_225.out _; (with_reducible repeat (first | refine blk_drewN ?_ _ | refine blk_drew ?_ | refine blk_alloc ?_ _)); refine blk_far ?_ NB206_225.out _; (with_reducible repeat (first | refine blk_drewN ?_ _ | refine blk_drew ?_ | refine blk_alloc ?_ _)); refine blk_far ?_ NB206_225.out _; (with_reducible repeat (first | refine blk_drewN ?_ _ | refine blk_drew ?_ | refine blk_alloc ?_ _)); refine blk_far ?_ NB206_225.out _; (with_reducible repeat (first | refine blk_drewN ?_ _ | refine blk_drew ?_ | refine blk_alloc ?_ _)); refine blk_far ?_ NB206_225.out _; (with_reducible repeat (first | refine blk_drewN ?_ _ | refine blk_drew ?_ | refine blk_alloc ?_ _)); exact BK206.out), (by (with_reducible repeat (first | refine blk_drewN ?_ _ | refine blk_drew ?_ | refine blk_alloc ?_ _)); refine blk_far ?_ NB214_225.out _; (with_reducible repeat (first | refine blk_drewN ?_ _ | refine blk_drew ?_ | refine blk_alloc ?_ _)); refine blk_far ?_ NB214_225.out _; (with_reducible repeat (first | refine blk_drewN ?_ _ | refine blk_drew ?_ | refine blk_alloc ?_ _)); refine blk_far ?_ NB214_225.out _; (with_reducible repeat (first | refine blk_drewN ?_ _ | refine blk_drew ?_ | refine blk_alloc ?_ _)); refine blk_far ?_ NB214_225.out _; (with_reducible repeat (first | refine blk_drewN ?_ _ | refine blk_drew ?_ | refine blk_alloc ?_ _)); refine blk_far ?_ NB214_225.out _; (with_reducible repeat (first | refine blk_drewN ?_ _ | refine blk_drew ?_ | refine blk_alloc ?_ _)); refine blk_far ?_ NB214_225.out _; (with_reducible repeat (first | refine blk_drewN ?_ _ | refine blk_drew ?_ | refine blk_alloc ?_ _)); exact BK214.out), (bw_ HB.out), fun _ => (by (with_reducible repeat (first | apply Kd.V_alloc | apply Kd.V_drewN | apply Kd.V_drew)); exact Kd.V_mono (Kd.V_far (p := ⟨gb225, 5, none⟩) (Kd.V_far (p := ⟨gb225, 4, none⟩) (Kd.V_far (p := ⟨gb225, 3, none⟩) (Kd.V_far (p := ⟨gb225, 2, none⟩) (Kd.V_far (p := ⟨gb225, 1, none⟩) (Kd.V_far (p := ⟨gb225, 0, none⟩) (Kd.V_mono HL213_7.out (fun k_ hk => (⟨hk, hk.2.2.2.2.2.2⟩ : _ ∧ k_ ≠ gb225))) (fun _ hk => hk.2) (.string t218)) (fun _ hk => hk.2) (.string t219)) (fun _ hk => hk.2) (.bool t220)) (fun _ hk => hk.2) (.bool t221)) (fun _ hk => hk.2) (.bool t222)) (fun _ hk => hk.2) (.bool t223)) (fun _ hk => ⟨hk.1.1, ⟨hk.1.2.1, ⟨hk.1.2.2.1, ⟨hk.1.2.2.2.1, ⟨hk.1.2.2.2.2.1, ⟨hk.1.2.2.2.2.2.1, hk.1.2.2.2.2.2.2⟩⟩⟩⟩⟩⟩)), fun _ => (by (with_reducible repeat (first | apply Kd.N_alloc | apply Kd.N_drewN | apply Kd.N_drew)); exact Kd.N_mono (Kd.N_far (p := ⟨gb225, 5, none⟩) (Kd.N_far (p := ⟨gb225, 4, none⟩) (Kd.N_far (p := ⟨gb225, 3, none⟩) (Kd.N_far (p := ⟨gb225, 2, none⟩) (Kd.N_far (p := ⟨gb225, 1, none⟩) (Kd.N_far (p := ⟨gb225, 0, none⟩) (Kd.N_mono HO_19.out (fun k_ hk => (⟨hk, hk.2.2.2.2.2⟩ : _ ∧ k_ ≠ gb225))) (fun _ hk => hk.2) (.string t218)) (fun _ hk => hk.2) (.string t219)) (fun _ hk => hk.2) (.bool t220)) (fun _ hk => hk.2) (.bool t221)) (fun _ hk => hk.2) (.bool t222)) (fun _ hk => hk.2) (.bool t223)) (fun _ hk => ⟨hk.1.1, ⟨hk.1.2.1, ⟨hk.1.2.2.1, ⟨hk.1.2.2.2.1, ⟨hk.1.2.2.2.2.1, hk.1.2.2.2.2.2⟩⟩⟩⟩⟩)), fun _ h1_ => absurd ((up_self b 17).symm.trans h1_) (by decide), fun _ => GW225.out, fun _ => GE225.out, fun _ => NB204_225.out, fun _ => NB225_204.out, fun _ => NB205_225.out, fun _ => NB225_205.out, fun _ => NB206_225.out, fun _ => NB225_206.out, fun _ => NB214_225.out, fun _ => NB225_214.out, fun _ => (by (with_reducible repeat (first | refine blk_drewN ?_ _ | refine blk_drew ?_ | refine blk_alloc ?_ _)); refine blk_put (cs := #[.string t218, .string t219, .bool t220, .bool t221, .bool t222, .bool false]) ?_ 5 _ rfl; (with_reducible repeat (first | refine blk_drewN ?_ _ | refine blk_drew ?_ | refine blk_alloc ?_ _)); refine blk_put (cs := #[.string t218, .string t219, .bool t220, .bool t221, .bool false, .bool false]) ?_ 4 _ rfl; (with_reducible repeat (first | refine blk_drewN ?_ _ | refine blk_drew ?_ | refine blk_alloc ?_ _)); refine blk_put (cs := #[.string t218, .string t219, .bool t220, .bool false, .bool false, .bool false]) ?_ 3 _ rfl; (with_reducible repeat (first | refine blk_drewN ?_ _ | refine blk_drew ?_ | refine blk_alloc ?_ _)); refine blk_put (cs := #[.string t218, .string t219, .bool false, .bool false, .bool false, .bool false]) ?_ 2 _ rfl; (with_reducible repeat (first | refine blk_drewN ?_ _ | refine blk_drew ?_ | refine blk_alloc ?_ _)); refine blk_put (cs := #[.string t218, .string (⟨#[]⟩ : ByteArray), .bool false, .bool false, .bool false, .bool false]) ?_ 1 _ rfl; (with_reducible repeat (first | refine blk_drewN ?_ _ | refine blk_drew ?_ | refine blk_alloc ?_ _)); refine blk_put (cs := #[.string (⟨#[]⟩ : ByteArray), .string (⟨#[]⟩ : ByteArray), .bool false, .bool false, .bool false, .bool false]) ?_ 0 _ rfl; (with_reducible repeat (first | refine blk_drewN ?_ _ | refine blk_drew ?_ | refine blk_alloc ?_ _)); exact BK225.out), Q_X16_⟩
          refine steps_cons ?_ ?_
          · rintro b a w' ⟨gb225, m16_, ha, Q_HL213_7, Q_HO_19, Q_HO_6, Q_BK204, Q_BK205, Q_BK206, Q_BK214, Q_HB, Q_HL213_7_e16, Q_HO_19_e16, Q_BK225, Q_GW225, Q_GE225, Q_NB204_225, Q_NB225_204, Q_NB205_225, Q_NB225_205, Q_NB206_225, Q_NB225_206, Q_NB214_225, Q_NB225_214, Q_BK225_e17, Q_X16_⟩ hb_ hon hoff
            refine ⟨_, rfl, fun K hK => ?_⟩
            have e40 : a.tmps[40]? = some (.bool false) := by rw [ha]; exact putSel_on (e := (15, 40, .bool false)) 12 rfl rfl (hon 15 (by kernel_rfl)) rfl
            replace ha := Aside0.mk ha
            have HL213_7 := Aside0.mk Q_HL213_7
            have HO_19 := Aside0.mk Q_HO_19
            have HO_6 := Aside0.mk Q_HO_6
            have BK204 := Aside0.mk Q_BK204
            have BK205 := Aside0.mk Q_BK205
            have BK206 := Aside0.mk Q_BK206
            have BK214 := Aside0.mk Q_BK214
            have HB := Aside0.mk Q_HB
            have HL213_7 := Aside0.mk (Q_HL213_7_e16 (hon 16 (by kernel_rfl)))
            have HO_19 := Aside0.mk (Q_HO_19_e16 (hon 16 (by kernel_rfl)))
            have GW225 := Aside0.mk (Q_GW225 (hon 16 (by kernel_rfl)))
            have GE225 := Aside0.mk (Q_GE225 (hon 16 (by kernel_rfl)))
            have NB204_225 := Aside0.mk (Q_NB204_225 (hon 16 (by kernel_rfl)))
            have NB225_204 := Aside0.mk (Q_NB225_204 (hon 16 (by kernel_rfl)))
            have NB205_225 := Aside0.mk (Q_NB205_225 (hon 16 (by kernel_rfl)))
            have NB225_205 := Aside0.mk (Q_NB225_205 (hon 16 (by kernel_rfl)))
            have NB206_225 := Aside0.mk (Q_NB206_225 (hon 16 (by kernel_rfl)))
            have NB225_206 := Aside0.mk (Q_NB225_206 (hon 16 (by kernel_rfl)))
            have NB214_225 := Aside0.mk (Q_NB214_225 (hon 16 (by kernel_rfl)))
            have NB225_214 := Aside0.mk (Q_NB225_214 (hon 16 (by kernel_rfl)))
            have BK225 := Aside0.mk (Q_BK225_e17 (hon 17 (by kernel_rfl)))
            refine value_ (w1 := w') (v := .bool false) (by rfl) rfl ?_ ?_
            · go_simp
              (try simp only [i64_w])
              try rfl
            refine hK.out _ _ ⟨gb225, m16_, (by rw [ha.out]; exact putSel_upk 14 hb_ rfl rfl rfl), Q_HL213_7, Q_HO_19, Q_HO_6, Q_BK204, Q_BK205, Q_BK206, Q_BK214, Q_HB, Q_HL213_7_e16, Q_HO_19_e16, fun _ h1_ => absurd ((hon 17 (by kernel_rfl)).symm.trans h1_) (by decide), Q_GW225, Q_GE225, Q_NB204_225, Q_NB225_204, Q_NB205_225, Q_NB225_205, Q_NB206_225, Q_NB225_206, Q_NB214_225, Q_NB225_214, Q_BK225_e17, Q_X16_⟩
          exact steps_nil
        rintro b a w80 hall ⟨gb225, m16_, ha, Q_HL213_7, Q_HO_19, Q_HO_6, Q_BK204, Q_BK205, Q_BK206, Q_BK214, Q_HB, Q_HL213_7_e16, Q_HO_19_e16, Q_BK225, Q_GW225, Q_GE225, Q_NB204_225, Q_NB225_204, Q_NB205_225, Q_NB225_205, Q_NB206_225, Q_NB225_206, Q_NB214_225, Q_NB225_214, Q_BK225_e17, Q_X16_⟩
        clear BK204 BK205 BK206 BK214 HB HL213_7 HO_19 HO_6
        have hb0_ := hall 0 (by kernel_rfl)
        have hb2_ := hall 2 (by kernel_rfl)
        have hb3_ := hall 3 (by kernel_rfl)
        have hb5_ := hall 5 (by kernel_rfl)
        have hb7_ := hall 7 (by kernel_rfl)
        have hb8_ := hall 8 (by kernel_rfl)
        have hb9_ := hall 9 (by kernel_rfl)
        have hb10_ := hall 10 (by kernel_rfl)
        have hb11_ := hall 11 (by kernel_rfl)
        have hb12_ := hall 12 (by kernel_rfl)
        have hb13_ := hall 13 (by kernel_rfl)
        have hb14_ := hall 14 (by kernel_rfl)
        have hb15_ := hall 15 (by kernel_rfl)
        have hb16_ := hall 16 (by kernel_rfl)
        have hb17_ := hall 17 (by kernel_rfl)
        have hb18_ := hall 18 (by kernel_rfl)
        subst ha
        obtain rfl := Q_X16_ hb16_
        simp only [putSel, hb0_, hb2_, hb3_, hb5_, hb7_, hb8_, hb9_, hb10_, hb11_, hb12_, hb13_, hb14_, hb15_, hb16_, hb17_, hb18_, if_true, Act.put, List.setIfInBounds_toArray, List.set_cons_zero, List.set_cons_succ]
        have HL213_7 := Aside0.mk Q_HL213_7
        clear Q_HL213_7
        have HO_19 := Aside0.mk Q_HO_19
        clear Q_HO_19
        have HO_6 := Aside0.mk Q_HO_6
        clear Q_HO_6
        have BK204 := Aside0.mk Q_BK204
        clear Q_BK204
        have BK205 := Aside0.mk Q_BK205
        clear Q_BK205
        have BK206 := Aside0.mk Q_BK206
        clear Q_BK206
        have BK214 := Aside0.mk Q_BK214
        clear Q_BK214
        have HB := Aside0.mk Q_HB
        clear Q_HB
        have HL213_7 := Aside0.mk (Q_HL213_7_e16 hb16_)
        clear Q_HL213_7_e16
        have HO_19 := Aside0.mk (Q_HO_19_e16 hb16_)
        clear Q_HO_19_e16
        clear Q_BK225
        have GW225 := Aside0.mk (Q_GW225 hb16_)
        clear Q_GW225
        have GE225 := Aside0.mk (Q_GE225 hb16_)
        clear Q_GE225
        have NB204_225 := Aside0.mk (Q_NB204_225 hb16_)
        clear Q_NB204_225
        have NB225_204 := Aside0.mk (Q_NB225_204 hb16_)
        clear Q_NB225_204
        have NB205_225 := Aside0.mk (Q_NB205_225 hb16_)
        clear Q_NB205_225
        have NB225_205 := Aside0.mk (Q_NB225_205 hb16_)
        clear Q_NB225_205
        have NB206_225 := Aside0.mk (Q_NB206_225 hb16_)
        clear Q_NB206_225
        have NB225_206 := Aside0.mk (Q_NB225_206 hb16_)
        clear Q_NB225_206
        have NB214_225 := Aside0.mk (Q_NB214_225 hb16_)
        clear Q_NB214_225
        have NB225_214 := Aside0.mk (Q_NB225_214 hb16_)
        clear Q_NB225_214
        have BK225 := Aside0.mk (Q_BK225_e17 hb17_)
        clear Q_BK225_e17
        clear hall hb0_ hb2_ hb3_ hb5_ hb7_ hb8_ hb9_ hb10_ hb11_ hb12_ hb13_ hb14_ hb15_ hb16_ hb17_ hb18_
        try go_wp2
        go_roundg k1
        case measure => have := HK1.out; omega
        case rel => exact ⟨(wrap64 (x21_1 + 1)), (x207000_1), (x207001_1), (x207002_1), (x207003_1), (x207004_1), (x207005_1), (by first | rfl | (simp; done) | (simp [*]; done) | (simp [bne]; done)), H', ⟨by have := HK1.out; omega⟩, ⟨by (with_reducible repeat (first | apply Kd.R_alloc | apply Kd.R_drewN | apply Kd.R_drew)); exact HO_6.out⟩, ⟨by (with_reducible repeat (first | apply Kd.N_alloc | apply Kd.N_drewN | apply Kd.N_drew)); exact Kd.N_mono HO_19.out (fun _ hk => ⟨hk.1, ⟨hk.2.1, ⟨hk.2.2.1, hk.2.2.2.1⟩⟩⟩)⟩, ⟨by (with_reducible repeat (first | refine blk_drewN ?_ _ | refine blk_drew ?_ | refine blk_alloc ?_ _)); exact BK204.out⟩, ⟨by (with_reducible repeat (first | refine blk_drewN ?_ _ | refine blk_drew ?_ | refine blk_alloc ?_ _)); exact BK205.out⟩, ⟨by (with_reducible repeat (first | refine blk_drewN ?_ _ | refine blk_drew ?_ | refine blk_alloc ?_ _)); exact BK206.out⟩, ⟨bw_ HB.out⟩⟩
      rw [if_neg c30] at H
      have c30b0 : decide (x21_1 < (t210.length : Int)) = false := decide_eq_false c30
      clear c30
      simp only [Option.some.injEq, Prod.mk.injEq] at H
      obtain ⟨rfl, rfl, rfl, rfl, rfl, rfl⟩ := H
      have hnb81 := NB206_204.out
      have hnc81 := NB204_206.out
      have hnb82 := NB206_205.out
      have hnc82 := NB205_206.out
      have hcz83_0 : wr.cell? ⟨gb206, 0, none⟩ = some (.string x207000_1) := (blk_cell BK206.out 0).trans rfl
      have hcz83_1 : wr.cell? ⟨gb206, 1, none⟩ = some (.string x207001_1) := (blk_cell BK206.out 1).trans rfl
      have hcz83_2 : wr.cell? ⟨gb206, 2, none⟩ = some (.bool x207002_1) := (blk_cell BK206.out 2).trans rfl
      have hcz83_3 : wr.cell? ⟨gb206, 3, none⟩ = some (.bool x207003_1) := (blk_cell BK206.out 3).trans rfl
      have hcz83_4 : wr.cell? ⟨gb206, 4, none⟩ = some (.bool x207004_1) := (blk_cell BK206.out 4).trans rfl
      have hcz83_5 : wr.cell? ⟨gb206, 5, none⟩ = some (.bool x207005_1) := (blk_cell BK206.out 5).trans rfl
      have hfz83_0 := blk_frozen BK206.out 0
      have hfz83_1 := blk_frozen BK206.out 1
      have hfz83_2 := blk_frozen BK206.out 2
      have hfz83_3 := blk_frozen BK206.out 3
      have hfz83_4 := blk_frozen BK206.out 4
      have hfz83_5 := blk_frozen BK206.out 5
      have hnb84 := NB205_204.out
      have hnc84 := NB204_205.out
      have hcz85_0 : wr.cell? ⟨gb205, 0, none⟩ = some (.string (⟨#[]⟩ : ByteArray)) := (blk_cell BK205.out 0).trans rfl
      have hcz85_1 : wr.cell? ⟨gb205, 1, none⟩ = some (.string (⟨#[]⟩ : ByteArray)) := (blk_cell BK205.out 1).trans rfl
      have hcz85_2 : wr.cell? ⟨gb205, 2, none⟩ = some (.bool false) := (blk_cell BK205.out 2).trans rfl
      have hcz85_3 : wr.cell? ⟨gb205, 3, none⟩ = some (.bool false) := (blk_cell BK205.out 3).trans rfl
      have hcz85_4 : wr.cell? ⟨gb205, 4, none⟩ = some (.bool false) := (blk_cell BK205.out 4).trans rfl
      have hcz85_5 : wr.cell? ⟨gb205, 5, none⟩ = some (.bool false) := (blk_cell BK205.out 5).trans rfl
      have hfz85_0 := blk_frozen BK205.out 0
      have hfz85_1 := blk_frozen BK205.out 1
      have hfz85_2 := blk_frozen BK205.out 2
      have hfz85_3 := blk_frozen BK205.out 3
      have hfz85_4 := blk_frozen BK205.out 4
      have hfz85_5 := blk_frozen BK205.out 5
      go_wp2
      refine bodyPost_ret (results_cell_row rfl _ _ gb205 35 #[.string x207000_1, .string x207001_1, .bool x207002_1, .bool x207003_1, .bool x207004_1, .bool x207005_1] (0, 0) _ rfl (by (with_reducible repeat (first | refine blk_drewN ?_ _ | refine blk_drew ?_ | refine blk_alloc ?_ _)); refine blk_put (cs := #[.string x207000_1, .string x207001_1, .bool x207002_1, .bool x207003_1, .bool x207004_1, .bool false]) ?_ 5 _ rfl; (with_reducible repeat (first | refine blk_drewN ?_ _ | refine blk_drew ?_ | refine blk_alloc ?_ _)); refine blk_put (cs := #[.string x207000_1, .string x207001_1, .bool x207002_1, .bool x207003_1, .bool false, .bool false]) ?_ 4 _ rfl; (with_reducible repeat (first | refine blk_drewN ?_ _ | refine blk_drew ?_ | refine blk_alloc ?_ _)); refine blk_put (cs := #[.string x207000_1, .string x207001_1, .bool x207002_1, .bool false, .bool false, .bool false]) ?_ 3 _ rfl; (with_reducible repeat (first | refine blk_drewN ?_ _ | refine blk_drew ?_ | refine blk_alloc ?_ _)); refine blk_put (cs := #[.string x207000_1, .string x207001_1, .bool false, .bool false, .bool false, .bool false]) ?_ 2 _ rfl; (with_reducible repeat (first | refine blk_drewN ?_ _ | refine blk_drew ?_ | refine blk_alloc ?_ _)); refine blk_put (cs := #[.string x207000_1, .string (⟨#[]⟩ : ByteArray), .bool false, .bool false, .bool false, .bool false]) ?_ 1 _ rfl; (with_reducible repeat (first | refine blk_drewN ?_ _ | refine blk_drew ?_ | refine blk_alloc ?_ _)); refine blk_put (cs := #[.string (⟨#[]⟩ : ByteArray), .string (⟨#[]⟩ : ByteArray), .bool false, .bool false, .bool false, .bool false]) ?_ 0 _ rfl; (with_reducible repeat (first | refine blk_drewN ?_ _ | refine blk_drew ?_ | refine blk_alloc ?_ _)); exact BK205.out) Try.underlying35 rfl (by kernel_rfl)) rfl ?_
      exact ⟨by first | rfl | (simp [errW_none, errW_some] <;> rfl) | (simp [*, errW_none, errW_some] <;> rfl), bw_ HB.out⟩

end Go.Proofs.Ytddkbhglbkfelaa.P
