import Derived.Test.YtljadejgdbemoaaDoorPyRx0
import Derived.Test.YtljadejgdbemoaaDoorPyRx2
namespace Go.Proofs.YtljadejgdbemoaaDoor.R
open Go.RowKit Go.Proofs.YtljadejgdbemoaaDoorW.PrintWords Go.Proofs.YtljadejgdbemoaaDoorW.PrintLast Go.Proofs.YtljadejgdbemoaaDoorW.PrintMore Go.Proofs.YtljadejgdbemoaaDoorX
attribute [local go_sem] max2_int min2_int max_two min_two max_three min_three max_four min_four
set_option linter.unusedVariables false
set_option linter.unusedSimpArgs false

/-! ### row_Check: function 35 -/
def row_Check.l0 : Nat → List (S38) → List (S36) → Int → Int → Option (Option Int)
 | 0, _, _, _, _ => none
 | k + 1, x1, x16, x17, x18 => if x18 < x17 then (if 0 ≤ x18 then (if x18 < (x16.length : Int) then (if x18 < (x1.length : Int) then ((row_fits.f k ((rd_T36 x16 x18).f0) ((rd_T36 x16 x18).f1) ((rd_T36 x16 x18).f2) ((rd_T36 x16 x18).f3) ((r8 x1 x18).f0) ((r8 x1 x18).f1) ((r8 x1 x18).f2) ((r8 x1 x18).f3)).bind fun t113 => (if t113.isNone = true then (row_Check.l0 k x1 x16 x17 (wrap64 (x18 + 1))) else (some (some (t113.getD 0))))) else (none)) else (none)) else (none)) else (some none)
def row_Check.f (k : Nat) (a0_0 : ByteArray) (l0_1 : List (S36)) (l1 : List (S38)) : Option (Option Int) := if (l1.length : Int) = (l0_1.length : Int) then (row_Check.l0 k l1 l0_1 (l0_1.length : Int) 0) else (some (some 1))
theorem row_Check.mono_l : ∀ k, (∀ y0 y1 y2 y3, LeO (row_Check.l0 k y0 y1 y2 y3) (row_Check.l0 (k + 1) y0 y1 y2 y3))
 | 0 => fun _ _ _ _ r h => by simp [row_Check.l0] at h
 | k + 1 => by
  have ih0 := row_Check.mono_l k
  ·intro y0 y1 y2 y3
   unfold row_Check.l0
   repeat' first
   | (with_reducible exact ih0 _ _ _ _)
   | (with_reducible exact row_fits.mono _ _ _ _ _ _ _ _ _)
   | (with_reducible exact LeO.refl _)
   | (with_reducible exact LeO.none _)
   | (with_reducible refine LeO.ite ?_ ?_)
   | (with_reducible refine LeO.bind ?_ (fun _ => ?_))
   | exact ih0 _ _ _ _
   | exact row_fits.mono _ _ _ _ _ _ _ _ _
   | exact LeO.none _
   | refine LeO.ite ?_ ?_
   | refine LeO.bind ?_ (fun _ => ?_)
theorem row_Check.mono : ∀ a0 a1 a2 k, LeO (row_Check.f k a0 a1 a2) (row_Check.f (k + 1) a0 a1 a2) := by
 intro a0 a1 a2 k
 have ih0 := row_Check.mono_l k
 unfold row_Check.f
 repeat' first
   | (with_reducible exact ih0 _ _ _ _)
   | (with_reducible exact row_fits.mono _ _ _ _ _ _ _ _ _)
   | (with_reducible exact LeO.refl _)
   | (with_reducible exact LeO.none _)
   | (with_reducible refine LeO.ite ?_ ?_)
   | (with_reducible refine LeO.bind ?_ (fun _ => ?_))
   | exact ih0 _ _ _ _
   | exact row_fits.mono _ _ _ _ _ _ _ _ _
   | exact LeO.none _
   | refine LeO.ite ?_ ?_
   | refine LeO.bind ?_ (fun _ => ?_)
set_option maxHeartbeats 8000000 in
set_option maxRecDepth 100000 in
theorem row_Check.calls (k : Nat) (a0_0 : ByteArray) (A0_1 : Option Addr) (c0_1 : Nat) (l0_1 : List (S36)) (A1 : Option Addr) (c1 : Nat) (l1 : List (S38)) (r : Option Int) (w : World) (hr0_1 : Kd.C k36 w A0_1 l0_1.length l0_1) (hc0_1 : l0_1.length ≤ c0_1) (hr1 : Kd.C k38 w A1 l1.length l1) (hc1 : l1.length ≤ c1) (h : row_Check.f k a0_0 l0_1 l1 = some r) :
  Calls Tryd.prog 35 #[.agg #[.string a0_0, .slice A0_1 l0_1.length c0_1], .slice A1 l1.length c1] w fun e w' => e = .returned (errW r) ∧ Below w.heap.size w w' := by
 have hu24 := Tryd.underlying24
 have hu36 := Tryd.underlying36
 have hu38 := Tryd.underlying38
 have hu28 := Tryd.underlying28
 have hu72 := Tryd.underlying72
 have HR0_1 := Aside0.mk hr0_1
 have HC0_1 := Aside0.mk hc0_1
 clear hr0_1 hc0_1
 have HR1 := Aside0.mk hr1
 have HC1 := Aside0.mk hc1
 clear hr1 hc1
 have HB := Aside0.mk (Below.refl w.heap.size w)
 have H : (if (l1.length : Int) = (l0_1.length : Int) then (row_Check.l0 k l1 l0_1 (l0_1.length : Int) 0) else (some (some 1))) = some r := h
 clear h
 by_cases c3 : (l1.length : Int) = (l0_1.length : Int)
 ·rw [if_pos c3] at H
  have c3b0 : ((l1.length : Int) == (l0_1.length : Int)) = true := beq_iff_eq.mpr c3
  have c3b1 : ((l1.length : Int) != (l0_1.length : Int)) = false := bne_eq_false_iff_eq.mpr c3
  have c3b2 : (l1.length == l0_1.length) = true := by first | simpa using c3 | (simp at c3 ⊢; omega)
  clear c3
  have H' := Aside0.mk H
  clear H
  go_enter Tryd.func35, Tryd.ntmps35
  go_wp2_with (first | ((with_reducible refine qgd (N := 2) rfl ?_); refine qbe ?hg (N := 2) ?hd (cs := #[.string a0_0, .slice A0_1 l0_1.length c0_1]) (t := 24) ?hr ?_; (case hd => rfl); (case hg => rfl); (case hr => first | (go_simp; done) | (go_simp; rfl)); intro gb109 hg w4 hbox hb; have n0_ := Aside0.mk (below_step (by repeat (first | (with_reducible first | exact HB.out | apply below_alloc | apply qbN | apply qb1) | exact HB.out)) hb); have n1_ := Aside0.mk (hbox); have n2_ := Aside0.mk ((by rw [hg]; exact (qbz (by repeat (first | (with_reducible first | exact HB.out | apply below_alloc | apply qbN | apply qb1) | exact HB.out))) : w.heap.size ≤ gb109)); have n3_ := Aside0.mk ((by rw [hg]; exact (qbz (by repeat (first | (with_reducible first | exact HB.out | apply below_alloc | apply qbN | apply qb1) | exact HB.out))) : w.heap.size ≤ gb109)); clear HB; have HB := n0_; have BK109 := n1_; have GW109 := n2_; have GE109 := n3_; clear n0_ n1_ n2_ n3_; clear hb hbox hg; have hcz5_0 : w4.cell? ⟨gb109, 0, none⟩ = some (.string a0_0) := (qkc BK109.out 0).trans rfl; have hcz5_1 : w4.cell? ⟨gb109, 1, none⟩ = some (.slice A0_1 l0_1.length c0_1) := (qkc BK109.out 1).trans rfl; have hfz5_0 := qkf BK109.out 0; have hfz5_1 := qkf BK109.out 1))
  go_loopg [18] k (fun kq v18 w' => ∃ (x18_1 : Int), v18 = .int .i64 x18_1 ∧ Aside0 (row_Check.l0 kq l1 l0_1 (l0_1.length : Int) x18_1 = some r) ∧ Aside0 (kq ≤ k) ∧ Aside0 (w'.heap[gb109]? = some (.cells #[.string a0_0, (.slice A0_1 l0_1.length c0_1)] 24 (0, 0))) ∧ Aside0 (Below w.heap.size w w'))
  case atStart => exact ⟨(0), (by first | rfl | (simp; done) | (simp [*]; done)), H', ⟨Nat.le_refl _⟩, ⟨by (with_reducible repeat (first | refine qkN ?_ _ | refine qkd ?_ | refine qka ?_ _)); exact BK109.out⟩, ⟨by repeat (first | (with_reducible first | exact HB.out | apply below_alloc | apply qbN | apply qb1 | refine qbs ?_ GE109.out) | exact HB.out)⟩⟩
  case round =>
   clear H'
   try clear c1
   try clear p2
   try clear c3
   try clear c3b0
   try clear c3b1
   try clear c3b2
   try clear hcz5_0
   try clear hcz5_1
   try clear hfz5_0
   try clear hfz5_1
   obtain ⟨x18_1, rfl, HA, HK1, BK109, HB⟩ := hrel
   cases gk with
   | zero => exact absurd HA.out (by simp [row_Check.l0])
   | succ k1 =>
    have H := HA.out
    clear HA
    simp only [row_Check.l0] at H
    by_cases c6 : x18_1 < (l0_1.length : Int)
    ·rw [if_pos c6] at H
     have c6b0 : decide (x18_1 < (l0_1.length : Int)) = true := decide_eq_true c6
     clear c6
     by_cases c7 : 0 ≤ x18_1
     ·rw [if_pos c7] at H
      have c7b0 : decide (0 ≤ x18_1) = true := decide_eq_true c7
      clear c7
      by_cases c8 : x18_1 < (l0_1.length : Int)
      ·rw [if_pos c8] at H
       have c8b0 : decide (x18_1 < (l0_1.length : Int)) = true := decide_eq_true c8
       clear c8
       by_cases c9 : x18_1 < (l1.length : Int)
       ·rw [if_pos c9] at H
        have c9b0 : decide (x18_1 < (l1.length : Int)) = true := decide_eq_true c9
        clear c9
        replace H := Option.bind_eq_some_iff.mp H
        obtain ⟨t113, A100, H⟩ := H
        replace H : (if t113.isNone = true then (row_Check.l0 k1 l1 l0_1 (l0_1.length : Int) (wrap64 (x18_1 + 1))) else (some (some (t113.getD 0)))) = some r := H
        have A10 := Aside0.mk A100
        clear A100
        rcases t113 with _ | q114
        ·have H1 : (row_Check.l0 k1 l1 l0_1 (l0_1.length : Int) (wrap64 (x18_1 + 1))) = some r := by rw [if_pos (show (none : Option Int).isNone = true by rfl)] at H; exact H
         clear H
         have H := H1
         clear H1
         try simp only [eWn, eWs]
         have H' := Aside0.mk H
         clear H
         have p110 : 0 ≤ (x18_1 : Int) := ode_
         have q110 : x18_1 < (l0_1.length : Int) := ode_
         obtain ⟨ad110, e110, hx110_0, hx110_1, hx110_2, hx110_3⟩ := at_T36 HR0_1.out x18_1 p110 q110
         cases e110
         replace hx110_0 := (HB.out.cell (World.block_lt_of_cell? w _ hx110_0)).trans hx110_0
         replace hx110_1 := (HB.out.cell (World.block_lt_of_cell? w _ hx110_1)).trans hx110_1
         replace hx110_2 := (HB.out.cell (World.block_lt_of_cell? w _ hx110_2)).trans hx110_2
         replace hx110_3 := (HB.out.cell (World.block_lt_of_cell? w _ hx110_3)).trans hx110_3
         replace p110 := eq_true p110
         replace q110 := eq_true q110
         try go_wp2_with (first | ((with_reducible refine qgd (N := 6) rfl ?_); refine qbe ?hg (N := 6) ?hd (cs := #[.string (⟨#[]⟩ : ByteArray), .int .i64 0, .bool false, .bool false]) (t := 36) ?hr ?_; (case hd => rfl); (case hg => rfl); (case hr => first | (go_simp; done) | (go_simp; rfl)); intro gb111 hg w11 hbox hb; have n0_ := Aside0.mk (qkb (g := gb109) (o := .cells #[.string a0_0, .slice (some ad110) l0_1.length c0_1] 24 (0, 0)) (by (with_reducible repeat (first | refine qkN ?_ _ | refine qkd ?_ | refine qka ?_ _)); exact BK109.out) hb); have n1_ := Aside0.mk (below_step (by repeat (first | (with_reducible first | exact HB.out | apply below_alloc | apply qbN | apply qb1 | refine qbs ?_ GE109.out) | exact HB.out)) hb); have n2_ := Aside0.mk (hbox); have n3_ := Aside0.mk ((by rw [hg]; exact (qbz (by repeat (first | (with_reducible first | exact HB.out | apply below_alloc | apply qbN | apply qb1 | refine qbs ?_ GE109.out) | exact HB.out))) : w.heap.size ≤ gb111)); have n4_ := Aside0.mk ((by rw [hg]; exact (qbz (by repeat (first | (with_reducible first | exact HB.out | apply below_alloc | apply qbN | apply qb1 | refine qbs ?_ GE109.out) | exact HB.out))) : w.heap.size ≤ gb111)); have n5_ := Aside0.mk ((by rw [hg]; exact Nat.ne_of_lt (blk_lt (g := gb109) (o := .cells #[.string a0_0, .slice (some ad110) l0_1.length c0_1] 24 (0, 0)) (by (with_reducible repeat (first | refine qkN ?_ _ | refine qkd ?_ | refine qka ?_ _)); exact BK109.out)) : gb109 ≠ gb111)); have n6_ := Aside0.mk ((by rw [hg]; exact Nat.ne_of_gt (blk_lt (g := gb109) (o := .cells #[.string a0_0, .slice (some ad110) l0_1.length c0_1] 24 (0, 0)) (by (with_reducible repeat (first | refine qkN ?_ _ | refine qkd ?_ | refine qka ?_ _)); exact BK109.out)) : gb111 ≠ gb109)); clear BK109; clear HB; have BK109 := n0_; have HB := n1_; have BK111 := n2_; have GW111 := n3_; have GE111 := n4_; have NB109_111 := n5_; have NB111_109 := n6_; clear n0_ n1_ n2_ n3_ n4_ n5_ n6_; clear hb hbox hg; have hnb12 := NB111_109.out; have hnc12 := NB109_111.out; have hcz13_0 : w11.cell? ⟨gb111, 0, none⟩ = some (.string (⟨#[]⟩ : ByteArray)) := (qkc BK111.out 0).trans rfl; have hcz13_1 : w11.cell? ⟨gb111, 1, none⟩ = some (.int .i64 0) := (qkc BK111.out 1).trans rfl; have hcz13_2 : w11.cell? ⟨gb111, 2, none⟩ = some (.bool false) := (qkc BK111.out 2).trans rfl; have hcz13_3 : w11.cell? ⟨gb111, 3, none⟩ = some (.bool false) := (qkc BK111.out 3).trans rfl; have hfz13_0 := qkf BK111.out 0; have hfz13_1 := qkf BK111.out 1; have hfz13_2 := qkf BK111.out 2; have hfz13_3 := qkf BK111.out 3))
         have n0_ : Aside0 (((((w11.setCell ⟨gb111, 0, none⟩ (.string ((rd_T36 l0_1 x18_1).f0))).setCell ⟨gb111, 1, none⟩ (.int .i64 ((rd_T36 l0_1 x18_1).f1))).setCell ⟨gb111, 2, none⟩ (.bool ((rd_T36 l0_1 x18_1).f2))).setCell ⟨gb111, 3, none⟩ (.bool ((rd_T36 l0_1 x18_1).f3))).heap[gb109]? = some (.cells #[.string a0_0, .slice (some ad110) l0_1.length c0_1] 24 (0, 0))) := ⟨by (with_reducible repeat (first | refine qkN ?_ _ | refine qkd ?_ | refine qka ?_ _)); refine qkr ?_ NB109_111.out _; (with_reducible repeat (first | refine qkN ?_ _ | refine qkd ?_ | refine qka ?_ _)); refine qkr ?_ NB109_111.out _; (with_reducible repeat (first | refine qkN ?_ _ | refine qkd ?_ | refine qka ?_ _)); refine qkr ?_ NB109_111.out _; (with_reducible repeat (first | refine qkN ?_ _ | refine qkd ?_ | refine qka ?_ _)); refine qkr ?_ NB109_111.out _; (with_reducible repeat (first | refine qkN ?_ _ | refine qkd ?_ | refine qka ?_ _)); exact BK109.out⟩
         have n1_ : Aside0 (((((w11.setCell ⟨gb111, 0, none⟩ (.string ((rd_T36 l0_1 x18_1).f0))).setCell ⟨gb111, 1, none⟩ (.int .i64 ((rd_T36 l0_1 x18_1).f1))).setCell ⟨gb111, 2, none⟩ (.bool ((rd_T36 l0_1 x18_1).f2))).setCell ⟨gb111, 3, none⟩ (.bool ((rd_T36 l0_1 x18_1).f3))).heap[gb111]? = some (.cells #[.string ((rd_T36 l0_1 x18_1).f0), .int .i64 ((rd_T36 l0_1 x18_1).f1), .bool ((rd_T36 l0_1 x18_1).f2), .bool ((rd_T36 l0_1 x18_1).f3)] 36 (0, 0))) := ⟨by (with_reducible repeat (first | refine qkN ?_ _ | refine qkd ?_ | refine qka ?_ _)); refine qkp (cs := #[.string ((rd_T36 l0_1 x18_1).f0), .int .i64 ((rd_T36 l0_1 x18_1).f1), .bool ((rd_T36 l0_1 x18_1).f2), .bool false]) ?_ 3 _ rfl; (with_reducible repeat (first | refine qkN ?_ _ | refine qkd ?_ | refine qka ?_ _)); refine qkp (cs := #[.string ((rd_T36 l0_1 x18_1).f0), .int .i64 ((rd_T36 l0_1 x18_1).f1), .bool false, .bool false]) ?_ 2 _ rfl; (with_reducible repeat (first | refine qkN ?_ _ | refine qkd ?_ | refine qka ?_ _)); refine qkp (cs := #[.string ((rd_T36 l0_1 x18_1).f0), .int .i64 0, .bool false, .bool false]) ?_ 1 _ rfl; (with_reducible repeat (first | refine qkN ?_ _ | refine qkd ?_ | refine qka ?_ _)); refine qkp (cs := #[.string (⟨#[]⟩ : ByteArray), .int .i64 0, .bool false, .bool false]) ?_ 0 _ rfl; (with_reducible repeat (first | refine qkN ?_ _ | refine qkd ?_ | refine qka ?_ _)); exact BK111.out⟩
         have n2_ : Aside0 (Below w.heap.size w ((((w11.setCell ⟨gb111, 0, none⟩ (.string ((rd_T36 l0_1 x18_1).f0))).setCell ⟨gb111, 1, none⟩ (.int .i64 ((rd_T36 l0_1 x18_1).f1))).setCell ⟨gb111, 2, none⟩ (.bool ((rd_T36 l0_1 x18_1).f2))).setCell ⟨gb111, 3, none⟩ (.bool ((rd_T36 l0_1 x18_1).f3)))) := ⟨by repeat (first | (with_reducible first | exact HB.out | apply below_alloc | apply qbN | apply qb1 | refine qbs ?_ GE109.out | refine qbs ?_ GE111.out) | exact HB.out)⟩
         (try clear BK109)
         (try clear BK111)
         (try clear HB)
         generalize ((((w11.setCell ⟨gb111, 0, none⟩ (.string ((rd_T36 l0_1 x18_1).f0))).setCell ⟨gb111, 1, none⟩ (.int .i64 ((rd_T36 l0_1 x18_1).f1))).setCell ⟨gb111, 2, none⟩ (.bool ((rd_T36 l0_1 x18_1).f2))).setCell ⟨gb111, 3, none⟩ (.bool ((rd_T36 l0_1 x18_1).f3))) = w14 at n0_ n1_ n2_ ⊢
         have BK109 := n0_
         have BK111 := n1_
         have HB := n2_
         clear n0_ n1_ n2_
         have n0_ := Aside0.mk (qkd BK109.out)
         have n1_ := Aside0.mk (qkd BK111.out)
         have n2_ := Aside0.mk (qb1 HB.out)
         clear BK109
         clear BK111
         clear HB
         have BK109 := n0_
         have BK111 := n1_
         have HB := n2_
         clear n0_ n1_ n2_
         have p112 : 0 ≤ (x18_1 : Int) := ode_
         have q112 : x18_1 < (l1.length : Int) := ode_
         obtain ⟨ad112, e112, hx112_0, hx112_1, hx112_2, hx112_3⟩ := at_T38 HR1.out x18_1 p112 q112
         have hw112_3 := hx112_3
         have hw112_2 := hx112_2
         have hw112_1 := hx112_1
         have hw112_0 := hx112_0
         cases e112
         replace hx112_0 := (HB.out.cell (World.block_lt_of_cell? w _ hx112_0)).trans hx112_0
         replace hx112_1 := (HB.out.cell (World.block_lt_of_cell? w _ hx112_1)).trans hx112_1
         replace hx112_2 := (HB.out.cell (World.block_lt_of_cell? w _ hx112_2)).trans hx112_2
         replace hx112_3 := (HB.out.cell (World.block_lt_of_cell? w _ hx112_3)).trans hx112_3
         replace p112 := eq_true p112
         replace q112 := eq_true q112
         refine start_ (n := 7) (S := fun w' => w'.cell? ⟨gb111, 0, none⟩ = some (.string ((rd_T36 l0_1 x18_1).f0)) ∧ w'.cell? ⟨gb111, 1, none⟩ = some (.int .i64 ((rd_T36 l0_1 x18_1).f1)) ∧ w'.cell? ⟨gb111, 2, none⟩ = some (.bool ((rd_T36 l0_1 x18_1).f2)) ∧ w'.cell? ⟨gb111, 3, none⟩ = some (.bool ((rd_T36 l0_1 x18_1).f3)) ∧ w'.cell? (ad112.add ((x18_1).toNat * 4)) = some (.int .i64 ((r8 l1 x18_1).f0)) ∧ w'.cell? ⟨(ad112.add ((x18_1).toNat * 4)).block, (ad112.add ((x18_1).toNat * 4)).off + 1, none⟩ = some (.int .i64 ((r8 l1 x18_1).f1)) ∧ w'.cell? ⟨(ad112.add ((x18_1).toNat * 4)).block, (ad112.add ((x18_1).toNat * 4)).off + 2, none⟩ = some (.string ((r8 l1 x18_1).f2)) ∧ w'.cell? ⟨(ad112.add ((x18_1).toNat * 4)).block, (ad112.add ((x18_1).toNat * 4)).off + 3, none⟩ = some (.bool ((r8 l1 x18_1).f3))) (ds := []) #[false, false, false, false, false, false, false] (by kernel_rfl) rfl rfl ⟨(qkc BK111.out 0).trans rfl, (qkc BK111.out 1).trans rfl, (qkc BK111.out 2).trans rfl, (qkc BK111.out 3).trans rfl, ((HB.out.cell (World.block_lt_of_cell? w _ hw112_0)).trans hw112_0), ((HB.out.cell (World.block_lt_of_cell? w _ hw112_1)).trans hw112_1), ((HB.out.cell (World.block_lt_of_cell? w _ hw112_2)).trans hw112_2), ((HB.out.cell (World.block_lt_of_cell? w _ hw112_3)).trans hw112_3)⟩ (fun hHeld => ?_)
         generalize w14.drew = w15 at BK109 BK111 HB hx112_0 hx112_1 hx112_2 hx112_3 hHeld ⊢
         refine pure_ (i := 1) (N := some 24) (v := ?_) (a' := ?_) #[false, true, false, false, false, false, false] rfl rfl (by kernel_rfl) (fun _ _ _ h => h) (Or.inl ⟨by rfl, ?_⟩) ?_ ?_
         rotate_left
         ·intro w'
          go_simp
          with_reducible rfl
         rotate_left
         ·simp only [Act.put, List.setIfInBounds_toArray, List.set_cons_zero, List.set_cons_succ, i64_w, i32_w]
          rfl
         refine pure_ (i := 2) (N := some 25) (v := ?_) (a' := ?_) #[false, true, true, false, false, false, false] rfl rfl (by kernel_rfl) (fun _ _ _ h => h) (Or.inl ⟨by rfl, ?_⟩) ?_ ?_
         rotate_left
         ·intro w'
          go_simp
          with_reducible rfl
         rotate_left
         ·simp only [Act.put, List.setIfInBounds_toArray, List.set_cons_zero, List.set_cons_succ, i64_w, i32_w]
          rfl
         refine pure_ (i := 3) (N := some 26) (v := ?_) (a' := ?_) #[false, true, true, true, false, false, false] rfl rfl (by kernel_rfl) (fun _ _ _ h => h) (Or.inl ⟨by rfl, ?_⟩) ?_ ?_
         rotate_left
         ·intro w'
          go_simp
          with_reducible rfl
         rotate_left
         ·simp only [Act.put, List.setIfInBounds_toArray, List.set_cons_zero, List.set_cons_succ, i64_w, i32_w]
          rfl
         refine take_ (i := 0) (N := some 23) (v := ?_) (a' := ?_) #[true, true, true, true, false, false, false] rfl rfl (by kernel_rfl) (fun _ _ _ h => h) (Or.inl ⟨by rfl, ?_⟩) hHeld ?_ ?_
         rotate_left
         ·rintro w' ⟨s0, s1, s2, s3, s4, s5, s6, s7⟩
          go_simp
          with_reducible rfl
         rotate_left
         ·simp only [Act.put, List.setIfInBounds_toArray, List.set_cons_zero, List.set_cons_succ, i64_w, i32_w]
          rfl
         refine take_ (i := 4) (N := some 27) (v := ?_) (a' := ?_) #[true, true, true, true, true, false, false] rfl rfl (by kernel_rfl) (fun _ _ _ h => h) (Or.inl ⟨by rfl, ?_⟩) hHeld ?_ ?_
         rotate_left
         ·rintro w' ⟨s0, s1, s2, s3, s4, s5, s6, s7⟩
          go_simp
          with_reducible rfl
         rotate_left
         ·simp only [Act.put, List.setIfInBounds_toArray, List.set_cons_zero, List.set_cons_succ, i64_w, i32_w]
          rfl
         refine one_ (i := 5) (N := some 28) #[true, true, true, true, true, true, false] rfl rfl (by kernel_rfl) (by decide) (fun K hK => ?_)
         refine goes_ Tryd.func68 (by kernel_rfl) rfl #[.agg #[.string ((rd_T36 l0_1 x18_1).f0), .int .i64 ((rd_T36 l0_1 x18_1).f1), .bool ((rd_T36 l0_1 x18_1).f2), .bool ((rd_T36 l0_1 x18_1).f3)], .agg #[.int .i64 ((r8 l1 x18_1).f0), .int .i64 ((r8 l1 x18_1).f1), .string ((r8 l1 x18_1).f2), .bool ((r8 l1 x18_1).f3)]] (by rfl) rfl rfl (by (try simp only [List.map_toArray, List.map_cons, List.map_nil]); first | done | rfl | (simp only [List.length_drop, List.length_take]; rfl)) ?_
         with_reducible refine (row_fits.calls k1 ((rd_T36 l0_1 x18_1).f0) ((rd_T36 l0_1 x18_1).f1) ((rd_T36 l0_1 x18_1).f2) ((rd_T36 l0_1 x18_1).f3) ((r8 l1 x18_1).f0) ((r8 l1 x18_1).f1) ((r8 l1 x18_1).f2) ((r8 l1 x18_1).f3) none _ A10.out).mono ?_
         rintro e w16 ⟨rfl, hb⟩
         refine ⟨_, rfl, ?_⟩
         have n0_ := Aside0.mk (qkb (g := gb109) (o := .cells #[.string a0_0, .slice (some ad110) l0_1.length c0_1] 24 (0, 0)) (by (with_reducible repeat (first | refine qkN ?_ _ | refine qkd ?_ | refine qka ?_ _)); exact BK109.out) hb)
         have n1_ := Aside0.mk (qkb (g := gb111) (o := .cells #[.string ((rd_T36 l0_1 x18_1).f0), .int .i64 ((rd_T36 l0_1 x18_1).f1), .bool ((rd_T36 l0_1 x18_1).f2), .bool ((rd_T36 l0_1 x18_1).f3)] 36 (0, 0)) (by (with_reducible repeat (first | refine qkN ?_ _ | refine qkd ?_ | refine qka ?_ _)); exact BK111.out) hb)
         have n2_ := Aside0.mk (below_step (by repeat (first | (with_reducible first | exact HB.out | apply below_alloc | apply qbN | apply qb1 | refine qbs ?_ GE109.out | refine qbs ?_ GE111.out) | exact HB.out)) hb)
         clear BK109
         clear BK111
         clear HB
         have BK109 := n0_
         have BK111 := n1_
         have HB := n2_
         clear n0_ n1_ n2_
         (try clear hb)
         (try clear hb2)
         (try clear hk)
         (try clear hi)
         (try simp only [eWn, eWs])
         refine hK.out _ _ ⟨(qkc BK111.out 0).trans rfl, (qkc BK111.out 1).trans rfl, (qkc BK111.out 2).trans rfl, (qkc BK111.out 3).trans rfl, ((HB.out.cell (World.block_lt_of_cell? w _ hw112_0)).trans hw112_0), ((HB.out.cell (World.block_lt_of_cell? w _ hw112_1)).trans hw112_1), ((HB.out.cell (World.block_lt_of_cell? w _ hw112_2)).trans hw112_2), ((HB.out.cell (World.block_lt_of_cell? w _ hw112_3)).trans hw112_3)⟩ (fun hHeld => ?_)
         clear hK K
         refine norm_ (a' := ?_) ?_ ?_
         rotate_left
         ·show Act.put _ (some 28) _ = _
          simp only [Act.put, List.setIfInBounds_toArray, List.set_cons_zero, List.set_cons_succ, i64_w, i32_w]
          rfl
         refine pure_ (i := 6) (N := some 7) (v := ?_) (a' := ?_) #[true, true, true, true, true, true, true] rfl rfl (by kernel_rfl) (fun _ _ _ h => h) (Or.inl ⟨by rfl, ?_⟩) ?_ ?_
         rotate_left
         ·intro w'
          go_simp
          with_reducible rfl
         rotate_left
         ·simp only [Act.put, List.setIfInBounds_toArray, List.set_cons_zero, List.set_cons_succ, i64_w, i32_w]
          rfl
         refine done_ (by kernel_rfl) ?_
         try go_wp2
         go_roundg k1
         case measure => have := HK1.out; omega
         case rel => exact ⟨(wrap64 (x18_1 + 1)), (by first | rfl | (simp; done) | (simp [*]; done)), H', ⟨by have := HK1.out; omega⟩, ⟨by (with_reducible repeat (first | refine qkN ?_ _ | refine qkd ?_ | refine qka ?_ _)); exact BK109.out⟩, ⟨by repeat (first | (with_reducible first | exact HB.out | apply below_alloc | apply qbN | apply qb1 | refine qbs ?_ GE109.out | refine qbs ?_ GE111.out) | exact HB.out)⟩⟩
        ·have H1 : (some (some q114)) = some r := by rw [if_neg (show ¬ (some q114).isNone = true by simp)] at H; exact H
         clear H
         have H := H1
         clear H1
         try simp only [eWn, eWs]
         obtain rfl := Option.some.inj H
         have p110 : 0 ≤ (x18_1 : Int) := ode_
         have q110 : x18_1 < (l0_1.length : Int) := ode_
         obtain ⟨ad110, e110, hx110_0, hx110_1, hx110_2, hx110_3⟩ := at_T36 HR0_1.out x18_1 p110 q110
         cases e110
         replace hx110_0 := (HB.out.cell (World.block_lt_of_cell? w _ hx110_0)).trans hx110_0
         replace hx110_1 := (HB.out.cell (World.block_lt_of_cell? w _ hx110_1)).trans hx110_1
         replace hx110_2 := (HB.out.cell (World.block_lt_of_cell? w _ hx110_2)).trans hx110_2
         replace hx110_3 := (HB.out.cell (World.block_lt_of_cell? w _ hx110_3)).trans hx110_3
         replace p110 := eq_true p110
         replace q110 := eq_true q110
         try go_wp2_with (first | ((with_reducible refine qgd (N := 6) rfl ?_); refine qbe ?hg (N := 6) ?hd (cs := #[.string (⟨#[]⟩ : ByteArray), .int .i64 0, .bool false, .bool false]) (t := 36) ?hr ?_; (case hd => rfl); (case hg => rfl); (case hr => first | (go_simp; done) | (go_simp; rfl)); intro gb111 hg w17 hbox hb; have n0_ := Aside0.mk (qkb (g := gb109) (o := .cells #[.string a0_0, .slice (some ad110) l0_1.length c0_1] 24 (0, 0)) (by (with_reducible repeat (first | refine qkN ?_ _ | refine qkd ?_ | refine qka ?_ _)); exact BK109.out) hb); have n1_ := Aside0.mk (below_step (by repeat (first | (with_reducible first | exact HB.out | apply below_alloc | apply qbN | apply qb1 | refine qbs ?_ GE109.out) | exact HB.out)) hb); have n2_ := Aside0.mk (hbox); have n3_ := Aside0.mk ((by rw [hg]; exact (qbz (by repeat (first | (with_reducible first | exact HB.out | apply below_alloc | apply qbN | apply qb1 | refine qbs ?_ GE109.out) | exact HB.out))) : w.heap.size ≤ gb111)); have n4_ := Aside0.mk ((by rw [hg]; exact (qbz (by repeat (first | (with_reducible first | exact HB.out | apply below_alloc | apply qbN | apply qb1 | refine qbs ?_ GE109.out) | exact HB.out))) : w.heap.size ≤ gb111)); have n5_ := Aside0.mk ((by rw [hg]; exact Nat.ne_of_lt (blk_lt (g := gb109) (o := .cells #[.string a0_0, .slice (some ad110) l0_1.length c0_1] 24 (0, 0)) (by (with_reducible repeat (first | refine qkN ?_ _ | refine qkd ?_ | refine qka ?_ _)); exact BK109.out)) : gb109 ≠ gb111)); have n6_ := Aside0.mk ((by rw [hg]; exact Nat.ne_of_gt (blk_lt (g := gb109) (o := .cells #[.string a0_0, .slice (some ad110) l0_1.length c0_1] 24 (0, 0)) (by (with_reducible repeat (first | refine qkN ?_ _ | refine qkd ?_ | refine qka ?_ _)); exact BK109.out)) : gb111 ≠ gb109)); clear BK109; clear HB; have BK109 := n0_; have HB := n1_; have BK111 := n2_; have GW111 := n3_; have GE111 := n4_; have NB109_111 := n5_; have NB111_109 := n6_; clear n0_ n1_ n2_ n3_ n4_ n5_ n6_; clear hb hbox hg; have hnb18 := NB111_109.out; have hnc18 := NB109_111.out; have hcz19_0 : w17.cell? ⟨gb111, 0, none⟩ = some (.string (⟨#[]⟩ : ByteArray)) := (qkc BK111.out 0).trans rfl; have hcz19_1 : w17.cell? ⟨gb111, 1, none⟩ = some (.int .i64 0) := (qkc BK111.out 1).trans rfl; have hcz19_2 : w17.cell? ⟨gb111, 2, none⟩ = some (.bool false) := (qkc BK111.out 2).trans rfl; have hcz19_3 : w17.cell? ⟨gb111, 3, none⟩ = some (.bool false) := (qkc BK111.out 3).trans rfl; have hfz19_0 := qkf BK111.out 0; have hfz19_1 := qkf BK111.out 1; have hfz19_2 := qkf BK111.out 2; have hfz19_3 := qkf BK111.out 3))
         have n0_ : Aside0 (((((w17.setCell ⟨gb111, 0, none⟩ (.string ((rd_T36 l0_1 x18_1).f0))).setCell ⟨gb111, 1, none⟩ (.int .i64 ((rd_T36 l0_1 x18_1).f1))).setCell ⟨gb111, 2, none⟩ (.bool ((rd_T36 l0_1 x18_1).f2))).setCell ⟨gb111, 3, none⟩ (.bool ((rd_T36 l0_1 x18_1).f3))).heap[gb109]? = some (.cells #[.string a0_0, .slice (some ad110) l0_1.length c0_1] 24 (0, 0))) := ⟨by (with_reducible repeat (first | refine qkN ?_ _ | refine qkd ?_ | refine qka ?_ _)); refine qkr ?_ NB109_111.out _; (with_reducible repeat (first | refine qkN ?_ _ | refine qkd ?_ | refine qka ?_ _)); refine qkr ?_ NB109_111.out _; (with_reducible repeat (first | refine qkN ?_ _ | refine qkd ?_ | refine qka ?_ _)); refine qkr ?_ NB109_111.out _; (with_reducible repeat (first | refine qkN ?_ _ | refine qkd ?_ | refine qka ?_ _)); refine qkr ?_ NB109_111.out _; (with_reducible repeat (first | refine qkN ?_ _ | refine qkd ?_ | refine qka ?_ _)); exact BK109.out⟩
         have n1_ : Aside0 (((((w17.setCell ⟨gb111, 0, none⟩ (.string ((rd_T36 l0_1 x18_1).f0))).setCell ⟨gb111, 1, none⟩ (.int .i64 ((rd_T36 l0_1 x18_1).f1))).setCell ⟨gb111, 2, none⟩ (.bool ((rd_T36 l0_1 x18_1).f2))).setCell ⟨gb111, 3, none⟩ (.bool ((rd_T36 l0_1 x18_1).f3))).heap[gb111]? = some (.cells #[.string ((rd_T36 l0_1 x18_1).f0), .int .i64 ((rd_T36 l0_1 x18_1).f1), .bool ((rd_T36 l0_1 x18_1).f2), .bool ((rd_T36 l0_1 x18_1).f3)] 36 (0, 0))) := ⟨by (with_reducible repeat (first | refine qkN ?_ _ | refine qkd ?_ | refine qka ?_ _)); refine qkp (cs := #[.string ((rd_T36 l0_1 x18_1).f0), .int .i64 ((rd_T36 l0_1 x18_1).f1), .bool ((rd_T36 l0_1 x18_1).f2), .bool false]) ?_ 3 _ rfl; (with_reducible repeat (first | refine qkN ?_ _ | refine qkd ?_ | refine qka ?_ _)); refine qkp (cs := #[.string ((rd_T36 l0_1 x18_1).f0), .int .i64 ((rd_T36 l0_1 x18_1).f1), .bool false, .bool false]) ?_ 2 _ rfl; (with_reducible repeat (first | refine qkN ?_ _ | refine qkd ?_ | refine qka ?_ _)); refine qkp (cs := #[.string ((rd_T36 l0_1 x18_1).f0), .int .i64 0, .bool false, .bool false]) ?_ 1 _ rfl; (with_reducible repeat (first | refine qkN ?_ _ | refine qkd ?_ | refine qka ?_ _)); refine qkp (cs := #[.string (⟨#[]⟩ : ByteArray), .int .i64 0, .bool false, .bool false]) ?_ 0 _ rfl; (with_reducible repeat (first | refine qkN ?_ _ | refine qkd ?_ | refine qka ?_ _)); exact BK111.out⟩
         have n2_ : Aside0 (Below w.heap.size w ((((w17.setCell ⟨gb111, 0, none⟩ (.string ((rd_T36 l0_1 x18_1).f0))).setCell ⟨gb111, 1, none⟩ (.int .i64 ((rd_T36 l0_1 x18_1).f1))).setCell ⟨gb111, 2, none⟩ (.bool ((rd_T36 l0_1 x18_1).f2))).setCell ⟨gb111, 3, none⟩ (.bool ((rd_T36 l0_1 x18_1).f3)))) := ⟨by repeat (first | (with_reducible first | exact HB.out | apply below_alloc | apply qbN | apply qb1 | refine qbs ?_ GE109.out | refine qbs ?_ GE111.out) | exact HB.out)⟩
         (try clear BK109)
         (try clear BK111)
         (try clear HB)
         generalize ((((w17.setCell ⟨gb111, 0, none⟩ (.string ((rd_T36 l0_1 x18_1).f0))).setCell ⟨gb111, 1, none⟩ (.int .i64 ((rd_T36 l0_1 x18_1).f1))).setCell ⟨gb111, 2, none⟩ (.bool ((rd_T36 l0_1 x18_1).f2))).setCell ⟨gb111, 3, none⟩ (.bool ((rd_T36 l0_1 x18_1).f3))) = w20 at n0_ n1_ n2_ ⊢
         have BK109 := n0_
         have BK111 := n1_
         have HB := n2_
         clear n0_ n1_ n2_
         have n0_ := Aside0.mk (qkd BK109.out)
         have n1_ := Aside0.mk (qkd BK111.out)
         have n2_ := Aside0.mk (qb1 HB.out)
         clear BK109
         clear BK111
         clear HB
         have BK109 := n0_
         have BK111 := n1_
         have HB := n2_
         clear n0_ n1_ n2_
         have p112 : 0 ≤ (x18_1 : Int) := ode_
         have q112 : x18_1 < (l1.length : Int) := ode_
         obtain ⟨ad112, e112, hx112_0, hx112_1, hx112_2, hx112_3⟩ := at_T38 HR1.out x18_1 p112 q112
         have hw112_3 := hx112_3
         have hw112_2 := hx112_2
         have hw112_1 := hx112_1
         have hw112_0 := hx112_0
         cases e112
         replace hx112_0 := (HB.out.cell (World.block_lt_of_cell? w _ hx112_0)).trans hx112_0
         replace hx112_1 := (HB.out.cell (World.block_lt_of_cell? w _ hx112_1)).trans hx112_1
         replace hx112_2 := (HB.out.cell (World.block_lt_of_cell? w _ hx112_2)).trans hx112_2
         replace hx112_3 := (HB.out.cell (World.block_lt_of_cell? w _ hx112_3)).trans hx112_3
         replace p112 := eq_true p112
         replace q112 := eq_true q112
         refine start_ (n := 7) (S := fun w' => w'.cell? ⟨gb111, 0, none⟩ = some (.string ((rd_T36 l0_1 x18_1).f0)) ∧ w'.cell? ⟨gb111, 1, none⟩ = some (.int .i64 ((rd_T36 l0_1 x18_1).f1)) ∧ w'.cell? ⟨gb111, 2, none⟩ = some (.bool ((rd_T36 l0_1 x18_1).f2)) ∧ w'.cell? ⟨gb111, 3, none⟩ = some (.bool ((rd_T36 l0_1 x18_1).f3)) ∧ w'.cell? (ad112.add ((x18_1).toNat * 4)) = some (.int .i64 ((r8 l1 x18_1).f0)) ∧ w'.cell? ⟨(ad112.add ((x18_1).toNat * 4)).block, (ad112.add ((x18_1).toNat * 4)).off + 1, none⟩ = some (.int .i64 ((r8 l1 x18_1).f1)) ∧ w'.cell? ⟨(ad112.add ((x18_1).toNat * 4)).block, (ad112.add ((x18_1).toNat * 4)).off + 2, none⟩ = some (.string ((r8 l1 x18_1).f2)) ∧ w'.cell? ⟨(ad112.add ((x18_1).toNat * 4)).block, (ad112.add ((x18_1).toNat * 4)).off + 3, none⟩ = some (.bool ((r8 l1 x18_1).f3))) (ds := []) #[false, false, false, false, false, false, false] (by kernel_rfl) rfl rfl ⟨(qkc BK111.out 0).trans rfl, (qkc BK111.out 1).trans rfl, (qkc BK111.out 2).trans rfl, (qkc BK111.out 3).trans rfl, ((HB.out.cell (World.block_lt_of_cell? w _ hw112_0)).trans hw112_0), ((HB.out.cell (World.block_lt_of_cell? w _ hw112_1)).trans hw112_1), ((HB.out.cell (World.block_lt_of_cell? w _ hw112_2)).trans hw112_2), ((HB.out.cell (World.block_lt_of_cell? w _ hw112_3)).trans hw112_3)⟩ (fun hHeld => ?_)
         generalize w20.drew = w21 at BK109 BK111 HB hx112_0 hx112_1 hx112_2 hx112_3 hHeld ⊢
         refine pure_ (i := 1) (N := some 24) (v := ?_) (a' := ?_) #[false, true, false, false, false, false, false] rfl rfl (by kernel_rfl) (fun _ _ _ h => h) (Or.inl ⟨by rfl, ?_⟩) ?_ ?_
         rotate_left
         ·intro w'
          go_simp
          with_reducible rfl
         rotate_left
         ·simp only [Act.put, List.setIfInBounds_toArray, List.set_cons_zero, List.set_cons_succ, i64_w, i32_w]
          rfl
         refine pure_ (i := 2) (N := some 25) (v := ?_) (a' := ?_) #[false, true, true, false, false, false, false] rfl rfl (by kernel_rfl) (fun _ _ _ h => h) (Or.inl ⟨by rfl, ?_⟩) ?_ ?_
         rotate_left
         ·intro w'
          go_simp
          with_reducible rfl
         rotate_left
         ·simp only [Act.put, List.setIfInBounds_toArray, List.set_cons_zero, List.set_cons_succ, i64_w, i32_w]
          rfl
         refine pure_ (i := 3) (N := some 26) (v := ?_) (a' := ?_) #[false, true, true, true, false, false, false] rfl rfl (by kernel_rfl) (fun _ _ _ h => h) (Or.inl ⟨by rfl, ?_⟩) ?_ ?_
         rotate_left
         ·intro w'
          go_simp
          with_reducible rfl
         rotate_left
         ·simp only [Act.put, List.setIfInBounds_toArray, List.set_cons_zero, List.set_cons_succ, i64_w, i32_w]
          rfl
         refine take_ (i := 0) (N := some 23) (v := ?_) (a' := ?_) #[true, true, true, true, false, false, false] rfl rfl (by kernel_rfl) (fun _ _ _ h => h) (Or.inl ⟨by rfl, ?_⟩) hHeld ?_ ?_
         rotate_left
         ·rintro w' ⟨s0, s1, s2, s3, s4, s5, s6, s7⟩
          go_simp
          with_reducible rfl
         rotate_left
         ·simp only [Act.put, List.setIfInBounds_toArray, List.set_cons_zero, List.set_cons_succ, i64_w, i32_w]
          rfl
         refine take_ (i := 4) (N := some 27) (v := ?_) (a' := ?_) #[true, true, true, true, true, false, false] rfl rfl (by kernel_rfl) (fun _ _ _ h => h) (Or.inl ⟨by rfl, ?_⟩) hHeld ?_ ?_
         rotate_left
         ·rintro w' ⟨s0, s1, s2, s3, s4, s5, s6, s7⟩
          go_simp
          with_reducible rfl
         rotate_left
         ·simp only [Act.put, List.setIfInBounds_toArray, List.set_cons_zero, List.set_cons_succ, i64_w, i32_w]
          rfl
         refine one_ (i := 5) (N := some 28) #[true, true, true, true, true, true, false] rfl rfl (by kernel_rfl) (by decide) (fun K hK => ?_)
         refine goes_ Tryd.func68 (by kernel_rfl) rfl #[.agg #[.string ((rd_T36 l0_1 x18_1).f0), .int .i64 ((rd_T36 l0_1 x18_1).f1), .bool ((rd_T36 l0_1 x18_1).f2), .bool ((rd_T36 l0_1 x18_1).f3)], .agg #[.int .i64 ((r8 l1 x18_1).f0), .int .i64 ((r8 l1 x18_1).f1), .string ((r8 l1 x18_1).f2), .bool ((r8 l1 x18_1).f3)]] (by rfl) rfl rfl (by (try simp only [List.map_toArray, List.map_cons, List.map_nil]); first | done | rfl | (simp only [List.length_drop, List.length_take]; rfl)) ?_
         with_reducible refine (row_fits.calls k1 ((rd_T36 l0_1 x18_1).f0) ((rd_T36 l0_1 x18_1).f1) ((rd_T36 l0_1 x18_1).f2) ((rd_T36 l0_1 x18_1).f3) ((r8 l1 x18_1).f0) ((r8 l1 x18_1).f1) ((r8 l1 x18_1).f2) ((r8 l1 x18_1).f3) (some q114) _ A10.out).mono ?_
         rintro e w22 ⟨rfl, hb⟩
         refine ⟨_, rfl, ?_⟩
         have n0_ := Aside0.mk (qkb (g := gb109) (o := .cells #[.string a0_0, .slice (some ad110) l0_1.length c0_1] 24 (0, 0)) (by (with_reducible repeat (first | refine qkN ?_ _ | refine qkd ?_ | refine qka ?_ _)); exact BK109.out) hb)
         have n1_ := Aside0.mk (qkb (g := gb111) (o := .cells #[.string ((rd_T36 l0_1 x18_1).f0), .int .i64 ((rd_T36 l0_1 x18_1).f1), .bool ((rd_T36 l0_1 x18_1).f2), .bool ((rd_T36 l0_1 x18_1).f3)] 36 (0, 0)) (by (with_reducible repeat (first | refine qkN ?_ _ | refine qkd ?_ | refine qka ?_ _)); exact BK111.out) hb)
         have n2_ := Aside0.mk (below_step (by repeat (first | (with_reducible first | exact HB.out | apply below_alloc | apply qbN | apply qb1 | refine qbs ?_ GE109.out | refine qbs ?_ GE111.out) | exact HB.out)) hb)
         clear BK109
         clear BK111
         clear HB
         have BK109 := n0_
         have BK111 := n1_
         have HB := n2_
         clear n0_ n1_ n2_
         (try clear hb)
         (try clear hb2)
         (try clear hk)
         (try clear hi)
         (try simp only [eWn, eWs])
         refine hK.out _ _ ⟨(qkc BK111.out 0).trans rfl, (qkc BK111.out 1).trans rfl, (qkc BK111.out 2).trans rfl, (qkc BK111.out 3).trans rfl, ((HB.out.cell (World.block_lt_of_cell? w _ hw112_0)).trans hw112_0), ((HB.out.cell (World.block_lt_of_cell? w _ hw112_1)).trans hw112_1), ((HB.out.cell (World.block_lt_of_cell? w _ hw112_2)).trans hw112_2), ((HB.out.cell (World.block_lt_of_cell? w _ hw112_3)).trans hw112_3)⟩ (fun hHeld => ?_)
         clear hK K
         refine norm_ (a' := ?_) ?_ ?_
         rotate_left
         ·show Act.put _ (some 28) _ = _
          simp only [Act.put, List.setIfInBounds_toArray, List.set_cons_zero, List.set_cons_succ, i64_w, i32_w]
          rfl
         refine pure_ (i := 6) (N := some 7) (v := ?_) (a' := ?_) #[true, true, true, true, true, true, true] rfl rfl (by kernel_rfl) (fun _ _ _ h => h) (Or.inl ⟨by rfl, ?_⟩) ?_ ?_
         rotate_left
         ·intro w'
          go_simp
          with_reducible rfl
         rotate_left
         ·simp only [Act.put, List.setIfInBounds_toArray, List.set_cons_zero, List.set_cons_succ, i64_w, i32_w]
          rfl
         refine done_ (by kernel_rfl) ?_
         try go_wp2
         go_ret
         exact ⟨by first | rfl | (simp [eWn, eWs] <;> rfl) | (simp [*, eWn, eWs] <;> rfl), by repeat (first | (with_reducible first | exact HB.out | apply below_alloc | apply qbN | apply qb1 | refine qbs ?_ GE109.out | refine qbs ?_ GE111.out) | exact HB.out)⟩
       ·rw [if_neg c9] at H
        exact absurd H (by simp)
      ·rw [if_neg c8] at H
       exact absurd H (by simp)
     ·rw [if_neg c7] at H
      exact absurd H (by simp)
    ·rw [if_neg c6] at H
     have c6b0 : decide (x18_1 < (l0_1.length : Int)) = false := decide_eq_false c6
     clear c6
     obtain rfl := Option.some.inj H
     go_wp2
     go_ret
     exact ⟨by first | rfl | (simp [eWn, eWs] <;> rfl) | (simp [*, eWn, eWs] <;> rfl), by repeat (first | (with_reducible first | exact HB.out | apply below_alloc | apply qbN | apply qb1 | refine qbs ?_ GE109.out) | exact HB.out)⟩
 ·rw [if_neg c3] at H
  have c3b0 : ((l1.length : Int) == (l0_1.length : Int)) = false := beq_eq_false_iff_ne.mpr c3
  have c3b1 : ((l1.length : Int) != (l0_1.length : Int)) = true := bne_iff_ne.mpr c3
  have c3b2 : (l1.length == l0_1.length) = false := by first | simpa using c3 | (simp at c3 ⊢; omega)
  obtain rfl := Option.some.inj H
  go_enter Tryd.func35, Tryd.ntmps35
  go_wp2_with (first | ((with_reducible refine qgd (N := 2) rfl ?_); refine qbe ?hg (N := 2) ?hd (cs := #[.string a0_0, .slice A0_1 l0_1.length c0_1]) (t := 24) ?hr ?_; (case hd => rfl); (case hg => rfl); (case hr => first | (go_simp; done) | (go_simp; rfl)); intro gb109 hg w23 hbox hb; have n0_ := Aside0.mk (below_step (by repeat (first | (with_reducible first | exact HB.out | apply below_alloc | apply qbN | apply qb1) | exact HB.out)) hb); have n1_ := Aside0.mk (hbox); have n2_ := Aside0.mk ((by rw [hg]; exact (qbz (by repeat (first | (with_reducible first | exact HB.out | apply below_alloc | apply qbN | apply qb1) | exact HB.out))) : w.heap.size ≤ gb109)); have n3_ := Aside0.mk ((by rw [hg]; exact (qbz (by repeat (first | (with_reducible first | exact HB.out | apply below_alloc | apply qbN | apply qb1) | exact HB.out))) : w.heap.size ≤ gb109)); clear HB; have HB := n0_; have BK109 := n1_; have GW109 := n2_; have GE109 := n3_; clear n0_ n1_ n2_ n3_; clear hb hbox hg; have hcz24_0 : w23.cell? ⟨gb109, 0, none⟩ = some (.string a0_0) := (qkc BK109.out 0).trans rfl; have hcz24_1 : w23.cell? ⟨gb109, 1, none⟩ = some (.slice A0_1 l0_1.length c0_1) := (qkc BK109.out 1).trans rfl; have hfz24_0 := qkf BK109.out 0; have hfz24_1 := qkf BK109.out 1))
  go_ret
  exact ⟨by first | rfl | (simp [eWn, eWs] <;> rfl) | (simp [*, eWn, eWs] <;> rfl), by repeat (first | (with_reducible first | exact HB.out | apply below_alloc | apply qbN | apply qb1 | refine qbs ?_ GE109.out) | exact HB.out)⟩

/-! ### pack_AppendUint: function 69 -/
def pack_AppendUint.l0 : Nat → Int → List Int → Option (List Int)
 | 0, _, _ => none
 | k + 1, x1, x5 => if x1 ≥ 128 then (if x5.length < 140737488355328 then (pack_AppendUint.l0 k (x1 / 128) (x5 ++ [Go.bits .or .u8 ((x1) % 256) 128])) else (none)) else (if x5.length < 140737488355328 then (some (x5 ++ [(x1) % 256])) else (none))
def pack_AppendUint.f (k : Nat) (l0 : List Int) (a1 : Int) : Option (List Int) := if 0 ≤ (wrap64 ((l0.length : Int) + 10)) then (if (wrap64 ((l0.length : Int) + 10) : Int).toNat ≤ 281474976710656 then ((some (([] : List Int) : List Int)).bind fun y115 => (if y115.length + l0.length < 140737488355328 then (pack_AppendUint.l0 k a1 (y115 ++ l0)) else (none))) else (none)) else (none)
theorem pack_AppendUint.mono_l : ∀ k, (∀ y0 y1, LeO (pack_AppendUint.l0 k y0 y1) (pack_AppendUint.l0 (k + 1) y0 y1))
 | 0 => fun _ _ r h => by simp [pack_AppendUint.l0] at h
 | k + 1 => by
  have ih0 := pack_AppendUint.mono_l k
  ·intro y0 y1
   unfold pack_AppendUint.l0
   repeat' first
   | (with_reducible exact ih0 _ _)
   | (with_reducible exact LeO.refl _)
   | (with_reducible exact LeO.none _)
   | (with_reducible refine LeO.ite ?_ ?_)
   | (with_reducible refine LeO.bind ?_ (fun _ => ?_))
   | exact ih0 _ _
   | exact LeO.none _
   | refine LeO.ite ?_ ?_
   | refine LeO.bind ?_ (fun _ => ?_)
theorem pack_AppendUint.mono : ∀ a0 a1 k, LeO (pack_AppendUint.f k a0 a1) (pack_AppendUint.f (k + 1) a0 a1) := by
 intro a0 a1 k
 have ih0 := pack_AppendUint.mono_l k
 unfold pack_AppendUint.f
 repeat' first
   | (with_reducible exact ih0 _ _)
   | (with_reducible exact LeO.refl _)
   | (with_reducible exact LeO.none _)
   | (with_reducible refine LeO.ite ?_ ?_)
   | (with_reducible refine LeO.bind ?_ (fun _ => ?_))
   | exact ih0 _ _
   | exact LeO.none _
   | refine LeO.ite ?_ ?_
   | refine LeO.bind ?_ (fun _ => ?_)
set_option maxHeartbeats 8000000 in
set_option maxRecDepth 100000 in
theorem pack_AppendUint.calls (k : Nat) (A0 : Option Addr) (c0 : Nat) (l0 : List Int) (a1 : Int) (r : List Int) (w : World) (hr0 : Kd.C (Kd.int .u8) w A0 l0.length l0) (hc0 : l0.length ≤ c0) (h : pack_AppendUint.f k l0 a1 = some r) :
  Calls Tryd.prog 69 #[.slice A0 l0.length c0, .int .u64 a1] w fun e w' => ∃ v0_ : Value, e = .returned (v0_) ∧ Kd.R (Kd.int .u8) 5 w' w.heap.size (fun _ => True) v0_ r ∧ Below w.heap.size w w' := by
 have HR0 := Aside0.mk hr0
 have HC0 := Aside0.mk hc0
 clear hr0 hc0
 have HB := Aside0.mk (Below.refl w.heap.size w)
 have H : (if 0 ≤ (wrap64 ((l0.length : Int) + 10)) then (if (wrap64 ((l0.length : Int) + 10) : Int).toNat ≤ 281474976710656 then ((some (([] : List Int) : List Int)).bind fun y115 => (if y115.length + l0.length < 140737488355328 then (pack_AppendUint.l0 k a1 (y115 ++ l0)) else (none))) else (none)) else (none)) = some r := h
 clear h
 obtain ⟨ji3, hji3⟩ : ∃ j_ : Int, (wrap64 ((l0.length : Int) + 10)) = j_ := ⟨_, rfl⟩
 replace H : (if 0 ≤ (ji3) then (if (ji3 : Int).toNat ≤ 281474976710656 then ((some (([] : List Int) : List Int)).bind fun y115 => (if y115.length + l0.length < 140737488355328 then (pack_AppendUint.l0 k a1 (y115 ++ l0)) else (none))) else (none)) else (none)) = some r := by first | (rw [hji3] at H; exact H) | (simp only [hji3] at H ⊢; exact H)
 have hji3w : (IntKind.i64.wrap ((l0.length : Int) + 10)) = ji3 := (i64_w _).trans hji3
 by_cases c4 : 0 ≤ (ji3)
 ·rw [if_pos c4] at H
  have c4b0 := eq_true c4
  have c4b1 : decide (0 ≤ (ji3)) = true := decide_eq_true c4
  clear c4
  by_cases c5 : (ji3 : Int).toNat ≤ 281474976710656
  ·rw [if_pos c5] at H
   have c5b0 := eq_true c5
   have c5b1 : decide ((ji3 : Int).toNat ≤ 281474976710656) = true := decide_eq_true c5
   clear c5
   obtain ⟨y115, hy115⟩ : ∃ y_ : List Int, y_ = (([] : List Int)) := ⟨_, rfl⟩
   replace H : (if y115.length + l0.length < 140737488355328 then (pack_AppendUint.l0 k a1 (y115 ++ l0)) else (none)) = some r := by first | (rw [hy115]; with_reducible exact H) | (have H2_ := (Option.bind_some _ _).symm.trans H; rw [hy115]; with_reducible exact H2_) | (have H2_ := (Option.bind_some _ _).symm.trans H; with_reducible exact H2_) | with_reducible exact H | (rw [hy115]; exact H) | exact H
   have Ny115 := Aside0.mk hy115
   clear hy115
   by_cases c6 : y115.length + l0.length < 140737488355328
   ·rw [if_pos c6] at H
    have LMc6 := Aside0.mk c6
    clear c6
    obtain ⟨y118, hy118⟩ : ∃ y_ : List Int, y_ = (y115 ++ l0) := ⟨_, rfl⟩
    replace H : (pack_AppendUint.l0 k a1 y118) = some r := by first | (rw [hy118]; with_reducible exact H) | (have H2_ := (Option.bind_some _ _).symm.trans H; rw [hy118]; with_reducible exact H2_) | (have H2_ := (Option.bind_some _ _).symm.trans H; with_reducible exact H2_) | with_reducible exact H | (rw [hy118]; exact H) | exact H
    have Ny118 := Aside0.mk hy118
    clear hy118
    have H' := Aside0.mk H
    clear H
    go_enter Tryd.func69, Tryd.ntmps69
    go_wp2_with (first | ((with_reducible refine qgd (N := 9) rfl ?_); refine Kd.R_make0 (Kd.int .u8) _ 5 rfl (N := 9) rfl 26 _ _ rfl ji3 rfl rfl Tryd.underlying26 (.int .u8 0) 1 info5 rfl (by decide) (by omega) (ok := fun _ => True) trivial (ode_) (Nat.le_trans (Nat.mul_le_mul_right _ (ode_ : ji3.toNat ≤ 281474976710656)) (by omega)) (Below.refl _ _) (Nat.le_refl _) ?_; intro v116 w7 ho8 hb hg_ hnew_; clear hg_ hnew_; (first | rw [← Ny115.out] at ho8 | (simp only [Int.reduceToNat] at ho8; rw [← Ny115.out] at ho8)); have n0_ := Aside0.mk (Kd.R_lower ho8 (qbz (by repeat (first | (with_reducible first | exact HB.out | apply below_alloc | apply qbN | apply qb1) | exact HB.out)))); have n1_ := Aside0.mk (below_step (by repeat (first | (with_reducible first | exact HB.out | apply below_alloc | apply qbN | apply qb1) | exact HB.out)) hb); clear HB; have HO117 := n0_; have HB := n1_; clear n0_ n1_; clear hb ho8) | ((with_reducible refine gate_builtin (b := .append) (xs := #[.tmp 9, .tmp 10]) rfl ?_); at_builtin; refine Kd.R_append_rows (Kd.int .u8) (w0 := w) w.heap.size rfl (.tmp 9) (.tmp 10) 26 5 (.int .u8 0) 1 rfl Tryd.underlying26 info5 rfl (by decide) (by omega) v116 y115 l0 _ _ _ (fun _ => True) (fun _ => False) rfl rfl ?aO ?aR (fun _ _ h => h) (fun _ h => h.elim) ?aF ?aB ?aS ?aL ?_; (case aR => repeat (first | exact (Kd.C_below HR0.out HB.out) | (with_reducible refine Kd.C_alloc ?_ _) | (with_reducible refine Kd.C_drewN ?_ _) | (with_reducible refine Kd.C_drew ?_))); (case aB => exact (by repeat (first | (with_reducible first | exact HB.out | apply below_alloc | apply qbN | apply qb1) | exact HB.out))); (case aF => exact (fun _ _ => trivial)); (case aO => exact (by (with_reducible repeat (first | apply Kd.R_alloc | apply Kd.R_drewN | apply Kd.R_drew)); exact HO117.out)); (case aS => exact (qbz (by repeat (first | (with_reducible first | exact HB.out | apply below_alloc | apply qbN | apply qb1) | exact HB.out)))); (case aL => have := LMc6.out; omega); intro v119 w9 ho hb hg hat; rw [← Ny118.out] at ho; have n0_ := Aside0.mk (hb); have n1_ := Aside0.mk (ho); clear HB; clear HO117; have HB := n0_; have HO120 := n1_; clear n0_ n1_; clear ho hb hg hat))
    go_loopg [1, 5] k (fun kq v1 v5 w' => ∃ (x1_1 : Int) (x5_1 : List Int), v1 = .int .u64 x1_1 ∧ Aside0 (pack_AppendUint.l0 kq x1_1 x5_1 = some r) ∧ Aside0 (kq ≤ k) ∧ Aside0 (Kd.R (Kd.int .u8) 5 w' w.heap.size (fun _ => True) v5 x5_1) ∧ Aside0 (Below w.heap.size w w'))
    case atStart => exact ⟨(a1), (y118), (by first | rfl | (simp; done) | (simp [*]; done)), H', ⟨Nat.le_refl _⟩, ⟨by (with_reducible repeat (first | apply Kd.R_alloc | apply Kd.R_drewN | apply Kd.R_drew)); exact HO120.out⟩, ⟨by repeat (first | (with_reducible first | exact HB.out | apply below_alloc | apply qbN | apply qb1) | exact HB.out)⟩⟩
    case round =>
     clear H'
     try clear p2
     try clear c4
     try clear c4b0
     try clear c4b1
     try clear c5
     try clear c5b0
     try clear c5b1
     try clear c6
     try clear p6
     obtain ⟨x1_1, x5_1, rfl, HA, HK1, HO_5, HB⟩ := hrel
     cases gk with
     | zero => exact absurd HA.out (by simp [pack_AppendUint.l0])
     | succ k1 =>
      have H := HA.out
      clear HA
      simp only [pack_AppendUint.l0] at H
      by_cases c10 : x1_1 ≥ 128
      ·rw [if_pos c10] at H
       have c10b0 : decide (128 ≤ x1_1) = true := decide_eq_true c10
       clear c10
       by_cases c11 : x5_1.length < 140737488355328
       ·rw [if_pos c11] at H
        have LMc11 := Aside0.mk c11
        clear c11
        obtain ⟨y121, hy121⟩ : ∃ y_ : List Int, y_ = (x5_1 ++ [Go.bits .or .u8 ((x1_1) % 256) 128]) := ⟨_, rfl⟩
        replace H : (pack_AppendUint.l0 k1 (x1_1 / 128) y121) = some r := by first | (rw [hy121]; with_reducible exact H) | (have H2_ := (Option.bind_some _ _).symm.trans H; rw [hy121]; with_reducible exact H2_) | (have H2_ := (Option.bind_some _ _).symm.trans H; with_reducible exact H2_) | with_reducible exact H | (rw [hy121]; exact H) | exact H
        have Ny121 := Aside0.mk hy121
        clear hy121
        have H' := Aside0.mk H
        clear H
        go_wp2_with (first | ((with_reducible refine gate_builtin (b := .append) (xs := #[.tmp 16, .tmp 20]) rfl ?_); at_builtin; refine Kd.R_append (Kd.int .u8) (w0 := w) w.heap.size rfl (.tmp 16) (.tmp 20) 26 5 (.int .u8 0) 1 rfl Tryd.underlying26 info5 rfl (by decide) (by omega) u5 x5_1 (Go.bits .or .u8 ((x1_1) % 256) 128) [.int .u8 (Go.bits .or .u8 ((x1_1) % 256) 128)] (fun _ => True) (fun _ => False) rfl rfl ?aP (fun _ hk => hk.elim) ?aF ?aO ?aB ?aS ?aL ?_; (case aP => exact rfl); (case aB => exact (by repeat (first | (with_reducible first | exact HB.out | apply below_alloc | apply qbN | apply qb1) | exact HB.out))); (case aF => exact (fun _ _ => trivial)); (case aO => exact (by (with_reducible repeat (first | apply Kd.R_alloc | apply Kd.R_drewN | apply Kd.R_drew)); exact HO_5.out)); (case aS => exact (qbz (by repeat (first | (with_reducible first | exact HB.out | apply below_alloc | apply qbN | apply qb1) | exact HB.out)))); (case aL => have := LMc11.out; omega); intro v122 w12 ho hb hg hat; rw [← Ny121.out] at ho; have n0_ := Aside0.mk (hb); have n1_ := Aside0.mk (ho); clear HB; clear HO_5; have HB := n0_; have HO123 := n1_; clear n0_ n1_; clear ho hb hg hat))
        go_roundg k1
        case measure => have := HK1.out; omega
        case rel => exact ⟨(x1_1 / 128), (y121), (by first | rfl | (simp; done) | (simp [*]; done)), H', ⟨by have := HK1.out; omega⟩, ⟨by (with_reducible repeat (first | apply Kd.R_alloc | apply Kd.R_drewN | apply Kd.R_drew)); exact HO123.out⟩, ⟨by repeat (first | (with_reducible first | exact HB.out | apply below_alloc | apply qbN | apply qb1) | exact HB.out)⟩⟩
       ·rw [if_neg c11] at H
        exact absurd H (by simp)
      ·rw [if_neg c10] at H
       have c10b0 : decide (128 ≤ x1_1) = false := decide_eq_false c10
       clear c10
       by_cases c13 : x5_1.length < 140737488355328
       ·rw [if_pos c13] at H
        have LMc13 := Aside0.mk c13
        clear c13
        obtain ⟨y124, hy124⟩ : ∃ y_ : List Int, y_ = (x5_1 ++ [(x1_1) % 256]) := ⟨_, rfl⟩
        replace H : (some y124) = some r := by first | (rw [hy124]; with_reducible exact H) | (have H2_ := (Option.bind_some _ _).symm.trans H; rw [hy124]; with_reducible exact H2_) | (have H2_ := (Option.bind_some _ _).symm.trans H; with_reducible exact H2_) | with_reducible exact H | (rw [hy124]; exact H) | exact H
        have Ny124 := Aside0.mk hy124
        clear hy124
        obtain rfl := Option.some.inj H
        go_wp2_with (first | ((with_reducible refine gate_builtin (b := .append) (xs := #[.tmp 22, .tmp 25]) rfl ?_); at_builtin; refine Kd.R_append (Kd.int .u8) (w0 := w) w.heap.size rfl (.tmp 22) (.tmp 25) 26 5 (.int .u8 0) 1 rfl Tryd.underlying26 info5 rfl (by decide) (by omega) u5 x5_1 ((x1_1) % 256) [.int .u8 ((x1_1) % 256)] (fun _ => True) (fun _ => False) rfl rfl ?aP (fun _ hk => hk.elim) ?aF ?aO ?aB ?aS ?aL ?_; (case aP => exact rfl); (case aB => exact (by repeat (first | (with_reducible first | exact HB.out | apply below_alloc | apply qbN | apply qb1) | exact HB.out))); (case aF => exact (fun _ _ => trivial)); (case aO => exact (by (with_reducible repeat (first | apply Kd.R_alloc | apply Kd.R_drewN | apply Kd.R_drew)); exact HO_5.out)); (case aS => exact (qbz (by repeat (first | (with_reducible first | exact HB.out | apply below_alloc | apply qbN | apply qb1) | exact HB.out)))); (case aL => have := LMc13.out; omega); intro v125 w14 ho hb hg hat; rw [← Ny124.out] at ho; have n0_ := Aside0.mk (hb); have n1_ := Aside0.mk (ho); clear HB; clear HO_5; have HB := n0_; have HO126 := n1_; clear n0_ n1_; clear ho hb hg hat))
        go_ret
        exact ⟨_, by first | rfl | (simp [eWn, eWs] <;> rfl) | (simp only [← hji3]; first | rfl | (simp [eWn, eWs] <;> rfl)) | (simp [*, eWn, eWs] <;> rfl), by (with_reducible repeat (first | apply Kd.R_alloc | apply Kd.R_drewN | apply Kd.R_drew)); exact HO126.out, by repeat (first | (with_reducible first | exact HB.out | apply below_alloc | apply qbN | apply qb1) | exact HB.out)⟩
       ·rw [if_neg c13] at H
        exact absurd H (by simp)
   ·rw [if_neg c6] at H
    exact absurd H (by simp)
  ·rw [if_neg c5] at H
   exact absurd H (by simp)
 ·rw [if_neg c4] at H
  exact absurd H (by simp)

/-! ### pack_AppendInt: function 36 -/
def pack_AppendInt.f (k : Nat) (l0 : List Int) (a1 : Int) : Option (List Int) := (pack_AppendUint.f k l0 (Go.bits .xor .u64 (IntKind.u64.wrap ((IntKind.u64.wrap (a1)) * 2)) (IntKind.u64.wrap (a1 / 9223372036854775808)))).bind fun t127 => (some t127)
theorem pack_AppendInt.mono : ∀ a0 a1 k, LeO (pack_AppendInt.f k a0 a1) (pack_AppendInt.f (k + 1) a0 a1) := by
 intro a0 a1 k
 unfold pack_AppendInt.f
 repeat' first
   | (with_reducible exact pack_AppendUint.mono _ _ _)
   | (with_reducible exact LeO.refl _)
   | (with_reducible exact LeO.none _)
   | (with_reducible refine LeO.ite ?_ ?_)
   | (with_reducible refine LeO.bind ?_ (fun _ => ?_))
   | exact pack_AppendUint.mono _ _ _
   | exact LeO.none _
   | refine LeO.ite ?_ ?_
   | refine LeO.bind ?_ (fun _ => ?_)
set_option maxHeartbeats 8000000 in
set_option maxRecDepth 100000 in
theorem pack_AppendInt.calls (k : Nat) (A0 : Option Addr) (c0 : Nat) (l0 : List Int) (a1 : Int) (r : List Int) (w : World) (hr0 : Kd.C (Kd.int .u8) w A0 l0.length l0) (hc0 : l0.length ≤ c0) (h : pack_AppendInt.f k l0 a1 = some r) :
  Calls Tryd.prog 36 #[.slice A0 l0.length c0, .int .i64 a1] w fun e w' => ∃ v0_ : Value, e = .returned (v0_) ∧ Kd.R (Kd.int .u8) 5 w' w.heap.size (fun _ => True) v0_ r ∧ Below w.heap.size w w' := by
 have HR0 := Aside0.mk hr0
 have HC0 := Aside0.mk hc0
 clear hr0 hc0
 have HB := Aside0.mk (Below.refl w.heap.size w)
 have H : ((pack_AppendUint.f k l0 (Go.bits .xor .u64 (IntKind.u64.wrap ((IntKind.u64.wrap (a1)) * 2)) (IntKind.u64.wrap (a1 / 9223372036854775808)))).bind fun t127 => (some t127)) = some r := h
 clear h
 replace H := Option.bind_eq_some_iff.mp H
 obtain ⟨t127, A30, H⟩ := H
 replace H : (some t127) = some r := H
 have A3 := Aside0.mk A30
 clear A30
 obtain rfl := Option.some.inj H
 go_enter Tryd.func36, Tryd.ntmps36
 go_wp2_with (first | ((with_reducible refine qgc (f := 69) rfl ?_); refine goesL_ (some 13) rfl rfl Tryd.func69 (by kernel_rfl) rfl #[.slice A0 l0.length c0, .int .u64 (Go.bits .xor .u64 (IntKind.u64.wrap ((IntKind.u64.wrap (a1)) * 2)) (IntKind.u64.wrap (a1 / 9223372036854775808)))] rfl (by (try simp only [List.map_toArray, List.map_cons, List.map_nil]); first | done | rfl | (simp only [List.length_drop, List.length_take]; rfl)) ?_; (with_reducible refine (pack_AppendUint.calls k _ _ l0 (Go.bits .xor .u64 (IntKind.u64.wrap ((IntKind.u64.wrap (a1)) * 2)) (IntKind.u64.wrap (a1 / 9223372036854775808))) t127 _ ?side1 ?side2 A3.out).mono ?_); (case side1 => repeat (first | exact HR0.out | (with_reducible refine Kd.C_alloc ?_ _) | (with_reducible refine Kd.C_drewN ?_ _) | (with_reducible refine Kd.C_drew ?_))); (case side2 => exact HC0.out); rintro e w4 ⟨v128, rfl, ho0, hb⟩; refine ⟨_, rfl, ?_⟩; have n0_ := Aside0.mk (Kd.R_lower ho0 (qbz (by repeat (first | (with_reducible first | exact HB.out | apply below_alloc | apply qbN | apply qb1) | exact HB.out)))); have n1_ := Aside0.mk (below_step (by repeat (first | (with_reducible first | exact HB.out | apply below_alloc | apply qbN | apply qb1) | exact HB.out)) hb); clear HB; have HO129 := n0_; have HB := n1_; clear n0_ n1_; (try clear hb); (try clear hb2); (try clear hk); (try clear hi); (try clear ho0)))
 go_ret
 exact ⟨_, by first | rfl | (simp [eWn, eWs] <;> rfl) | (simp [*, eWn, eWs] <;> rfl), by (with_reducible repeat (first | apply Kd.R_alloc | apply Kd.R_drewN | apply Kd.R_drew)); exact HO129.out, by repeat (first | (with_reducible first | exact HB.out | apply below_alloc | apply qbN | apply qb1) | exact HB.out)⟩

/-! ### pack_AppendText: function 37 -/
def pack_AppendText.f (k : Nat) (l0 : List Int) (a1 : ByteArray) : Option (List Int) := (pack_AppendUint.f k l0 (IntKind.u64.wrap ((a1.size : Int)))).bind fun t130 => (if t130.length + a1.size < 140737488355328 then (some (t130 ++ bytesOf a1)) else (none))
theorem pack_AppendText.mono : ∀ a0 a1 k, LeO (pack_AppendText.f k a0 a1) (pack_AppendText.f (k + 1) a0 a1) := by
 intro a0 a1 k
 unfold pack_AppendText.f
 repeat' first
   | (with_reducible exact pack_AppendUint.mono _ _ _)
   | (with_reducible exact LeO.refl _)
   | (with_reducible exact LeO.none _)
   | (with_reducible refine LeO.ite ?_ ?_)
   | (with_reducible refine LeO.bind ?_ (fun _ => ?_))
   | exact pack_AppendUint.mono _ _ _
   | exact LeO.none _
   | refine LeO.ite ?_ ?_
   | refine LeO.bind ?_ (fun _ => ?_)
set_option maxHeartbeats 8000000 in
set_option maxRecDepth 100000 in
theorem pack_AppendText.calls (k : Nat) (A0 : Option Addr) (c0 : Nat) (l0 : List Int) (a1 : ByteArray) (r : List Int) (w : World) (hr0 : Kd.C (Kd.int .u8) w A0 l0.length l0) (hc0 : l0.length ≤ c0) (h : pack_AppendText.f k l0 a1 = some r) :
  Calls Tryd.prog 37 #[.slice A0 l0.length c0, .string a1] w fun e w' => ∃ v0_ : Value, e = .returned (v0_) ∧ Kd.R (Kd.int .u8) 5 w' w.heap.size (fun _ => True) v0_ r ∧ Below w.heap.size w w' := by
 have HR0 := Aside0.mk hr0
 have HC0 := Aside0.mk hc0
 clear hr0 hc0
 have HB := Aside0.mk (Below.refl w.heap.size w)
 have H : ((pack_AppendUint.f k l0 (IntKind.u64.wrap ((a1.size : Int)))).bind fun t130 => (if t130.length + a1.size < 140737488355328 then (some (t130 ++ bytesOf a1)) else (none))) = some r := h
 clear h
 replace H := Option.bind_eq_some_iff.mp H
 obtain ⟨t130, A30, H⟩ := H
 replace H : (if t130.length + a1.size < 140737488355328 then (some (t130 ++ bytesOf a1)) else (none)) = some r := H
 have A3 := Aside0.mk A30
 clear A30
 by_cases c4 : t130.length + a1.size < 140737488355328
 ·rw [if_pos c4] at H
  have LMc4 := Aside0.mk c4
  clear c4
  obtain ⟨y133, hy133⟩ : ∃ y_ : List Int, y_ = (t130 ++ bytesOf a1) := ⟨_, rfl⟩
  replace H : (some y133) = some r := by first | (rw [hy133]; with_reducible exact H) | (have H2_ := (Option.bind_some _ _).symm.trans H; rw [hy133]; with_reducible exact H2_) | (have H2_ := (Option.bind_some _ _).symm.trans H; with_reducible exact H2_) | with_reducible exact H | (rw [hy133]; exact H) | exact H
  have Ny133 := Aside0.mk hy133
  clear hy133
  obtain rfl := Option.some.inj H
  go_enter Tryd.func37, Tryd.ntmps37
  go_wp2_with (first | ((with_reducible refine qgc (f := 69) rfl ?_); refine goesL_ (some 9) rfl rfl Tryd.func69 (by kernel_rfl) rfl #[.slice A0 l0.length c0, .int .u64 (IntKind.u64.wrap ((a1.size : Int)))] rfl (by (try simp only [List.map_toArray, List.map_cons, List.map_nil]); first | done | rfl | (simp only [List.length_drop, List.length_take]; rfl)) ?_; (with_reducible refine (pack_AppendUint.calls k _ _ l0 (IntKind.u64.wrap ((a1.size : Int))) t130 _ ?side1 ?side2 A3.out).mono ?_); (case side1 => repeat (first | exact HR0.out | (with_reducible refine Kd.C_alloc ?_ _) | (with_reducible refine Kd.C_drewN ?_ _) | (with_reducible refine Kd.C_drew ?_))); (case side2 => exact HC0.out); rintro e w5 ⟨v131, rfl, ho0, hb⟩; refine ⟨_, rfl, ?_⟩; have n0_ := Aside0.mk (Kd.R_lower ho0 (qbz (by repeat (first | (with_reducible first | exact HB.out | apply below_alloc | apply qbN | apply qb1) | exact HB.out)))); have n1_ := Aside0.mk (below_step (by repeat (first | (with_reducible first | exact HB.out | apply below_alloc | apply qbN | apply qb1) | exact HB.out)) hb); clear HB; have HO132 := n0_; have HB := n1_; clear n0_ n1_; (try clear hb); (try clear hb2); (try clear hk); (try clear hi); (try clear ho0)) | (at_builtin; refine print_append_str (w0 := w) w.heap.size rfl (.tmp 9) _ 26 9 5 rfl Tryd.underlying26 Tryd.underlying9 info5 v131 t130 a1 rfl rfl ?aO ?aB ?aS ?aL ?_; (case aB => exact (by repeat (first | (with_reducible first | exact HB.out | apply below_alloc | apply qbN | apply qb1) | exact HB.out))); (case aO => exact (Kd.own_of_R (by (with_reducible repeat (first | apply Kd.R_alloc | apply Kd.R_drewN | apply Kd.R_drew)); exact HO132.out))); (case aS => exact (qbz (by repeat (first | (with_reducible first | exact HB.out | apply below_alloc | apply qbN | apply qb1) | exact HB.out)))); (case aL => have := LMc4.out; omega); intro v134 w6 ho0 hb hg; have ho := Kd.R_of_own (h1 := fun _ => rfl) (ok := fun _ => True) ho0 (fun _ _ => trivial); clear ho0; have hat := True.intro; rw [← Ny133.out] at ho; change Kd.R (Kd.int .u8) 5 w6 w.heap.size (fun _ => True) v134 y133 at ho; have n0_ := Aside0.mk (hb); have n1_ := Aside0.mk (ho); clear HB; clear HO132; have HB := n0_; have HO135 := n1_; clear n0_ n1_; clear ho hb hg hat))
  go_ret
  exact ⟨_, by first | rfl | (simp [eWn, eWs] <;> rfl) | (simp [*, eWn, eWs] <;> rfl), by (with_reducible repeat (first | apply Kd.R_alloc | apply Kd.R_drewN | apply Kd.R_drew)); exact HO135.out, by repeat (first | (with_reducible first | exact HB.out | apply below_alloc | apply qbN | apply qb1) | exact HB.out)⟩
 ·rw [if_neg c4] at H
  exact absurd H (by simp)

end Go.Proofs.YtljadejgdbemoaaDoor.R
