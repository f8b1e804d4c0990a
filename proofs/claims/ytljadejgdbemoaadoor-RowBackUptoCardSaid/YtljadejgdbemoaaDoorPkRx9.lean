import Derived.Test.YtljadejgdbemoaaDoorPkRx0
import Derived.Test.YtljadejgdbemoaaDoorPkRx8
namespace Go.Proofs.YtljadejgdbemoaaDoor.R
open Go.RowKit Go.Proofs.YtljadejgdbemoaaDoorW.PrintWords Go.Proofs.YtljadejgdbemoaaDoorW.PrintLast Go.Proofs.YtljadejgdbemoaaDoorW.PrintMore Go.Proofs.YtljadejgdbemoaaDoorX
attribute [local go_sem] max2_int min2_int max_two min_two max_three min_three max_four min_four
set_option linter.unusedVariables false
set_option linter.unusedSimpArgs false

/-! ### barbicanref14_Check: function 40 -/
mutual
def barbicanref14_Check.l0 : Nat → List (S38) → Int → ByteArray → List (S36) → Option (Int)
 | 0, _, _, _, _ => none
 | k + 1, x1, x5, x264000, x264001 => if x5 < (x1.length : Int) then (if 0 ≤ x5 then (if x5 < (x264001.length : Int) then ((barbicanref05_Valid.f k ((r8 x1 x5).f0) ((r8 x1 x5).f1) ((r8 x1 x5).f2) ((r8 x1 x5).f3)).bind fun t267 => (if t267 = 0 then (if ((r8 x1 x5).f0) = 0 then (if (rd_T36 x264001 x5).f2 = true then (barbicanref14_Check.j1 k x1 x5 true x264000 x264001 ((rd_T36 x264001 x5).f0) ((rd_T36 x264001 x5).f1) ((rd_T36 x264001 x5).f2) ((rd_T36 x264001 x5).f3)) else (barbicanref14_Check.j1 k x1 x5 (!((rd_T36 x264001 x5).f3)) x264000 x264001 ((rd_T36 x264001 x5).f0) ((rd_T36 x264001 x5).f1) ((rd_T36 x264001 x5).f2) ((rd_T36 x264001 x5).f3))) else (barbicanref14_Check.j1 k x1 x5 false x264000 x264001 ((rd_T36 x264001 x5).f0) ((rd_T36 x264001 x5).f1) ((rd_T36 x264001 x5).f2) ((rd_T36 x264001 x5).f3))) else (some t267))) else (none)) else (none)) else (some 0)
def barbicanref14_Check.j1 : Nat → List (S38) → Int → Bool → ByteArray → List (S36) → ByteArray → Int → Bool → Bool → Option (Int)
 | 0, _, _, _, _, _, _, _, _, _ => none
 | k + 1, x1, x5, x34, x264000, x264001, x266000, x266001, x266002, x266003 => if x34 = true then (some 33) else (if 0 ≤ x5 then (if x5 < (x1.length : Int) then (if ((r8 x1 x5).f0) = 0 then (barbicanref14_Check.l0 k x1 (wrap64 (x5 + 1)) x264000 x264001) else (if ((r8 x1 x5).f0) = x266001 then (barbicanref14_Check.l0 k x1 (wrap64 (x5 + 1)) x264000 x264001) else (some 7))) else (none)) else (none))
end
def barbicanref14_Check.f (k : Nat) (a0_0 : ByteArray) (l0_1 : List (S36)) (l1 : List (S38)) : Option (Int) := if (l1.length : Int) = (l0_1.length : Int) then (barbicanref14_Check.l0 k l1 0 a0_0 l0_1) else (some 1)
theorem barbicanref14_Check.mono_l : ∀ k, (∀ y0 y1 y2 y3, LeO (barbicanref14_Check.l0 k y0 y1 y2 y3) (barbicanref14_Check.l0 (k + 1) y0 y1 y2 y3)) ∧ (∀ y0 y1 y2 y3 y4 y5 y6 y7 y8, LeO (barbicanref14_Check.j1 k y0 y1 y2 y3 y4 y5 y6 y7 y8) (barbicanref14_Check.j1 (k + 1) y0 y1 y2 y3 y4 y5 y6 y7 y8))
 | 0 => ⟨fun _ _ _ _ r h => by simp [barbicanref14_Check.l0] at h, fun _ _ _ _ _ _ _ _ _ r h => by simp [barbicanref14_Check.j1] at h⟩
 | k + 1 => by
  obtain ⟨ih0, ih1⟩ := barbicanref14_Check.mono_l k
  refine ⟨?_, ?_⟩
  ·intro y0 y1 y2 y3
   unfold barbicanref14_Check.l0
   repeat' first
   | (with_reducible exact ih0 _ _ _ _)
   | (with_reducible exact ih1 _ _ _ _ _ _ _ _ _)
   | (with_reducible exact barbicanref05_Valid.mono _ _ _ _ _)
   | (with_reducible exact LeO.refl _)
   | (with_reducible exact LeO.none _)
   | (with_reducible refine LeO.ite ?_ ?_)
   | (with_reducible refine LeO.bind ?_ (fun _ => ?_))
   | exact ih0 _ _ _ _
   | exact ih1 _ _ _ _ _ _ _ _ _
   | exact barbicanref05_Valid.mono _ _ _ _ _
   | exact LeO.none _
   | refine LeO.ite ?_ ?_
   | refine LeO.bind ?_ (fun _ => ?_)
  ·intro y0 y1 y2 y3 y4 y5 y6 y7 y8
   unfold barbicanref14_Check.j1
   repeat' first
   | (with_reducible exact ih0 _ _ _ _)
   | (with_reducible exact ih1 _ _ _ _ _ _ _ _ _)
   | (with_reducible exact barbicanref05_Valid.mono _ _ _ _ _)
   | (with_reducible exact LeO.refl _)
   | (with_reducible exact LeO.none _)
   | (with_reducible refine LeO.ite ?_ ?_)
   | (with_reducible refine LeO.bind ?_ (fun _ => ?_))
   | exact ih0 _ _ _ _
   | exact ih1 _ _ _ _ _ _ _ _ _
   | exact barbicanref05_Valid.mono _ _ _ _ _
   | exact LeO.none _
   | refine LeO.ite ?_ ?_
   | refine LeO.bind ?_ (fun _ => ?_)
theorem barbicanref14_Check.mono : ∀ a0 a1 a2 k, LeO (barbicanref14_Check.f k a0 a1 a2) (barbicanref14_Check.f (k + 1) a0 a1 a2) := by
 intro a0 a1 a2 k
 obtain ⟨ih0, ih1⟩ := barbicanref14_Check.mono_l k
 unfold barbicanref14_Check.f
 repeat' first
   | (with_reducible exact ih0 _ _ _ _)
   | (with_reducible exact ih1 _ _ _ _ _ _ _ _ _)
   | (with_reducible exact barbicanref05_Valid.mono _ _ _ _ _)
   | (with_reducible exact LeO.refl _)
   | (with_reducible exact LeO.none _)
   | (with_reducible refine LeO.ite ?_ ?_)
   | (with_reducible refine LeO.bind ?_ (fun _ => ?_))
   | exact ih0 _ _ _ _
   | exact ih1 _ _ _ _ _ _ _ _ _
   | exact barbicanref05_Valid.mono _ _ _ _ _
   | exact LeO.none _
   | refine LeO.ite ?_ ?_
   | refine LeO.bind ?_ (fun _ => ?_)
set_option maxHeartbeats 8000000 in
set_option maxRecDepth 100000 in
theorem barbicanref14_Check.calls (k : Nat) (a0_0 : ByteArray) (A0_1 : Option Addr) (c0_1 : Nat) (l0_1 : List (S36)) (A1 : Option Addr) (c1 : Nat) (l1 : List (S38)) (r : Int) (w : World) (hr0_1 : Kd.C k36 w A0_1 l0_1.length l0_1) (hc0_1 : l0_1.length ≤ c0_1) (hr1 : Kd.C k38 w A1 l1.length l1) (hc1 : l1.length ≤ c1) (h : barbicanref14_Check.f k a0_0 l0_1 l1 = some r) :
  Calls Tryd.prog 40 #[.agg #[.string a0_0, .slice A0_1 l0_1.length c0_1], .slice A1 l1.length c1] w fun e w' => e = .returned (.int .i64 r) ∧ Below w.heap.size w w' := by
 have hu24 := Tryd.underlying24
 have hu36 := Tryd.underlying36
 have hu38 := Tryd.underlying38
 have HR0_1 := Aside0.mk hr0_1
 have HC0_1 := Aside0.mk hc0_1
 clear hr0_1 hc0_1
 have HR1 := Aside0.mk hr1
 have HC1 := Aside0.mk hc1
 clear hr1 hc1
 have HB := Aside0.mk (Below.refl w.heap.size w)
 have H : (if (l1.length : Int) = (l0_1.length : Int) then (barbicanref14_Check.l0 k l1 0 a0_0 l0_1) else (some 1)) = some r := h
 clear h
 by_cases c3 : (l1.length : Int) = (l0_1.length : Int)
 ·rw [if_pos c3] at H
  have c3b0 : ((l1.length : Int) == (l0_1.length : Int)) = true := beq_iff_eq.mpr c3
  have c3b1 : ((l1.length : Int) != (l0_1.length : Int)) = false := bne_eq_false_iff_eq.mpr c3
  have c3b2 : (l1.length == l0_1.length) = true := by first | simpa using c3 | (simp at c3 ⊢; omega)
  clear c3
  have H' := Aside0.mk H
  clear H
  go_enter Tryd.func40, Tryd.ntmps40
  go_wp2_with (first | ((with_reducible refine qgd (N := 2) rfl ?_); refine qbe ?hg (N := 2) ?hd (cs := #[.string a0_0, .slice A0_1 l0_1.length c0_1]) (t := 24) ?hr ?_; (case hd => rfl); (case hg => rfl); (case hr => first | (go_simp; done) | (go_simp; rfl)); intro gb263 hg w4 hbox hb; have n0_ := Aside0.mk (below_step (by repeat (first | (with_reducible first | exact HB.out | apply below_alloc | apply qbN | apply qb1) | exact HB.out)) hb); have n1_ := Aside0.mk (hbox); have n2_ := Aside0.mk ((by rw [hg]; exact (qbz (by repeat (first | (with_reducible first | exact HB.out | apply below_alloc | apply qbN | apply qb1) | exact HB.out))) : w.heap.size ≤ gb263)); have n3_ := Aside0.mk ((by rw [hg]; exact (qbz (by repeat (first | (with_reducible first | exact HB.out | apply below_alloc | apply qbN | apply qb1) | exact HB.out))) : w.heap.size ≤ gb263)); clear HB; have HB := n0_; have BK263 := n1_; have GW263 := n2_; have GE263 := n3_; clear n0_ n1_ n2_ n3_; clear hb hbox hg; have hcz5_0 : w4.cell? ⟨gb263, 0, none⟩ = some (.string a0_0) := (qkc BK263.out 0).trans rfl; have hcz5_1 : w4.cell? ⟨gb263, 1, none⟩ = some (.slice A0_1 l0_1.length c0_1) := (qkc BK263.out 1).trans rfl; have hfz5_0 := qkf BK263.out 0; have hfz5_1 := qkf BK263.out 1))
  repeat (go_quiet (first | ((with_reducible refine qgd (N := 2) rfl ?_); refine qbe ?hg (N := 2) ?hd (cs := #[.string a0_0, .slice A0_1 l0_1.length c0_1]) (t := 24) ?hr ?_; (case hd => rfl); (case hg => rfl); (case hr => first | (go_simp; done) | (go_simp; rfl)); intro gb263 hg w4 hbox hb; have n0_ := Aside0.mk (below_step (by repeat (first | (with_reducible first | exact HB.out | apply below_alloc | apply qbN | apply qb1) | exact HB.out)) hb); have n1_ := Aside0.mk (hbox); have n2_ := Aside0.mk ((by rw [hg]; exact (qbz (by repeat (first | (with_reducible first | exact HB.out | apply below_alloc | apply qbN | apply qb1) | exact HB.out))) : w.heap.size ≤ gb263)); have n3_ := Aside0.mk ((by rw [hg]; exact (qbz (by repeat (first | (with_reducible first | exact HB.out | apply below_alloc | apply qbN | apply qb1) | exact HB.out))) : w.heap.size ≤ gb263)); clear HB; have HB := n0_; have BK263 := n1_; have GW263 := n2_; have GE263 := n3_; clear n0_ n1_ n2_ n3_; clear hb hbox hg; have hcz5_0 : w4.cell? ⟨gb263, 0, none⟩ = some (.string a0_0) := (qkc BK263.out 0).trans rfl; have hcz5_1 : w4.cell? ⟨gb263, 1, none⟩ = some (.slice A0_1 l0_1.length c0_1) := (qkc BK263.out 1).trans rfl; have hfz5_0 := qkf BK263.out 0; have hfz5_1 := qkf BK263.out 1)); try go_wp2_with (first | ((with_reducible refine qgd (N := 2) rfl ?_); refine qbe ?hg (N := 2) ?hd (cs := #[.string a0_0, .slice A0_1 l0_1.length c0_1]) (t := 24) ?hr ?_; (case hd => rfl); (case hg => rfl); (case hr => first | (go_simp; done) | (go_simp; rfl)); intro gb263 hg w4 hbox hb; have n0_ := Aside0.mk (below_step (by repeat (first | (with_reducible first | exact HB.out | apply below_alloc | apply qbN | apply qb1) | exact HB.out)) hb); have n1_ := Aside0.mk (hbox); have n2_ := Aside0.mk ((by rw [hg]; exact (qbz (by repeat (first | (with_reducible first | exact HB.out | apply below_alloc | apply qbN | apply qb1) | exact HB.out))) : w.heap.size ≤ gb263)); have n3_ := Aside0.mk ((by rw [hg]; exact (qbz (by repeat (first | (with_reducible first | exact HB.out | apply below_alloc | apply qbN | apply qb1) | exact HB.out))) : w.heap.size ≤ gb263)); clear HB; have HB := n0_; have BK263 := n1_; have GW263 := n2_; have GE263 := n3_; clear n0_ n1_ n2_ n3_; clear hb hbox hg; have hcz5_0 : w4.cell? ⟨gb263, 0, none⟩ = some (.string a0_0) := (qkc BK263.out 0).trans rfl; have hcz5_1 : w4.cell? ⟨gb263, 1, none⟩ = some (.slice A0_1 l0_1.length c0_1) := (qkc BK263.out 1).trans rfl; have hfz5_0 := qkf BK263.out 0; have hfz5_1 := qkf BK263.out 1)))
  go_loopg [5] k (fun kq v5 w' => ∃ (x5_1 : Int), v5 = .int .i64 x5_1 ∧ Aside0 (barbicanref14_Check.l0 kq l1 x5_1 a0_0 l0_1 = some r) ∧ Aside0 (kq ≤ k) ∧ Aside0 (w'.heap[gb263]? = some (.cells #[.string a0_0, (.slice A0_1 l0_1.length c0_1)] 24 (0, 0))) ∧ Aside0 (Below w.heap.size w w'))
  case atStart => exact ⟨(0), (by first | rfl | (simp; done) | (simp [*]; done)), H', ⟨Nat.le_refl _⟩, ⟨by (with_reducible repeat (first | refine qkN ?_ _ | refine qkd ?_ | refine qka ?_ _)); exact BK263.out⟩, ⟨by repeat (first | (with_reducible first | exact HB.out | apply below_alloc | apply qbN | apply qb1 | refine qbs ?_ GE263.out) | exact HB.out)⟩⟩
  case round =>
   clear H'
   try clear c1
   try clear p2
   try clear c3
   try clear c3b0
   try clear c3b1
   try clear c3b2
   try clear c4
   try clear hcz5_0
   try clear hcz5_1
   try clear hfz5_0
   try clear hfz5_1
   obtain ⟨x5_1, rfl, HA, HK1, BK263, HB⟩ := hrel
   cases gk with
   | zero => exact absurd HA.out (by simp [barbicanref14_Check.l0])
   | succ k1 =>
    have H := HA.out
    clear HA
    simp only [barbicanref14_Check.l0] at H
    by_cases c6 : x5_1 < (l1.length : Int)
    ·rw [if_pos c6] at H
     have c6b0 : decide (x5_1 < (l1.length : Int)) = true := decide_eq_true c6
     clear c6
     by_cases c7 : 0 ≤ x5_1
     ·rw [if_pos c7] at H
      have c7b0 : decide (0 ≤ x5_1) = true := decide_eq_true c7
      clear c7
      by_cases c8 : x5_1 < (l0_1.length : Int)
      ·rw [if_pos c8] at H
       have c8b0 : decide (x5_1 < (l0_1.length : Int)) = true := decide_eq_true c8
       clear c8
       replace H := Option.bind_eq_some_iff.mp H
       obtain ⟨t267, A90, H⟩ := H
       replace H : (if t267 = 0 then (if ((r8 l1 x5_1).f0) = 0 then (if (rd_T36 l0_1 x5_1).f2 = true then (barbicanref14_Check.j1 k1 l1 x5_1 true a0_0 l0_1 ((rd_T36 l0_1 x5_1).f0) ((rd_T36 l0_1 x5_1).f1) ((rd_T36 l0_1 x5_1).f2) ((rd_T36 l0_1 x5_1).f3)) else (barbicanref14_Check.j1 k1 l1 x5_1 (!((rd_T36 l0_1 x5_1).f3)) a0_0 l0_1 ((rd_T36 l0_1 x5_1).f0) ((rd_T36 l0_1 x5_1).f1) ((rd_T36 l0_1 x5_1).f2) ((rd_T36 l0_1 x5_1).f3))) else (barbicanref14_Check.j1 k1 l1 x5_1 false a0_0 l0_1 ((rd_T36 l0_1 x5_1).f0) ((rd_T36 l0_1 x5_1).f1) ((rd_T36 l0_1 x5_1).f2) ((rd_T36 l0_1 x5_1).f3))) else (some t267)) = some r := H
       have A9 := Aside0.mk A90
       clear A90
       by_cases c10 : t267 = 0
       ·rw [if_pos c10] at H
        have c10b0 : (t267 == 0) = true := beq_iff_eq.mpr c10
        have c10b1 : (t267 != 0) = false := bne_eq_false_iff_eq.mpr c10
        clear c10
        have HC11 := Aside0.mk H
        clear H
        have hcz12_0 : wr.cell? ⟨gb263, 0, none⟩ = some (.string a0_0) := (qkc BK263.out 0).trans rfl
        have hcz12_1 : wr.cell? ⟨gb263, 1, none⟩ = some (.slice A0_1 l0_1.length c0_1) := (qkc BK263.out 1).trans rfl
        have hfz12_0 := qkf BK263.out 0
        have hfz12_1 := qkf BK263.out 1
        have p264 : 0 ≤ (x5_1 : Int) := ode_
        have q264 : x5_1 < (l0_1.length : Int) := ode_
        obtain ⟨ad264, e264, hx264_0, hx264_1, hx264_2, hx264_3⟩ := at_T36 HR0_1.out x5_1 p264 q264
        cases e264
        replace hx264_0 := (HB.out.cell (World.block_lt_of_cell? w _ hx264_0)).trans hx264_0
        replace hx264_1 := (HB.out.cell (World.block_lt_of_cell? w _ hx264_1)).trans hx264_1
        replace hx264_2 := (HB.out.cell (World.block_lt_of_cell? w _ hx264_2)).trans hx264_2
        replace hx264_3 := (HB.out.cell (World.block_lt_of_cell? w _ hx264_3)).trans hx264_3
        replace p264 := eq_true p264
        replace q264 := eq_true q264
        go_upto_region 10 with (first | ((with_reducible refine qgd (N := 6) rfl ?_); refine qbe ?hg (N := 6) ?hd (cs := #[.string (⟨#[]⟩ : ByteArray), .int .i64 0, .bool false, .bool false]) (t := 36) ?hr ?_; (case hd => rfl); (case hg => rfl); (case hr => first | (go_simp; done) | (go_simp; rfl)); intro gb265 hg w13 hbox hb; have n0_ := Aside0.mk (qkb (g := gb263) (o := .cells #[.string a0_0, .slice (some ad264) l0_1.length c0_1] 24 (0, 0)) (by (with_reducible repeat (first | refine qkN ?_ _ | refine qkd ?_ | refine qka ?_ _)); exact BK263.out) hb); have n1_ := Aside0.mk (below_step (by repeat (first | (with_reducible first | exact HB.out | apply below_alloc | apply qbN | apply qb1 | refine qbs ?_ GE263.out) | exact HB.out)) hb); have n2_ := Aside0.mk (hbox); have n3_ := Aside0.mk ((by rw [hg]; exact (qbz (by repeat (first | (with_reducible first | exact HB.out | apply below_alloc | apply qbN | apply qb1 | refine qbs ?_ GE263.out) | exact HB.out))) : w.heap.size ≤ gb265)); have n4_ := Aside0.mk ((by rw [hg]; exact (qbz (by repeat (first | (with_reducible first | exact HB.out | apply below_alloc | apply qbN | apply qb1 | refine qbs ?_ GE263.out) | exact HB.out))) : w.heap.size ≤ gb265)); have n5_ := Aside0.mk ((by rw [hg]; exact Nat.ne_of_lt (blk_lt (g := gb263) (o := .cells #[.string a0_0, .slice (some ad264) l0_1.length c0_1] 24 (0, 0)) (by (with_reducible repeat (first | refine qkN ?_ _ | refine qkd ?_ | refine qka ?_ _)); exact BK263.out)) : gb263 ≠ gb265)); have n6_ := Aside0.mk ((by rw [hg]; exact Nat.ne_of_gt (blk_lt (g := gb263) (o := .cells #[.string a0_0, .slice (some ad264) l0_1.length c0_1] 24 (0, 0)) (by (with_reducible repeat (first | refine qkN ?_ _ | refine qkd ?_ | refine qka ?_ _)); exact BK263.out)) : gb265 ≠ gb263)); clear BK263; clear HB; have BK263 := n0_; have HB := n1_; have BK265 := n2_; have GW265 := n3_; have GE265 := n4_; have NB263_265 := n5_; have NB265_263 := n6_; clear n0_ n1_ n2_ n3_ n4_ n5_ n6_; clear hb hbox hg; have hnb14 := NB265_263.out; have hnc14 := NB263_265.out; have hcz15_0 : w13.cell? ⟨gb265, 0, none⟩ = some (.string (⟨#[]⟩ : ByteArray)) := (qkc BK265.out 0).trans rfl; have hcz15_1 : w13.cell? ⟨gb265, 1, none⟩ = some (.int .i64 0) := (qkc BK265.out 1).trans rfl; have hcz15_2 : w13.cell? ⟨gb265, 2, none⟩ = some (.bool false) := (qkc BK265.out 2).trans rfl; have hcz15_3 : w13.cell? ⟨gb265, 3, none⟩ = some (.bool false) := (qkc BK265.out 3).trans rfl; have hfz15_0 := qkf BK265.out 0; have hfz15_1 := qkf BK265.out 1; have hfz15_2 := qkf BK265.out 2; have hfz15_3 := qkf BK265.out 3; have p266 : 0 ≤ (x5_1 : Int) := ode_; have q266 : x5_1 < (l1.length : Int) := ode_; obtain ⟨ad266, e266, hx266_0, hx266_1, hx266_2, hx266_3⟩ := at_T38 HR1.out x5_1 p266 q266; cases e266; have hn266_0 : ad266.block ≠ gb265 := Nat.ne_of_lt (Nat.lt_of_lt_of_le (by have := World.block_lt_of_cell? _ _ hx266_0; first | rwa [qab] at this | exact this) GW265.out); have hn266_1 : ad266.block ≠ gb265 := Nat.ne_of_lt (Nat.lt_of_lt_of_le (by have := World.block_lt_of_cell? _ _ hx266_0; first | rwa [qab] at this | exact this) GW265.out); have hn266_2 : ad266.block ≠ gb265 := Nat.ne_of_lt (Nat.lt_of_lt_of_le (by have := World.block_lt_of_cell? _ _ hx266_0; first | rwa [qab] at this | exact this) GW265.out); have hn266_3 : ad266.block ≠ gb265 := Nat.ne_of_lt (Nat.lt_of_lt_of_le (by have := World.block_lt_of_cell? _ _ hx266_0; first | rwa [qab] at this | exact this) GW265.out); replace hx266_0 := (HB.out.cell (World.block_lt_of_cell? w _ hx266_0)).trans hx266_0; replace hx266_1 := (HB.out.cell (World.block_lt_of_cell? w _ hx266_1)).trans hx266_1; replace hx266_2 := (HB.out.cell (World.block_lt_of_cell? w _ hx266_2)).trans hx266_2; replace hx266_3 := (HB.out.cell (World.block_lt_of_cell? w _ hx266_3)).trans hx266_3; replace hx266_0 := (cell_far (p := ⟨gb265, 0, none⟩) (by first | (rw [qab]; exact hn266_0) | (show (Addr.add _ _).block ≠ _; rw [qab]; exact hn266_0) | exact hn266_0) (.string ((rd_T36 l0_1 x5_1).f0))).trans hx266_0; replace hx266_1 := (cell_far (p := ⟨gb265, 0, none⟩) (by first | (rw [qab]; exact hn266_0) | (show (Addr.add _ _).block ≠ _; rw [qab]; exact hn266_0) | exact hn266_0) (.string ((rd_T36 l0_1 x5_1).f0))).trans hx266_1; replace hx266_2 := (cell_far (p := ⟨gb265, 0, none⟩) (by first | (rw [qab]; exact hn266_0) | (show (Addr.add _ _).block ≠ _; rw [qab]; exact hn266_0) | exact hn266_0) (.string ((rd_T36 l0_1 x5_1).f0))).trans hx266_2; replace hx266_3 := (cell_far (p := ⟨gb265, 0, none⟩) (by first | (rw [qab]; exact hn266_0) | (show (Addr.add _ _).block ≠ _; rw [qab]; exact hn266_0) | exact hn266_0) (.string ((rd_T36 l0_1 x5_1).f0))).trans hx266_3; replace hx266_0 := (cell_far (p := ⟨gb265, 1, none⟩) (by first | (rw [qab]; exact hn266_1) | (show (Addr.add _ _).block ≠ _; rw [qab]; exact hn266_1) | exact hn266_1) (.int .i64 ((rd_T36 l0_1 x5_1).f1))).trans hx266_0; replace hx266_1 := (cell_far (p := ⟨gb265, 1, none⟩) (by first | (rw [qab]; exact hn266_1) | (show (Addr.add _ _).block ≠ _; rw [qab]; exact hn266_1) | exact hn266_1) (.int .i64 ((rd_T36 l0_1 x5_1).f1))).trans hx266_1; replace hx266_2 := (cell_far (p := ⟨gb265, 1, none⟩) (by first | (rw [qab]; exact hn266_1) | (show (Addr.add _ _).block ≠ _; rw [qab]; exact hn266_1) | exact hn266_1) (.int .i64 ((rd_T36 l0_1 x5_1).f1))).trans hx266_2; replace hx266_3 := (cell_far (p := ⟨gb265, 1, none⟩) (by first | (rw [qab]; exact hn266_1) | (show (Addr.add _ _).block ≠ _; rw [qab]; exact hn266_1) | exact hn266_1) (.int .i64 ((rd_T36 l0_1 x5_1).f1))).trans hx266_3; replace hx266_0 := (cell_far (p := ⟨gb265, 2, none⟩) (by first | (rw [qab]; exact hn266_2) | (show (Addr.add _ _).block ≠ _; rw [qab]; exact hn266_2) | exact hn266_2) (.bool ((rd_T36 l0_1 x5_1).f2))).trans hx266_0; replace hx266_1 := (cell_far (p := ⟨gb265, 2, none⟩) (by first | (rw [qab]; exact hn266_2) | (show (Addr.add _ _).block ≠ _; rw [qab]; exact hn266_2) | exact hn266_2) (.bool ((rd_T36 l0_1 x5_1).f2))).trans hx266_1; replace hx266_2 := (cell_far (p := ⟨gb265, 2, none⟩) (by first | (rw [qab]; exact hn266_2) | (show (Addr.add _ _).block ≠ _; rw [qab]; exact hn266_2) | exact hn266_2) (.bool ((rd_T36 l0_1 x5_1).f2))).trans hx266_2; replace hx266_3 := (cell_far (p := ⟨gb265, 2, none⟩) (by first | (rw [qab]; exact hn266_2) | (show (Addr.add _ _).block ≠ _; rw [qab]; exact hn266_2) | exact hn266_2) (.bool ((rd_T36 l0_1 x5_1).f2))).trans hx266_3; replace hx266_0 := (cell_far (p := ⟨gb265, 3, none⟩) (by first | (rw [qab]; exact hn266_3) | (show (Addr.add _ _).block ≠ _; rw [qab]; exact hn266_3) | exact hn266_3) (.bool ((rd_T36 l0_1 x5_1).f3))).trans hx266_0; replace hx266_1 := (cell_far (p := ⟨gb265, 3, none⟩) (by first | (rw [qab]; exact hn266_3) | (show (Addr.add _ _).block ≠ _; rw [qab]; exact hn266_3) | exact hn266_3) (.bool ((rd_T36 l0_1 x5_1).f3))).trans hx266_1; replace hx266_2 := (cell_far (p := ⟨gb265, 3, none⟩) (by first | (rw [qab]; exact hn266_3) | (show (Addr.add _ _).block ≠ _; rw [qab]; exact hn266_3) | exact hn266_3) (.bool ((rd_T36 l0_1 x5_1).f3))).trans hx266_2; replace hx266_3 := (cell_far (p := ⟨gb265, 3, none⟩) (by first | (rw [qab]; exact hn266_3) | (show (Addr.add _ _).block ≠ _; rw [qab]; exact hn266_3) | exact hn266_3) (.bool ((rd_T36 l0_1 x5_1).f3))).trans hx266_3; (try have hy266_0 := fun (n_ : Nat) => (show ((((((w13.drewN n_).setCell ⟨gb265, 0, none⟩ (.string ((rd_T36 l0_1 x5_1).f0))).setCell ⟨gb265, 1, none⟩ (.int .i64 ((rd_T36 l0_1 x5_1).f1))).setCell ⟨gb265, 2, none⟩ (.bool ((rd_T36 l0_1 x5_1).f2))).setCell ⟨gb265, 3, none⟩ (.bool ((rd_T36 l0_1 x5_1).f3)))).cell? _ = some _ from hx266_0)); (try have hy266_1 := fun (n_ : Nat) => (show ((((((w13.drewN n_).setCell ⟨gb265, 0, none⟩ (.string ((rd_T36 l0_1 x5_1).f0))).setCell ⟨gb265, 1, none⟩ (.int .i64 ((rd_T36 l0_1 x5_1).f1))).setCell ⟨gb265, 2, none⟩ (.bool ((rd_T36 l0_1 x5_1).f2))).setCell ⟨gb265, 3, none⟩ (.bool ((rd_T36 l0_1 x5_1).f3)))).cell? _ = some _ from hx266_1)); (try have hy266_2 := fun (n_ : Nat) => (show ((((((w13.drewN n_).setCell ⟨gb265, 0, none⟩ (.string ((rd_T36 l0_1 x5_1).f0))).setCell ⟨gb265, 1, none⟩ (.int .i64 ((rd_T36 l0_1 x5_1).f1))).setCell ⟨gb265, 2, none⟩ (.bool ((rd_T36 l0_1 x5_1).f2))).setCell ⟨gb265, 3, none⟩ (.bool ((rd_T36 l0_1 x5_1).f3)))).cell? _ = some _ from hx266_2)); (try have hy266_3 := fun (n_ : Nat) => (show ((((((w13.drewN n_).setCell ⟨gb265, 0, none⟩ (.string ((rd_T36 l0_1 x5_1).f0))).setCell ⟨gb265, 1, none⟩ (.int .i64 ((rd_T36 l0_1 x5_1).f1))).setCell ⟨gb265, 2, none⟩ (.bool ((rd_T36 l0_1 x5_1).f2))).setCell ⟨gb265, 3, none⟩ (.bool ((rd_T36 l0_1 x5_1).f3)))).cell? _ = some _ from hx266_3)); clear hn266_0; clear hn266_1; clear hn266_2; clear hn266_3; replace p266 := eq_true p266; replace q266 := eq_true q266) | (go_at_call 71; (with_reducible refine (barbicanref05_Valid.calls k1 ((r8 l1 x5_1).f0) ((r8 l1 x5_1).f1) ((r8 l1 x5_1).f2) ((r8 l1 x5_1).f3) t267 _ A9.out).mono ?_); rintro e w16 ⟨rfl, hb⟩; have n0_ := Aside0.mk (qkb (g := gb263) (o := .cells #[.string a0_0, .slice (some ad264) l0_1.length c0_1] 24 (0, 0)) (by (with_reducible repeat (first | refine qkN ?_ _ | refine qkd ?_ | refine qka ?_ _)); refine qkr ?_ NB263_265.out _; (with_reducible repeat (first | refine qkN ?_ _ | refine qkd ?_ | refine qka ?_ _)); refine qkr ?_ NB263_265.out _; (with_reducible repeat (first | refine qkN ?_ _ | refine qkd ?_ | refine qka ?_ _)); refine qkr ?_ NB263_265.out _; (with_reducible repeat (first | refine qkN ?_ _ | refine qkd ?_ | refine qka ?_ _)); refine qkr ?_ NB263_265.out _; (with_reducible repeat (first | refine qkN ?_ _ | refine qkd ?_ | refine qka ?_ _)); exact BK263.out) hb); have n1_ := Aside0.mk (qkb (g := gb265) (o := .cells #[.string ((rd_T36 l0_1 x5_1).f0), .int .i64 ((rd_T36 l0_1 x5_1).f1), .bool ((rd_T36 l0_1 x5_1).f2), .bool ((rd_T36 l0_1 x5_1).f3)] 36 (0, 0)) (by (with_reducible repeat (first | refine qkN ?_ _ | refine qkd ?_ | refine qka ?_ _)); refine qkp (cs := #[.string ((rd_T36 l0_1 x5_1).f0), .int .i64 ((rd_T36 l0_1 x5_1).f1), .bool ((rd_T36 l0_1 x5_1).f2), .bool false]) ?_ 3 _ rfl; (with_reducible repeat (first | refine qkN ?_ _ | refine qkd ?_ | refine qka ?_ _)); refine qkp (cs := #[.string ((rd_T36 l0_1 x5_1).f0), .int .i64 ((rd_T36 l0_1 x5_1).f1), .bool false, .bool false]) ?_ 2 _ rfl; (with_reducible repeat (first | refine qkN ?_ _ | refine qkd ?_ | refine qka ?_ _)); refine qkp (cs := #[.string ((rd_T36 l0_1 x5_1).f0), .int .i64 0, .bool false, .bool false]) ?_ 1 _ rfl; (with_reducible repeat (first | refine qkN ?_ _ | refine qkd ?_ | refine qka ?_ _)); refine qkp (cs := #[.string (⟨#[]⟩ : ByteArray), .int .i64 0, .bool false, .bool false]) ?_ 0 _ rfl; (with_reducible repeat (first | refine qkN ?_ _ | refine qkd ?_ | refine qka ?_ _)); exact BK265.out) hb); have n2_ := Aside0.mk (below_step (by repeat (first | (with_reducible first | exact HB.out | apply below_alloc | apply qbN | apply qb1 | refine qbs ?_ GE263.out | refine qbs ?_ GE265.out) | exact HB.out)) hb); clear BK263; clear BK265; clear HB; have BK263 := n0_; have BK265 := n1_; have HB := n2_; clear n0_ n1_ n2_; (try clear hb); (try clear hb2); (try clear hk); (try clear hi)))
        repeat (go_quiet (first | ((with_reducible refine qgd (N := 6) rfl ?_); refine qbe ?hg (N := 6) ?hd (cs := #[.string (⟨#[]⟩ : ByteArray), .int .i64 0, .bool false, .bool false]) (t := 36) ?hr ?_; (case hd => rfl); (case hg => rfl); (case hr => first | (go_simp; done) | (go_simp; rfl)); intro gb265 hg w13 hbox hb; have n0_ := Aside0.mk (qkb (g := gb263) (o := .cells #[.string a0_0, .slice (some ad264) l0_1.length c0_1] 24 (0, 0)) (by (with_reducible repeat (first | refine qkN ?_ _ | refine qkd ?_ | refine qka ?_ _)); exact BK263.out) hb); have n1_ := Aside0.mk (below_step (by repeat (first | (with_reducible first | exact HB.out | apply below_alloc | apply qbN | apply qb1 | refine qbs ?_ GE263.out) | exact HB.out)) hb); have n2_ := Aside0.mk (hbox); have n3_ := Aside0.mk ((by rw [hg]; exact (qbz (by repeat (first | (with_reducible first | exact HB.out | apply below_alloc | apply qbN | apply qb1 | refine qbs ?_ GE263.out) | exact HB.out))) : w.heap.size ≤ gb265)); have n4_ := Aside0.mk ((by rw [hg]; exact (qbz (by repeat (first | (with_reducible first | exact HB.out | apply below_alloc | apply qbN | apply qb1 | refine qbs ?_ GE263.out) | exact HB.out))) : w.heap.size ≤ gb265)); have n5_ := Aside0.mk ((by rw [hg]; exact Nat.ne_of_lt (blk_lt (g := gb263) (o := .cells #[.string a0_0, .slice (some ad264) l0_1.length c0_1] 24 (0, 0)) (by (with_reducible repeat (first | refine qkN ?_ _ | refine qkd ?_ | refine qka ?_ _)); exact BK263.out)) : gb263 ≠ gb265)); have n6_ := Aside0.mk ((by rw [hg]; exact Nat.ne_of_gt (blk_lt (g := gb263) (o := .cells #[.string a0_0, .slice (some ad264) l0_1.length c0_1] 24 (0, 0)) (by (with_reducible repeat (first | refine qkN ?_ _ | refine qkd ?_ | refine qka ?_ _)); exact BK263.out)) : gb265 ≠ gb263)); clear BK263; clear HB; have BK263 := n0_; have HB := n1_; have BK265 := n2_; have GW265 := n3_; have GE265 := n4_; have NB263_265 := n5_; have NB265_263 := n6_; clear n0_ n1_ n2_ n3_ n4_ n5_ n6_; clear hb hbox hg; have hnb14 := NB265_263.out; have hnc14 := NB263_265.out; have hcz15_0 : w13.cell? ⟨gb265, 0, none⟩ = some (.string (⟨#[]⟩ : ByteArray)) := (qkc BK265.out 0).trans rfl; have hcz15_1 : w13.cell? ⟨gb265, 1, none⟩ = some (.int .i64 0) := (qkc BK265.out 1).trans rfl; have hcz15_2 : w13.cell? ⟨gb265, 2, none⟩ = some (.bool false) := (qkc BK265.out 2).trans rfl; have hcz15_3 : w13.cell? ⟨gb265, 3, none⟩ = some (.bool false) := (qkc BK265.out 3).trans rfl; have hfz15_0 := qkf BK265.out 0; have hfz15_1 := qkf BK265.out 1; have hfz15_2 := qkf BK265.out 2; have hfz15_3 := qkf BK265.out 3; have p266 : 0 ≤ (x5_1 : Int) := ode_; have q266 : x5_1 < (l1.length : Int) := ode_; obtain ⟨ad266, e266, hx266_0, hx266_1, hx266_2, hx266_3⟩ := at_T38 HR1.out x5_1 p266 q266; cases e266; have hn266_0 : ad266.block ≠ gb265 := Nat.ne_of_lt (Nat.lt_of_lt_of_le (by have := World.block_lt_of_cell? _ _ hx266_0; first | rwa [qab] at this | exact this) GW265.out); have hn266_1 : ad266.block ≠ gb265 := Nat.ne_of_lt (Nat.lt_of_lt_of_le (by have := World.block_lt_of_cell? _ _ hx266_0; first | rwa [qab] at this | exact this) GW265.out); have hn266_2 : ad266.block ≠ gb265 := Nat.ne_of_lt (Nat.lt_of_lt_of_le (by have := World.block_lt_of_cell? _ _ hx266_0; first | rwa [qab] at this | exact this) GW265.out); have hn266_3 : ad266.block ≠ gb265 := Nat.ne_of_lt (Nat.lt_of_lt_of_le (by have := World.block_lt_of_cell? _ _ hx266_0; first | rwa [qab] at this | exact this) GW265.out); replace hx266_0 := (HB.out.cell (World.block_lt_of_cell? w _ hx266_0)).trans hx266_0; replace hx266_1 := (HB.out.cell (World.block_lt_of_cell? w _ hx266_1)).trans hx266_1; replace hx266_2 := (HB.out.cell (World.block_lt_of_cell? w _ hx266_2)).trans hx266_2; replace hx266_3 := (HB.out.cell (World.block_lt_of_cell? w _ hx266_3)).trans hx266_3; replace hx266_0 := (cell_far (p := ⟨gb265, 0, none⟩) (by first | (rw [qab]; exact hn266_0) | (show (Addr.add _ _).block ≠ _; rw [qab]; exact hn266_0) | exact hn266_0) (.string ((rd_T36 l0_1 x5_1).f0))).trans hx266_0; replace hx266_1 := (cell_far (p := ⟨gb265, 0, none⟩) (by first | (rw [qab]; exact hn266_0) | (show (Addr.add _ _).block ≠ _; rw [qab]; exact hn266_0) | exact hn266_0) (.string ((rd_T36 l0_1 x5_1).f0))).trans hx266_1; replace hx266_2 := (cell_far (p := ⟨gb265, 0, none⟩) (by first | (rw [qab]; exact hn266_0) | (show (Addr.add _ _).block ≠ _; rw [qab]; exact hn266_0) | exact hn266_0) (.string ((rd_T36 l0_1 x5_1).f0))).trans hx266_2; replace hx266_3 := (cell_far (p := ⟨gb265, 0, none⟩) (by first | (rw [qab]; exact hn266_0) | (show (Addr.add _ _).block ≠ _; rw [qab]; exact hn266_0) | exact hn266_0) (.string ((rd_T36 l0_1 x5_1).f0))).trans hx266_3; replace hx266_0 := (cell_far (p := ⟨gb265, 1, none⟩) (by first | (rw [qab]; exact hn266_1) | (show (Addr.add _ _).block ≠ _; rw [qab]; exact hn266_1) | exact hn266_1) (.int .i64 ((rd_T36 l0_1 x5_1).f1))).trans hx266_0; replace hx266_1 := (cell_far (p := ⟨gb265, 1, none⟩) (by first | (rw [qab]; exact hn266_1) | (show (Addr.add _ _).block ≠ _; rw [qab]; exact hn266_1) | exact hn266_1) (.int .i64 ((rd_T36 l0_1 x5_1).f1))).trans hx266_1; replace hx266_2 := (cell_far (p := ⟨gb265, 1, none⟩) (by first | (rw [qab]; exact hn266_1) | (show (Addr.add _ _).block ≠ _; rw [qab]; exact hn266_1) | exact hn266_1) (.int .i64 ((rd_T36 l0_1 x5_1).f1))).trans hx266_2; replace hx266_3 := (cell_far (p := ⟨gb265, 1, none⟩) (by first | (rw [qab]; exact hn266_1) | (show (Addr.add _ _).block ≠ _; rw [qab]; exact hn266_1) | exact hn266_1) (.int .i64 ((rd_T36 l0_1 x5_1).f1))).trans hx266_3; replace hx266_0 := (cell_far (p := ⟨gb265, 2, none⟩) (by first | (rw [qab]; exact hn266_2) | (show (Addr.add _ _).block ≠ _; rw [qab]; exact hn266_2) | exact hn266_2) (.bool ((rd_T36 l0_1 x5_1).f2))).trans hx266_0; replace hx266_1 := (cell_far (p := ⟨gb265, 2, none⟩) (by first | (rw [qab]; exact hn266_2) | (show (Addr.add _ _).block ≠ _; rw [qab]; exact hn266_2) | exact hn266_2) (.bool ((rd_T36 l0_1 x5_1).f2))).trans hx266_1; replace hx266_2 := (cell_far (p := ⟨gb265, 2, none⟩) (by first | (rw [qab]; exact hn266_2) | (show (Addr.add _ _).block ≠ _; rw [qab]; exact hn266_2) | exact hn266_2) (.bool ((rd_T36 l0_1 x5_1).f2))).trans hx266_2; replace hx266_3 := (cell_far (p := ⟨gb265, 2, none⟩) (by first | (rw [qab]; exact hn266_2) | (show (Addr.add _ _).block ≠ _; rw [qab]; exact hn266_2) | exact hn266_2) (.bool ((rd_T36 l0_1 x5_1).f2))).trans hx266_3; replace hx266_0 := (cell_far (p := ⟨gb265, 3, none⟩) (by first | (rw [qab]; exact hn266_3) | (show (Addr.add _ _).block ≠ _; rw [qab]; exact hn266_3) | exact hn266_3) (.bool ((rd_T36 l0_1 x5_1).f3))).trans hx266_0; replace hx266_1 := (cell_far (p := ⟨gb265, 3, none⟩) (by first | (rw [qab]; exact hn266_3) | (show (Addr.add _ _).block ≠ _; rw [qab]; exact hn266_3) | exact hn266_3) (.bool ((rd_T36 l0_1 x5_1).f3))).trans hx266_1; replace hx266_2 := (cell_far (p := ⟨gb265, 3, none⟩) (by first | (rw [qab]; exact hn266_3) | (show (Addr.add _ _).block ≠ _; rw [qab]; exact hn266_3) | exact hn266_3) (.bool ((rd_T36 l0_1 x5_1).f3))).trans hx266_2; replace hx266_3 := (cell_far (p := ⟨gb265, 3, none⟩) (by first | (rw [qab]; exact hn266_3) | (show (Addr.add _ _).block ≠ _; rw [qab]; exact hn266_3) | exact hn266_3) (.bool ((rd_T36 l0_1 x5_1).f3))).trans hx266_3; (try have hy266_0 := fun (n_ : Nat) => (show ((((((w13.drewN n_).setCell ⟨gb265, 0, none⟩ (.string ((rd_T36 l0_1 x5_1).f0))).setCell ⟨gb265, 1, none⟩ (.int .i64 ((rd_T36 l0_1 x5_1).f1))).setCell ⟨gb265, 2, none⟩ (.bool ((rd_T36 l0_1 x5_1).f2))).setCell ⟨gb265, 3, none⟩ (.bool ((rd_T36 l0_1 x5_1).f3)))).cell? _ = some _ from hx266_0)); (try have hy266_1 := fun (n_ : Nat) => (show ((((((w13.drewN n_).setCell ⟨gb265, 0, none⟩ (.string ((rd_T36 l0_1 x5_1).f0))).setCell ⟨gb265, 1, none⟩ (.int .i64 ((rd_T36 l0_1 x5_1).f1))).setCell ⟨gb265, 2, none⟩ (.bool ((rd_T36 l0_1 x5_1).f2))).setCell ⟨gb265, 3, none⟩ (.bool ((rd_T36 l0_1 x5_1).f3)))).cell? _ = some _ from hx266_1)); (try have hy266_2 := fun (n_ : Nat) => (show ((((((w13.drewN n_).setCell ⟨gb265, 0, none⟩ (.string ((rd_T36 l0_1 x5_1).f0))).setCell ⟨gb265, 1, none⟩ (.int .i64 ((rd_T36 l0_1 x5_1).f1))).setCell ⟨gb265, 2, none⟩ (.bool ((rd_T36 l0_1 x5_1).f2))).setCell ⟨gb265, 3, none⟩ (.bool ((rd_T36 l0_1 x5_1).f3)))).cell? _ = some _ from hx266_2)); (try have hy266_3 := fun (n_ : Nat) => (show ((((((w13.drewN n_).setCell ⟨gb265, 0, none⟩ (.string ((rd_T36 l0_1 x5_1).f0))).setCell ⟨gb265, 1, none⟩ (.int .i64 ((rd_T36 l0_1 x5_1).f1))).setCell ⟨gb265, 2, none⟩ (.bool ((rd_T36 l0_1 x5_1).f2))).setCell ⟨gb265, 3, none⟩ (.bool ((rd_T36 l0_1 x5_1).f3)))).cell? _ = some _ from hx266_3)); clear hn266_0; clear hn266_1; clear hn266_2; clear hn266_3; replace p266 := eq_true p266; replace q266 := eq_true q266) | (go_at_call 71; (with_reducible refine (barbicanref05_Valid.calls k1 ((r8 l1 x5_1).f0) ((r8 l1 x5_1).f1) ((r8 l1 x5_1).f2) ((r8 l1 x5_1).f3) t267 _ A9.out).mono ?_); rintro e w16 ⟨rfl, hb⟩; have n0_ := Aside0.mk (qkb (g := gb263) (o := .cells #[.string a0_0, .slice (some ad264) l0_1.length c0_1] 24 (0, 0)) (by (with_reducible repeat (first | refine qkN ?_ _ | refine qkd ?_ | refine qka ?_ _)); refine qkr ?_ NB263_265.out _; (with_reducible repeat (first | refine qkN ?_ _ | refine qkd ?_ | refine qka ?_ _)); refine qkr ?_ NB263_265.out _; (with_reducible repeat (first | refine qkN ?_ _ | refine qkd ?_ | refine qka ?_ _)); refine qkr ?_ NB263_265.out _; (with_reducible repeat (first | refine qkN ?_ _ | refine qkd ?_ | refine qka ?_ _)); refine qkr ?_ NB263_265.out _; (with_reducible repeat (first | refine qkN ?_ _ | refine qkd ?_ | refine qka ?_ _)); exact BK263.out) hb); have n1_ := Aside0.mk (qkb (g := gb265) (o := .cells #[.string ((rd_T36 l0_1 x5_1).f0), .int .i64 ((rd_T36 l0_1 x5_1).f1), .bool ((rd_T36 l0_1 x5_1).f2), .bool ((rd_T36 l0_1 x5_1).f3)] 36 (0, 0)) (by (with_reducible repeat (first | refine qkN ?_ _ | refine qkd ?_ | refine qka ?_ _)); refine qkp (cs := #[.string ((rd_T36 l0_1 x5_1).f0), .int .i64 ((rd_T36 l0_1 x5_1).f1), .bool ((rd_T36 l0_1 x5_1).f2), .bool false]) ?_ 3 _ rfl; (with_reducible repeat (first | refine qkN ?_ _ | refine qkd ?_ | refine qka ?_ _)); refine qkp (cs := #[.string ((rd_T36 l0_1 x5_1).f0), .int .i64 ((rd_T36 l0_1 x5_1).f1), .bool false, .bool false]) ?_ 2 _ rfl; (with_reducible repeat (first | refine qkN ?_ _ | refine qkd ?_ | refine qka ?_ _)); refine qkp (cs := #[.string ((rd_T36 l0_1 x5_1).f0), .int .i64 0, .bool false, .bool false]) ?_ 1 _ rfl; (with_reducible repeat (first | refine qkN ?_ _ | refine qkd ?_ | refine qka ?_ _)); refine qkp (cs := #[.string (⟨#[]⟩ : ByteArray), .int .i64 0, .bool false, .bool false]) ?_ 0 _ rfl; (with_reducible repeat (first | refine qkN ?_ _ | refine qkd ?_ | refine qka ?_ _)); exact BK265.out) hb); have n2_ := Aside0.mk (below_step (by repeat (first | (with_reducible first | exact HB.out | apply below_alloc | apply qbN | apply qb1 | refine qbs ?_ GE263.out | refine qbs ?_ GE265.out) | exact HB.out)) hb); clear BK263; clear BK265; clear HB; have BK263 := n0_; have BK265 := n1_; have HB := n2_; clear n0_ n1_ n2_; (try clear hb); (try clear hb2); (try clear hk); (try clear hi))); go_upto_region 10 with (first | ((with_reducible refine qgd (N := 6) rfl ?_); refine qbe ?hg (N := 6) ?hd (cs := #[.string (⟨#[]⟩ : ByteArray), .int .i64 0, .bool false, .bool false]) (t := 36) ?hr ?_; (case hd => rfl); (case hg => rfl); (case hr => first | (go_simp; done) | (go_simp; rfl)); intro gb265 hg w13 hbox hb; have n0_ := Aside0.mk (qkb (g := gb263) (o := .cells #[.string a0_0, .slice (some ad264) l0_1.length c0_1] 24 (0, 0)) (by (with_reducible repeat (first | refine qkN ?_ _ | refine qkd ?_ | refine qka ?_ _)); exact BK263.out) hb); have n1_ := Aside0.mk (below_step (by repeat (first | (with_reducible first | exact HB.out | apply below_alloc | apply qbN | apply qb1 | refine qbs ?_ GE263.out) | exact HB.out)) hb); have n2_ := Aside0.mk (hbox); have n3_ := Aside0.mk ((by rw [hg]; exact (qbz (by repeat (first | (with_reducible first | exact HB.out | apply below_alloc | apply qbN | apply qb1 | refine qbs ?_ GE263.out) | exact HB.out))) : w.heap.size ≤ gb265)); have n4_ := Aside0.mk ((by rw [hg]; exact (qbz (by repeat (first | (with_reducible first | exact HB.out | apply below_alloc | apply qbN | apply qb1 | refine qbs ?_ GE263.out) | exact HB.out))) : w.heap.size ≤ gb265)); have n5_ := Aside0.mk ((by rw [hg]; exact Nat.ne_of_lt (blk_lt (g := gb263) (o := .cells #[.string a0_0, .slice (some ad264) l0_1.length c0_1] 24 (0, 0)) (by (with_reducible repeat (first | refine qkN ?_ _ | refine qkd ?_ | refine qka ?_ _)); exact BK263.out)) : gb263 ≠ gb265)); have n6_ := Aside0.mk ((by rw [hg]; exact Nat.ne_of_gt (blk_lt (g := gb263) (o := .cells #[.string a0_0, .slice (some ad264) l0_1.length c0_1] 24 (0, 0)) (by (with_reducible repeat (first | refine qkN ?_ _ | refine qkd ?_ | refine qka ?_ _)); exact BK263.out)) : gb265 ≠ gb263)); clear BK263; clear HB; have BK263 := n0_; have HB := n1_; have BK265 := n2_; have GW265 := n3_; have GE265 := n4_; have NB263_265 := n5_; have NB265_263 := n6_; clear n0_ n1_ n2_ n3_ n4_ n5_ n6_; clear hb hbox hg; have hnb14 := NB265_263.out; have hnc14 := NB263_265.out; have hcz15_0 : w13.cell? ⟨gb265, 0, none⟩ = some (.string (⟨#[]⟩ : ByteArray)) := (qkc BK265.out 0).trans rfl; have hcz15_1 : w13.cell? ⟨gb265, 1, none⟩ = some (.int .i64 0) := (qkc BK265.out 1).trans rfl; have hcz15_2 : w13.cell? ⟨gb265, 2, none⟩ = some (.bool false) := (qkc BK265.out 2).trans rfl; have hcz15_3 : w13.cell? ⟨gb265, 3, none⟩ = some (.bool false) := (qkc BK265.out 3).trans rfl; have hfz15_0 := qkf BK265.out 0; have hfz15_1 := qkf BK265.out 1; have hfz15_2 := qkf BK265.out 2; have hfz15_3 := qkf BK265.out 3; have p266 : 0 ≤ (x5_1 : Int) := ode_; have q266 : x5_1 < (l1.length : Int) := ode_; obtain ⟨ad266, e266, hx266_0, hx266_1, hx266_2, hx266_3⟩ := at_T38 HR1.out x5_1 p266 q266; cases e266; have hn266_0 : ad266.block ≠ gb265 := Nat.ne_of_lt (Nat.lt_of_lt_of_le (by have := World.block_lt_of_cell? _ _ hx266_0; first | rwa [qab] at this | exact this) GW265.out); have hn266_1 : ad266.block ≠ gb265 := Nat.ne_of_lt (Nat.lt_of_lt_of_le (by have := World.block_lt_of_cell? _ _ hx266_0; first | rwa [qab] at this | exact this) GW265.out); have hn266_2 : ad266.block ≠ gb265 := Nat.ne_of_lt (Nat.lt_of_lt_of_le (by have := World.block_lt_of_cell? _ _ hx266_0; first | rwa [qab] at this | exact this) GW265.out); have hn266_3 : ad266.block ≠ gb265 := Nat.ne_of_lt (Nat.lt_of_lt_of_le (by have := World.block_lt_of_cell? _ _ hx266_0; first | rwa [qab] at this | exact this) GW265.out); replace hx266_0 := (HB.out.cell (World.block_lt_of_cell? w _ hx266_0)).trans hx266_0; replace hx266_1 := (HB.out.cell (World.block_lt_of_cell? w _ hx266_1)).trans hx266_1; replace hx266_2 := (HB.out.cell (World.block_lt_of_cell? w _ hx266_2)).trans hx266_2; replace hx266_3 := (HB.out.cell (World.block_lt_of_cell? w _ hx266_3)).trans hx266_3; replace hx266_0 := (cell_far (p := ⟨gb265, 0, none⟩) (by first | (rw [qab]; exact hn266_0) | (show (Addr.add _ _).block ≠ _; rw [qab]; exact hn266_0) | exact hn266_0) (.string ((rd_T36 l0_1 x5_1).f0))).trans hx266_0; replace hx266_1 := (cell_far (p := ⟨gb265, 0, none⟩) (by first | (rw [qab]; exact hn266_0) | (show (Addr.add _ _).block ≠ _; rw [qab]; exact hn266_0) | exact hn266_0) (.string ((rd_T36 l0_1 x5_1).f0))).trans hx266_1; replace hx266_2 := (cell_far (p := ⟨gb265, 0, none⟩) (by first | (rw [qab]; exact hn266_0) | (show (Addr.add _ _).block ≠ _; rw [qab]; exact hn266_0) | exact hn266_0) (.string ((rd_T36 l0_1 x5_1).f0))).trans hx266_2; replace hx266_3 := (cell_far (p := ⟨gb265, 0, none⟩) (by first | (rw [qab]; exact hn266_0) | (show (Addr.add _ _).block ≠ _; rw [qab]; exact hn266_0) | exact hn266_0) (.string ((rd_T36 l0_1 x5_1).f0))).trans hx266_3; replace hx266_0 := (cell_far (p := ⟨gb265, 1, none⟩) (by first | (rw [qab]; exact hn266_1) | (show (Addr.add _ _).block ≠ _; rw [qab]; exact hn266_1) | exact hn266_1) (.int .i64 ((rd_T36 l0_1 x5_1).f1))).trans hx266_0; replace hx266_1 := (cell_far (p := ⟨gb265, 1, none⟩) (by first | (rw [qab]; exact hn266_1) | (show (Addr.add _ _).block ≠ _; rw [qab]; exact hn266_1) | exact hn266_1) (.int .i64 ((rd_T36 l0_1 x5_1).f1))).trans hx266_1; replace hx266_2 := (cell_far (p := ⟨gb265, 1, none⟩) (by first | (rw [qab]; exact hn266_1) | (show (Addr.add _ _).block ≠ _; rw [qab]; exact hn266_1) | exact hn266_1) (.int .i64 ((rd_T36 l0_1 x5_1).f1))).trans hx266_2; replace hx266_3 := (cell_far (p := ⟨gb265, 1, none⟩) (by first | (rw [qab]; exact hn266_1) | (show (Addr.add _ _).block ≠ _; rw [qab]; exact hn266_1) | exact hn266_1) (.int .i64 ((rd_T36 l0_1 x5_1).f1))).trans hx266_3; replace hx266_0 := (cell_far (p := ⟨gb265, 2, none⟩) (by first | (rw [qab]; exact hn266_2) | (show (Addr.add _ _).block ≠ _; rw [qab]; exact hn266_2) | exact hn266_2) (.bool ((rd_T36 l0_1 x5_1).f2))).trans hx266_0; replace hx266_1 := (cell_far (p := ⟨gb265, 2, none⟩) (by first | (rw [qab]; exact hn266_2) | (show (Addr.add _ _).block ≠ _; rw [qab]; exact hn266_2) | exact hn266_2) (.bool ((rd_T36 l0_1 x5_1).f2))).trans hx266_1; replace hx266_2 := (cell_far (p := ⟨gb265, 2, none⟩) (by first | (rw [qab]; exact hn266_2) | (show (Addr.add _ _).block ≠ _; rw [qab]; exact hn266_2) | exact hn266_2) (.bool ((rd_T36 l0_1 x5_1).f2))).trans hx266_2; replace hx266_3 := (cell_far (p := ⟨gb265, 2, none⟩) (by first | (rw [qab]; exact hn266_2) | (show (Addr.add _ _).block ≠ _; rw [qab]; exact hn266_2) | exact hn266_2) (.bool ((rd_T36 l0_1 x5_1).f2))).trans hx266_3; replace hx266_0 := (cell_far (p := ⟨gb265, 3, none⟩) (by first | (rw [qab]; exact hn266_3) | (show (Addr.add _ _).block ≠ _; rw [qab]; exact hn266_3) | exact hn266_3) (.bool ((rd_T36 l0_1 x5_1).f3))).trans hx266_0; replace hx266_1 := (cell_far (p := ⟨gb265, 3, none⟩) (by first | (rw [qab]; exact hn266_3) | (show (Addr.add _ _).block ≠ _; rw [qab]; exact hn266_3) | exact hn266_3) (.bool ((rd_T36 l0_1 x5_1).f3))).trans hx266_1; replace hx266_2 := (cell_far (p := ⟨gb265, 3, none⟩) (by first | (rw [qab]; exact hn266_3) | (show (Addr.add _ _).block ≠ _; rw [qab]; exact hn266_3) | exact hn266_3) (.bool ((rd_T36 l0_1 x5_1).f3))).trans hx266_2; replace hx266_3 := (cell_far (p := ⟨gb265, 3, none⟩) (by first | (rw [qab]; exact hn266_3) | (show (Addr.add _ _).block ≠ _; rw [qab]; exact hn266_3) | exact hn266_3) (.bool ((rd_T36 l0_1 x5_1).f3))).trans hx266_3; (try have hy266_0 := fun (n_ : Nat) => (show ((((((w13.drewN n_).setCell ⟨gb265, 0, none⟩ (.string ((rd_T36 l0_1 x5_1).f0))).setCell ⟨gb265, 1, none⟩ (.int .i64 ((rd_T36 l0_1 x5_1).f1))).setCell ⟨gb265, 2, none⟩ (.bool ((rd_T36 l0_1 x5_1).f2))).setCell ⟨gb265, 3, none⟩ (.bool ((rd_T36 l0_1 x5_1).f3)))).cell? _ = some _ from hx266_0)); (try have hy266_1 := fun (n_ : Nat) => (show ((((((w13.drewN n_).setCell ⟨gb265, 0, none⟩ (.string ((rd_T36 l0_1 x5_1).f0))).setCell ⟨gb265, 1, none⟩ (.int .i64 ((rd_T36 l0_1 x5_1).f1))).setCell ⟨gb265, 2, none⟩ (.bool ((rd_T36 l0_1 x5_1).f2))).setCell ⟨gb265, 3, none⟩ (.bool ((rd_T36 l0_1 x5_1).f3)))).cell? _ = some _ from hx266_1)); (try have hy266_2 := fun (n_ : Nat) => (show ((((((w13.drewN n_).setCell ⟨gb265, 0, none⟩ (.string ((rd_T36 l0_1 x5_1).f0))).setCell ⟨gb265, 1, none⟩ (.int .i64 ((rd_T36 l0_1 x5_1).f1))).setCell ⟨gb265, 2, none⟩ (.bool ((rd_T36 l0_1 x5_1).f2))).setCell ⟨gb265, 3, none⟩ (.bool ((rd_T36 l0_1 x5_1).f3)))).cell? _ = some _ from hx266_2)); (try have hy266_3 := fun (n_ : Nat) => (show ((((((w13.drewN n_).setCell ⟨gb265, 0, none⟩ (.string ((rd_T36 l0_1 x5_1).f0))).setCell ⟨gb265, 1, none⟩ (.int .i64 ((rd_T36 l0_1 x5_1).f1))).setCell ⟨gb265, 2, none⟩ (.bool ((rd_T36 l0_1 x5_1).f2))).setCell ⟨gb265, 3, none⟩ (.bool ((rd_T36 l0_1 x5_1).f3)))).cell? _ = some _ from hx266_3)); clear hn266_0; clear hn266_1; clear hn266_2; clear hn266_3; replace p266 := eq_true p266; replace q266 := eq_true q266) | (go_at_call 71; (with_reducible refine (barbicanref05_Valid.calls k1 ((r8 l1 x5_1).f0) ((r8 l1 x5_1).f1) ((r8 l1 x5_1).f2) ((r8 l1 x5_1).f3) t267 _ A9.out).mono ?_); rintro e w16 ⟨rfl, hb⟩; have n0_ := Aside0.mk (qkb (g := gb263) (o := .cells #[.string a0_0, .slice (some ad264) l0_1.length c0_1] 24 (0, 0)) (by (with_reducible repeat (first | refine qkN ?_ _ | refine qkd ?_ | refine qka ?_ _)); refine qkr ?_ NB263_265.out _; (with_reducible repeat (first | refine qkN ?_ _ | refine qkd ?_ | refine qka ?_ _)); refine qkr ?_ NB263_265.out _; (with_reducible repeat (first | refine qkN ?_ _ | refine qkd ?_ | refine qka ?_ _)); refine qkr ?_ NB263_265.out _; (with_reducible repeat (first | refine qkN ?_ _ | refine qkd ?_ | refine qka ?_ _)); refine qkr ?_ NB263_265.out _; (with_reducible repeat (first | refine qkN ?_ _ | refine qkd ?_ | refine qka ?_ _)); exact BK263.out) hb); have n1_ := Aside0.mk (qkb (g := gb265) (o := .cells #[.string ((rd_T36 l0_1 x5_1).f0), .int .i64 ((rd_T36 l0_1 x5_1).f1), .bool ((rd_T36 l0_1 x5_1).f2), .bool ((rd_T36 l0_1 x5_1).f3)] 36 (0, 0)) (by (with_reducible repeat (first | refine qkN ?_ _ | refine qkd ?_ | refine qka ?_ _)); refine qkp (cs := #[.string ((rd_T36 l0_1 x5_1).f0), .int .i64 ((rd_T36 l0_1 x5_1).f1), .bool ((rd_T36 l0_1 x5_1).f2), .bool false]) ?_ 3 _ rfl; (with_reducible repeat (first | refine qkN ?_ _ | refine qkd ?_ | refine qka ?_ _)); refine qkp (cs := #[.string ((rd_T36 l0_1 x5_1).f0), .int .i64 ((rd_T36 l0_1 x5_1).f1), .bool false, .bool false]) ?_ 2 _ rfl; (with_reducible repeat (first | refine qkN ?_ _ | refine qkd ?_ | refine qka ?_ _)); refine qkp (cs := #[.string ((rd_T36 l0_1 x5_1).f0), .int .i64 0, .bool false, .bool false]) ?_ 1 _ rfl; (with_reducible repeat (first | refine qkN ?_ _ | refine qkd ?_ | refine qka ?_ _)); refine qkp (cs := #[.string (⟨#[]⟩ : ByteArray), .int .i64 0, .bool false, .bool false]) ?_ 0 _ rfl; (with_reducible repeat (first | refine qkN ?_ _ | refine qkd ?_ | refine qka ?_ _)); exact BK265.out) hb); have n2_ := Aside0.mk (below_step (by repeat (first | (with_reducible first | exact HB.out | apply below_alloc | apply qbN | apply qb1 | refine qbs ?_ GE263.out | refine qbs ?_ GE265.out) | exact HB.out)) hb); clear BK263; clear BK265; clear HB; have BK263 := n0_; have BK265 := n1_; have HB := n2_; clear n0_ n1_ n2_; (try clear hb); (try clear hb2); (try clear hk); (try clear hi))))
        (try simp only [Act.put, List.setIfInBounds_toArray, List.set_cons_zero, List.set_cons_succ])
        go_cut [34] (fun v34 wc => ∃ (kq : Nat) (x34_10 : Bool), v34 = .bool x34_10 ∧ Aside0 (barbicanref14_Check.j1 kq l1 x5_1 x34_10 a0_0 l0_1 ((rd_T36 l0_1 x5_1).f0) ((rd_T36 l0_1 x5_1).f1) ((rd_T36 l0_1 x5_1).f2) ((rd_T36 l0_1 x5_1).f3) = some r) ∧ Aside0 (kq ≤ k1) ∧ Aside0 (wc.heap[gb263]? = some (.cells #[.string a0_0, (.slice (some ad264) l0_1.length c0_1)] 24 (0, 0))) ∧ Aside0 (wc.heap[gb265]? = some (.cells #[.string ((rd_T36 l0_1 x5_1).f0), .int .i64 ((rd_T36 l0_1 x5_1).f1), .bool ((rd_T36 l0_1 x5_1).f2), .bool ((rd_T36 l0_1 x5_1).f3)] 36 (0, 0))) ∧ Aside0 (Below w.heap.size w wc))
        case first =>
         have H := HC11.out
         clear HC11
         by_cases c17 : ((r8 l1 x5_1).f0) = 0
         ·rw [if_pos c17] at H
          have c17b0 : (((r8 l1 x5_1).f0) == 0) = true := beq_iff_eq.mpr c17
          have c17b1 : (((r8 l1 x5_1).f0) != 0) = false := bne_eq_false_iff_eq.mpr c17
          clear c17
          (first | rw [c17b0] | (simp only [i64_w, i32_w]; rw [c17b0]) | skip)
          obtain ⟨bq18, hbq18⟩ : ∃ b_ : Bool, b_ = ((rd_T36 l0_1 x5_1).f2) := ⟨_, rfl⟩
          replace H : (if bq18 = true then (barbicanref14_Check.j1 k1 l1 x5_1 true a0_0 l0_1 ((rd_T36 l0_1 x5_1).f0) ((rd_T36 l0_1 x5_1).f1) bq18 ((rd_T36 l0_1 x5_1).f3)) else (barbicanref14_Check.j1 k1 l1 x5_1 (!((rd_T36 l0_1 x5_1).f3)) a0_0 l0_1 ((rd_T36 l0_1 x5_1).f0) ((rd_T36 l0_1 x5_1).f1) bq18 ((rd_T36 l0_1 x5_1).f3))) = some r := by rw [← hbq18] at H; exact H
          (try rw [← hbq18] at BK265)
          have Nbq18 := Aside0.mk hbq18
          clear hbq18
          by_cases c19 : bq18 = true
          ·subst c19
           have H1 : (barbicanref14_Check.j1 k1 l1 x5_1 true a0_0 l0_1 ((rd_T36 l0_1 x5_1).f0) ((rd_T36 l0_1 x5_1).f1) true ((rd_T36 l0_1 x5_1).f3)) = some r := by rw [if_pos rfl] at H; exact H
           clear H
           have H := H1
           clear H1
           have H' := Aside0.mk H
           clear H
           have p268 : 0 ≤ (x5_1 : Int) := ode_
           have q268 : x5_1 < (l1.length : Int) := ode_
           obtain ⟨ad268, e268, hx268_0, hx268_1, hx268_2, hx268_3⟩ := at_T38 HR1.out x5_1 p268 q268
           (try rw [← Nbq18.out] at hx268_3)
           obtain rfl : ad266 = ad268 := (by injection e268)
           replace hx268_0 := (HB.out.cell (World.block_lt_of_cell? w _ hx268_0)).trans hx268_0
           replace hx268_1 := (HB.out.cell (World.block_lt_of_cell? w _ hx268_1)).trans hx268_1
           replace hx268_2 := (HB.out.cell (World.block_lt_of_cell? w _ hx268_2)).trans hx268_2
           replace hx268_3 := (HB.out.cell (World.block_lt_of_cell? w _ hx268_3)).trans hx268_3
           replace p268 := eq_true p268
           replace q268 := eq_true q268
           have hnb20 := NB265_263.out
           have hnc20 := NB263_265.out
           have hcz21_0 : w16.cell? ⟨gb265, 0, none⟩ = some (.string ((rd_T36 l0_1 x5_1).f0)) := (qkc BK265.out 0).trans rfl
           have hcz21_1 : w16.cell? ⟨gb265, 1, none⟩ = some (.int .i64 ((rd_T36 l0_1 x5_1).f1)) := (qkc BK265.out 1).trans rfl
           have hcz21_2 : w16.cell? ⟨gb265, 2, none⟩ = some (.bool true) := (qkc BK265.out 2).trans rfl
           have hcz21_3 : w16.cell? ⟨gb265, 3, none⟩ = some (.bool ((rd_T36 l0_1 x5_1).f3)) := (qkc BK265.out 3).trans rfl
           have hfz21_0 := qkf BK265.out 0
           have hfz21_1 := qkf BK265.out 1
           have hfz21_2 := qkf BK265.out 2
           have hfz21_3 := qkf BK265.out 3
           go_wp2
           repeat (go_quiet (fail); try go_wp2)
           refine Met.intro ?_
           go_step
           (repeat apply Exists.intro)
           refine ⟨?rel, ?frm⟩
           case frm => first | rfl | (simp only [c3b0, c3b1, c3b2, c6b0, c7b0, c8b0, c10b0, c10b1, c17b0, c17b1]; rfl) | (simp only [c3b0, c3b1, c3b2, c6b0, c7b0, c8b0, c10b0, c10b1, c17b0, c17b1]; first | done | rfl)
           case rel => (try rw [← Nbq18.out]); exact ⟨_, (true), (by first | rfl | (simp; done) | (simp [*]; done)), H', ⟨by have := HK1.out; first | omega | exact Nat.le_refl _⟩, ⟨by (with_reducible repeat (first | refine qkN ?_ _ | refine qkd ?_ | refine qka ?_ _)); exact BK263.out⟩, ⟨by (with_reducible repeat (first | refine qkN ?_ _ | refine qkd ?_ | refine qka ?_ _)); exact BK265.out⟩, ⟨by repeat (first | (with_reducible first | exact HB.out | apply below_alloc | apply qbN | apply qb1 | refine qbs ?_ GE263.out | refine qbs ?_ GE265.out) | exact HB.out)⟩⟩
          ·replace c19 := Bool.eq_false_iff.mpr c19
           subst c19
           have H1 : (barbicanref14_Check.j1 k1 l1 x5_1 (!((rd_T36 l0_1 x5_1).f3)) a0_0 l0_1 ((rd_T36 l0_1 x5_1).f0) ((rd_T36 l0_1 x5_1).f1) false ((rd_T36 l0_1 x5_1).f3)) = some r := by rw [if_neg (show ¬ (false = true) by decide)] at H; exact H
           clear H
           have H := H1
           clear H1
           have H' := Aside0.mk H
           clear H
           have p268 : 0 ≤ (x5_1 : Int) := ode_
           have q268 : x5_1 < (l1.length : Int) := ode_
           obtain ⟨ad268, e268, hx268_0, hx268_1, hx268_2, hx268_3⟩ := at_T38 HR1.out x5_1 p268 q268
           (try rw [← Nbq18.out] at hx268_3)
           obtain rfl : ad266 = ad268 := (by injection e268)
           replace hx268_0 := (HB.out.cell (World.block_lt_of_cell? w _ hx268_0)).trans hx268_0
           replace hx268_1 := (HB.out.cell (World.block_lt_of_cell? w _ hx268_1)).trans hx268_1
           replace hx268_2 := (HB.out.cell (World.block_lt_of_cell? w _ hx268_2)).trans hx268_2
           replace hx268_3 := (HB.out.cell (World.block_lt_of_cell? w _ hx268_3)).trans hx268_3
           replace p268 := eq_true p268
           replace q268 := eq_true q268
           have hnb22 := NB265_263.out
           have hnc22 := NB263_265.out
           have hcz23_0 : w16.cell? ⟨gb265, 0, none⟩ = some (.string ((rd_T36 l0_1 x5_1).f0)) := (qkc BK265.out 0).trans rfl
           have hcz23_1 : w16.cell? ⟨gb265, 1, none⟩ = some (.int .i64 ((rd_T36 l0_1 x5_1).f1)) := (qkc BK265.out 1).trans rfl
           have hcz23_2 : w16.cell? ⟨gb265, 2, none⟩ = some (.bool false) := (qkc BK265.out 2).trans rfl
           have hcz23_3 : w16.cell? ⟨gb265, 3, none⟩ = some (.bool ((rd_T36 l0_1 x5_1).f3)) := (qkc BK265.out 3).trans rfl
           have hfz23_0 := qkf BK265.out 0
           have hfz23_1 := qkf BK265.out 1
           have hfz23_2 := qkf BK265.out 2
           have hfz23_3 := qkf BK265.out 3
           go_wp2
           repeat (go_quiet (fail); try go_wp2)
           refine Met.intro ?_
           go_step
           (repeat apply Exists.intro)
           refine ⟨?rel, ?frm⟩
           case frm => first | rfl | (simp only [c3b0, c3b1, c3b2, c6b0, c7b0, c8b0, c10b0, c10b1, c17b0, c17b1]; rfl) | (simp only [c3b0, c3b1, c3b2, c6b0, c7b0, c8b0, c10b0, c10b1, c17b0, c17b1]; first | done | rfl)
           case rel => (try rw [← Nbq18.out]); exact ⟨_, (!((rd_T36 l0_1 x5_1).f3)), (by first | rfl | (simp; done) | (simp [*]; done)), H', ⟨by have := HK1.out; first | omega | exact Nat.le_refl _⟩, ⟨by (with_reducible repeat (first | refine qkN ?_ _ | refine qkd ?_ | refine qka ?_ _)); exact BK263.out⟩, ⟨by (with_reducible repeat (first | refine qkN ?_ _ | refine qkd ?_ | refine qka ?_ _)); exact BK265.out⟩, ⟨by repeat (first | (with_reducible first | exact HB.out | apply below_alloc | apply qbN | apply qb1 | refine qbs ?_ GE263.out | refine qbs ?_ GE265.out) | exact HB.out)⟩⟩
         ·rw [if_neg c17] at H
          have c17b0 : (((r8 l1 x5_1).f0) == 0) = false := beq_eq_false_iff_ne.mpr c17
          have c17b1 : (((r8 l1 x5_1).f0) != 0) = true := bne_iff_ne.mpr c17
          (first | rw [c17b0] | (simp only [i64_w, i32_w]; rw [c17b0]) | skip)
          have H' := Aside0.mk H
          clear H
          have p268 : 0 ≤ (x5_1 : Int) := ode_
          have q268 : x5_1 < (l1.length : Int) := ode_
          obtain ⟨ad268, e268, hx268_0, hx268_1, hx268_2, hx268_3⟩ := at_T38 HR1.out x5_1 p268 q268
          obtain rfl : ad266 = ad268 := (by injection e268)
          replace hx268_0 := (HB.out.cell (World.block_lt_of_cell? w _ hx268_0)).trans hx268_0
          replace hx268_1 := (HB.out.cell (World.block_lt_of_cell? w _ hx268_1)).trans hx268_1
          replace hx268_2 := (HB.out.cell (World.block_lt_of_cell? w _ hx268_2)).trans hx268_2
          replace hx268_3 := (HB.out.cell (World.block_lt_of_cell? w _ hx268_3)).trans hx268_3
          replace p268 := eq_true p268
          replace q268 := eq_true q268
          go_wp2
          repeat (go_quiet (fail); try go_wp2)
          refine Met.intro ?_
          go_step
          (repeat apply Exists.intro)
          refine ⟨?rel, ?frm⟩
          case frm => first | rfl | (simp only [c3b0, c3b1, c3b2, c6b0, c7b0, c8b0, c10b0, c10b1, c17b0, c17b1]; rfl) | (simp only [c3b0, c3b1, c3b2, c6b0, c7b0, c8b0, c10b0, c10b1, c17b0, c17b1]; first | done | rfl)
          case rel => exact ⟨_, (false), (by first | rfl | (simp; done) | (simp [*]; done)), H', ⟨by have := HK1.out; first | omega | exact Nat.le_refl _⟩, ⟨by (with_reducible repeat (first | refine qkN ?_ _ | refine qkd ?_ | refine qka ?_ _)); exact BK263.out⟩, ⟨by (with_reducible repeat (first | refine qkN ?_ _ | refine qkd ?_ | refine qka ?_ _)); exact BK265.out⟩, ⟨by repeat (first | (with_reducible first | exact HB.out | apply below_alloc | apply qbN | apply qb1 | refine qbs ?_ GE263.out | refine qbs ?_ GE265.out) | exact HB.out)⟩⟩
        case rest =>
         clear HC11
         try clear c1
         try clear q1
         try clear c2
         try clear p2
         try clear q2
         try clear hx2
         try clear c3
         try clear c3b0
         try clear c3b1
         try clear c3b2
         try clear c4
         try clear c6
         try clear c6b0
         try clear c7
         try clear c7b0
         try clear c8
         try clear c8b0
         try clear c10
         try clear c10b0
         try clear c10b1
         try clear c14
         try clear c17
         try clear c17b0
         try clear c17b1
         try clear q18
         try clear c19
         try clear c20
         try clear c22
         try clear hcz12_0
         try clear hcz12_1
         try clear hcz15_0
         try clear hcz15_1
         try clear hcz15_2
         try clear hcz15_3
         try clear hcz21_0
         try clear hcz21_1
         try clear hcz21_2
         try clear hcz21_3
         try clear hcz23_0
         try clear hcz23_1
         try clear hcz23_2
         try clear hcz23_3
         try clear hcz5_0
         try clear hcz5_1
         try clear hfz12_0
         try clear hfz12_1
         try clear hfz15_0
         try clear hfz15_1
         try clear hfz15_2
         try clear hfz15_3
         try clear hfz21_0
         try clear hfz21_1
         try clear hfz21_2
         try clear hfz21_3
         try clear hfz23_0
         try clear hfz23_1
         try clear hfz23_2
         try clear hfz23_3
         try clear hfz5_0
         try clear hfz5_1
         try clear hx264_0
         try clear hx264_1
         try clear hx264_2
         try clear hx264_3
         try clear hx266_0
         try clear hx266_1
         try clear hx266_2
         try clear hx266_3
         try clear hx268_0
         try clear hx268_1
         try clear hx268_2
         try clear hx268_3
         try clear p2
         try clear p264
         try clear p266
         try clear p268
         try clear q264
         try clear q266
         try clear q268
         obtain ⟨kq, x34_10, rfl, HA, HJ10, BK263, BK265, HB⟩ := hcut
         cases kq with
         | zero => exact absurd HA.out (by simp [barbicanref14_Check.j1])
         | succ kj10 =>
          have H := HA.out
          clear HA
          simp only [barbicanref14_Check.j1] at H
          by_cases c24 : x34_10 = true
          ·subst c24
           have H1 : (some 33) = some r := by rw [if_pos rfl] at H; exact H
           clear H
           have H := H1
           clear H1
           obtain rfl := Option.some.inj H
           go_wp2
           repeat (go_quiet (fail); try go_wp2)
           go_ret
           exact ⟨by first | rfl | (simp [eWn, eWs] <;> rfl) | (simp [*, eWn, eWs] <;> rfl), by repeat (first | (with_reducible first | exact HB.out | apply below_alloc | apply qbN | apply qb1 | refine qbs ?_ GE263.out | refine qbs ?_ GE265.out) | exact HB.out)⟩
          ·replace c24 := Bool.eq_false_iff.mpr c24
           subst c24
           have H1 : (if 0 ≤ x5_1 then (if x5_1 < (l1.length : Int) then (if ((r8 l1 x5_1).f0) = 0 then (barbicanref14_Check.l0 kj10 l1 (wrap64 (x5_1 + 1)) a0_0 l0_1) else (if ((r8 l1 x5_1).f0) = ((rd_T36 l0_1 x5_1).f1) then (barbicanref14_Check.l0 kj10 l1 (wrap64 (x5_1 + 1)) a0_0 l0_1) else (some 7))) else (none)) else (none)) = some r := by rw [if_neg (show ¬ (false = true) by decide)] at H; exact H
           clear H
           have H := H1
           clear H1
           by_cases c25 : 0 ≤ x5_1
           ·rw [if_pos c25] at H
            have c25b0 : decide (0 ≤ x5_1) = true := decide_eq_true c25
            clear c25
            by_cases c26 : x5_1 < (l1.length : Int)
            ·rw [if_pos c26] at H
             have c26b0 : decide (x5_1 < (l1.length : Int)) = true := decide_eq_true c26
             clear c26
             by_cases c27 : ((r8 l1 x5_1).f0) = 0
             ·rw [if_pos c27] at H
              have c27b0 : (((r8 l1 x5_1).f0) == 0) = true := beq_iff_eq.mpr c27
              have c27b1 : (((r8 l1 x5_1).f0) != 0) = false := bne_eq_false_iff_eq.mpr c27
              clear c27
              have H' := Aside0.mk H
              clear H
              have p269 : 0 ≤ (x5_1 : Int) := ode_
              have q269 : x5_1 < (l1.length : Int) := ode_
              obtain ⟨ad269, e269, hx269_0, hx269_1, hx269_2, hx269_3⟩ := at_T38 HR1.out x5_1 p269 q269
              obtain rfl : ad266 = ad269 := (by injection e269)
              replace hx269_0 := (HB.out.cell (World.block_lt_of_cell? w _ hx269_0)).trans hx269_0
              replace hx269_1 := (HB.out.cell (World.block_lt_of_cell? w _ hx269_1)).trans hx269_1
              replace hx269_2 := (HB.out.cell (World.block_lt_of_cell? w _ hx269_2)).trans hx269_2
              replace hx269_3 := (HB.out.cell (World.block_lt_of_cell? w _ hx269_3)).trans hx269_3
              replace p269 := eq_true p269
              replace q269 := eq_true q269
              go_wp2
              repeat (go_quiet (fail); try go_wp2)
              go_roundg kj10
              case measure => have := HK1.out; have := HJ10.out; omega
              case rel => exact ⟨(wrap64 (x5_1 + 1)), (by first | rfl | (simp; done) | (simp [*]; done)), H', ⟨by have := HK1.out; have := HJ10.out; omega⟩, ⟨by (with_reducible repeat (first | refine qkN ?_ _ | refine qkd ?_ | refine qka ?_ _)); exact BK263.out⟩, ⟨by repeat (first | (with_reducible first | exact HB.out | apply below_alloc | apply qbN | apply qb1 | refine qbs ?_ GE263.out | refine qbs ?_ GE265.out) | exact HB.out)⟩⟩
             ·rw [if_neg c27] at H
              have c27b0 : (((r8 l1 x5_1).f0) == 0) = false := beq_eq_false_iff_ne.mpr c27
              have c27b1 : (((r8 l1 x5_1).f0) != 0) = true := bne_iff_ne.mpr c27
              by_cases c28 : ((r8 l1 x5_1).f0) = ((rd_T36 l0_1 x5_1).f1)
              ·rw [if_pos c28] at H
               have c28b0 : (((r8 l1 x5_1).f0) == ((rd_T36 l0_1 x5_1).f1)) = true := beq_iff_eq.mpr c28
               have c28b1 : (((r8 l1 x5_1).f0) != ((rd_T36 l0_1 x5_1).f1)) = false := bne_eq_false_iff_eq.mpr c28
               clear c28
               have H' := Aside0.mk H
               clear H
               have p269 : 0 ≤ (x5_1 : Int) := ode_
               have q269 : x5_1 < (l1.length : Int) := ode_
               obtain ⟨ad269, e269, hx269_0, hx269_1, hx269_2, hx269_3⟩ := at_T38 HR1.out x5_1 p269 q269
               obtain rfl : ad266 = ad269 := (by injection e269)
               replace hx269_0 := (HB.out.cell (World.block_lt_of_cell? w _ hx269_0)).trans hx269_0
               replace hx269_1 := (HB.out.cell (World.block_lt_of_cell? w _ hx269_1)).trans hx269_1
               replace hx269_2 := (HB.out.cell (World.block_lt_of_cell? w _ hx269_2)).trans hx269_2
               replace hx269_3 := (HB.out.cell (World.block_lt_of_cell? w _ hx269_3)).trans hx269_3
               replace p269 := eq_true p269
               replace q269 := eq_true q269
               have p270 : 0 ≤ (x5_1 : Int) := ode_
               have q270 : x5_1 < (l1.length : Int) := ode_
               obtain ⟨ad270, e270, hx270_0, hx270_1, hx270_2, hx270_3⟩ := at_T38 HR1.out x5_1 p270 q270
               obtain rfl : ad266 = ad270 := (by injection e270)
               replace hx270_0 := (HB.out.cell (World.block_lt_of_cell? w _ hx270_0)).trans hx270_0
               replace hx270_1 := (HB.out.cell (World.block_lt_of_cell? w _ hx270_1)).trans hx270_1
               replace hx270_2 := (HB.out.cell (World.block_lt_of_cell? w _ hx270_2)).trans hx270_2
               replace hx270_3 := (HB.out.cell (World.block_lt_of_cell? w _ hx270_3)).trans hx270_3
               replace p270 := eq_true p270
               replace q270 := eq_true q270
               have hnb29 := NB265_263.out
               have hnc29 := NB263_265.out
               have hcz30_0 : wc.cell? ⟨gb265, 0, none⟩ = some (.string ((rd_T36 l0_1 x5_1).f0)) := (qkc BK265.out 0).trans rfl
               have hcz30_1 : wc.cell? ⟨gb265, 1, none⟩ = some (.int .i64 ((rd_T36 l0_1 x5_1).f1)) := (qkc BK265.out 1).trans rfl
               have hcz30_2 : wc.cell? ⟨gb265, 2, none⟩ = some (.bool ((rd_T36 l0_1 x5_1).f2)) := (qkc BK265.out 2).trans rfl
               have hcz30_3 : wc.cell? ⟨gb265, 3, none⟩ = some (.bool ((rd_T36 l0_1 x5_1).f3)) := (qkc BK265.out 3).trans rfl
               have hfz30_0 := qkf BK265.out 0
               have hfz30_1 := qkf BK265.out 1
               have hfz30_2 := qkf BK265.out 2
               have hfz30_3 := qkf BK265.out 3
               go_wp2
               repeat (go_quiet (fail); try go_wp2)
               go_roundg kj10
               case measure => have := HK1.out; have := HJ10.out; omega
               case rel => exact ⟨(wrap64 (x5_1 + 1)), (by first | rfl | (simp; done) | (simp [*]; done)), H', ⟨by have := HK1.out; have := HJ10.out; omega⟩, ⟨by (with_reducible repeat (first | refine qkN ?_ _ | refine qkd ?_ | refine qka ?_ _)); exact BK263.out⟩, ⟨by repeat (first | (with_reducible first | exact HB.out | apply below_alloc | apply qbN | apply qb1 | refine qbs ?_ GE263.out | refine qbs ?_ GE265.out) | exact HB.out)⟩⟩
              ·rw [if_neg c28] at H
               have c28b0 : (((r8 l1 x5_1).f0) == ((rd_T36 l0_1 x5_1).f1)) = false := beq_eq_false_iff_ne.mpr c28
               have c28b1 : (((r8 l1 x5_1).f0) != ((rd_T36 l0_1 x5_1).f1)) = true := bne_iff_ne.mpr c28
               obtain rfl := Option.some.inj H
               have p269 : 0 ≤ (x5_1 : Int) := ode_
               have q269 : x5_1 < (l1.length : Int) := ode_
               obtain ⟨ad269, e269, hx269_0, hx269_1, hx269_2, hx269_3⟩ := at_T38 HR1.out x5_1 p269 q269
               obtain rfl : ad266 = ad269 := (by injection e269)
               replace hx269_0 := (HB.out.cell (World.block_lt_of_cell? w _ hx269_0)).trans hx269_0
               replace hx269_1 := (HB.out.cell (World.block_lt_of_cell? w _ hx269_1)).trans hx269_1
               replace hx269_2 := (HB.out.cell (World.block_lt_of_cell? w _ hx269_2)).trans hx269_2
               replace hx269_3 := (HB.out.cell (World.block_lt_of_cell? w _ hx269_3)).trans hx269_3
               replace p269 := eq_true p269
               replace q269 := eq_true q269
               have p270 : 0 ≤ (x5_1 : Int) := ode_
               have q270 : x5_1 < (l1.length : Int) := ode_
               obtain ⟨ad270, e270, hx270_0, hx270_1, hx270_2, hx270_3⟩ := at_T38 HR1.out x5_1 p270 q270
               obtain rfl : ad266 = ad270 := (by injection e270)
               replace hx270_0 := (HB.out.cell (World.block_lt_of_cell? w _ hx270_0)).trans hx270_0
               replace hx270_1 := (HB.out.cell (World.block_lt_of_cell? w _ hx270_1)).trans hx270_1
               replace hx270_2 := (HB.out.cell (World.block_lt_of_cell? w _ hx270_2)).trans hx270_2
               replace hx270_3 := (HB.out.cell (World.block_lt_of_cell? w _ hx270_3)).trans hx270_3
               replace p270 := eq_true p270
               replace q270 := eq_true q270
               have hnb31 := NB265_263.out
               have hnc31 := NB263_265.out
               have hcz32_0 : wc.cell? ⟨gb265, 0, none⟩ = some (.string ((rd_T36 l0_1 x5_1).f0)) := (qkc BK265.out 0).trans rfl
               have hcz32_1 : wc.cell? ⟨gb265, 1, none⟩ = some (.int .i64 ((rd_T36 l0_1 x5_1).f1)) := (qkc BK265.out 1).trans rfl
               have hcz32_2 : wc.cell? ⟨gb265, 2, none⟩ = some (.bool ((rd_T36 l0_1 x5_1).f2)) := (qkc BK265.out 2).trans rfl
               have hcz32_3 : wc.cell? ⟨gb265, 3, none⟩ = some (.bool ((rd_T36 l0_1 x5_1).f3)) := (qkc BK265.out 3).trans rfl
               have hfz32_0 := qkf BK265.out 0
               have hfz32_1 := qkf BK265.out 1
               have hfz32_2 := qkf BK265.out 2
               have hfz32_3 := qkf BK265.out 3
               go_wp2
               repeat (go_quiet (fail); try go_wp2)
               go_ret
               exact ⟨by first | rfl | (simp [eWn, eWs] <;> rfl) | (simp [*, eWn, eWs] <;> rfl), by repeat (first | (with_reducible first | exact HB.out | apply below_alloc | apply qbN | apply qb1 | refine qbs ?_ GE263.out | refine qbs ?_ GE265.out) | exact HB.out)⟩
            ·rw [if_neg c26] at H
             exact absurd H (by simp)
           ·rw [if_neg c25] at H
            exact absurd H (by simp)
       ·rw [if_neg c10] at H
        have c10b0 : (t267 == 0) = false := beq_eq_false_iff_ne.mpr c10
        have c10b1 : (t267 != 0) = true := bne_iff_ne.mpr c10
        obtain rfl := Option.some.inj H
        have hcz33_0 : wr.cell? ⟨gb263, 0, none⟩ = some (.string a0_0) := (qkc BK263.out 0).trans rfl
        have hcz33_1 : wr.cell? ⟨gb263, 1, none⟩ = some (.slice A0_1 l0_1.length c0_1) := (qkc BK263.out 1).trans rfl
        have hfz33_0 := qkf BK263.out 0
        have hfz33_1 := qkf BK263.out 1
        have p264 : 0 ≤ (x5_1 : Int) := ode_
        have q264 : x5_1 < (l0_1.length : Int) := ode_
        obtain ⟨ad264, e264, hx264_0, hx264_1, hx264_2, hx264_3⟩ := at_T36 HR0_1.out x5_1 p264 q264
        cases e264
        replace hx264_0 := (HB.out.cell (World.block_lt_of_cell? w _ hx264_0)).trans hx264_0
        replace hx264_1 := (HB.out.cell (World.block_lt_of_cell? w _ hx264_1)).trans hx264_1
        replace hx264_2 := (HB.out.cell (World.block_lt_of_cell? w _ hx264_2)).trans hx264_2
        replace hx264_3 := (HB.out.cell (World.block_lt_of_cell? w _ hx264_3)).trans hx264_3
        replace p264 := eq_true p264
        replace q264 := eq_true q264
        go_wp2_with (first | ((with_reducible refine qgd (N := 6) rfl ?_); refine qbe ?hg (N := 6) ?hd (cs := #[.string (⟨#[]⟩ : ByteArray), .int .i64 0, .bool false, .bool false]) (t := 36) ?hr ?_; (case hd => rfl); (case hg => rfl); (case hr => first | (go_simp; done) | (go_simp; rfl)); intro gb265 hg w34 hbox hb; have n0_ := Aside0.mk (qkb (g := gb263) (o := .cells #[.string a0_0, .slice (some ad264) l0_1.length c0_1] 24 (0, 0)) (by (with_reducible repeat (first | refine qkN ?_ _ | refine qkd ?_ | refine qka ?_ _)); exact BK263.out) hb); have n1_ := Aside0.mk (below_step (by repeat (first | (with_reducible first | exact HB.out | apply below_alloc | apply qbN | apply qb1 | refine qbs ?_ GE263.out) | exact HB.out)) hb); have n2_ := Aside0.mk (hbox); have n3_ := Aside0.mk ((by rw [hg]; exact (qbz (by repeat (first | (with_reducible first | exact HB.out | apply below_alloc | apply qbN | apply qb1 | refine qbs ?_ GE263.out) | exact HB.out))) : w.heap.size ≤ gb265)); have n4_ := Aside0.mk ((by rw [hg]; exact (qbz (by repeat (first | (with_reducible first | exact HB.out | apply below_alloc | apply qbN | apply qb1 | refine qbs ?_ GE263.out) | exact HB.out))) : w.heap.size ≤ gb265)); have n5_ := Aside0.mk ((by rw [hg]; exact Nat.ne_of_lt (blk_lt (g := gb263) (o := .cells #[.string a0_0, .slice (some ad264) l0_1.length c0_1] 24 (0, 0)) (by (with_reducible repeat (first | refine qkN ?_ _ | refine qkd ?_ | refine qka ?_ _)); exact BK263.out)) : gb263 ≠ gb265)); have n6_ := Aside0.mk ((by rw [hg]; exact Nat.ne_of_gt (blk_lt (g := gb263) (o := .cells #[.string a0_0, .slice (some ad264) l0_1.length c0_1] 24 (0, 0)) (by (with_reducible repeat (first | refine qkN ?_ _ | refine qkd ?_ | refine qka ?_ _)); exact BK263.out)) : gb265 ≠ gb263)); clear BK263; clear HB; have BK263 := n0_; have HB := n1_; have BK265 := n2_; have GW265 := n3_; have GE265 := n4_; have NB263_265 := n5_; have NB265_263 := n6_; clear n0_ n1_ n2_ n3_ n4_ n5_ n6_; clear hb hbox hg; have hnb35 := NB265_263.out; have hnc35 := NB263_265.out; have hcz36_0 : w34.cell? ⟨gb265, 0, none⟩ = some (.string (⟨#[]⟩ : ByteArray)) := (qkc BK265.out 0).trans rfl; have hcz36_1 : w34.cell? ⟨gb265, 1, none⟩ = some (.int .i64 0) := (qkc BK265.out 1).trans rfl; have hcz36_2 : w34.cell? ⟨gb265, 2, none⟩ = some (.bool false) := (qkc BK265.out 2).trans rfl; have hcz36_3 : w34.cell? ⟨gb265, 3, none⟩ = some (.bool false) := (qkc BK265.out 3).trans rfl; have hfz36_0 := qkf BK265.out 0; have hfz36_1 := qkf BK265.out 1; have hfz36_2 := qkf BK265.out 2; have hfz36_3 := qkf BK265.out 3; have p266 : 0 ≤ (x5_1 : Int) := ode_; have q266 : x5_1 < (l1.length : Int) := ode_; obtain ⟨ad266, e266, hx266_0, hx266_1, hx266_2, hx266_3⟩ := at_T38 HR1.out x5_1 p266 q266; cases e266; have hn266_0 : ad266.block ≠ gb265 := Nat.ne_of_lt (Nat.lt_of_lt_of_le (by have := World.block_lt_of_cell? _ _ hx266_0; first | rwa [qab] at this | exact this) GW265.out); have hn266_1 : ad266.block ≠ gb265 := Nat.ne_of_lt (Nat.lt_of_lt_of_le (by have := World.block_lt_of_cell? _ _ hx266_0; first | rwa [qab] at this | exact this) GW265.out); have hn266_2 : ad266.block ≠ gb265 := Nat.ne_of_lt (Nat.lt_of_lt_of_le (by have := World.block_lt_of_cell? _ _ hx266_0; first | rwa [qab] at this | exact this) GW265.out); have hn266_3 : ad266.block ≠ gb265 := Nat.ne_of_lt (Nat.lt_of_lt_of_le (by have := World.block_lt_of_cell? _ _ hx266_0; first | rwa [qab] at this | exact this) GW265.out); replace hx266_0 := (HB.out.cell (World.block_lt_of_cell? w _ hx266_0)).trans hx266_0; replace hx266_1 := (HB.out.cell (World.block_lt_of_cell? w _ hx266_1)).trans hx266_1; replace hx266_2 := (HB.out.cell (World.block_lt_of_cell? w _ hx266_2)).trans hx266_2; replace hx266_3 := (HB.out.cell (World.block_lt_of_cell? w _ hx266_3)).trans hx266_3; replace hx266_0 := (cell_far (p := ⟨gb265, 0, none⟩) (by first | (rw [qab]; exact hn266_0) | (show (Addr.add _ _).block ≠ _; rw [qab]; exact hn266_0) | exact hn266_0) (.string ((rd_T36 l0_1 x5_1).f0))).trans hx266_0; replace hx266_1 := (cell_far (p := ⟨gb265, 0, none⟩) (by first | (rw [qab]; exact hn266_0) | (show (Addr.add _ _).block ≠ _; rw [qab]; exact hn266_0) | exact hn266_0) (.string ((rd_T36 l0_1 x5_1).f0))).trans hx266_1; replace hx266_2 := (cell_far (p := ⟨gb265, 0, none⟩) (by first | (rw [qab]; exact hn266_0) | (show (Addr.add _ _).block ≠ _; rw [qab]; exact hn266_0) | exact hn266_0) (.string ((rd_T36 l0_1 x5_1).f0))).trans hx266_2; replace hx266_3 := (cell_far (p := ⟨gb265, 0, none⟩) (by first | (rw [qab]; exact hn266_0) | (show (Addr.add _ _).block ≠ _; rw [qab]; exact hn266_0) | exact hn266_0) (.string ((rd_T36 l0_1 x5_1).f0))).trans hx266_3; replace hx266_0 := (cell_far (p := ⟨gb265, 1, none⟩) (by first | (rw [qab]; exact hn266_1) | (show (Addr.add _ _).block ≠ _; rw [qab]; exact hn266_1) | exact hn266_1) (.int .i64 ((rd_T36 l0_1 x5_1).f1))).trans hx266_0; replace hx266_1 := (cell_far (p := ⟨gb265, 1, none⟩) (by first | (rw [qab]; exact hn266_1) | (show (Addr.add _ _).block ≠ _; rw [qab]; exact hn266_1) | exact hn266_1) (.int .i64 ((rd_T36 l0_1 x5_1).f1))).trans hx266_1; replace hx266_2 := (cell_far (p := ⟨gb265, 1, none⟩) (by first | (rw [qab]; exact hn266_1) | (show (Addr.add _ _).block ≠ _; rw [qab]; exact hn266_1) | exact hn266_1) (.int .i64 ((rd_T36 l0_1 x5_1).f1))).trans hx266_2; replace hx266_3 := (cell_far (p := ⟨gb265, 1, none⟩) (by first | (rw [qab]; exact hn266_1) | (show (Addr.add _ _).block ≠ _; rw [qab]; exact hn266_1) | exact hn266_1) (.int .i64 ((rd_T36 l0_1 x5_1).f1))).trans hx266_3; replace hx266_0 := (cell_far (p := ⟨gb265, 2, none⟩) (by first | (rw [qab]; exact hn266_2) | (show (Addr.add _ _).block ≠ _; rw [qab]; exact hn266_2) | exact hn266_2) (.bool ((rd_T36 l0_1 x5_1).f2))).trans hx266_0; replace hx266_1 := (cell_far (p := ⟨gb265, 2, none⟩) (by first | (rw [qab]; exact hn266_2) | (show (Addr.add _ _).block ≠ _; rw [qab]; exact hn266_2) | exact hn266_2) (.bool ((rd_T36 l0_1 x5_1).f2))).trans hx266_1; replace hx266_2 := (cell_far (p := ⟨gb265, 2, none⟩) (by first | (rw [qab]; exact hn266_2) | (show (Addr.add _ _).block ≠ _; rw [qab]; exact hn266_2) | exact hn266_2) (.bool ((rd_T36 l0_1 x5_1).f2))).trans hx266_2; replace hx266_3 := (cell_far (p := ⟨gb265, 2, none⟩) (by first | (rw [qab]; exact hn266_2) | (show (Addr.add _ _).block ≠ _; rw [qab]; exact hn266_2) | exact hn266_2) (.bool ((rd_T36 l0_1 x5_1).f2))).trans hx266_3; replace hx266_0 := (cell_far (p := ⟨gb265, 3, none⟩) (by first | (rw [qab]; exact hn266_3) | (show (Addr.add _ _).block ≠ _; rw [qab]; exact hn266_3) | exact hn266_3) (.bool ((rd_T36 l0_1 x5_1).f3))).trans hx266_0; replace hx266_1 := (cell_far (p := ⟨gb265, 3, none⟩) (by first | (rw [qab]; exact hn266_3) | (show (Addr.add _ _).block ≠ _; rw [qab]; exact hn266_3) | exact hn266_3) (.bool ((rd_T36 l0_1 x5_1).f3))).trans hx266_1; replace hx266_2 := (cell_far (p := ⟨gb265, 3, none⟩) (by first | (rw [qab]; exact hn266_3) | (show (Addr.add _ _).block ≠ _; rw [qab]; exact hn266_3) | exact hn266_3) (.bool ((rd_T36 l0_1 x5_1).f3))).trans hx266_2; replace hx266_3 := (cell_far (p := ⟨gb265, 3, none⟩) (by first | (rw [qab]; exact hn266_3) | (show (Addr.add _ _).block ≠ _; rw [qab]; exact hn266_3) | exact hn266_3) (.bool ((rd_T36 l0_1 x5_1).f3))).trans hx266_3; (try have hy266_0 := fun (n_ : Nat) => (show ((((((w34.drewN n_).setCell ⟨gb265, 0, none⟩ (.string ((rd_T36 l0_1 x5_1).f0))).setCell ⟨gb265, 1, none⟩ (.int .i64 ((rd_T36 l0_1 x5_1).f1))).setCell ⟨gb265, 2, none⟩ (.bool ((rd_T36 l0_1 x5_1).f2))).setCell ⟨gb265, 3, none⟩ (.bool ((rd_T36 l0_1 x5_1).f3)))).cell? _ = some _ from hx266_0)); (try have hy266_1 := fun (n_ : Nat) => (show ((((((w34.drewN n_).setCell ⟨gb265, 0, none⟩ (.string ((rd_T36 l0_1 x5_1).f0))).setCell ⟨gb265, 1, none⟩ (.int .i64 ((rd_T36 l0_1 x5_1).f1))).setCell ⟨gb265, 2, none⟩ (.bool ((rd_T36 l0_1 x5_1).f2))).setCell ⟨gb265, 3, none⟩ (.bool ((rd_T36 l0_1 x5_1).f3)))).cell? _ = some _ from hx266_1)); (try have hy266_2 := fun (n_ : Nat) => (show ((((((w34.drewN n_).setCell ⟨gb265, 0, none⟩ (.string ((rd_T36 l0_1 x5_1).f0))).setCell ⟨gb265, 1, none⟩ (.int .i64 ((rd_T36 l0_1 x5_1).f1))).setCell ⟨gb265, 2, none⟩ (.bool ((rd_T36 l0_1 x5_1).f2))).setCell ⟨gb265, 3, none⟩ (.bool ((rd_T36 l0_1 x5_1).f3)))).cell? _ = some _ from hx266_2)); (try have hy266_3 := fun (n_ : Nat) => (show ((((((w34.drewN n_).setCell ⟨gb265, 0, none⟩ (.string ((rd_T36 l0_1 x5_1).f0))).setCell ⟨gb265, 1, none⟩ (.int .i64 ((rd_T36 l0_1 x5_1).f1))).setCell ⟨gb265, 2, none⟩ (.bool ((rd_T36 l0_1 x5_1).f2))).setCell ⟨gb265, 3, none⟩ (.bool ((rd_T36 l0_1 x5_1).f3)))).cell? _ = some _ from hx266_3)); clear hn266_0; clear hn266_1; clear hn266_2; clear hn266_3; replace p266 := eq_true p266; replace q266 := eq_true q266) | (go_at_call 71; (with_reducible refine (barbicanref05_Valid.calls k1 ((r8 l1 x5_1).f0) ((r8 l1 x5_1).f1) ((r8 l1 x5_1).f2) ((r8 l1 x5_1).f3) t267 _ A9.out).mono ?_); rintro e w37 ⟨rfl, hb⟩; have n0_ := Aside0.mk (qkb (g := gb263) (o := .cells #[.string a0_0, .slice (some ad264) l0_1.length c0_1] 24 (0, 0)) (by (with_reducible repeat (first | refine qkN ?_ _ | refine qkd ?_ | refine qka ?_ _)); refine qkr ?_ NB263_265.out _; (with_reducible repeat (first | refine qkN ?_ _ | refine qkd ?_ | refine qka ?_ _)); refine qkr ?_ NB263_265.out _; (with_reducible repeat (first | refine qkN ?_ _ | refine qkd ?_ | refine qka ?_ _)); refine qkr ?_ NB263_265.out _; (with_reducible repeat (first | refine qkN ?_ _ | refine qkd ?_ | refine qka ?_ _)); refine qkr ?_ NB263_265.out _; (with_reducible repeat (first | refine qkN ?_ _ | refine qkd ?_ | refine qka ?_ _)); exact BK263.out) hb); have n1_ := Aside0.mk (qkb (g := gb265) (o := .cells #[.string ((rd_T36 l0_1 x5_1).f0), .int .i64 ((rd_T36 l0_1 x5_1).f1), .bool ((rd_T36 l0_1 x5_1).f2), .bool ((rd_T36 l0_1 x5_1).f3)] 36 (0, 0)) (by (with_reducible repeat (first | refine qkN ?_ _ | refine qkd ?_ | refine qka ?_ _)); refine qkp (cs := #[.string ((rd_T36 l0_1 x5_1).f0), .int .i64 ((rd_T36 l0_1 x5_1).f1), .bool ((rd_T36 l0_1 x5_1).f2), .bool false]) ?_ 3 _ rfl; (with_reducible repeat (first | refine qkN ?_ _ | refine qkd ?_ | refine qka ?_ _)); refine qkp (cs := #[.string ((rd_T36 l0_1 x5_1).f0), .int .i64 ((rd_T36 l0_1 x5_1).f1), .bool false, .bool false]) ?_ 2 _ rfl; (with_reducible repeat (first | refine qkN ?_ _ | refine qkd ?_ | refine qka ?_ _)); refine qkp (cs := #[.string ((rd_T36 l0_1 x5_1).f0), .int .i64 0, .bool false, .bool false]) ?_ 1 _ rfl; (with_reducible repeat (first | refine qkN ?_ _ | refine qkd ?_ | refine qka ?_ _)); refine qkp (cs := #[.string (⟨#[]⟩ : ByteArray), .int .i64 0, .bool false, .bool false]) ?_ 0 _ rfl; (with_reducible repeat (first | refine qkN ?_ _ | refine qkd ?_ | refine qka ?_ _)); exact BK265.out) hb); have n2_ := Aside0.mk (below_step (by repeat (first | (with_reducible first | exact HB.out | apply below_alloc | apply qbN | apply qb1 | refine qbs ?_ GE263.out | refine qbs ?_ GE265.out) | exact HB.out)) hb); clear BK263; clear BK265; clear HB; have BK263 := n0_; have BK265 := n1_; have HB := n2_; clear n0_ n1_ n2_; (try clear hb); (try clear hb2); (try clear hk); (try clear hi)))
        repeat (go_quiet (first | ((with_reducible refine qgd (N := 6) rfl ?_); refine qbe ?hg (N := 6) ?hd (cs := #[.string (⟨#[]⟩ : ByteArray), .int .i64 0, .bool false, .bool false]) (t := 36) ?hr ?_; (case hd => rfl); (case hg => rfl); (case hr => first | (go_simp; done) | (go_simp; rfl)); intro gb265 hg w34 hbox hb; have n0_ := Aside0.mk (qkb (g := gb263) (o := .cells #[.string a0_0, .slice (some ad264) l0_1.length c0_1] 24 (0, 0)) (by (with_reducible repeat (first | refine qkN ?_ _ | refine qkd ?_ | refine qka ?_ _)); exact BK263.out) hb); have n1_ := Aside0.mk (below_step (by repeat (first | (with_reducible first | exact HB.out | apply below_alloc | apply qbN | apply qb1 | refine qbs ?_ GE263.out) | exact HB.out)) hb); have n2_ := Aside0.mk (hbox); have n3_ := Aside0.mk ((by rw [hg]; exact (qbz (by repeat (first | (with_reducible first | exact HB.out | apply below_alloc | apply qbN | apply qb1 | refine qbs ?_ GE263.out) | exact HB.out))) : w.heap.size ≤ gb265)); have n4_ := Aside0.mk ((by rw [hg]; exact (qbz (by repeat (first | (with_reducible first | exact HB.out | apply below_alloc | apply qbN | apply qb1 | refine qbs ?_ GE263.out) | exact HB.out))) : w.heap.size ≤ gb265)); have n5_ := Aside0.mk ((by rw [hg]; exact Nat.ne_of_lt (blk_lt (g := gb263) (o := .cells #[.string a0_0, .slice (some ad264) l0_1.length c0_1] 24 (0, 0)) (by (with_reducible repeat (first | refine qkN ?_ _ | refine qkd ?_ | refine qka ?_ _)); exact BK263.out)) : gb263 ≠ gb265)); have n6_ := Aside0.mk ((by rw [hg]; exact Nat.ne_of_gt (blk_lt (g := gb263) (o := .cells #[.string a0_0, .slice (some ad264) l0_1.length c0_1] 24 (0, 0)) (by (with_reducible repeat (first | refine qkN ?_ _ | refine qkd ?_ | refine qka ?_ _)); exact BK263.out)) : gb265 ≠ gb263)); clear BK263; clear HB; have BK263 := n0_; have HB := n1_; have BK265 := n2_; have GW265 := n3_; have GE265 := n4_; have NB263_265 := n5_; have NB265_263 := n6_; clear n0_ n1_ n2_ n3_ n4_ n5_ n6_; clear hb hbox hg; have hnb35 := NB265_263.out; have hnc35 := NB263_265.out; have hcz36_0 : w34.cell? ⟨gb265, 0, none⟩ = some (.string (⟨#[]⟩ : ByteArray)) := (qkc BK265.out 0).trans rfl; have hcz36_1 : w34.cell? ⟨gb265, 1, none⟩ = some (.int .i64 0) := (qkc BK265.out 1).trans rfl; have hcz36_2 : w34.cell? ⟨gb265, 2, none⟩ = some (.bool false) := (qkc BK265.out 2).trans rfl; have hcz36_3 : w34.cell? ⟨gb265, 3, none⟩ = some (.bool false) := (qkc BK265.out 3).trans rfl; have hfz36_0 := qkf BK265.out 0; have hfz36_1 := qkf BK265.out 1; have hfz36_2 := qkf BK265.out 2; have hfz36_3 := qkf BK265.out 3; have p266 : 0 ≤ (x5_1 : Int) := ode_; have q266 : x5_1 < (l1.length : Int) := ode_; obtain ⟨ad266, e266, hx266_0, hx266_1, hx266_2, hx266_3⟩ := at_T38 HR1.out x5_1 p266 q266; cases e266; have hn266_0 : ad266.block ≠ gb265 := Nat.ne_of_lt (Nat.lt_of_lt_of_le (by have := World.block_lt_of_cell? _ _ hx266_0; first | rwa [qab] at this | exact this) GW265.out); have hn266_1 : ad266.block ≠ gb265 := Nat.ne_of_lt (Nat.lt_of_lt_of_le (by have := World.block_lt_of_cell? _ _ hx266_0; first | rwa [qab] at this | exact this) GW265.out); have hn266_2 : ad266.block ≠ gb265 := Nat.ne_of_lt (Nat.lt_of_lt_of_le (by have := World.block_lt_of_cell? _ _ hx266_0; first | rwa [qab] at this | exact this) GW265.out); have hn266_3 : ad266.block ≠ gb265 := Nat.ne_of_lt (Nat.lt_of_lt_of_le (by have := World.block_lt_of_cell? _ _ hx266_0; first | rwa [qab] at this | exact this) GW265.out); replace hx266_0 := (HB.out.cell (World.block_lt_of_cell? w _ hx266_0)).trans hx266_0; replace hx266_1 := (HB.out.cell (World.block_lt_of_cell? w _ hx266_1)).trans hx266_1; replace hx266_2 := (HB.out.cell (World.block_lt_of_cell? w _ hx266_2)).trans hx266_2; replace hx266_3 := (HB.out.cell (World.block_lt_of_cell? w _ hx266_3)).trans hx266_3; replace hx266_0 := (cell_far (p := ⟨gb265, 0, none⟩) (by first | (rw [qab]; exact hn266_0) | (show (Addr.add _ _).block ≠ _; rw [qab]; exact hn266_0) | exact hn266_0) (.string ((rd_T36 l0_1 x5_1).f0))).trans hx266_0; replace hx266_1 := (cell_far (p := ⟨gb265, 0, none⟩) (by first | (rw [qab]; exact hn266_0) | (show (Addr.add _ _).block ≠ _; rw [qab]; exact hn266_0) | exact hn266_0) (.string ((rd_T36 l0_1 x5_1).f0))).trans hx266_1; replace hx266_2 := (cell_far (p := ⟨gb265, 0, none⟩) (by first | (rw [qab]; exact hn266_0) | (show (Addr.add _ _).block ≠ _; rw [qab]; exact hn266_0) | exact hn266_0) (.string ((rd_T36 l0_1 x5_1).f0))).trans hx266_2; replace hx266_3 := (cell_far (p := ⟨gb265, 0, none⟩) (by first | (rw [qab]; exact hn266_0) | (show (Addr.add _ _).block ≠ _; rw [qab]; exact hn266_0) | exact hn266_0) (.string ((rd_T36 l0_1 x5_1).f0))).trans hx266_3; replace hx266_0 := (cell_far (p := ⟨gb265, 1, none⟩) (by first | (rw [qab]; exact hn266_1) | (show (Addr.add _ _).block ≠ _; rw [qab]; exact hn266_1) | exact hn266_1) (.int .i64 ((rd_T36 l0_1 x5_1).f1))).trans hx266_0; replace hx266_1 := (cell_far (p := ⟨gb265, 1, none⟩) (by first | (rw [qab]; exact hn266_1) | (show (Addr.add _ _).block ≠ _; rw [qab]; exact hn266_1) | exact hn266_1) (.int .i64 ((rd_T36 l0_1 x5_1).f1))).trans hx266_1; replace hx266_2 := (cell_far (p := ⟨gb265, 1, none⟩) (by first | (rw [qab]; exact hn266_1) | (show (Addr.add _ _).block ≠ _; rw [qab]; exact hn266_1) | exact hn266_1) (.int .i64 ((rd_T36 l0_1 x5_1).f1))).trans hx266_2; replace hx266_3 := (cell_far (p := ⟨gb265, 1, none⟩) (by first | (rw [qab]; exact hn266_1) | (show (Addr.add _ _).block ≠ _; rw [qab]; exact hn266_1) | exact hn266_1) (.int .i64 ((rd_T36 l0_1 x5_1).f1))).trans hx266_3; replace hx266_0 := (cell_far (p := ⟨gb265, 2, none⟩) (by first | (rw [qab]; exact hn266_2) | (show (Addr.add _ _).block ≠ _; rw [qab]; exact hn266_2) | exact hn266_2) (.bool ((rd_T36 l0_1 x5_1).f2))).trans hx266_0; replace hx266_1 := (cell_far (p := ⟨gb265, 2, none⟩) (by first | (rw [qab]; exact hn266_2) | (show (Addr.add _ _).block ≠ _; rw [qab]; exact hn266_2) | exact hn266_2) (.bool ((rd_T36 l0_1 x5_1).f2))).trans hx266_1; replace hx266_2 := (cell_far (p := ⟨gb265, 2, none⟩) (by first | (rw [qab]; exact hn266_2) | (show (Addr.add _ _).block ≠ _; rw [qab]; exact hn266_2) | exact hn266_2) (.bool ((rd_T36 l0_1 x5_1).f2))).trans hx266_2; replace hx266_3 := (cell_far (p := ⟨gb265, 2, none⟩) (by first | (rw [qab]; exact hn266_2) | (show (Addr.add _ _).block ≠ _; rw [qab]; exact hn266_2) | exact hn266_2) (.bool ((rd_T36 l0_1 x5_1).f2))).trans hx266_3; replace hx266_0 := (cell_far (p := ⟨gb265, 3, none⟩) (by first | (rw [qab]; exact hn266_3) | (show (Addr.add _ _).block ≠ _; rw [qab]; exact hn266_3) | exact hn266_3) (.bool ((rd_T36 l0_1 x5_1).f3))).trans hx266_0; replace hx266_1 := (cell_far (p := ⟨gb265, 3, none⟩) (by first | (rw [qab]; exact hn266_3) | (show (Addr.add _ _).block ≠ _; rw [qab]; exact hn266_3) | exact hn266_3) (.bool ((rd_T36 l0_1 x5_1).f3))).trans hx266_1; replace hx266_2 := (cell_far (p := ⟨gb265, 3, none⟩) (by first | (rw [qab]; exact hn266_3) | (show (Addr.add _ _).block ≠ _; rw [qab]; exact hn266_3) | exact hn266_3) (.bool ((rd_T36 l0_1 x5_1).f3))).trans hx266_2; replace hx266_3 := (cell_far (p := ⟨gb265, 3, none⟩) (by first | (rw [qab]; exact hn266_3) | (show (Addr.add _ _).block ≠ _; rw [qab]; exact hn266_3) | exact hn266_3) (.bool ((rd_T36 l0_1 x5_1).f3))).trans hx266_3; (try have hy266_0 := fun (n_ : Nat) => (show ((((((w34.drewN n_).setCell ⟨gb265, 0, none⟩ (.string ((rd_T36 l0_1 x5_1).f0))).setCell ⟨gb265, 1, none⟩ (.int .i64 ((rd_T36 l0_1 x5_1).f1))).setCell ⟨gb265, 2, none⟩ (.bool ((rd_T36 l0_1 x5_1).f2))).setCell ⟨gb265, 3, none⟩ (.bool ((rd_T36 l0_1 x5_1).f3)))).cell? _ = some _ from hx266_0)); (try have hy266_1 := fun (n_ : Nat) => (show ((((((w34.drewN n_).setCell ⟨gb265, 0, none⟩ (.string ((rd_T36 l0_1 x5_1).f0))).setCell ⟨gb265, 1, none⟩ (.int .i64 ((rd_T36 l0_1 x5_1).f1))).setCell ⟨gb265, 2, none⟩ (.bool ((rd_T36 l0_1 x5_1).f2))).setCell ⟨gb265, 3, none⟩ (.bool ((rd_T36 l0_1 x5_1).f3)))).cell? _ = some _ from hx266_1)); (try have hy266_2 := fun (n_ : Nat) => (show ((((((w34.drewN n_).setCell ⟨gb265, 0, none⟩ (.string ((rd_T36 l0_1 x5_1).f0))).setCell ⟨gb265, 1, none⟩ (.int .i64 ((rd_T36 l0_1 x5_1).f1))).setCell ⟨gb265, 2, none⟩ (.bool ((rd_T36 l0_1 x5_1).f2))).setCell ⟨gb265, 3, none⟩ (.bool ((rd_T36 l0_1 x5_1).f3)))).cell? _ = some _ from hx266_2)); (try have hy266_3 := fun (n_ : Nat) => (show ((((((w34.drewN n_).setCell ⟨gb265, 0, none⟩ (.string ((rd_T36 l0_1 x5_1).f0))).setCell ⟨gb265, 1, none⟩ (.int .i64 ((rd_T36 l0_1 x5_1).f1))).setCell ⟨gb265, 2, none⟩ (.bool ((rd_T36 l0_1 x5_1).f2))).setCell ⟨gb265, 3, none⟩ (.bool ((rd_T36 l0_1 x5_1).f3)))).cell? _ = some _ from hx266_3)); clear hn266_0; clear hn266_1; clear hn266_2; clear hn266_3; replace p266 := eq_true p266; replace q266 := eq_true q266) | (go_at_call 71; (with_reducible refine (barbicanref05_Valid.calls k1 ((r8 l1 x5_1).f0) ((r8 l1 x5_1).f1) ((r8 l1 x5_1).f2) ((r8 l1 x5_1).f3) t267 _ A9.out).mono ?_); rintro e w37 ⟨rfl, hb⟩; have n0_ := Aside0.mk (qkb (g := gb263) (o := .cells #[.string a0_0, .slice (some ad264) l0_1.length c0_1] 24 (0, 0)) (by (with_reducible repeat (first | refine qkN ?_ _ | refine qkd ?_ | refine qka ?_ _)); refine qkr ?_ NB263_265.out _; (with_reducible repeat (first | refine qkN ?_ _ | refine qkd ?_ | refine qka ?_ _)); refine qkr ?_ NB263_265.out _; (with_reducible repeat (first | refine qkN ?_ _ | refine qkd ?_ | refine qka ?_ _)); refine qkr ?_ NB263_265.out _; (with_reducible repeat (first | refine qkN ?_ _ | refine qkd ?_ | refine qka ?_ _)); refine qkr ?_ NB263_265.out _; (with_reducible repeat (first | refine qkN ?_ _ | refine qkd ?_ | refine qka ?_ _)); exact BK263.out) hb); have n1_ := Aside0.mk (qkb (g := gb265) (o := .cells #[.string ((rd_T36 l0_1 x5_1).f0), .int .i64 ((rd_T36 l0_1 x5_1).f1), .bool ((rd_T36 l0_1 x5_1).f2), .bool ((rd_T36 l0_1 x5_1).f3)] 36 (0, 0)) (by (with_reducible repeat (first | refine qkN ?_ _ | refine qkd ?_ | refine qka ?_ _)); refine qkp (cs := #[.string ((rd_T36 l0_1 x5_1).f0), .int .i64 ((rd_T36 l0_1 x5_1).f1), .bool ((rd_T36 l0_1 x5_1).f2), .bool false]) ?_ 3 _ rfl; (with_reducible repeat (first | refine qkN ?_ _ | refine qkd ?_ | refine qka ?_ _)); refine qkp (cs := #[.string ((rd_T36 l0_1 x5_1).f0), .int .i64 ((rd_T36 l0_1 x5_1).f1), .bool false, .bool false]) ?_ 2 _ rfl; (with_reducible repeat (first | refine qkN ?_ _ | refine qkd ?_ | refine qka ?_ _)); refine qkp (cs := #[.string ((rd_T36 l0_1 x5_1).f0), .int .i64 0, .bool false, .bool false]) ?_ 1 _ rfl; (with_reducible repeat (first | refine qkN ?_ _ | refine qkd ?_ | refine qka ?_ _)); refine qkp (cs := #[.string (⟨#[]⟩ : ByteArray), .int .i64 0, .bool false, .bool false]) ?_ 0 _ rfl; (with_reducible repeat (first | refine qkN ?_ _ | refine qkd ?_ | refine qka ?_ _)); exact BK265.out) hb); have n2_ := Aside0.mk (below_step (by repeat (first | (with_reducible first | exact HB.out | apply below_alloc | apply qbN | apply qb1 | refine qbs ?_ GE263.out | refine qbs ?_ GE265.out) | exact HB.out)) hb); clear BK263; clear BK265; clear HB; have BK263 := n0_; have BK265 := n1_; have HB := n2_; clear n0_ n1_ n2_; (try clear hb); (try clear hb2); (try clear hk); (try clear hi))); try go_wp2_with (first | ((with_reducible refine qgd (N := 6) rfl ?_); refine qbe ?hg (N := 6) ?hd (cs := #[.string (⟨#[]⟩ : ByteArray), .int .i64 0, .bool false, .bool false]) (t := 36) ?hr ?_; (case hd => rfl); (case hg => rfl); (case hr => first | (go_simp; done) | (go_simp; rfl)); intro gb265 hg w34 hbox hb; have n0_ := Aside0.mk (qkb (g := gb263) (o := .cells #[.string a0_0, .slice (some ad264) l0_1.length c0_1] 24 (0, 0)) (by (with_reducible repeat (first | refine qkN ?_ _ | refine qkd ?_ | refine qka ?_ _)); exact BK263.out) hb); have n1_ := Aside0.mk (below_step (by repeat (first | (with_reducible first | exact HB.out | apply below_alloc | apply qbN | apply qb1 | refine qbs ?_ GE263.out) | exact HB.out)) hb); have n2_ := Aside0.mk (hbox); have n3_ := Aside0.mk ((by rw [hg]; exact (qbz (by repeat (first | (with_reducible first | exact HB.out | apply below_alloc | apply qbN | apply qb1 | refine qbs ?_ GE263.out) | exact HB.out))) : w.heap.size ≤ gb265)); have n4_ := Aside0.mk ((by rw [hg]; exact (qbz (by repeat (first | (with_reducible first | exact HB.out | apply below_alloc | apply qbN | apply qb1 | refine qbs ?_ GE263.out) | exact HB.out))) : w.heap.size ≤ gb265)); have n5_ := Aside0.mk ((by rw [hg]; exact Nat.ne_of_lt (blk_lt (g := gb263) (o := .cells #[.string a0_0, .slice (some ad264) l0_1.length c0_1] 24 (0, 0)) (by (with_reducible repeat (first | refine qkN ?_ _ | refine qkd ?_ | refine qka ?_ _)); exact BK263.out)) : gb263 ≠ gb265)); have n6_ := Aside0.mk ((by rw [hg]; exact Nat.ne_of_gt (blk_lt (g := gb263) (o := .cells #[.string a0_0, .slice (some ad264) l0_1.length c0_1] 24 (0, 0)) (by (with_reducible repeat (first | refine qkN ?_ _ | refine qkd ?_ | refine qka ?_ _)); exact BK263.out)) : gb265 ≠ gb263)); clear BK263; clear HB; have BK263 := n0_; have HB := n1_; have BK265 := n2_; have GW265 := n3_; have GE265 := n4_; have NB263_265 := n5_; have NB265_263 := n6_; clear n0_ n1_ n2_ n3_ n4_ n5_ n6_; clear hb hbox hg; have hnb35 := NB265_263.out; have hnc35 := NB263_265.out; have hcz36_0 : w34.cell? ⟨gb265, 0, none⟩ = some (.string (⟨#[]⟩ : ByteArray)) := (qkc BK265.out 0).trans rfl; have hcz36_1 : w34.cell? ⟨gb265, 1, none⟩ = some (.int .i64 0) := (qkc BK265.out 1).trans rfl; have hcz36_2 : w34.cell? ⟨gb265, 2, none⟩ = some (.bool false) := (qkc BK265.out 2).trans rfl; have hcz36_3 : w34.cell? ⟨gb265, 3, none⟩ = some (.bool false) := (qkc BK265.out 3).trans rfl; have hfz36_0 := qkf BK265.out 0; have hfz36_1 := qkf BK265.out 1; have hfz36_2 := qkf BK265.out 2; have hfz36_3 := qkf BK265.out 3; have p266 : 0 ≤ (x5_1 : Int) := ode_; have q266 : x5_1 < (l1.length : Int) := ode_; obtain ⟨ad266, e266, hx266_0, hx266_1, hx266_2, hx266_3⟩ := at_T38 HR1.out x5_1 p266 q266; cases e266; have hn266_0 : ad266.block ≠ gb265 := Nat.ne_of_lt (Nat.lt_of_lt_of_le (by have := World.block_lt_of_cell? _ _ hx266_0; first | rwa [qab] at this | exact this) GW265.out); have hn266_1 : ad266.block ≠ gb265 := Nat.ne_of_lt (Nat.lt_of_lt_of_le (by have := World.block_lt_of_cell? _ _ hx266_0; first | rwa [qab] at this | exact this) GW265.out); have hn266_2 : ad266.block ≠ gb265 := Nat.ne_of_lt (Nat.lt_of_lt_of_le (by have := World.block_lt_of_cell? _ _ hx266_0; first | rwa [qab] at this | exact this) GW265.out); have hn266_3 : ad266.block ≠ gb265 := Nat.ne_of_lt (Nat.lt_of_lt_of_le (by have := World.block_lt_of_cell? _ _ hx266_0; first | rwa [qab] at this | exact this) GW265.out); replace hx266_0 := (HB.out.cell (World.block_lt_of_cell? w _ hx266_0)).trans hx266_0; replace hx266_1 := (HB.out.cell (World.block_lt_of_cell? w _ hx266_1)).trans hx266_1; replace hx266_2 := (HB.out.cell (World.block_lt_of_cell? w _ hx266_2)).trans hx266_2; replace hx266_3 := (HB.out.cell (World.block_lt_of_cell? w _ hx266_3)).trans hx266_3; replace hx266_0 := (cell_far (p := ⟨gb265, 0, none⟩) (by first | (rw [qab]; exact hn266_0) | (show (Addr.add _ _).block ≠ _; rw [qab]; exact hn266_0) | exact hn266_0) (.string ((rd_T36 l0_1 x5_1).f0))).trans hx266_0; replace hx266_1 := (cell_far (p := ⟨gb265, 0, none⟩) (by first | (rw [qab]; exact hn266_0) | (show (Addr.add _ _).block ≠ _; rw [qab]; exact hn266_0) | exact hn266_0) (.string ((rd_T36 l0_1 x5_1).f0))).trans hx266_1; replace hx266_2 := (cell_far (p := ⟨gb265, 0, none⟩) (by first | (rw [qab]; exact hn266_0) | (show (Addr.add _ _).block ≠ _; rw [qab]; exact hn266_0) | exact hn266_0) (.string ((rd_T36 l0_1 x5_1).f0))).trans hx266_2; replace hx266_3 := (cell_far (p := ⟨gb265, 0, none⟩) (by first | (rw [qab]; exact hn266_0) | (show (Addr.add _ _).block ≠ _; rw [qab]; exact hn266_0) | exact hn266_0) (.string ((rd_T36 l0_1 x5_1).f0))).trans hx266_3; replace hx266_0 := (cell_far (p := ⟨gb265, 1, none⟩) (by first | (rw [qab]; exact hn266_1) | (show (Addr.add _ _).block ≠ _; rw [qab]; exact hn266_1) | exact hn266_1) (.int .i64 ((rd_T36 l0_1 x5_1).f1))).trans hx266_0; replace hx266_1 := (cell_far (p := ⟨gb265, 1, none⟩) (by first | (rw [qab]; exact hn266_1) | (show (Addr.add _ _).block ≠ _; rw [qab]; exact hn266_1) | exact hn266_1) (.int .i64 ((rd_T36 l0_1 x5_1).f1))).trans hx266_1; replace hx266_2 := (cell_far (p := ⟨gb265, 1, none⟩) (by first | (rw [qab]; exact hn266_1) | (show (Addr.add _ _).block ≠ _; rw [qab]; exact hn266_1) | exact hn266_1) (.int .i64 ((rd_T36 l0_1 x5_1).f1))).trans hx266_2; replace hx266_3 := (cell_far (p := ⟨gb265, 1, none⟩) (by first | (rw [qab]; exact hn266_1) | (show (Addr.add _ _).block ≠ _; rw [qab]; exact hn266_1) | exact hn266_1) (.int .i64 ((rd_T36 l0_1 x5_1).f1))).trans hx266_3; replace hx266_0 := (cell_far (p := ⟨gb265, 2, none⟩) (by first | (rw [qab]; exact hn266_2) | (show (Addr.add _ _).block ≠ _; rw [qab]; exact hn266_2) | exact hn266_2) (.bool ((rd_T36 l0_1 x5_1).f2))).trans hx266_0; replace hx266_1 := (cell_far (p := ⟨gb265, 2, none⟩) (by first | (rw [qab]; exact hn266_2) | (show (Addr.add _ _).block ≠ _; rw [qab]; exact hn266_2) | exact hn266_2) (.bool ((rd_T36 l0_1 x5_1).f2))).trans hx266_1; replace hx266_2 := (cell_far (p := ⟨gb265, 2, none⟩) (by first | (rw [qab]; exact hn266_2) | (show (Addr.add _ _).block ≠ _; rw [qab]; exact hn266_2) | exact hn266_2) (.bool ((rd_T36 l0_1 x5_1).f2))).trans hx266_2; replace hx266_3 := (cell_far (p := ⟨gb265, 2, none⟩) (by first | (rw [qab]; exact hn266_2) | (show (Addr.add _ _).block ≠ _; rw [qab]; exact hn266_2) | exact hn266_2) (.bool ((rd_T36 l0_1 x5_1).f2))).trans hx266_3; replace hx266_0 := (cell_far (p := ⟨gb265, 3, none⟩) (by first | (rw [qab]; exact hn266_3) | (show (Addr.add _ _).block ≠ _; rw [qab]; exact hn266_3) | exact hn266_3) (.bool ((rd_T36 l0_1 x5_1).f3))).trans hx266_0; replace hx266_1 := (cell_far (p := ⟨gb265, 3, none⟩) (by first | (rw [qab]; exact hn266_3) | (show (Addr.add _ _).block ≠ _; rw [qab]; exact hn266_3) | exact hn266_3) (.bool ((rd_T36 l0_1 x5_1).f3))).trans hx266_1; replace hx266_2 := (cell_far (p := ⟨gb265, 3, none⟩) (by first | (rw [qab]; exact hn266_3) | (show (Addr.add _ _).block ≠ _; rw [qab]; exact hn266_3) | exact hn266_3) (.bool ((rd_T36 l0_1 x5_1).f3))).trans hx266_2; replace hx266_3 := (cell_far (p := ⟨gb265, 3, none⟩) (by first | (rw [qab]; exact hn266_3) | (show (Addr.add _ _).block ≠ _; rw [qab]; exact hn266_3) | exact hn266_3) (.bool ((rd_T36 l0_1 x5_1).f3))).trans hx266_3; (try have hy266_0 := fun (n_ : Nat) => (show ((((((w34.drewN n_).setCell ⟨gb265, 0, none⟩ (.string ((rd_T36 l0_1 x5_1).f0))).setCell ⟨gb265, 1, none⟩ (.int .i64 ((rd_T36 l0_1 x5_1).f1))).setCell ⟨gb265, 2, none⟩ (.bool ((rd_T36 l0_1 x5_1).f2))).setCell ⟨gb265, 3, none⟩ (.bool ((rd_T36 l0_1 x5_1).f3)))).cell? _ = some _ from hx266_0)); (try have hy266_1 := fun (n_ : Nat) => (show ((((((w34.drewN n_).setCell ⟨gb265, 0, none⟩ (.string ((rd_T36 l0_1 x5_1).f0))).setCell ⟨gb265, 1, none⟩ (.int .i64 ((rd_T36 l0_1 x5_1).f1))).setCell ⟨gb265, 2, none⟩ (.bool ((rd_T36 l0_1 x5_1).f2))).setCell ⟨gb265, 3, none⟩ (.bool ((rd_T36 l0_1 x5_1).f3)))).cell? _ = some _ from hx266_1)); (try have hy266_2 := fun (n_ : Nat) => (show ((((((w34.drewN n_).setCell ⟨gb265, 0, none⟩ (.string ((rd_T36 l0_1 x5_1).f0))).setCell ⟨gb265, 1, none⟩ (.int .i64 ((rd_T36 l0_1 x5_1).f1))).setCell ⟨gb265, 2, none⟩ (.bool ((rd_T36 l0_1 x5_1).f2))).setCell ⟨gb265, 3, none⟩ (.bool ((rd_T36 l0_1 x5_1).f3)))).cell? _ = some _ from hx266_2)); (try have hy266_3 := fun (n_ : Nat) => (show ((((((w34.drewN n_).setCell ⟨gb265, 0, none⟩ (.string ((rd_T36 l0_1 x5_1).f0))).setCell ⟨gb265, 1, none⟩ (.int .i64 ((rd_T36 l0_1 x5_1).f1))).setCell ⟨gb265, 2, none⟩ (.bool ((rd_T36 l0_1 x5_1).f2))).setCell ⟨gb265, 3, none⟩ (.bool ((rd_T36 l0_1 x5_1).f3)))).cell? _ = some _ from hx266_3)); clear hn266_0; clear hn266_1; clear hn266_2; clear hn266_3; replace p266 := eq_true p266; replace q266 := eq_true q266) | (go_at_call 71; (with_reducible refine (barbicanref05_Valid.calls k1 ((r8 l1 x5_1).f0) ((r8 l1 x5_1).f1) ((r8 l1 x5_1).f2) ((r8 l1 x5_1).f3) t267 _ A9.out).mono ?_); rintro e w37 ⟨rfl, hb⟩; have n0_ := Aside0.mk (qkb (g := gb263) (o := .cells #[.string a0_0, .slice (some ad264) l0_1.length c0_1] 24 (0, 0)) (by (with_reducible repeat (first | refine qkN ?_ _ | refine qkd ?_ | refine qka ?_ _)); refine qkr ?_ NB263_265.out _; (with_reducible repeat (first | refine qkN ?_ _ | refine qkd ?_ | refine qka ?_ _)); refine qkr ?_ NB263_265.out _; (with_reducible repeat (first | refine qkN ?_ _ | refine qkd ?_ | refine qka ?_ _)); refine qkr ?_ NB263_265.out _; (with_reducible repeat (first | refine qkN ?_ _ | refine qkd ?_ | refine qka ?_ _)); refine qkr ?_ NB263_265.out _; (with_reducible repeat (first | refine qkN ?_ _ | refine qkd ?_ | refine qka ?_ _)); exact BK263.out) hb); have n1_ := Aside0.mk (qkb (g := gb265) (o := .cells #[.string ((rd_T36 l0_1 x5_1).f0), .int .i64 ((rd_T36 l0_1 x5_1).f1), .bool ((rd_T36 l0_1 x5_1).f2), .bool ((rd_T36 l0_1 x5_1).f3)] 36 (0, 0)) (by (with_reducible repeat (first | refine qkN ?_ _ | refine qkd ?_ | refine qka ?_ _)); refine qkp (cs := #[.string ((rd_T36 l0_1 x5_1).f0), .int .i64 ((rd_T36 l0_1 x5_1).f1), .bool ((rd_T36 l0_1 x5_1).f2), .bool false]) ?_ 3 _ rfl; (with_reducible repeat (first | refine qkN ?_ _ | refine qkd ?_ | refine qka ?_ _)); refine qkp (cs := #[.string ((rd_T36 l0_1 x5_1).f0), .int .i64 ((rd_T36 l0_1 x5_1).f1), .bool false, .bool false]) ?_ 2 _ rfl; (with_reducible repeat (first | refine qkN ?_ _ | refine qkd ?_ | refine qka ?_ _)); refine qkp (cs := #[.string ((rd_T36 l0_1 x5_1).f0), .int .i64 0, .bool false, .bool false]) ?_ 1 _ rfl; (with_reducible repeat (first | refine qkN ?_ _ | refine qkd ?_ | refine qka ?_ _)); refine qkp (cs := #[.string (⟨#[]⟩ : ByteArray), .int .i64 0, .bool false, .bool false]) ?_ 0 _ rfl; (with_reducible repeat (first | refine qkN ?_ _ | refine qkd ?_ | refine qka ?_ _)); exact BK265.out) hb); have n2_ := Aside0.mk (below_step (by repeat (first | (with_reducible first | exact HB.out | apply below_alloc | apply qbN | apply qb1 | refine qbs ?_ GE263.out | refine qbs ?_ GE265.out) | exact HB.out)) hb); clear BK263; clear BK265; clear HB; have BK263 := n0_; have BK265 := n1_; have HB := n2_; clear n0_ n1_ n2_; (try clear hb); (try clear hb2); (try clear hk); (try clear hi))))
        go_ret
        exact ⟨by first | rfl | (simp [eWn, eWs] <;> rfl) | (simp [*, eWn, eWs] <;> rfl), by repeat (first | (with_reducible first | exact HB.out | apply below_alloc | apply qbN | apply qb1 | refine qbs ?_ GE263.out | refine qbs ?_ GE265.out) | exact HB.out)⟩
      ·rw [if_neg c8] at H
       exact absurd H (by simp)
     ·rw [if_neg c7] at H
      exact absurd H (by simp)
    ·rw [if_neg c6] at H
     have c6b0 : decide (x5_1 < (l1.length : Int)) = false := decide_eq_false c6
     clear c6
     obtain rfl := Option.some.inj H
     go_wp2
     repeat (go_quiet (fail); try go_wp2)
     go_ret
     exact ⟨by first | rfl | (simp [eWn, eWs] <;> rfl) | (simp [*, eWn, eWs] <;> rfl), by repeat (first | (with_reducible first | exact HB.out | apply below_alloc | apply qbN | apply qb1 | refine qbs ?_ GE263.out) | exact HB.out)⟩
 ·rw [if_neg c3] at H
  have c3b0 : ((l1.length : Int) == (l0_1.length : Int)) = false := beq_eq_false_iff_ne.mpr c3
  have c3b1 : ((l1.length : Int) != (l0_1.length : Int)) = true := bne_iff_ne.mpr c3
  have c3b2 : (l1.length == l0_1.length) = false := by first | simpa using c3 | (simp at c3 ⊢; omega)
  obtain rfl := Option.some.inj H
  go_enter Tryd.func40, Tryd.ntmps40
  go_wp2_with (first | ((with_reducible refine qgd (N := 2) rfl ?_); refine qbe ?hg (N := 2) ?hd (cs := #[.string a0_0, .slice A0_1 l0_1.length c0_1]) (t := 24) ?hr ?_; (case hd => rfl); (case hg => rfl); (case hr => first | (go_simp; done) | (go_simp; rfl)); intro gb263 hg w38 hbox hb; have n0_ := Aside0.mk (below_step (by repeat (first | (with_reducible first | exact HB.out | apply below_alloc | apply qbN | apply qb1) | exact HB.out)) hb); have n1_ := Aside0.mk (hbox); have n2_ := Aside0.mk ((by rw [hg]; exact (qbz (by repeat (first | (with_reducible first | exact HB.out | apply below_alloc | apply qbN | apply qb1) | exact HB.out))) : w.heap.size ≤ gb263)); have n3_ := Aside0.mk ((by rw [hg]; exact (qbz (by repeat (first | (with_reducible first | exact HB.out | apply below_alloc | apply qbN | apply qb1) | exact HB.out))) : w.heap.size ≤ gb263)); clear HB; have HB := n0_; have BK263 := n1_; have GW263 := n2_; have GE263 := n3_; clear n0_ n1_ n2_ n3_; clear hb hbox hg; have hcz39_0 : w38.cell? ⟨gb263, 0, none⟩ = some (.string a0_0) := (qkc BK263.out 0).trans rfl; have hcz39_1 : w38.cell? ⟨gb263, 1, none⟩ = some (.slice A0_1 l0_1.length c0_1) := (qkc BK263.out 1).trans rfl; have hfz39_0 := qkf BK263.out 0; have hfz39_1 := qkf BK263.out 1))
  repeat (go_quiet (first | ((with_reducible refine qgd (N := 2) rfl ?_); refine qbe ?hg (N := 2) ?hd (cs := #[.string a0_0, .slice A0_1 l0_1.length c0_1]) (t := 24) ?hr ?_; (case hd => rfl); (case hg => rfl); (case hr => first | (go_simp; done) | (go_simp; rfl)); intro gb263 hg w38 hbox hb; have n0_ := Aside0.mk (below_step (by repeat (first | (with_reducible first | exact HB.out | apply below_alloc | apply qbN | apply qb1) | exact HB.out)) hb); have n1_ := Aside0.mk (hbox); have n2_ := Aside0.mk ((by rw [hg]; exact (qbz (by repeat (first | (with_reducible first | exact HB.out | apply below_alloc | apply qbN | apply qb1) | exact HB.out))) : w.heap.size ≤ gb263)); have n3_ := Aside0.mk ((by rw [hg]; exact (qbz (by repeat (first | (with_reducible first | exact HB.out | apply below_alloc | apply qbN | apply qb1) | exact HB.out))) : w.heap.size ≤ gb263)); clear HB; have HB := n0_; have BK263 := n1_; have GW263 := n2_; have GE263 := n3_; clear n0_ n1_ n2_ n3_; clear hb hbox hg; have hcz39_0 : w38.cell? ⟨gb263, 0, none⟩ = some (.string a0_0) := (qkc BK263.out 0).trans rfl; have hcz39_1 : w38.cell? ⟨gb263, 1, none⟩ = some (.slice A0_1 l0_1.length c0_1) := (qkc BK263.out 1).trans rfl; have hfz39_0 := qkf BK263.out 0; have hfz39_1 := qkf BK263.out 1)); try go_wp2_with (first | ((with_reducible refine qgd (N := 2) rfl ?_); refine qbe ?hg (N := 2) ?hd (cs := #[.string a0_0, .slice A0_1 l0_1.length c0_1]) (t := 24) ?hr ?_; (case hd => rfl); (case hg => rfl); (case hr => first | (go_simp; done) | (go_simp; rfl)); intro gb263 hg w38 hbox hb; have n0_ := Aside0.mk (below_step (by repeat (first | (with_reducible first | exact HB.out | apply below_alloc | apply qbN | apply qb1) | exact HB.out)) hb); have n1_ := Aside0.mk (hbox); have n2_ := Aside0.mk ((by rw [hg]; exact (qbz (by repeat (first | (with_reducible first | exact HB.out | apply below_alloc | apply qbN | apply qb1) | exact HB.out))) : w.heap.size ≤ gb263)); have n3_ := Aside0.mk ((by rw [hg]; exact (qbz (by repeat (first | (with_reducible first | exact HB.out | apply below_alloc | apply qbN | apply qb1) | exact HB.out))) : w.heap.size ≤ gb263)); clear HB; have HB := n0_; have BK263 := n1_; have GW263 := n2_; have GE263 := n3_; clear n0_ n1_ n2_ n3_; clear hb hbox hg; have hcz39_0 : w38.cell? ⟨gb263, 0, none⟩ = some (.string a0_0) := (qkc BK263.out 0).trans rfl; have hcz39_1 : w38.cell? ⟨gb263, 1, none⟩ = some (.slice A0_1 l0_1.length c0_1) := (qkc BK263.out 1).trans rfl; have hfz39_0 := qkf BK263.out 0; have hfz39_1 := qkf BK263.out 1)))
  go_ret
  exact ⟨by first | rfl | (simp [eWn, eWs] <;> rfl) | (simp [*, eWn, eWs] <;> rfl), by repeat (first | (with_reducible first | exact HB.out | apply below_alloc | apply qbN | apply qb1 | refine qbs ?_ GE263.out) | exact HB.out)⟩

/-! ### barbicanref03_Uints: function 72 -/
def barbicanref03_Uints.f : Nat → Int → Option (List Int)
 | 0, _ => none
 | k + 1, a0 => if a0 < 128 then (some (([(a0) % 256] : List Int))) else ((some (([((Int.tmod a0 128) + 128) % 256] : List Int) : List Int)).bind fun y274 => ((barbicanref03_Uints.f k (IntKind.u64.wrap (Int.tdiv a0 128))).bind fun t277 => (if y274.length + t277.length < 140737488355328 then (some (y274 ++ t277)) else (none))))
theorem barbicanref03_Uints.mono_l : ∀ k, (∀ y0, LeO (barbicanref03_Uints.f k y0) (barbicanref03_Uints.f (k + 1) y0))
 | 0 => fun _ r h => by simp [barbicanref03_Uints.f] at h
 | k + 1 => by
  have ih0 := barbicanref03_Uints.mono_l k
  ·intro y0
   unfold barbicanref03_Uints.f
   repeat' first
   | (with_reducible exact ih0 _)
   | (with_reducible exact LeO.refl _)
   | (with_reducible exact LeO.none _)
   | (with_reducible refine LeO.ite ?_ ?_)
   | (with_reducible refine LeO.bind ?_ (fun _ => ?_))
   | exact ih0 _
   | exact LeO.none _
   | refine LeO.ite ?_ ?_
   | refine LeO.bind ?_ (fun _ => ?_)
theorem barbicanref03_Uints.mono : ∀ a0 k, LeO (barbicanref03_Uints.f k a0) (barbicanref03_Uints.f (k + 1) a0) := by
 intro a0 k
 have ih0 := barbicanref03_Uints.mono_l k
 exact ih0 a0
set_option maxHeartbeats 8000000 in
set_option maxRecDepth 100000 in
theorem barbicanref03_Uints.calls (k : Nat) : ∀ (a0 : Int) (r : List Int) (w : World) (h : barbicanref03_Uints.f k a0 = some r),
  Calls Tryd.prog 72 #[.int .u64 a0] w fun e w' => ∃ v0_ : Value, e = .returned (v0_) ∧ Kd.R (Kd.int .u8) 5 w' w.heap.size (fun _ => True) v0_ r ∧ Below w.heap.size w w' := by
 induction k using Nat.strongRecOn with
 | _ k ih =>
 intro a0 r w h
 cases k with
 | zero => exact absurd h (by simp [barbicanref03_Uints.f])
 | succ k =>
 simp only [barbicanref03_Uints.f] at h
 have HB := Aside0.mk (Below.refl w.heap.size w)
 have H : (if a0 < 128 then (some (([(a0) % 256] : List Int))) else ((some (([((Int.tmod a0 128) + 128) % 256] : List Int) : List Int)).bind fun y274 => ((barbicanref03_Uints.f k (IntKind.u64.wrap (Int.tdiv a0 128))).bind fun t277 => (if y274.length + t277.length < 140737488355328 then (some (y274 ++ t277)) else (none))))) = some r := h
 clear h
 by_cases c2 : a0 < 128
 ·rw [if_pos c2] at H
  have c2b0 : decide (a0 < 128) = true := decide_eq_true c2
  clear c2
  obtain ⟨y271, hy271⟩ : ∃ y_ : List Int, y_ = (([(a0) % 256] : List Int)) := ⟨_, rfl⟩
  replace H : (some y271) = some r := by first | (rw [hy271]; with_reducible exact H) | (have H2_ := (Option.bind_some _ _).symm.trans H; rw [hy271]; with_reducible exact H2_) | (have H2_ := (Option.bind_some _ _).symm.trans H; with_reducible exact H2_) | with_reducible exact H | (rw [hy271]; exact H) | exact H
  have Ny271 := Aside0.mk hy271
  clear hy271
  obtain rfl := Option.some.inj H
  go_enter Tryd.func72, Tryd.ntmps72
  go_wp2_with (first | ((with_reducible refine qgd (N := 7) rfl ?_); refine Kd.R_lit (Kd.int .u8) _ 5 ?hg (N := 7) ?hd (xs := ([(a0) % 256] : List Int)) (inner := [.int .u8 ((a0) % 256)]) (ok := fun _ => True) (okp := fun _ => True) ?hr ?hp (fun _ hk => hk) trivial (Below.refl _ _) (Nat.le_refl _) (by simp) ?_; (case hd => rfl); (case hg => rfl); (case hr => first | (go_simp; done) | (go_simp; rfl)); (case hp => exact (Reps.one (show Kd.M (Kd.int .u8) _ _ _ ((a0) % 256) [.int .u8 ((a0) % 256)] from rfl) (Reps.none _ _))); intro v272 w3 ho4 hb hg_ hnew_; clear hg_ hnew_; (first | rw [← Ny271.out] at ho4 | (simp only [Int.reduceToNat] at ho4; rw [← Ny271.out] at ho4)); have n0_ := Aside0.mk (Kd.R_lower ho4 (qbz (by repeat (first | (with_reducible first | exact HB.out | apply below_alloc | apply qbN | apply qb1) | exact HB.out)))); have n1_ := Aside0.mk (below_step (by repeat (first | (with_reducible first | exact HB.out | apply below_alloc | apply qbN | apply qb1) | exact HB.out)) hb); clear HB; have HO273 := n0_; have HB := n1_; clear n0_ n1_; clear hb ho4))
  go_ret
  exact ⟨_, by first | rfl | (simp [eWn, eWs] <;> rfl) | (simp [*, eWn, eWs] <;> rfl), by (with_reducible repeat (first | apply Kd.R_alloc | apply Kd.R_drewN | apply Kd.R_drew)); exact HO273.out, by repeat (first | (with_reducible first | exact HB.out | apply below_alloc | apply qbN | apply qb1) | exact HB.out)⟩
 ·rw [if_neg c2] at H
  have c2b0 : decide (a0 < 128) = false := decide_eq_false c2
  clear c2
  obtain ⟨y274, hy274⟩ : ∃ y_ : List Int, y_ = (([((Int.tmod a0 128) + 128) % 256] : List Int)) := ⟨_, rfl⟩
  replace H : ((barbicanref03_Uints.f k (IntKind.u64.wrap (Int.tdiv a0 128))).bind fun t277 => (if y274.length + t277.length < 140737488355328 then (some (y274 ++ t277)) else (none))) = some r := by first | (rw [hy274]; with_reducible exact H) | (have H2_ := (Option.bind_some _ _).symm.trans H; rw [hy274]; with_reducible exact H2_) | (have H2_ := (Option.bind_some _ _).symm.trans H; with_reducible exact H2_) | with_reducible exact H | (rw [hy274]; exact H) | exact H
  have Ny274 := Aside0.mk hy274
  clear hy274
  replace H := Option.bind_eq_some_iff.mp H
  obtain ⟨t277, A50, H⟩ := H
  replace H : (if y274.length + t277.length < 140737488355328 then (some (y274 ++ t277)) else (none)) = some r := H
  have A5 := Aside0.mk A50
  clear A50
  by_cases c6 : y274.length + t277.length < 140737488355328
  ·rw [if_pos c6] at H
   have LMc6 := Aside0.mk c6
   clear c6
   obtain ⟨y280, hy280⟩ : ∃ y_ : List Int, y_ = (y274 ++ t277) := ⟨_, rfl⟩
   replace H : (some y280) = some r := by first | (rw [hy280]; with_reducible exact H) | (have H2_ := (Option.bind_some _ _).symm.trans H; rw [hy280]; with_reducible exact H2_) | (have H2_ := (Option.bind_some _ _).symm.trans H; with_reducible exact H2_) | with_reducible exact H | (rw [hy280]; exact H) | exact H
   have Ny280 := Aside0.mk hy280
   clear hy280
   obtain rfl := Option.some.inj H
   go_enter Tryd.func72, Tryd.ntmps72
   go_wp2_with (first | ((with_reducible refine qgd (N := 12) rfl ?_); refine Kd.R_lit (Kd.int .u8) _ 5 ?hg (N := 12) ?hd (xs := ([((Int.tmod a0 128) + 128) % 256] : List Int)) (inner := [.int .u8 (((Int.tmod a0 128) + 128) % 256)]) (ok := fun _ => True) (okp := fun _ => True) ?hr ?hp (fun _ hk => hk) trivial (Below.refl _ _) (Nat.le_refl _) (by simp) ?_; (case hd => rfl); (case hg => rfl); (case hr => first | (go_simp; done) | (go_simp; rfl)); (case hp => exact (Reps.one (show Kd.M (Kd.int .u8) _ _ _ (((Int.tmod a0 128) + 128) % 256) [.int .u8 (((Int.tmod a0 128) + 128) % 256)] from rfl) (Reps.none _ _))); intro v275 w7 ho8 hb hg_ hnew_; clear hg_ hnew_; (first | rw [← Ny274.out] at ho8 | (simp only [Int.reduceToNat] at ho8; rw [← Ny274.out] at ho8)); have n0_ := Aside0.mk (Kd.R_lower ho8 (qbz (by repeat (first | (with_reducible first | exact HB.out | apply below_alloc | apply qbN | apply qb1) | exact HB.out)))); have n1_ := Aside0.mk (below_step (by repeat (first | (with_reducible first | exact HB.out | apply below_alloc | apply qbN | apply qb1) | exact HB.out)) hb); clear HB; have HO276 := n0_; have HB := n1_; clear n0_ n1_; clear hb ho8) | ((with_reducible refine qgc (f := 72) rfl ?_); refine goesL_ (some 15) rfl rfl Tryd.func72 (by kernel_rfl) rfl #[.int .u64 (IntKind.u64.wrap (Int.tdiv a0 128))] rfl (by (try simp only [List.map_toArray, List.map_cons, List.map_nil]); first | done | rfl | (simp only [List.length_drop, List.length_take]; rfl)) ?_; (with_reducible refine (ih k (by omega) (IntKind.u64.wrap (Int.tdiv a0 128)) t277 _ A5.out).mono ?_); rintro e w9 ⟨v278, rfl, ho0, hb⟩; refine ⟨_, rfl, ?_⟩; have n0_ := Aside0.mk (Kd.R_elder' (by (with_reducible repeat (first | apply Kd.R_alloc | apply Kd.R_drewN | apply Kd.R_drew)); exact HO276.out) (Kd.R_base ho0) hb); have n1_ := Aside0.mk (Kd.R_lower (Kd.R_new' ho0 (Kd.R_lt (by (with_reducible repeat (first | apply Kd.R_alloc | apply Kd.R_drewN | apply Kd.R_drew)); exact HO276.out))) (qbz (by repeat (first | (with_reducible first | exact HB.out | apply below_alloc | apply qbN | apply qb1) | exact HB.out)))); have n2_ := Aside0.mk (below_step (by repeat (first | (with_reducible first | exact HB.out | apply below_alloc | apply qbN | apply qb1) | exact HB.out)) hb); clear HO276; clear HB; have HO276 := n0_; have HO279 := n1_; have HB := n2_; clear n0_ n1_ n2_; (try clear hb); (try clear hb2); (try clear hk); (try clear hi); (try clear ho0); obtain ⟨Ao11, co11, eo11⟩ := Kd.R_slice HO279.out; subst eo11) | ((with_reducible refine gate_builtin (b := .append) (xs := #[.tmp 12, .tmp 15]) rfl ?_); at_builtin; refine Kd.R_append_rows (Kd.int .u8) (w0 := w) w.heap.size rfl (.tmp 12) (.tmp 15) 26 5 (.int .u8 0) 1 rfl Tryd.underlying26 info5 rfl (by decide) (by omega) v275 y274 t277 _ _ _ (fun k_ => some k_ ≠ (.slice Ao11 t277.length co11 : Value).ownBlock) (fun _ => False) rfl rfl ?aO ?aR (fun _ _ h => h) (fun _ h => h.elim) ?aF ?aB ?aS ?aL ?_; (case aR => repeat (first | exact (Kd.R_reads' HO279.out).2.2 | (with_reducible refine Kd.C_alloc ?_ _) | (with_reducible refine Kd.C_drewN ?_ _) | (with_reducible refine Kd.C_drew ?_))); (case aB => exact (by repeat (first | (with_reducible first | exact HB.out | apply below_alloc | apply qbN | apply qb1) | exact HB.out))); (case aF => exact (fun k_ hk => Kd.fresh' (Kd.R_lt (by (with_reducible repeat (first | apply Kd.R_alloc | apply Kd.R_drewN | apply Kd.R_drew)); exact HO279.out)) k_ hk)); (case aO => exact (by (with_reducible repeat (first | apply Kd.R_alloc | apply Kd.R_drewN | apply Kd.R_drew)); exact Kd.R_mono HO276.out (fun _ hk => hk.2))); (case aS => exact (qbz (by repeat (first | (with_reducible first | exact HB.out | apply below_alloc | apply qbN | apply qb1) | exact HB.out)))); (case aL => have := LMc6.out; omega); intro v281 w10 ho hb hg hat; rw [← Ny280.out] at ho; have n0_ := Aside0.mk (Kd.R_after (ok := (fun _ => True)) (by (with_reducible repeat (first | apply Kd.R_alloc | apply Kd.R_drewN | apply Kd.R_drew)); exact HO279.out) hg hat); have n1_ := Aside0.mk (hb); have n2_ := Aside0.mk (ho); clear HO279; clear HB; clear HO276; have HO279 := n0_; have HB := n1_; have HO282 := n2_; clear n0_ n1_ n2_; clear ho hb hg hat))
   go_ret
   exact ⟨_, by first | rfl | (simp [eWn, eWs] <;> rfl) | (simp [*, eWn, eWs] <;> rfl), by (with_reducible repeat (first | apply Kd.R_alloc | apply Kd.R_drewN | apply Kd.R_drew)); exact Kd.R_mono HO282.out (fun _ hk => trivial), by repeat (first | (with_reducible first | exact HB.out | apply below_alloc | apply qbN | apply qb1) | exact HB.out)⟩
  ·rw [if_neg c6] at H
   exact absurd H (by simp)

/-! ### barbicanref03_Ints: function 41 -/
def barbicanref03_Ints.f (k : Nat) (a0 : Int) : Option (List Int) := if a0 ≥ 0 then ((barbicanref03_Uints.f k (IntKind.u64.wrap (2 * (IntKind.u64.wrap (a0))))).bind fun t283 => (some t283)) else ((barbicanref03_Uints.f k (IntKind.u64.wrap ((IntKind.u64.wrap (2 * (IntKind.u64.wrap (wrap64 (-(wrap64 (a0 + 1))))))) + 1))).bind fun t286 => (some t286))
theorem barbicanref03_Ints.mono : ∀ a0 k, LeO (barbicanref03_Ints.f k a0) (barbicanref03_Ints.f (k + 1) a0) := by
 intro a0 k
 unfold barbicanref03_Ints.f
 repeat' first
   | (with_reducible exact barbicanref03_Uints.mono _ _)
   | (with_reducible exact LeO.refl _)
   | (with_reducible exact LeO.none _)
   | (with_reducible refine LeO.ite ?_ ?_)
   | (with_reducible refine LeO.bind ?_ (fun _ => ?_))
   | exact barbicanref03_Uints.mono _ _
   | exact LeO.none _
   | refine LeO.ite ?_ ?_
   | refine LeO.bind ?_ (fun _ => ?_)
set_option maxHeartbeats 8000000 in
set_option maxRecDepth 100000 in
theorem barbicanref03_Ints.calls (k : Nat) (a0 : Int) (r : List Int) (w : World) (h : barbicanref03_Ints.f k a0 = some r) :
  Calls Tryd.prog 41 #[.int .i64 a0] w fun e w' => ∃ v0_ : Value, e = .returned (v0_) ∧ Kd.R (Kd.int .u8) 5 w' w.heap.size (fun _ => True) v0_ r ∧ Below w.heap.size w w' := by
 have HB := Aside0.mk (Below.refl w.heap.size w)
 have H : (if a0 ≥ 0 then ((barbicanref03_Uints.f k (IntKind.u64.wrap (2 * (IntKind.u64.wrap (a0))))).bind fun t283 => (some t283)) else ((barbicanref03_Uints.f k (IntKind.u64.wrap ((IntKind.u64.wrap (2 * (IntKind.u64.wrap (wrap64 (-(wrap64 (a0 + 1))))))) + 1))).bind fun t286 => (some t286))) = some r := h
 clear h
 by_cases c2 : a0 ≥ 0
 ·rw [if_pos c2] at H
  have c2b0 : decide (0 ≤ a0) = true := decide_eq_true c2
  clear c2
  replace H := Option.bind_eq_some_iff.mp H
  obtain ⟨t283, A30, H⟩ := H
  replace H : (some t283) = some r := H
  have A3 := Aside0.mk A30
  clear A30
  obtain rfl := Option.some.inj H
  go_enter Tryd.func41, Tryd.ntmps41
  go_wp2_with (first | ((with_reducible refine qgc (f := 72) rfl ?_); refine goesL_ (some 8) rfl rfl Tryd.func72 (by kernel_rfl) rfl #[.int .u64 (IntKind.u64.wrap (2 * (IntKind.u64.wrap (a0))))] rfl (by (try simp only [List.map_toArray, List.map_cons, List.map_nil]); first | done | rfl | (simp only [List.length_drop, List.length_take]; rfl)) ?_; (with_reducible refine (barbicanref03_Uints.calls k (IntKind.u64.wrap (2 * (IntKind.u64.wrap (a0)))) t283 _ A3.out).mono ?_); rintro e w4 ⟨v284, rfl, ho0, hb⟩; refine ⟨_, rfl, ?_⟩; have n0_ := Aside0.mk (Kd.R_lower ho0 (qbz (by repeat (first | (with_reducible first | exact HB.out | apply below_alloc | apply qbN | apply qb1) | exact HB.out)))); have n1_ := Aside0.mk (below_step (by repeat (first | (with_reducible first | exact HB.out | apply below_alloc | apply qbN | apply qb1) | exact HB.out)) hb); clear HB; have HO285 := n0_; have HB := n1_; clear n0_ n1_; (try clear hb); (try clear hb2); (try clear hk); (try clear hi); (try clear ho0)))
  go_ret
  exact ⟨_, by first | rfl | (simp [eWn, eWs] <;> rfl) | (simp [*, eWn, eWs] <;> rfl), by (with_reducible repeat (first | apply Kd.R_alloc | apply Kd.R_drewN | apply Kd.R_drew)); exact HO285.out, by repeat (first | (with_reducible first | exact HB.out | apply below_alloc | apply qbN | apply qb1) | exact HB.out)⟩
 ·rw [if_neg c2] at H
  have c2b0 : decide (0 ≤ a0) = false := decide_eq_false c2
  clear c2
  replace H := Option.bind_eq_some_iff.mp H
  obtain ⟨t286, A50, H⟩ := H
  replace H : (some t286) = some r := H
  have A5 := Aside0.mk A50
  clear A50
  obtain rfl := Option.some.inj H
  go_enter Tryd.func41, Tryd.ntmps41
  go_wp2_with (first | ((with_reducible refine qgc (f := 72) rfl ?_); refine goesL_ (some 15) rfl rfl Tryd.func72 (by kernel_rfl) rfl #[.int .u64 (IntKind.u64.wrap ((IntKind.u64.wrap (2 * (IntKind.u64.wrap (wrap64 (-(wrap64 (a0 + 1))))))) + 1))] rfl (by (try simp only [List.map_toArray, List.map_cons, List.map_nil]); first | done | rfl | (simp only [List.length_drop, List.length_take]; rfl)) ?_; (with_reducible refine (barbicanref03_Uints.calls k (IntKind.u64.wrap ((IntKind.u64.wrap (2 * (IntKind.u64.wrap (wrap64 (-(wrap64 (a0 + 1))))))) + 1)) t286 _ A5.out).mono ?_); rintro e w6 ⟨v287, rfl, ho0, hb⟩; refine ⟨_, rfl, ?_⟩; have n0_ := Aside0.mk (Kd.R_lower ho0 (qbz (by repeat (first | (with_reducible first | exact HB.out | apply below_alloc | apply qbN | apply qb1) | exact HB.out)))); have n1_ := Aside0.mk (below_step (by repeat (first | (with_reducible first | exact HB.out | apply below_alloc | apply qbN | apply qb1) | exact HB.out)) hb); clear HB; have HO288 := n0_; have HB := n1_; clear n0_ n1_; (try clear hb); (try clear hb2); (try clear hk); (try clear hi); (try clear ho0)))
  go_ret
  exact ⟨_, by first | rfl | (simp [eWn, eWs] <;> rfl) | (simp [*, eWn, eWs] <;> rfl), by (with_reducible repeat (first | apply Kd.R_alloc | apply Kd.R_drewN | apply Kd.R_drew)); exact HO288.out, by repeat (first | (with_reducible first | exact HB.out | apply below_alloc | apply qbN | apply qb1) | exact HB.out)⟩

/-! ### barbicanref03_Texts: function 42 -/
def barbicanref03_Texts.f (k : Nat) (a0 : ByteArray) : Option (List Int) := (barbicanref03_Uints.f k (IntKind.u64.wrap ((a0.size : Int)))).bind fun t289 => (if t289.length + a0.size < 140737488355328 then (some (t289 ++ bytesOf a0)) else (none))
theorem barbicanref03_Texts.mono : ∀ a0 k, LeO (barbicanref03_Texts.f k a0) (barbicanref03_Texts.f (k + 1) a0) := by
 intro a0 k
 unfold barbicanref03_Texts.f
 repeat' first
   | (with_reducible exact barbicanref03_Uints.mono _ _)
   | (with_reducible exact LeO.refl _)
   | (with_reducible exact LeO.none _)
   | (with_reducible refine LeO.ite ?_ ?_)
   | (with_reducible refine LeO.bind ?_ (fun _ => ?_))
   | exact barbicanref03_Uints.mono _ _
   | exact LeO.none _
   | refine LeO.ite ?_ ?_
   | refine LeO.bind ?_ (fun _ => ?_)
set_option maxHeartbeats 8000000 in
set_option maxRecDepth 100000 in
theorem barbicanref03_Texts.calls (k : Nat) (a0 : ByteArray) (r : List Int) (w : World) (h : barbicanref03_Texts.f k a0 = some r) :
  Calls Tryd.prog 42 #[.string a0] w fun e w' => ∃ v0_ : Value, e = .returned (v0_) ∧ Kd.R (Kd.int .u8) 5 w' w.heap.size (fun _ => True) v0_ r ∧ Below w.heap.size w w' := by
 have HB := Aside0.mk (Below.refl w.heap.size w)
 have H : ((barbicanref03_Uints.f k (IntKind.u64.wrap ((a0.size : Int)))).bind fun t289 => (if t289.length + a0.size < 140737488355328 then (some (t289 ++ bytesOf a0)) else (none))) = some r := h
 clear h
 replace H := Option.bind_eq_some_iff.mp H
 obtain ⟨t289, A20, H⟩ := H
 replace H : (if t289.length + a0.size < 140737488355328 then (some (t289 ++ bytesOf a0)) else (none)) = some r := H
 have A2 := Aside0.mk A20
 clear A20
 by_cases c3 : t289.length + a0.size < 140737488355328
 ·rw [if_pos c3] at H
  have LMc3 := Aside0.mk c3
  clear c3
  obtain ⟨y292, hy292⟩ : ∃ y_ : List Int, y_ = (t289 ++ bytesOf a0) := ⟨_, rfl⟩
  replace H : (some y292) = some r := by first | (rw [hy292]; with_reducible exact H) | (have H2_ := (Option.bind_some _ _).symm.trans H; rw [hy292]; with_reducible exact H2_) | (have H2_ := (Option.bind_some _ _).symm.trans H; with_reducible exact H2_) | with_reducible exact H | (rw [hy292]; exact H) | exact H
  have Ny292 := Aside0.mk hy292
  clear hy292
  obtain rfl := Option.some.inj H
  go_enter Tryd.func42, Tryd.ntmps42
  go_wp2_with (first | ((with_reducible refine qgc (f := 72) rfl ?_); refine goesL_ (some 6) rfl rfl Tryd.func72 (by kernel_rfl) rfl #[.int .u64 (IntKind.u64.wrap ((a0.size : Int)))] rfl (by (try simp only [List.map_toArray, List.map_cons, List.map_nil]); first | done | rfl | (simp only [List.length_drop, List.length_take]; rfl)) ?_; (with_reducible refine (barbicanref03_Uints.calls k (IntKind.u64.wrap ((a0.size : Int))) t289 _ A2.out).mono ?_); rintro e w4 ⟨v290, rfl, ho0, hb⟩; refine ⟨_, rfl, ?_⟩; have n0_ := Aside0.mk (Kd.R_lower ho0 (qbz (by repeat (first | (with_reducible first | exact HB.out | apply below_alloc | apply qbN | apply qb1) | exact HB.out)))); have n1_ := Aside0.mk (below_step (by repeat (first | (with_reducible first | exact HB.out | apply below_alloc | apply qbN | apply qb1) | exact HB.out)) hb); clear HB; have HO291 := n0_; have HB := n1_; clear n0_ n1_; (try clear hb); (try clear hb2); (try clear hk); (try clear hi); (try clear ho0)) | (at_builtin; refine print_append_str (w0 := w) w.heap.size rfl (.tmp 6) _ 26 9 5 rfl Tryd.underlying26 Tryd.underlying9 info5 v290 t289 a0 rfl rfl ?aO ?aB ?aS ?aL ?_; (case aB => exact (by repeat (first | (with_reducible first | exact HB.out | apply below_alloc | apply qbN | apply qb1) | exact HB.out))); (case aO => exact (Kd.own_of_R (by (with_reducible repeat (first | apply Kd.R_alloc | apply Kd.R_drewN | apply Kd.R_drew)); exact HO291.out))); (case aS => exact (qbz (by repeat (first | (with_reducible first | exact HB.out | apply below_alloc | apply qbN | apply qb1) | exact HB.out)))); (case aL => have := LMc3.out; omega); intro v293 w5 ho0 hb hg; have ho := Kd.R_of_own (h1 := fun _ => rfl) (ok := fun _ => True) ho0 (fun _ _ => trivial); clear ho0; have hat := True.intro; rw [← Ny292.out] at ho; change Kd.R (Kd.int .u8) 5 w5 w.heap.size (fun _ => True) v293 y292 at ho; have n0_ := Aside0.mk (hb); have n1_ := Aside0.mk (ho); clear HB; clear HO291; have HB := n0_; have HO294 := n1_; clear n0_ n1_; clear ho hb hg hat))
  go_ret
  exact ⟨_, by first | rfl | (simp [eWn, eWs] <;> rfl) | (simp [*, eWn, eWs] <;> rfl), by (with_reducible repeat (first | apply Kd.R_alloc | apply Kd.R_drewN | apply Kd.R_drew)); exact HO294.out, by repeat (first | (with_reducible first | exact HB.out | apply below_alloc | apply qbN | apply qb1) | exact HB.out)⟩
 ·rw [if_neg c3] at H
  exact absurd H (by simp)

end Go.Proofs.YtljadejgdbemoaaDoor.R
