-- Written by wip/xprint.py of this session's own repo (a patched run of the kit's printer). Not trusted: Lean checks it.
import Derived.Test.YtljadejgdbemoaaGreatDoorPwAx0
import Derived.Test.YtljadejgdbemoaaGreatDoorPwAx9
import Derived.Test.YtljadejgdbemoaaGreatDoorPwAx11
namespace Go.Proofs.YtljadejgdbemoaaGreatDoor.A
open Go.RowKit Go.Proofs.YtljadejgdbemoaaGreatDoorW.PrintWords Go.Proofs.YtljadejgdbemoaaGreatDoorW.PrintLast Go.Proofs.YtljadejgdbemoaaGreatDoorW.PrintMore Go.Proofs.YtljadejgdbemoaaGreatDoorX
attribute [local go_sem] max2_int min2_int max_two min_two max_three min_three max_four min_four
set_option linter.unusedVariables false
set_option linter.unusedSimpArgs false

/-! ### barbicanref05_Order: function 17 -/
mutual
def barbicanref05_Order.j0 : Nat → Int → Bool → Int → Int → ByteArray → Bool → Int → Int → ByteArray → Bool → Option (Int × Int × ByteArray × Bool × Int)
  | 0, _, _, _, _, _, _, _, _, _, _ => none
  | k + 1, x2, x42, x511000, x511001, x511002, x511003, x512000, x512001, x512002, x512003 => if x42 = true then (some (0, 0, (⟨#[]⟩ : ByteArray), false, 7)) else (if x511000 = 0 then (barbicanref05_Order.j1 k x2 true x511000 x511001 x511002 x511003 x512000 x512001 x512002 x512003) else (barbicanref05_Order.j1 k x2 (x512000 == 0) x511000 x511001 x511002 x511003 x512000 x512001 x512002 x512003))
def barbicanref05_Order.j1 : Nat → Int → Bool → Int → Int → ByteArray → Bool → Int → Int → ByteArray → Bool → Option (Int × Int × ByteArray × Bool × Int)
  | 0, _, _, _, _, _, _, _, _, _, _ => none
  | k + 1, x2, x51, x511000, x511001, x511002, x511003, x512000, x512001, x512002, x512003 => if x51 = true then (some (0, 0, (⟨#[]⟩ : ByteArray), false, 0)) else ((barbicanref05_Compare.f k x511000 x511001 x511002 x511003 x512000 x512001 x512002 x512003).bind fun t513 => ((barbicanref05_Bool.f (t513 == x2)).bind fun bt514 => (some (bt514.1, bt514.2.1, bt514.2.2.1, bt514.2.2.2, 0))))
end
def barbicanref05_Order.f (k : Nat) (a0_0 : Int) (a0_1 : Int) (a0_2 : ByteArray) (a0_3 : Bool) (a1_0 : Int) (a1_1 : Int) (a1_2 : ByteArray) (a1_3 : Bool) (a2 : Int) : Option (Int × Int × ByteArray × Bool × Int) := if a0_0 < 0 then (barbicanref05_Order.j0 k a2 true a0_0 a0_1 a0_2 a0_3 a1_0 a1_1 a1_2 a1_3) else (if a0_0 > 3 then (barbicanref05_Order.j0 k a2 true a0_0 a0_1 a0_2 a0_3 a1_0 a1_1 a1_2 a1_3) else (if a1_0 < 0 then (barbicanref05_Order.j0 k a2 true a0_0 a0_1 a0_2 a0_3 a1_0 a1_1 a1_2 a1_3) else (if a1_0 > 3 then (barbicanref05_Order.j0 k a2 true a0_0 a0_1 a0_2 a0_3 a1_0 a1_1 a1_2 a1_3) else (if a0_0 = 0 then (barbicanref05_Order.j0 k a2 false a0_0 a0_1 a0_2 a0_3 a1_0 a1_1 a1_2 a1_3) else (if a1_0 = 0 then (barbicanref05_Order.j0 k a2 false a0_0 a0_1 a0_2 a0_3 a1_0 a1_1 a1_2 a1_3) else (barbicanref05_Order.j0 k a2 (a0_0 != a1_0) a0_0 a0_1 a0_2 a0_3 a1_0 a1_1 a1_2 a1_3))))))
set_option maxHeartbeats 8000000 in
set_option maxRecDepth 100000 in
theorem barbicanref05_Order.calls (k : Nat) (a0_0 : Int) (a0_1 : Int) (a0_2 : ByteArray) (a0_3 : Bool) (a1_0 : Int) (a1_1 : Int) (a1_2 : ByteArray) (a1_3 : Bool) (a2 : Int) (r1 : Int) (r2 : Int) (r3 : ByteArray) (r4 : Bool) (r5 : Int) (w : World) (h : barbicanref05_Order.f k a0_0 a0_1 a0_2 a0_3 a1_0 a1_1 a1_2 a1_3 a2 = some (r1, r2, r3, r4, r5)) :
    Calls Tryz.prog 17 #[.agg #[.int .i64 a0_0, .int .i64 a0_1, .string a0_2, .bool a0_3], .agg #[.int .i64 a1_0, .int .i64 a1_1, .string a1_2, .bool a1_3], .int .i64 a2] w fun e w' => e = .returned (.tuple #[.agg #[.int .i64 r1, .int .i64 r2, .string r3, .bool r4], .int .i64 r5]) ∧ Below w.heap.size w w' := by
  have hu23 := Tryz.underlying23
  have HB := Aside0.mk (Below.refl w.heap.size w)
  have H : (if a0_0 < 0 then (barbicanref05_Order.j0 k a2 true a0_0 a0_1 a0_2 a0_3 a1_0 a1_1 a1_2 a1_3) else (if a0_0 > 3 then (barbicanref05_Order.j0 k a2 true a0_0 a0_1 a0_2 a0_3 a1_0 a1_1 a1_2 a1_3) else (if a1_0 < 0 then (barbicanref05_Order.j0 k a2 true a0_0 a0_1 a0_2 a0_3 a1_0 a1_1 a1_2 a1_3) else (if a1_0 > 3 then (barbicanref05_Order.j0 k a2 true a0_0 a0_1 a0_2 a0_3 a1_0 a1_1 a1_2 a1_3) else (if a0_0 = 0 then (barbicanref05_Order.j0 k a2 false a0_0 a0_1 a0_2 a0_3 a1_0 a1_1 a1_2 a1_3) else (if a1_0 = 0 then (barbicanref05_Order.j0 k a2 false a0_0 a0_1 a0_2 a0_3 a1_0 a1_1 a1_2 a1_3) else (barbicanref05_Order.j0 k a2 (a0_0 != a1_0) a0_0 a0_1 a0_2 a0_3 a1_0 a1_1 a1_2 a1_3))))))) = some (r1, r2, r3, r4, r5) := h
  clear h
  have HC4 := Aside0.mk H
  clear H
  go_enter Tryz.func17, Tryz.ntmps17
  go_upto_region 1 with (first | ((with_reducible refine gate_dst (N := 3) rfl ?_); refine box_event ?hg (N := 3) ?hd (cs := #[.int .i64 a0_0, .int .i64 a0_1, .string a0_2, .bool a0_3]) (t := 23) ?hr ?_; (case hd => rfl); (case hg => rfl); (case hr => first | (go_simp; done) | (go_simp; rfl)); intro gb510 hg w5 hbox hb; have n0_ := Aside0.mk (below_step (by repeat (first | (with_reducible first | exact HB.out | apply below_alloc | apply pw_below_drewN | apply below_drew1) | exact HB.out)) hb); have n1_ := Aside0.mk (hbox); have n2_ := Aside0.mk ((by rw [hg]; exact (below_size (by repeat (first | (with_reducible first | exact HB.out | apply below_alloc | apply pw_below_drewN | apply below_drew1) | exact HB.out))) : w.heap.size ≤ gb510)); have n3_ := Aside0.mk ((by rw [hg]; exact (below_size (by repeat (first | (with_reducible first | exact HB.out | apply below_alloc | apply pw_below_drewN | apply below_drew1) | exact HB.out))) : w.heap.size ≤ gb510)); clear HB; have HB := n0_; have BK510 := n1_; have GW510 := n2_; have GE510 := n3_; clear n0_ n1_ n2_ n3_; clear hb hbox hg) | ((with_reducible refine gate_dst (N := 4) rfl ?_); refine box_event ?hg (N := 4) ?hd (cs := #[.int .i64 a1_0, .int .i64 a1_1, .string a1_2, .bool a1_3]) (t := 23) ?hr ?_; (case hd => rfl); (case hg => rfl); (case hr => first | (go_simp; done) | (go_simp; rfl)); intro gb511 hg w6 hbox hb; have n0_ := Aside0.mk (blk_below (g := gb510) (o := .cells #[.int .i64 a0_0, .int .i64 a0_1, .string a0_2, .bool a0_3] 23 (0, 0)) (by (with_reducible repeat (first | refine blk_drewN ?_ _ | refine blk_drew ?_ | refine blk_alloc ?_ _)); exact BK510.out) hb); have n1_ := Aside0.mk (below_step (by repeat (first | (with_reducible first | exact HB.out | apply below_alloc | apply pw_below_drewN | apply below_drew1 | refine below_set ?_ GE510.out) | exact HB.out)) hb); have n2_ := Aside0.mk (hbox); have n3_ := Aside0.mk ((by rw [hg]; exact (below_size (by repeat (first | (with_reducible first | exact HB.out | apply below_alloc | apply pw_below_drewN | apply below_drew1 | refine below_set ?_ GE510.out) | exact HB.out))) : w.heap.size ≤ gb511)); have n4_ := Aside0.mk ((by rw [hg]; exact (below_size (by repeat (first | (with_reducible first | exact HB.out | apply below_alloc | apply pw_below_drewN | apply below_drew1 | refine below_set ?_ GE510.out) | exact HB.out))) : w.heap.size ≤ gb511)); have n5_ := Aside0.mk ((by rw [hg]; exact Nat.ne_of_lt (blk_lt (g := gb510) (o := .cells #[.int .i64 a0_0, .int .i64 a0_1, .string a0_2, .bool a0_3] 23 (0, 0)) (by (with_reducible repeat (first | refine blk_drewN ?_ _ | refine blk_drew ?_ | refine blk_alloc ?_ _)); exact BK510.out)) : gb510 ≠ gb511)); have n6_ := Aside0.mk ((by rw [hg]; exact Nat.ne_of_gt (blk_lt (g := gb510) (o := .cells #[.int .i64 a0_0, .int .i64 a0_1, .string a0_2, .bool a0_3] 23 (0, 0)) (by (with_reducible repeat (first | refine blk_drewN ?_ _ | refine blk_drew ?_ | refine blk_alloc ?_ _)); exact BK510.out)) : gb511 ≠ gb510)); clear BK510; clear HB; have BK510 := n0_; have HB := n1_; have BK511 := n2_; have GW511 := n3_; have GE511 := n4_; have NB510_511 := n5_; have NB511_510 := n6_; clear n0_ n1_ n2_ n3_ n4_ n5_ n6_; clear hb hbox hg) | ((with_reducible refine gate_dst (N := 6) rfl ?_); refine box_event ?hg (N := 6) ?hd (cs := #[.int .i64 0, .int .i64 0, .string (⟨#[]⟩ : ByteArray), .bool false]) (t := 23) ?hr ?_; (case hd => rfl); (case hg => rfl); (case hr => first | (go_simp; done) | (go_simp; rfl)); intro gb512 hg w7 hbox hb; have n0_ := Aside0.mk (blk_below (g := gb510) (o := .cells #[.int .i64 a0_0, .int .i64 a0_1, .string a0_2, .bool a0_3] 23 (0, 0)) (by (with_reducible repeat (first | refine blk_drewN ?_ _ | refine blk_drew ?_ | refine blk_alloc ?_ _)); exact BK510.out) hb); have n1_ := Aside0.mk (blk_below (g := gb511) (o := .cells #[.int .i64 a1_0, .int .i64 a1_1, .string a1_2, .bool a1_3] 23 (0, 0)) (by (with_reducible repeat (first | refine blk_drewN ?_ _ | refine blk_drew ?_ | refine blk_alloc ?_ _)); exact BK511.out) hb); have n2_ := Aside0.mk (below_step (by repeat (first | (with_reducible first | exact HB.out | apply below_alloc | apply pw_below_drewN | apply below_drew1 | refine below_set ?_ GE510.out | refine below_set ?_ GE511.out) | exact HB.out)) hb); have n3_ := Aside0.mk (hbox); have n4_ := Aside0.mk ((by rw [hg]; exact (below_size (by repeat (first | (with_reducible first | exact HB.out | apply below_alloc | apply pw_below_drewN | apply below_drew1 | refine below_set ?_ GE510.out | refine below_set ?_ GE511.out) | exact HB.out))) : w.heap.size ≤ gb512)); have n5_ := Aside0.mk ((by rw [hg]; exact (below_size (by repeat (first | (with_reducible first | exact HB.out | apply below_alloc | apply pw_below_drewN | apply below_drew1 | refine below_set ?_ GE510.out | refine below_set ?_ GE511.out) | exact HB.out))) : w.heap.size ≤ gb512)); have n6_ := Aside0.mk ((by rw [hg]; exact Nat.ne_of_lt (blk_lt (g := gb510) (o := .cells #[.int .i64 a0_0, .int .i64 a0_1, .string a0_2, .bool a0_3] 23 (0, 0)) (by (with_reducible repeat (first | refine blk_drewN ?_ _ | refine blk_drew ?_ | refine blk_alloc ?_ _)); exact BK510.out)) : gb510 ≠ gb512)); have n7_ := Aside0.mk ((by rw [hg]; exact Nat.ne_of_gt (blk_lt (g := gb510) (o := .cells #[.int .i64 a0_0, .int .i64 a0_1, .string a0_2, .bool a0_3] 23 (0, 0)) (by (with_reducible repeat (first | refine blk_drewN ?_ _ | refine blk_drew ?_ | refine blk_alloc ?_ _)); exact BK510.out)) : gb512 ≠ gb510)); have n8_ := Aside0.mk ((by rw [hg]; exact Nat.ne_of_lt (blk_lt (g := gb511) (o := .cells #[.int .i64 a1_0, .int .i64 a1_1, .string a1_2, .bool a1_3] 23 (0, 0)) (by (with_reducible repeat (first | refine blk_drewN ?_ _ | refine blk_drew ?_ | refine blk_alloc ?_ _)); exact BK511.out)) : gb511 ≠ gb512)); have n9_ := Aside0.mk ((by rw [hg]; exact Nat.ne_of_gt (blk_lt (g := gb511) (o := .cells #[.int .i64 a1_0, .int .i64 a1_1, .string a1_2, .bool a1_3] 23 (0, 0)) (by (with_reducible repeat (first | refine blk_drewN ?_ _ | refine blk_drew ?_ | refine blk_alloc ?_ _)); exact BK511.out)) : gb512 ≠ gb511)); clear BK510; clear BK511; clear HB; have BK510 := n0_; have BK511 := n1_; have HB := n2_; have BK512 := n3_; have GW512 := n4_; have GE512 := n5_; have NB510_512 := n6_; have NB512_510 := n7_; have NB511_512 := n8_; have NB512_511 := n9_; clear n0_ n1_ n2_ n3_ n4_ n5_ n6_ n7_ n8_ n9_; clear hb hbox hg))
  (try simp only [Act.put, List.setIfInBounds_toArray, List.set_cons_zero, List.set_cons_succ])
  go_cut [42] (fun v42 wc => ∃ (kq : Nat) (x42_3 : Bool), v42 = .bool x42_3 ∧ Aside0 (barbicanref05_Order.j0 kq a2 x42_3 a0_0 a0_1 a0_2 a0_3 a1_0 a1_1 a1_2 a1_3 = some (r1, r2, r3, r4, r5)) ∧ Aside0 (kq ≤ k) ∧ Aside0 (wc.heap[gb510]? = some (.cells #[.int .i64 a0_0, .int .i64 a0_1, .string a0_2, .bool a0_3] 23 (0, 0))) ∧ Aside0 (wc.heap[gb511]? = some (.cells #[.int .i64 a1_0, .int .i64 a1_1, .string a1_2, .bool a1_3] 23 (0, 0))) ∧ Aside0 (wc.heap[gb512]? = some (.cells #[.int .i64 0, .int .i64 0, .string (⟨#[]⟩ : ByteArray), .bool false] 23 (0, 0))) ∧ Aside0 (Below w.heap.size w wc))
  case first =>
    have H := HC4.out
    clear HC4
    by_cases c8 : a0_0 < 0
    · rw [if_pos c8] at H
      have c8b0 : decide (a0_0 < 0) = true := decide_eq_true c8
      clear c8
      (first | rw [c8b0] | (simp only [i64_w, i32_w]; rw [c8b0]) | skip)
      have H' := Aside0.mk H
      clear H
      have hnb9 := NB510_511.out
      have hnc9 := NB511_510.out
      have hnb10 := NB510_512.out
      have hnc10 := NB512_510.out
      have hcz11_0 : w7.cell? ⟨gb510, 0, none⟩ = some (.int .i64 a0_0) := (blk_cell BK510.out 0).trans rfl
      have hcz11_1 : w7.cell? ⟨gb510, 1, none⟩ = some (.int .i64 a0_1) := (blk_cell BK510.out 1).trans rfl
      have hcz11_2 : w7.cell? ⟨gb510, 2, none⟩ = some (.string a0_2) := (blk_cell BK510.out 2).trans rfl
      have hcz11_3 : w7.cell? ⟨gb510, 3, none⟩ = some (.bool a0_3) := (blk_cell BK510.out 3).trans rfl
      have hfz11_0 := blk_frozen BK510.out 0
      have hfz11_1 := blk_frozen BK510.out 1
      have hfz11_2 := blk_frozen BK510.out 2
      have hfz11_3 := blk_frozen BK510.out 3
      go_wp2
      refine Met.intro ?_
      go_step
      (repeat apply Exists.intro)
      refine ⟨?rel, ?frm⟩
      case frm => first | rfl | (simp only [c8b0]; rfl) | (simp only [c8b0]; first | done | rfl)
      case rel => exact ⟨_, (true), (by first | rfl | (simp; done) | (simp [*]; done) | (simp [bne]; done)), H', ⟨by first | omega | exact Nat.le_refl _⟩, ⟨by (with_reducible repeat (first | refine blk_drewN ?_ _ | refine blk_drew ?_ | refine blk_alloc ?_ _)); exact BK510.out⟩, ⟨by (with_reducible repeat (first | refine blk_drewN ?_ _ | refine blk_drew ?_ | refine blk_alloc ?_ _)); exact BK511.out⟩, ⟨by (with_reducible repeat (first | refine blk_drewN ?_ _ | refine blk_drew ?_ | refine blk_alloc ?_ _)); exact BK512.out⟩, ⟨by repeat (first | (with_reducible first | exact HB.out | apply below_alloc | apply pw_below_drewN | apply below_drew1 | refine below_set ?_ GE510.out | refine below_set ?_ GE511.out | refine below_set ?_ GE512.out) | exact HB.out)⟩⟩
    · rw [if_neg c8] at H
      have c8b0 : decide (a0_0 < 0) = false := decide_eq_false c8
      clear c8
      (first | rw [c8b0] | (simp only [i64_w, i32_w]; rw [c8b0]) | skip)
      by_cases c12 : a0_0 > 3
      · rw [if_pos c12] at H
        have c12b0 : decide (3 < a0_0) = true := decide_eq_true c12
        clear c12
        have H' := Aside0.mk H
        clear H
        have hnb13 := NB510_511.out
        have hnc13 := NB511_510.out
        have hnb14 := NB510_512.out
        have hnc14 := NB512_510.out
        have hcz15_0 : w7.cell? ⟨gb510, 0, none⟩ = some (.int .i64 a0_0) := (blk_cell BK510.out 0).trans rfl
        have hcz15_1 : w7.cell? ⟨gb510, 1, none⟩ = some (.int .i64 a0_1) := (blk_cell BK510.out 1).trans rfl
        have hcz15_2 : w7.cell? ⟨gb510, 2, none⟩ = some (.string a0_2) := (blk_cell BK510.out 2).trans rfl
        have hcz15_3 : w7.cell? ⟨gb510, 3, none⟩ = some (.bool a0_3) := (blk_cell BK510.out 3).trans rfl
        have hfz15_0 := blk_frozen BK510.out 0
        have hfz15_1 := blk_frozen BK510.out 1
        have hfz15_2 := blk_frozen BK510.out 2
        have hfz15_3 := blk_frozen BK510.out 3
        go_wp2
        refine Met.intro ?_
        go_step
        (repeat apply Exists.intro)
        refine ⟨?rel, ?frm⟩
        case frm => first | rfl | (simp only [c8b0, c12b0]; rfl) | (simp only [c8b0, c12b0]; first | done | rfl)
        case rel => exact ⟨_, (true), (by first | rfl | (simp; done) | (simp [*]; done) | (simp [bne]; done)), H', ⟨by first | omega | exact Nat.le_refl _⟩, ⟨by (with_reducible repeat (first | refine blk_drewN ?_ _ | refine blk_drew ?_ | refine blk_alloc ?_ _)); exact BK510.out⟩, ⟨by (with_reducible repeat (first | refine blk_drewN ?_ _ | refine blk_drew ?_ | refine blk_alloc ?_ _)); exact BK511.out⟩, ⟨by (with_reducible repeat (first | refine blk_drewN ?_ _ | refine blk_drew ?_ | refine blk_alloc ?_ _)); exact BK512.out⟩, ⟨by repeat (first | (with_reducible first | exact HB.out | apply below_alloc | apply pw_below_drewN | apply below_drew1 | refine below_set ?_ GE510.out | refine below_set ?_ GE511.out | refine below_set ?_ GE512.out) | exact HB.out)⟩⟩
      · rw [if_neg c12] at H
        have c12b0 : decide (3 < a0_0) = false := decide_eq_false c12
        clear c12
        by_cases c16 : a1_0 < 0
        · rw [if_pos c16] at H
          have c16b0 : decide (a1_0 < 0) = true := decide_eq_true c16
          clear c16
          have H' := Aside0.mk H
          clear H
          have hnb17 := NB510_511.out
          have hnc17 := NB511_510.out
          have hnb18 := NB510_512.out
          have hnc18 := NB512_510.out
          have hcz19_0 : w7.cell? ⟨gb510, 0, none⟩ = some (.int .i64 a0_0) := (blk_cell BK510.out 0).trans rfl
          have hcz19_1 : w7.cell? ⟨gb510, 1, none⟩ = some (.int .i64 a0_1) := (blk_cell BK510.out 1).trans rfl
          have hcz19_2 : w7.cell? ⟨gb510, 2, none⟩ = some (.string a0_2) := (blk_cell BK510.out 2).trans rfl
          have hcz19_3 : w7.cell? ⟨gb510, 3, none⟩ = some (.bool a0_3) := (blk_cell BK510.out 3).trans rfl
          have hfz19_0 := blk_frozen BK510.out 0
          have hfz19_1 := blk_frozen BK510.out 1
          have hfz19_2 := blk_frozen BK510.out 2
          have hfz19_3 := blk_frozen BK510.out 3
          have hnb20 := NB511_512.out
          have hnc20 := NB512_511.out
          have hcz21_0 : w7.cell? ⟨gb511, 0, none⟩ = some (.int .i64 a1_0) := (blk_cell BK511.out 0).trans rfl
          have hcz21_1 : w7.cell? ⟨gb511, 1, none⟩ = some (.int .i64 a1_1) := (blk_cell BK511.out 1).trans rfl
          have hcz21_2 : w7.cell? ⟨gb511, 2, none⟩ = some (.string a1_2) := (blk_cell BK511.out 2).trans rfl
          have hcz21_3 : w7.cell? ⟨gb511, 3, none⟩ = some (.bool a1_3) := (blk_cell BK511.out 3).trans rfl
          have hfz21_0 := blk_frozen BK511.out 0
          have hfz21_1 := blk_frozen BK511.out 1
          have hfz21_2 := blk_frozen BK511.out 2
          have hfz21_3 := blk_frozen BK511.out 3
          go_wp2
          refine Met.intro ?_
          go_step
          (repeat apply Exists.intro)
          refine ⟨?rel, ?frm⟩
          case frm => first | rfl | (simp only [c8b0, c12b0, c16b0]; rfl) | (simp only [c8b0, c12b0, c16b0]; first | done | rfl)
          case rel => exact ⟨_, (true), (by first | rfl | (simp; done) | (simp [*]; done) | (simp [bne]; done)), H', ⟨by first | omega | exact Nat.le_refl _⟩, ⟨by (with_reducible repeat (first | refine blk_drewN ?_ _ | refine blk_drew ?_ | refine blk_alloc ?_ _)); exact BK510.out⟩, ⟨by (with_reducible repeat (first | refine blk_drewN ?_ _ | refine blk_drew ?_ | refine blk_alloc ?_ _)); exact BK511.out⟩, ⟨by (with_reducible repeat (first | refine blk_drewN ?_ _ | refine blk_drew ?_ | refine blk_alloc ?_ _)); exact BK512.out⟩, ⟨by repeat (first | (with_reducible first | exact HB.out | apply below_alloc | apply pw_below_drewN | apply below_drew1 | refine below_set ?_ GE510.out | refine below_set ?_ GE511.out | refine below_set ?_ GE512.out) | exact HB.out)⟩⟩
        · rw [if_neg c16] at H
          have c16b0 : decide (a1_0 < 0) = false := decide_eq_false c16
          clear c16
          by_cases c22 : a1_0 > 3
          · rw [if_pos c22] at H
            have c22b0 : decide (3 < a1_0) = true := decide_eq_true c22
            clear c22
            have H' := Aside0.mk H
            clear H
            have hnb23 := NB510_511.out
            have hnc23 := NB511_510.out
            have hnb24 := NB510_512.out
            have hnc24 := NB512_510.out
            have hcz25_0 : w7.cell? ⟨gb510, 0, none⟩ = some (.int .i64 a0_0) := (blk_cell BK510.out 0).trans rfl
            have hcz25_1 : w7.cell? ⟨gb510, 1, none⟩ = some (.int .i64 a0_1) := (blk_cell BK510.out 1).trans rfl
            have hcz25_2 : w7.cell? ⟨gb510, 2, none⟩ = some (.string a0_2) := (blk_cell BK510.out 2).trans rfl
            have hcz25_3 : w7.cell? ⟨gb510, 3, none⟩ = some (.bool a0_3) := (blk_cell BK510.out 3).trans rfl
            have hfz25_0 := blk_frozen BK510.out 0
            have hfz25_1 := blk_frozen BK510.out 1
            have hfz25_2 := blk_frozen BK510.out 2
            have hfz25_3 := blk_frozen BK510.out 3
            have hnb26 := NB511_512.out
            have hnc26 := NB512_511.out
            have hcz27_0 : w7.cell? ⟨gb511, 0, none⟩ = some (.int .i64 a1_0) := (blk_cell BK511.out 0).trans rfl
            have hcz27_1 : w7.cell? ⟨gb511, 1, none⟩ = some (.int .i64 a1_1) := (blk_cell BK511.out 1).trans rfl
            have hcz27_2 : w7.cell? ⟨gb511, 2, none⟩ = some (.string a1_2) := (blk_cell BK511.out 2).trans rfl
            have hcz27_3 : w7.cell? ⟨gb511, 3, none⟩ = some (.bool a1_3) := (blk_cell BK511.out 3).trans rfl
            have hfz27_0 := blk_frozen BK511.out 0
            have hfz27_1 := blk_frozen BK511.out 1
            have hfz27_2 := blk_frozen BK511.out 2
            have hfz27_3 := blk_frozen BK511.out 3
            go_wp2
            refine Met.intro ?_
            go_step
            (repeat apply Exists.intro)
            refine ⟨?rel, ?frm⟩
            case frm => first | rfl | (simp only [c8b0, c12b0, c16b0, c22b0]; rfl) | (simp only [c8b0, c12b0, c16b0, c22b0]; first | done | rfl)
            case rel => exact ⟨_, (true), (by first | rfl | (simp; done) | (simp [*]; done) | (simp [bne]; done)), H', ⟨by first | omega | exact Nat.le_refl _⟩, ⟨by (with_reducible repeat (first | refine blk_drewN ?_ _ | refine blk_drew ?_ | refine blk_alloc ?_ _)); exact BK510.out⟩, ⟨by (with_reducible repeat (first | refine blk_drewN ?_ _ | refine blk_drew ?_ | refine blk_alloc ?_ _)); exact BK511.out⟩, ⟨by (with_reducible repeat (first | refine blk_drewN ?_ _ | refine blk_drew ?_ | refine blk_alloc ?_ _)); exact BK512.out⟩, ⟨by repeat (first | (with_reducible first | exact HB.out | apply below_alloc | apply pw_below_drewN | apply below_drew1 | refine below_set ?_ GE510.out | refine below_set ?_ GE511.out | refine below_set ?_ GE512.out) | exact HB.out)⟩⟩
          · rw [if_neg c22] at H
            have c22b0 : decide (3 < a1_0) = false := decide_eq_false c22
            clear c22
            by_cases c28 : a0_0 = 0
            · rw [if_pos c28] at H
              have c28b0 : (a0_0 == 0) = true := beq_iff_eq.mpr c28
              have c28b1 : (a0_0 != 0) = false := bne_eq_false_iff_eq.mpr c28
              clear c28
              have H' := Aside0.mk H
              clear H
              have hnb29 := NB510_511.out
              have hnc29 := NB511_510.out
              have hnb30 := NB510_512.out
              have hnc30 := NB512_510.out
              have hcz31_0 : w7.cell? ⟨gb510, 0, none⟩ = some (.int .i64 a0_0) := (blk_cell BK510.out 0).trans rfl
              have hcz31_1 : w7.cell? ⟨gb510, 1, none⟩ = some (.int .i64 a0_1) := (blk_cell BK510.out 1).trans rfl
              have hcz31_2 : w7.cell? ⟨gb510, 2, none⟩ = some (.string a0_2) := (blk_cell BK510.out 2).trans rfl
              have hcz31_3 : w7.cell? ⟨gb510, 3, none⟩ = some (.bool a0_3) := (blk_cell BK510.out 3).trans rfl
              have hfz31_0 := blk_frozen BK510.out 0
              have hfz31_1 := blk_frozen BK510.out 1
              have hfz31_2 := blk_frozen BK510.out 2
              have hfz31_3 := blk_frozen BK510.out 3
              have hnb32 := NB511_512.out
              have hnc32 := NB512_511.out
              have hcz33_0 : w7.cell? ⟨gb511, 0, none⟩ = some (.int .i64 a1_0) := (blk_cell BK511.out 0).trans rfl
              have hcz33_1 : w7.cell? ⟨gb511, 1, none⟩ = some (.int .i64 a1_1) := (blk_cell BK511.out 1).trans rfl
              have hcz33_2 : w7.cell? ⟨gb511, 2, none⟩ = some (.string a1_2) := (blk_cell BK511.out 2).trans rfl
              have hcz33_3 : w7.cell? ⟨gb511, 3, none⟩ = some (.bool a1_3) := (blk_cell BK511.out 3).trans rfl
              have hfz33_0 := blk_frozen BK511.out 0
              have hfz33_1 := blk_frozen BK511.out 1
              have hfz33_2 := blk_frozen BK511.out 2
              have hfz33_3 := blk_frozen BK511.out 3
              go_wp2
              refine Met.intro ?_
              go_step
              (repeat apply Exists.intro)
              refine ⟨?rel, ?frm⟩
              case frm => first | rfl | (simp only [c8b0, c12b0, c16b0, c22b0, c28b0, c28b1]; rfl) | (simp only [c8b0, c12b0, c16b0, c22b0, c28b0, c28b1]; first | done | rfl)
              case rel => exact ⟨_, (false), (by first | rfl | (simp; done) | (simp [*]; done) | (simp [bne]; done)), H', ⟨by first | omega | exact Nat.le_refl _⟩, ⟨by (with_reducible repeat (first | refine blk_drewN ?_ _ | refine blk_drew ?_ | refine blk_alloc ?_ _)); exact BK510.out⟩, ⟨by (with_reducible repeat (first | refine blk_drewN ?_ _ | refine blk_drew ?_ | refine blk_alloc ?_ _)); exact BK511.out⟩, ⟨by (with_reducible repeat (first | refine blk_drewN ?_ _ | refine blk_drew ?_ | refine blk_alloc ?_ _)); exact BK512.out⟩, ⟨by repeat (first | (with_reducible first | exact HB.out | apply below_alloc | apply pw_below_drewN | apply below_drew1 | refine below_set ?_ GE510.out | refine below_set ?_ GE511.out | refine below_set ?_ GE512.out) | exact HB.out)⟩⟩
            · rw [if_neg c28] at H
              have c28b0 : (a0_0 == 0) = false := beq_eq_false_iff_ne.mpr c28
              have c28b1 : (a0_0 != 0) = true := bne_iff_ne.mpr c28
              by_cases c34 : a1_0 = 0
              · rw [if_pos c34] at H
                have c34b0 : (a1_0 == 0) = true := beq_iff_eq.mpr c34
                have c34b1 : (a1_0 != 0) = false := bne_eq_false_iff_eq.mpr c34
                clear c34
                have H' := Aside0.mk H
                clear H
                have hnb35 := NB510_511.out
                have hnc35 := NB511_510.out
                have hnb36 := NB510_512.out
                have hnc36 := NB512_510.out
                have hcz37_0 : w7.cell? ⟨gb510, 0, none⟩ = some (.int .i64 a0_0) := (blk_cell BK510.out 0).trans rfl
                have hcz37_1 : w7.cell? ⟨gb510, 1, none⟩ = some (.int .i64 a0_1) := (blk_cell BK510.out 1).trans rfl
                have hcz37_2 : w7.cell? ⟨gb510, 2, none⟩ = some (.string a0_2) := (blk_cell BK510.out 2).trans rfl
                have hcz37_3 : w7.cell? ⟨gb510, 3, none⟩ = some (.bool a0_3) := (blk_cell BK510.out 3).trans rfl
                have hfz37_0 := blk_frozen BK510.out 0
                have hfz37_1 := blk_frozen BK510.out 1
                have hfz37_2 := blk_frozen BK510.out 2
                have hfz37_3 := blk_frozen BK510.out 3
                have hnb38 := NB511_512.out
                have hnc38 := NB512_511.out
                have hcz39_0 : w7.cell? ⟨gb511, 0, none⟩ = some (.int .i64 a1_0) := (blk_cell BK511.out 0).trans rfl
                have hcz39_1 : w7.cell? ⟨gb511, 1, none⟩ = some (.int .i64 a1_1) := (blk_cell BK511.out 1).trans rfl
                have hcz39_2 : w7.cell? ⟨gb511, 2, none⟩ = some (.string a1_2) := (blk_cell BK511.out 2).trans rfl
                have hcz39_3 : w7.cell? ⟨gb511, 3, none⟩ = some (.bool a1_3) := (blk_cell BK511.out 3).trans rfl
                have hfz39_0 := blk_frozen BK511.out 0
                have hfz39_1 := blk_frozen BK511.out 1
                have hfz39_2 := blk_frozen BK511.out 2
                have hfz39_3 := blk_frozen BK511.out 3
                go_wp2
                refine Met.intro ?_
                go_step
                (repeat apply Exists.intro)
                refine ⟨?rel, ?frm⟩
                case frm => first | rfl | (simp only [c8b0, c12b0, c16b0, c22b0, c28b0, c28b1, c34b0, c34b1]; rfl) | (simp only [c8b0, c12b0, c16b0, c22b0, c28b0, c28b1, c34b0, c34b1]; first | done | rfl)
                case rel => exact ⟨_, (false), (by first | rfl | (simp; done) | (simp [*]; done) | (simp [bne]; done)), H', ⟨by first | omega | exact Nat.le_refl _⟩, ⟨by (with_reducible repeat (first | refine blk_drewN ?_ _ | refine blk_drew ?_ | refine blk_alloc ?_ _)); exact BK510.out⟩, ⟨by (with_reducible repeat (first | refine blk_drewN ?_ _ | refine blk_drew ?_ | refine blk_alloc ?_ _)); exact BK511.out⟩, ⟨by (with_reducible repeat (first | refine blk_drewN ?_ _ | refine blk_drew ?_ | refine blk_alloc ?_ _)); exact BK512.out⟩, ⟨by repeat (first | (with_reducible first | exact HB.out | apply below_alloc | apply pw_below_drewN | apply below_drew1 | refine below_set ?_ GE510.out | refine below_set ?_ GE511.out | refine below_set ?_ GE512.out) | exact HB.out)⟩⟩
              · rw [if_neg c34] at H
                have c34b0 : (a1_0 == 0) = false := beq_eq_false_iff_ne.mpr c34
                have c34b1 : (a1_0 != 0) = true := bne_iff_ne.mpr c34
                have H' := Aside0.mk H
                clear H
                have hnb40 := NB510_511.out
                have hnc40 := NB511_510.out
                have hnb41 := NB510_512.out
                have hnc41 := NB512_510.out
                have hcz42_0 : w7.cell? ⟨gb510, 0, none⟩ = some (.int .i64 a0_0) := (blk_cell BK510.out 0).trans rfl
                have hcz42_1 : w7.cell? ⟨gb510, 1, none⟩ = some (.int .i64 a0_1) := (blk_cell BK510.out 1).trans rfl
                have hcz42_2 : w7.cell? ⟨gb510, 2, none⟩ = some (.string a0_2) := (blk_cell BK510.out 2).trans rfl
                have hcz42_3 : w7.cell? ⟨gb510, 3, none⟩ = some (.bool a0_3) := (blk_cell BK510.out 3).trans rfl
                have hfz42_0 := blk_frozen BK510.out 0
                have hfz42_1 := blk_frozen BK510.out 1
                have hfz42_2 := blk_frozen BK510.out 2
                have hfz42_3 := blk_frozen BK510.out 3
                have hnb43 := NB511_512.out
                have hnc43 := NB512_511.out
                have hcz44_0 : w7.cell? ⟨gb511, 0, none⟩ = some (.int .i64 a1_0) := (blk_cell BK511.out 0).trans rfl
                have hcz44_1 : w7.cell? ⟨gb511, 1, none⟩ = some (.int .i64 a1_1) := (blk_cell BK511.out 1).trans rfl
                have hcz44_2 : w7.cell? ⟨gb511, 2, none⟩ = some (.string a1_2) := (blk_cell BK511.out 2).trans rfl
                have hcz44_3 : w7.cell? ⟨gb511, 3, none⟩ = some (.bool a1_3) := (blk_cell BK511.out 3).trans rfl
                have hfz44_0 := blk_frozen BK511.out 0
                have hfz44_1 := blk_frozen BK511.out 1
                have hfz44_2 := blk_frozen BK511.out 2
                have hfz44_3 := blk_frozen BK511.out 3
                go_wp2
                refine Met.intro ?_
                go_step
                (repeat apply Exists.intro)
                refine ⟨?rel, ?frm⟩
                case frm => first | rfl | (simp only [c8b0, c12b0, c16b0, c22b0, c28b0, c28b1, c34b0, c34b1]; rfl) | (simp only [c8b0, c12b0, c16b0, c22b0, c28b0, c28b1, c34b0, c34b1]; first | done | rfl)
                case rel => exact ⟨_, ((a0_0 != a1_0)), (by first | rfl | (simp; done) | (simp [*]; done) | (simp [bne]; done)), H', ⟨by first | omega | exact Nat.le_refl _⟩, ⟨by (with_reducible repeat (first | refine blk_drewN ?_ _ | refine blk_drew ?_ | refine blk_alloc ?_ _)); exact BK510.out⟩, ⟨by (with_reducible repeat (first | refine blk_drewN ?_ _ | refine blk_drew ?_ | refine blk_alloc ?_ _)); exact BK511.out⟩, ⟨by (with_reducible repeat (first | refine blk_drewN ?_ _ | refine blk_drew ?_ | refine blk_alloc ?_ _)); exact BK512.out⟩, ⟨by repeat (first | (with_reducible first | exact HB.out | apply below_alloc | apply pw_below_drewN | apply below_drew1 | refine below_set ?_ GE510.out | refine below_set ?_ GE511.out | refine below_set ?_ GE512.out) | exact HB.out)⟩⟩
  case rest =>
    clear HC4
    try clear c1
    try clear c2
    try clear p2
    try clear c3
    try clear c4
    try clear c8
    try clear c8b0
    try clear c9
    try clear c10
    try clear c12
    try clear c12b0
    try clear c13
    try clear c14
    try clear c16
    try clear c16b0
    try clear c17
    try clear c18
    try clear c20
    try clear c22
    try clear c22b0
    try clear c23
    try clear c24
    try clear c26
    try clear c28
    try clear c28b0
    try clear c28b1
    try clear c29
    try clear c30
    try clear c32
    try clear c34
    try clear c34b0
    try clear c34b1
    try clear c35
    try clear c36
    try clear c38
    try clear c40
    try clear c41
    try clear c43
    try clear hcz11_0
    try clear hcz11_1
    try clear hcz11_2
    try clear hcz11_3
    try clear hcz15_0
    try clear hcz15_1
    try clear hcz15_2
    try clear hcz15_3
    try clear hcz19_0
    try clear hcz19_1
    try clear hcz19_2
    try clear hcz19_3
    try clear hcz21_0
    try clear hcz21_1
    try clear hcz21_2
    try clear hcz21_3
    try clear hcz25_0
    try clear hcz25_1
    try clear hcz25_2
    try clear hcz25_3
    try clear hcz27_0
    try clear hcz27_1
    try clear hcz27_2
    try clear hcz27_3
    try clear hcz31_0
    try clear hcz31_1
    try clear hcz31_2
    try clear hcz31_3
    try clear hcz33_0
    try clear hcz33_1
    try clear hcz33_2
    try clear hcz33_3
    try clear hcz37_0
    try clear hcz37_1
    try clear hcz37_2
    try clear hcz37_3
    try clear hcz39_0
    try clear hcz39_1
    try clear hcz39_2
    try clear hcz39_3
    try clear hcz42_0
    try clear hcz42_1
    try clear hcz42_2
    try clear hcz42_3
    try clear hcz44_0
    try clear hcz44_1
    try clear hcz44_2
    try clear hcz44_3
    try clear hfz11_0
    try clear hfz11_1
    try clear hfz11_2
    try clear hfz11_3
    try clear hfz15_0
    try clear hfz15_1
    try clear hfz15_2
    try clear hfz15_3
    try clear hfz19_0
    try clear hfz19_1
    try clear hfz19_2
    try clear hfz19_3
    try clear hfz21_0
    try clear hfz21_1
    try clear hfz21_2
    try clear hfz21_3
    try clear hfz25_0
    try clear hfz25_1
    try clear hfz25_2
    try clear hfz25_3
    try clear hfz27_0
    try clear hfz27_1
    try clear hfz27_2
    try clear hfz27_3
    try clear hfz31_0
    try clear hfz31_1
    try clear hfz31_2
    try clear hfz31_3
    try clear hfz33_0
    try clear hfz33_1
    try clear hfz33_2
    try clear hfz33_3
    try clear hfz37_0
    try clear hfz37_1
    try clear hfz37_2
    try clear hfz37_3
    try clear hfz39_0
    try clear hfz39_1
    try clear hfz39_2
    try clear hfz39_3
    try clear hfz42_0
    try clear hfz42_1
    try clear hfz42_2
    try clear hfz42_3
    try clear hfz44_0
    try clear hfz44_1
    try clear hfz44_2
    try clear hfz44_3
    obtain ⟨kq, x42_3, rfl, HA, HJ3, BK510, BK511, BK512, HB⟩ := hcut
    cases kq with
    | zero => exact absurd HA.out (by simp [barbicanref05_Order.j0])
    | succ kj3 =>
      have H := HA.out
      clear HA
      simp only [barbicanref05_Order.j0] at H
      by_cases c45 : x42_3 = true
      · subst c45
        have H1 : (some (0, 0, (⟨#[]⟩ : ByteArray), false, 7)) = some (r1, r2, r3, r4, r5) := by rw [if_pos rfl] at H; exact H
        clear H
        have H := H1
        clear H1
        simp only [Option.some.injEq, Prod.mk.injEq] at H
        obtain ⟨rfl, rfl, rfl, rfl, rfl⟩ := H
        have hnb46 := NB512_510.out
        have hnc46 := NB510_512.out
        have hnb47 := NB512_511.out
        have hnc47 := NB511_512.out
        have hcz48_0 : wc.cell? ⟨gb512, 0, none⟩ = some (.int .i64 0) := (blk_cell BK512.out 0).trans rfl
        have hcz48_1 : wc.cell? ⟨gb512, 1, none⟩ = some (.int .i64 0) := (blk_cell BK512.out 1).trans rfl
        have hcz48_2 : wc.cell? ⟨gb512, 2, none⟩ = some (.string (⟨#[]⟩ : ByteArray)) := (blk_cell BK512.out 2).trans rfl
        have hcz48_3 : wc.cell? ⟨gb512, 3, none⟩ = some (.bool false) := (blk_cell BK512.out 3).trans rfl
        have hfz48_0 := blk_frozen BK512.out 0
        have hfz48_1 := blk_frozen BK512.out 1
        have hfz48_2 := blk_frozen BK512.out 2
        have hfz48_3 := blk_frozen BK512.out 3
        go_wp2
        refine bodyPost_ret (results_ct rfl _ _ gb512 23 #[.int .i64 0, .int .i64 0, .string (⟨#[]⟩ : ByteArray), .bool false] (0, 0) _ rfl (by (with_reducible repeat (first | refine blk_drewN ?_ _ | refine blk_drew ?_ | refine blk_alloc ?_ _)); refine blk_put (cs := #[.int .i64 0, .int .i64 0, .string (⟨#[]⟩ : ByteArray), .bool false]) ?_ 3 _ rfl; (with_reducible repeat (first | refine blk_drewN ?_ _ | refine blk_drew ?_ | refine blk_alloc ?_ _)); refine blk_put (cs := #[.int .i64 0, .int .i64 0, .string (⟨#[]⟩ : ByteArray), .bool false]) ?_ 2 _ rfl; (with_reducible repeat (first | refine blk_drewN ?_ _ | refine blk_drew ?_ | refine blk_alloc ?_ _)); refine blk_put (cs := #[.int .i64 0, .int .i64 0, .string (⟨#[]⟩ : ByteArray), .bool false]) ?_ 1 _ rfl; (with_reducible repeat (first | refine blk_drewN ?_ _ | refine blk_drew ?_ | refine blk_alloc ?_ _)); refine blk_put (cs := #[.int .i64 0, .int .i64 0, .string (⟨#[]⟩ : ByteArray), .bool false]) ?_ 0 _ rfl; (with_reducible repeat (first | refine blk_drewN ?_ _ | refine blk_drew ?_ | refine blk_alloc ?_ _)); exact BK512.out) Tryz.underlying23 rfl (by kernel_rfl)) rfl ?_
        exact ⟨by first | rfl | (simp [errW_none, errW_some] <;> rfl) | (simp [*, errW_none, errW_some] <;> rfl), by repeat (first | (with_reducible first | exact HB.out | apply below_alloc | apply pw_below_drewN | apply below_drew1 | refine below_set ?_ GE510.out | refine below_set ?_ GE511.out | refine below_set ?_ GE512.out) | exact HB.out)⟩
      · replace c45 := Bool.eq_false_iff.mpr c45
        subst c45
        have H1 : (if a0_0 = 0 then (barbicanref05_Order.j1 kj3 a2 true a0_0 a0_1 a0_2 a0_3 a1_0 a1_1 a1_2 a1_3) else (barbicanref05_Order.j1 kj3 a2 (a1_0 == 0) a0_0 a0_1 a0_2 a0_3 a1_0 a1_1 a1_2 a1_3)) = some (r1, r2, r3, r4, r5) := by rw [if_neg (show ¬ (false = true) by decide)] at H; exact H
        clear H
        have H := H1
        clear H1
        have HC49 := Aside0.mk H
        clear H
        go_upto_region 3 with (fail)
        go_cut [51] (fun v51 wc => ∃ (kq : Nat) (x51_48 : Bool), v51 = .bool x51_48 ∧ Aside0 (barbicanref05_Order.j1 kq a2 x51_48 a0_0 a0_1 a0_2 a0_3 a1_0 a1_1 a1_2 a1_3 = some (r1, r2, r3, r4, r5)) ∧ Aside0 (kq ≤ kj3) ∧ Aside0 (wc.heap[gb510]? = some (.cells #[.int .i64 a0_0, .int .i64 a0_1, .string a0_2, .bool a0_3] 23 (0, 0))) ∧ Aside0 (wc.heap[gb511]? = some (.cells #[.int .i64 a1_0, .int .i64 a1_1, .string a1_2, .bool a1_3] 23 (0, 0))) ∧ Aside0 (wc.heap[gb512]? = some (.cells #[.int .i64 0, .int .i64 0, .string (⟨#[]⟩ : ByteArray), .bool false] 23 (0, 0))) ∧ Aside0 (Below w.heap.size w wc))
        case first =>
          have H := HC49.out
          clear HC49
          by_cases c50 : a0_0 = 0
          · rw [if_pos c50] at H
            have c50b0 : (a0_0 == 0) = true := beq_iff_eq.mpr c50
            have c50b1 : (a0_0 != 0) = false := bne_eq_false_iff_eq.mpr c50
            clear c50
            (first | rw [c50b0] | (simp only [i64_w, i32_w]; rw [c50b0]) | skip)
            have H' := Aside0.mk H
            clear H
            have hnb51 := NB510_511.out
            have hnc51 := NB511_510.out
            have hnb52 := NB510_512.out
            have hnc52 := NB512_510.out
            have hcz53_0 : wc.cell? ⟨gb510, 0, none⟩ = some (.int .i64 a0_0) := (blk_cell BK510.out 0).trans rfl
            have hcz53_1 : wc.cell? ⟨gb510, 1, none⟩ = some (.int .i64 a0_1) := (blk_cell BK510.out 1).trans rfl
            have hcz53_2 : wc.cell? ⟨gb510, 2, none⟩ = some (.string a0_2) := (blk_cell BK510.out 2).trans rfl
            have hcz53_3 : wc.cell? ⟨gb510, 3, none⟩ = some (.bool a0_3) := (blk_cell BK510.out 3).trans rfl
            have hfz53_0 := blk_frozen BK510.out 0
            have hfz53_1 := blk_frozen BK510.out 1
            have hfz53_2 := blk_frozen BK510.out 2
            have hfz53_3 := blk_frozen BK510.out 3
            go_wp2
            refine Met.intro ?_
            go_step
            (repeat apply Exists.intro)
            refine ⟨?rel, ?frm⟩
            case frm => first | rfl | (simp only [c50b0, c50b1]; rfl) | (simp only [c50b0, c50b1]; first | done | rfl)
            case rel => exact ⟨_, (true), (by first | rfl | (simp; done) | (simp [*]; done) | (simp [bne]; done)), H', ⟨by have := HJ3.out; first | omega | exact Nat.le_refl _⟩, ⟨by (with_reducible repeat (first | refine blk_drewN ?_ _ | refine blk_drew ?_ | refine blk_alloc ?_ _)); exact BK510.out⟩, ⟨by (with_reducible repeat (first | refine blk_drewN ?_ _ | refine blk_drew ?_ | refine blk_alloc ?_ _)); exact BK511.out⟩, ⟨by (with_reducible repeat (first | refine blk_drewN ?_ _ | refine blk_drew ?_ | refine blk_alloc ?_ _)); exact BK512.out⟩, ⟨by repeat (first | (with_reducible first | exact HB.out | apply below_alloc | apply pw_below_drewN | apply below_drew1 | refine below_set ?_ GE510.out | refine below_set ?_ GE511.out | refine below_set ?_ GE512.out) | exact HB.out)⟩⟩
          · rw [if_neg c50] at H
            have c50b0 : (a0_0 == 0) = false := beq_eq_false_iff_ne.mpr c50
            have c50b1 : (a0_0 != 0) = true := bne_iff_ne.mpr c50
            (first | rw [c50b0] | (simp only [i64_w, i32_w]; rw [c50b0]) | skip)
            have H' := Aside0.mk H
            clear H
            have hnb54 := NB510_511.out
            have hnc54 := NB511_510.out
            have hnb55 := NB510_512.out
            have hnc55 := NB512_510.out
            have hcz56_0 : wc.cell? ⟨gb510, 0, none⟩ = some (.int .i64 a0_0) := (blk_cell BK510.out 0).trans rfl
            have hcz56_1 : wc.cell? ⟨gb510, 1, none⟩ = some (.int .i64 a0_1) := (blk_cell BK510.out 1).trans rfl
            have hcz56_2 : wc.cell? ⟨gb510, 2, none⟩ = some (.string a0_2) := (blk_cell BK510.out 2).trans rfl
            have hcz56_3 : wc.cell? ⟨gb510, 3, none⟩ = some (.bool a0_3) := (blk_cell BK510.out 3).trans rfl
            have hfz56_0 := blk_frozen BK510.out 0
            have hfz56_1 := blk_frozen BK510.out 1
            have hfz56_2 := blk_frozen BK510.out 2
            have hfz56_3 := blk_frozen BK510.out 3
            have hnb57 := NB511_512.out
            have hnc57 := NB512_511.out
            have hcz58_0 : wc.cell? ⟨gb511, 0, none⟩ = some (.int .i64 a1_0) := (blk_cell BK511.out 0).trans rfl
            have hcz58_1 : wc.cell? ⟨gb511, 1, none⟩ = some (.int .i64 a1_1) := (blk_cell BK511.out 1).trans rfl
            have hcz58_2 : wc.cell? ⟨gb511, 2, none⟩ = some (.string a1_2) := (blk_cell BK511.out 2).trans rfl
            have hcz58_3 : wc.cell? ⟨gb511, 3, none⟩ = some (.bool a1_3) := (blk_cell BK511.out 3).trans rfl
            have hfz58_0 := blk_frozen BK511.out 0
            have hfz58_1 := blk_frozen BK511.out 1
            have hfz58_2 := blk_frozen BK511.out 2
            have hfz58_3 := blk_frozen BK511.out 3
            go_wp2
            refine Met.intro ?_
            go_step
            (repeat apply Exists.intro)
            refine ⟨?rel, ?frm⟩
            case frm => first | rfl | (simp only [c50b0, c50b1]; rfl) | (simp only [c50b0, c50b1]; first | done | rfl)
            case rel => exact ⟨_, ((a1_0 == 0)), (by first | rfl | (simp; done) | (simp [*]; done) | (simp [bne]; done)), H', ⟨by have := HJ3.out; first | omega | exact Nat.le_refl _⟩, ⟨by (with_reducible repeat (first | refine blk_drewN ?_ _ | refine blk_drew ?_ | refine blk_alloc ?_ _)); exact BK510.out⟩, ⟨by (with_reducible repeat (first | refine blk_drewN ?_ _ | refine blk_drew ?_ | refine blk_alloc ?_ _)); exact BK511.out⟩, ⟨by (with_reducible repeat (first | refine blk_drewN ?_ _ | refine blk_drew ?_ | refine blk_alloc ?_ _)); exact BK512.out⟩, ⟨by repeat (first | (with_reducible first | exact HB.out | apply below_alloc | apply pw_below_drewN | apply below_drew1 | refine below_set ?_ GE510.out | refine below_set ?_ GE511.out | refine below_set ?_ GE512.out) | exact HB.out)⟩⟩
        case rest =>
          clear HC49
          try clear c1
          try clear c2
          try clear p2
          try clear c3
          try clear c4
          try clear c5
          try clear c8
          try clear c8b0
          try clear c9
          try clear c10
          try clear c12
          try clear c12b0
          try clear c13
          try clear c14
          try clear c16
          try clear c16b0
          try clear c17
          try clear c18
          try clear c20
          try clear c22
          try clear c22b0
          try clear c23
          try clear c24
          try clear c26
          try clear c28
          try clear c28b0
          try clear c28b1
          try clear c29
          try clear c30
          try clear c32
          try clear c34
          try clear c34b0
          try clear c34b1
          try clear c35
          try clear c36
          try clear c38
          try clear c40
          try clear c41
          try clear c43
          try clear c45
          try clear c46
          try clear c47
          try clear c50
          try clear c50b0
          try clear c50b1
          try clear c51
          try clear c52
          try clear c54
          try clear c55
          try clear c57
          try clear hcz11_0
          try clear hcz11_1
          try clear hcz11_2
          try clear hcz11_3
          try clear hcz15_0
          try clear hcz15_1
          try clear hcz15_2
          try clear hcz15_3
          try clear hcz19_0
          try clear hcz19_1
          try clear hcz19_2
          try clear hcz19_3
          try clear hcz21_0
          try clear hcz21_1
          try clear hcz21_2
          try clear hcz21_3
          try clear hcz25_0
          try clear hcz25_1
          try clear hcz25_2
          try clear hcz25_3
          try clear hcz27_0
          try clear hcz27_1
          try clear hcz27_2
          try clear hcz27_3
          try clear hcz31_0
          try clear hcz31_1
          try clear hcz31_2
          try clear hcz31_3
          try clear hcz33_0
          try clear hcz33_1
          try clear hcz33_2
          try clear hcz33_3
          try clear hcz37_0
          try clear hcz37_1
          try clear hcz37_2
          try clear hcz37_3
          try clear hcz39_0
          try clear hcz39_1
          try clear hcz39_2
          try clear hcz39_3
          try clear hcz42_0
          try clear hcz42_1
          try clear hcz42_2
          try clear hcz42_3
          try clear hcz44_0
          try clear hcz44_1
          try clear hcz44_2
          try clear hcz44_3
          try clear hcz48_0
          try clear hcz48_1
          try clear hcz48_2
          try clear hcz48_3
          try clear hcz53_0
          try clear hcz53_1
          try clear hcz53_2
          try clear hcz53_3
          try clear hcz56_0
          try clear hcz56_1
          try clear hcz56_2
          try clear hcz56_3
          try clear hcz58_0
          try clear hcz58_1
          try clear hcz58_2
          try clear hcz58_3
          try clear hfz11_0
          try clear hfz11_1
          try clear hfz11_2
          try clear hfz11_3
          try clear hfz15_0
          try clear hfz15_1
          try clear hfz15_2
          try clear hfz15_3
          try clear hfz19_0
          try clear hfz19_1
          try clear hfz19_2
          try clear hfz19_3
          try clear hfz21_0
          try clear hfz21_1
          try clear hfz21_2
          try clear hfz21_3
          try clear hfz25_0
          try clear hfz25_1
          try clear hfz25_2
          try clear hfz25_3
          try clear hfz27_0
          try clear hfz27_1
          try clear hfz27_2
          try clear hfz27_3
          try clear hfz31_0
          try clear hfz31_1
          try clear hfz31_2
          try clear hfz31_3
          try clear hfz33_0
          try clear hfz33_1
          try clear hfz33_2
          try clear hfz33_3
          try clear hfz37_0
          try clear hfz37_1
          try clear hfz37_2
          try clear hfz37_3
          try clear hfz39_0
          try clear hfz39_1
          try clear hfz39_2
          try clear hfz39_3
          try clear hfz42_0
          try clear hfz42_1
          try clear hfz42_2
          try clear hfz42_3
          try clear hfz44_0
          try clear hfz44_1
          try clear hfz44_2
          try clear hfz44_3
          try clear hfz48_0
          try clear hfz48_1
          try clear hfz48_2
          try clear hfz48_3
          try clear hfz53_0
          try clear hfz53_1
          try clear hfz53_2
          try clear hfz53_3
          try clear hfz56_0
          try clear hfz56_1
          try clear hfz56_2
          try clear hfz56_3
          try clear hfz58_0
          try clear hfz58_1
          try clear hfz58_2
          try clear hfz58_3
          try clear p2
          obtain ⟨kq, x51_48, rfl, HA, HJ48, BK510, BK511, BK512, HB⟩ := hcut
          cases kq with
          | zero => exact absurd HA.out (by simp [barbicanref05_Order.j1])
          | succ kj48 =>
            have H := HA.out
            clear HA
            simp only [barbicanref05_Order.j1] at H
            by_cases c59 : x51_48 = true
            · subst c59
              have H1 : (some (0, 0, (⟨#[]⟩ : ByteArray), false, 0)) = some (r1, r2, r3, r4, r5) := by rw [if_pos rfl] at H; exact H
              clear H
              have H := H1
              clear H1
              simp only [Option.some.injEq, Prod.mk.injEq] at H
              obtain ⟨rfl, rfl, rfl, rfl, rfl⟩ := H
              have hnb60 := NB512_510.out
              have hnc60 := NB510_512.out
              have hnb61 := NB512_511.out
              have hnc61 := NB511_512.out
              have hcz62_0 : wc.cell? ⟨gb512, 0, none⟩ = some (.int .i64 0) := (blk_cell BK512.out 0).trans rfl
              have hcz62_1 : wc.cell? ⟨gb512, 1, none⟩ = some (.int .i64 0) := (blk_cell BK512.out 1).trans rfl
              have hcz62_2 : wc.cell? ⟨gb512, 2, none⟩ = some (.string (⟨#[]⟩ : ByteArray)) := (blk_cell BK512.out 2).trans rfl
              have hcz62_3 : wc.cell? ⟨gb512, 3, none⟩ = some (.bool false) := (blk_cell BK512.out 3).trans rfl
              have hfz62_0 := blk_frozen BK512.out 0
              have hfz62_1 := blk_frozen BK512.out 1
              have hfz62_2 := blk_frozen BK512.out 2
              have hfz62_3 := blk_frozen BK512.out 3
              go_wp2
              refine bodyPost_ret (results_ct rfl _ _ gb512 23 #[.int .i64 0, .int .i64 0, .string (⟨#[]⟩ : ByteArray), .bool false] (0, 0) _ rfl (by (with_reducible repeat (first | refine blk_drewN ?_ _ | refine blk_drew ?_ | refine blk_alloc ?_ _)); refine blk_put (cs := #[.int .i64 0, .int .i64 0, .string (⟨#[]⟩ : ByteArray), .bool false]) ?_ 3 _ rfl; (with_reducible repeat (first | refine blk_drewN ?_ _ | refine blk_drew ?_ | refine blk_alloc ?_ _)); refine blk_put (cs := #[.int .i64 0, .int .i64 0, .string (⟨#[]⟩ : ByteArray), .bool false]) ?_ 2 _ rfl; (with_reducible repeat (first | refine blk_drewN ?_ _ | refine blk_drew ?_ | refine blk_alloc ?_ _)); refine blk_put (cs := #[.int .i64 0, .int .i64 0, .string (⟨#[]⟩ : ByteArray), .bool false]) ?_ 1 _ rfl; (with_reducible repeat (first | refine blk_drewN ?_ _ | refine blk_drew ?_ | refine blk_alloc ?_ _)); refine blk_put (cs := #[.int .i64 0, .int .i64 0, .string (⟨#[]⟩ : ByteArray), .bool false]) ?_ 0 _ rfl; (with_reducible repeat (first | refine blk_drewN ?_ _ | refine blk_drew ?_ | refine blk_alloc ?_ _)); exact BK512.out) Tryz.underlying23 rfl (by kernel_rfl)) rfl ?_
              exact ⟨by first | rfl | (simp [errW_none, errW_some] <;> rfl) | (simp [*, errW_none, errW_some] <;> rfl), by repeat (first | (with_reducible first | exact HB.out | apply below_alloc | apply pw_below_drewN | apply below_drew1 | refine below_set ?_ GE510.out | refine below_set ?_ GE511.out | refine below_set ?_ GE512.out) | exact HB.out)⟩
            · replace c59 := Bool.eq_false_iff.mpr c59
              subst c59
              have H1 : ((barbicanref05_Compare.f kj48 a0_0 a0_1 a0_2 a0_3 a1_0 a1_1 a1_2 a1_3).bind fun t513 => ((barbicanref05_Bool.f (t513 == a2)).bind fun bt514 => (some (bt514.1, bt514.2.1, bt514.2.2.1, bt514.2.2.2, 0)))) = some (r1, r2, r3, r4, r5) := by rw [if_neg (show ¬ (false = true) by decide)] at H; exact H
              clear H
              have H := H1
              clear H1
              replace H := Option.bind_eq_some_iff.mp H
              obtain ⟨t513, A630, H⟩ := H
              replace H : ((barbicanref05_Bool.f (t513 == a2)).bind fun bt514 => (some (bt514.1, bt514.2.1, bt514.2.2.1, bt514.2.2.2, 0))) = some (r1, r2, r3, r4, r5) := H
              have A63 := Aside0.mk A630
              clear A630
              replace H := Option.bind_eq_some_iff.mp H
              obtain ⟨⟨t514, t515, t516, t517⟩, A640, H⟩ := H
              replace H : (some (t514, t515, t516, t517, 0)) = some (r1, r2, r3, r4, r5) := H
              have A64 := Aside0.mk A640
              clear A640
              simp only [Option.some.injEq, Prod.mk.injEq] at H
              obtain ⟨rfl, rfl, rfl, rfl, rfl⟩ := H
              have hnb65 := NB510_511.out
              have hnc65 := NB511_510.out
              have hnb66 := NB510_512.out
              have hnc66 := NB512_510.out
              have hcz67_0 : wc.cell? ⟨gb510, 0, none⟩ = some (.int .i64 a0_0) := (blk_cell BK510.out 0).trans rfl
              have hcz67_1 : wc.cell? ⟨gb510, 1, none⟩ = some (.int .i64 a0_1) := (blk_cell BK510.out 1).trans rfl
              have hcz67_2 : wc.cell? ⟨gb510, 2, none⟩ = some (.string a0_2) := (blk_cell BK510.out 2).trans rfl
              have hcz67_3 : wc.cell? ⟨gb510, 3, none⟩ = some (.bool a0_3) := (blk_cell BK510.out 3).trans rfl
              have hfz67_0 := blk_frozen BK510.out 0
              have hfz67_1 := blk_frozen BK510.out 1
              have hfz67_2 := blk_frozen BK510.out 2
              have hfz67_3 := blk_frozen BK510.out 3
              have hnb68 := NB511_512.out
              have hnc68 := NB512_511.out
              have hcz69_0 : wc.cell? ⟨gb511, 0, none⟩ = some (.int .i64 a1_0) := (blk_cell BK511.out 0).trans rfl
              have hcz69_1 : wc.cell? ⟨gb511, 1, none⟩ = some (.int .i64 a1_1) := (blk_cell BK511.out 1).trans rfl
              have hcz69_2 : wc.cell? ⟨gb511, 2, none⟩ = some (.string a1_2) := (blk_cell BK511.out 2).trans rfl
              have hcz69_3 : wc.cell? ⟨gb511, 3, none⟩ = some (.bool a1_3) := (blk_cell BK511.out 3).trans rfl
              have hfz69_0 := blk_frozen BK511.out 0
              have hfz69_1 := blk_frozen BK511.out 1
              have hfz69_2 := blk_frozen BK511.out 2
              have hfz69_3 := blk_frozen BK511.out 3
              go_wp2_with (first | ((with_reducible refine gate_callee (f := 20) rfl ?_); refine goesL_ (some 55) rfl rfl Tryz.func20 (by kernel_rfl) rfl #[.agg #[.int .i64 a0_0, .int .i64 a0_1, .string a0_2, .bool a0_3], .agg #[.int .i64 a1_0, .int .i64 a1_1, .string a1_2, .bool a1_3]] rfl (by (try simp only [List.map_toArray, List.map_cons, List.map_nil]); first | done | rfl | (simp only [List.length_drop, List.length_take]; rfl)) ?_; (with_reducible refine (barbicanref05_Compare.calls kj48 a0_0 a0_1 a0_2 a0_3 a1_0 a1_1 a1_2 a1_3 t513 _ A63.out).mono ?_); rintro e w70 ⟨rfl, hb⟩; refine ⟨_, rfl, ?_⟩; have n0_ := Aside0.mk (blk_below (g := gb510) (o := .cells #[.int .i64 a0_0, .int .i64 a0_1, .string a0_2, .bool a0_3] 23 (0, 0)) (by (with_reducible repeat (first | refine blk_drewN ?_ _ | refine blk_drew ?_ | refine blk_alloc ?_ _)); exact BK510.out) hb); have n1_ := Aside0.mk (blk_below (g := gb511) (o := .cells #[.int .i64 a1_0, .int .i64 a1_1, .string a1_2, .bool a1_3] 23 (0, 0)) (by (with_reducible repeat (first | refine blk_drewN ?_ _ | refine blk_drew ?_ | refine blk_alloc ?_ _)); exact BK511.out) hb); have n2_ := Aside0.mk (blk_below (g := gb512) (o := .cells #[.int .i64 0, .int .i64 0, .string (⟨#[]⟩ : ByteArray), .bool false] 23 (0, 0)) (by (with_reducible repeat (first | refine blk_drewN ?_ _ | refine blk_drew ?_ | refine blk_alloc ?_ _)); exact BK512.out) hb); have n3_ := Aside0.mk (below_step (by repeat (first | (with_reducible first | exact HB.out | apply below_alloc | apply pw_below_drewN | apply below_drew1 | refine below_set ?_ GE510.out | refine below_set ?_ GE511.out | refine below_set ?_ GE512.out) | exact HB.out)) hb); clear BK510; clear BK511; clear BK512; clear HB; have BK510 := n0_; have BK511 := n1_; have BK512 := n2_; have HB := n3_; clear n0_ n1_ n2_ n3_; (try clear hb); (try clear hb2); (try clear hk); (try clear hi)) | ((with_reducible refine gate_callee (f := 49) rfl ?_); refine goesL_ (some 58) rfl rfl Tryz.func49 (by kernel_rfl) rfl #[.bool (t513 == a2)] rfl (by (try simp only [List.map_toArray, List.map_cons, List.map_nil]); first | done | rfl | (simp only [List.length_drop, List.length_take]; rfl)) ?_; (with_reducible refine (barbicanref05_Bool.calls (t513 == a2) t514 t515 t516 t517 _ A64.out).mono ?_); rintro e w71 ⟨rfl, hb⟩; refine ⟨_, rfl, ?_⟩; have n0_ := Aside0.mk (blk_below (g := gb510) (o := .cells #[.int .i64 a0_0, .int .i64 a0_1, .string a0_2, .bool a0_3] 23 (0, 0)) (by (with_reducible repeat (first | refine blk_drewN ?_ _ | refine blk_drew ?_ | refine blk_alloc ?_ _)); exact BK510.out) hb); have n1_ := Aside0.mk (blk_below (g := gb511) (o := .cells #[.int .i64 a1_0, .int .i64 a1_1, .string a1_2, .bool a1_3] 23 (0, 0)) (by (with_reducible repeat (first | refine blk_drewN ?_ _ | refine blk_drew ?_ | refine blk_alloc ?_ _)); exact BK511.out) hb); have n2_ := Aside0.mk (blk_below (g := gb512) (o := .cells #[.int .i64 0, .int .i64 0, .string (⟨#[]⟩ : ByteArray), .bool false] 23 (0, 0)) (by (with_reducible repeat (first | refine blk_drewN ?_ _ | refine blk_drew ?_ | refine blk_alloc ?_ _)); exact BK512.out) hb); have n3_ := Aside0.mk (below_step (by repeat (first | (with_reducible first | exact HB.out | apply below_alloc | apply pw_below_drewN | apply below_drew1 | refine below_set ?_ GE510.out | refine below_set ?_ GE511.out | refine below_set ?_ GE512.out) | exact HB.out)) hb); clear BK510; clear BK511; clear BK512; clear HB; have BK510 := n0_; have BK511 := n1_; have BK512 := n2_; have HB := n3_; clear n0_ n1_ n2_ n3_; (try clear hb); (try clear hb2); (try clear hk); (try clear hi); have hcz72_0 : w71.cell? ⟨gb512, 0, none⟩ = some (.int .i64 0) := (blk_cell BK512.out 0).trans rfl; have hcz72_1 : w71.cell? ⟨gb512, 1, none⟩ = some (.int .i64 0) := (blk_cell BK512.out 1).trans rfl; have hcz72_2 : w71.cell? ⟨gb512, 2, none⟩ = some (.string (⟨#[]⟩ : ByteArray)) := (blk_cell BK512.out 2).trans rfl; have hcz72_3 : w71.cell? ⟨gb512, 3, none⟩ = some (.bool false) := (blk_cell BK512.out 3).trans rfl; have hfz72_0 := blk_frozen BK512.out 0; have hfz72_1 := blk_frozen BK512.out 1; have hfz72_2 := blk_frozen BK512.out 2; have hfz72_3 := blk_frozen BK512.out 3))
              refine bodyPost_ret (results_ct rfl _ _ gb512 23 #[.int .i64 t514, .int .i64 t515, .string t516, .bool t517] (0, 0) _ rfl (by (with_reducible repeat (first | refine blk_drewN ?_ _ | refine blk_drew ?_ | refine blk_alloc ?_ _)); refine blk_put (cs := #[.int .i64 t514, .int .i64 t515, .string t516, .bool false]) ?_ 3 _ rfl; (with_reducible repeat (first | refine blk_drewN ?_ _ | refine blk_drew ?_ | refine blk_alloc ?_ _)); refine blk_put (cs := #[.int .i64 t514, .int .i64 t515, .string (⟨#[]⟩ : ByteArray), .bool false]) ?_ 2 _ rfl; (with_reducible repeat (first | refine blk_drewN ?_ _ | refine blk_drew ?_ | refine blk_alloc ?_ _)); refine blk_put (cs := #[.int .i64 t514, .int .i64 0, .string (⟨#[]⟩ : ByteArray), .bool false]) ?_ 1 _ rfl; (with_reducible repeat (first | refine blk_drewN ?_ _ | refine blk_drew ?_ | refine blk_alloc ?_ _)); refine blk_put (cs := #[.int .i64 0, .int .i64 0, .string (⟨#[]⟩ : ByteArray), .bool false]) ?_ 0 _ rfl; (with_reducible repeat (first | refine blk_drewN ?_ _ | refine blk_drew ?_ | refine blk_alloc ?_ _)); exact BK512.out) Tryz.underlying23 rfl (by kernel_rfl)) rfl ?_
              exact ⟨by first | rfl | (simp [errW_none, errW_some] <;> rfl) | (simp [*, errW_none, errW_some] <;> rfl), by repeat (first | (with_reducible first | exact HB.out | apply below_alloc | apply pw_below_drewN | apply below_drew1 | refine below_set ?_ GE510.out | refine below_set ?_ GE511.out | refine below_set ?_ GE512.out) | exact HB.out)⟩

/-! ### value_Less_1: function 61 -/
def value_Less_1.f (a0 : Int) : Option (Bool) := some (decide (a0 < 0))
set_option maxHeartbeats 8000000 in
set_option maxRecDepth 100000 in
theorem value_Less_1.calls (a0 : Int) (r : Bool) (w : World) (h : value_Less_1.f a0 = some r) :
    Calls Tryz.prog 61 #[.int .i64 a0] w fun e w' => e = .returned (.bool r) ∧ Drawn0 w w' := by
  have H : (some (decide (a0 < 0))) = some r := h
  clear h
  obtain rfl := Option.some.inj H
  go_enter Tryz.func61, Tryz.ntmps61
  go_wp2
  go_ret
  exact ⟨by first | rfl | (simp; done) | (simp [*]; done) | (simp [bne]; done), by repeat (first | exact Drawn0.refl _ | apply Drawn0.step)⟩

end Go.Proofs.YtljadejgdbemoaaGreatDoor.A
