import Derived.Test.YtddkbhglbkfelaaDoorPsEx0
namespace Go.Proofs.YtddkbhglbkfelaaDoor.E
open Go.RowKit Go.Proofs.YtddkbhglbkfelaaDoorW.PrintWords Go.Proofs.YtddkbhglbkfelaaDoorW.PrintLast Go.Proofs.YtddkbhglbkfelaaDoorW.PrintMore Go.Proofs.YtddkbhglbkfelaaDoorX
attribute [local go_sem] max2_int min2_int max_two min_two max_three min_three max_four min_four
set_option linter.unusedVariables false
set_option linter.unusedSimpArgs false

/-! ### barbicanref05_Valid: function 34 -/
mutual
def barbicanref05_Valid.j0 : Nat → Bool → Int → Int → ByteArray → Bool → Option (Int)
 | 0, _, _, _, _, _ => none
 | k + 1, x40, x225000, x225001, x225002, x225003 => if x40 = true then (some 3) else (if (x225002.size : Int) > 4096 then (some 2) else (barbicanref05_Valid.l0 k 0 x225000 x225001 x225002 x225003))
def barbicanref05_Valid.l0 : Nat → Int → Int → Int → ByteArray → Bool → Option (Int)
 | 0, _, _, _, _, _ => none
 | k + 1, x3, x225000, x225001, x225002, x225003 => if x3 < (x225002.size : Int) then (if 0 ≤ x3 then (if (bt x225002 x3) < 32 then (some 3) else (if (bt x225002 x3) > 126 then (some 3) else (barbicanref05_Valid.l0 k (wrap64 (x3 + 1)) x225000 x225001 x225002 x225003))) else (none)) else (some 0)
end
def barbicanref05_Valid.f (k : Nat) (a0_0 : Int) (a0_1 : Int) (a0_2 : ByteArray) (a0_3 : Bool) : Option (Int) := if a0_0 < 0 then (barbicanref05_Valid.j0 k true a0_0 a0_1 a0_2 a0_3) else (if a0_0 > 3 then (barbicanref05_Valid.j0 k true a0_0 a0_1 a0_2 a0_3) else (if a0_0 = 1 then (if a0_0 = 2 then (if a0_0 = 3 then (barbicanref05_Valid.j0 k false a0_0 a0_1 a0_2 a0_3) else (barbicanref05_Valid.j0 k a0_3 a0_0 a0_1 a0_2 a0_3)) else (if a0_2.toList = ([] : List UInt8) then (if a0_0 = 3 then (barbicanref05_Valid.j0 k false a0_0 a0_1 a0_2 a0_3) else (barbicanref05_Valid.j0 k a0_3 a0_0 a0_1 a0_2 a0_3)) else (barbicanref05_Valid.j0 k true a0_0 a0_1 a0_2 a0_3))) else (if a0_1 = 0 then (if a0_0 = 2 then (if a0_0 = 3 then (barbicanref05_Valid.j0 k false a0_0 a0_1 a0_2 a0_3) else (barbicanref05_Valid.j0 k a0_3 a0_0 a0_1 a0_2 a0_3)) else (if a0_2.toList = ([] : List UInt8) then (if a0_0 = 3 then (barbicanref05_Valid.j0 k false a0_0 a0_1 a0_2 a0_3) else (barbicanref05_Valid.j0 k a0_3 a0_0 a0_1 a0_2 a0_3)) else (barbicanref05_Valid.j0 k true a0_0 a0_1 a0_2 a0_3))) else (barbicanref05_Valid.j0 k true a0_0 a0_1 a0_2 a0_3))))
set_option maxHeartbeats 8000000 in
set_option maxRecDepth 100000 in
theorem barbicanref05_Valid.calls (k : Nat) (a0_0 : Int) (a0_1 : Int) (a0_2 : ByteArray) (a0_3 : Bool) (r : Int) (w : World) (h : barbicanref05_Valid.f k a0_0 a0_1 a0_2 a0_3 = some r) :
  Calls Tryd.prog 34 #[.agg #[.int .i64 a0_0, .int .i64 a0_1, .string a0_2, .bool a0_3]] w fun e w' => e = .returned (.int .i64 r) ∧ Below w.heap.size w w' := by
 have hu72 := Tryd.underlying72
 have HB := Aside0.mk (Below.refl w.heap.size w)
 have H : (if a0_0 < 0 then (barbicanref05_Valid.j0 k true a0_0 a0_1 a0_2 a0_3) else (if a0_0 > 3 then (barbicanref05_Valid.j0 k true a0_0 a0_1 a0_2 a0_3) else (if a0_0 = 1 then (if a0_0 = 2 then (if a0_0 = 3 then (barbicanref05_Valid.j0 k false a0_0 a0_1 a0_2 a0_3) else (barbicanref05_Valid.j0 k a0_3 a0_0 a0_1 a0_2 a0_3)) else (if a0_2.toList = ([] : List UInt8) then (if a0_0 = 3 then (barbicanref05_Valid.j0 k false a0_0 a0_1 a0_2 a0_3) else (barbicanref05_Valid.j0 k a0_3 a0_0 a0_1 a0_2 a0_3)) else (barbicanref05_Valid.j0 k true a0_0 a0_1 a0_2 a0_3))) else (if a0_1 = 0 then (if a0_0 = 2 then (if a0_0 = 3 then (barbicanref05_Valid.j0 k false a0_0 a0_1 a0_2 a0_3) else (barbicanref05_Valid.j0 k a0_3 a0_0 a0_1 a0_2 a0_3)) else (if a0_2.toList = ([] : List UInt8) then (if a0_0 = 3 then (barbicanref05_Valid.j0 k false a0_0 a0_1 a0_2 a0_3) else (barbicanref05_Valid.j0 k a0_3 a0_0 a0_1 a0_2 a0_3)) else (barbicanref05_Valid.j0 k true a0_0 a0_1 a0_2 a0_3))) else (barbicanref05_Valid.j0 k true a0_0 a0_1 a0_2 a0_3))))) = some r := h
 clear h
 have HC2 := Aside0.mk H
 clear H
 go_enter Tryd.func34, Tryd.ntmps34
 go_upto_region 1 with (first | ((with_reducible refine qgd (N := 1) rfl ?_); refine qbe ?hg (N := 1) ?hd (cs := #[.int .i64 a0_0, .int .i64 a0_1, .string a0_2, .bool a0_3]) (t := 72) ?hr ?_; (case hd => rfl); (case hg => rfl); (case hr => first | (go_simp; done) | (go_simp; rfl)); intro gb224 hg w3 hbox hb; have n0_ := Aside0.mk (below_step (bw_ HB.out) hb); have n1_ := Aside0.mk (hbox); have n2_ := Aside0.mk ((by rw [hg]; exact (qbz (bw_ HB.out)) : w.heap.size ≤ gb224)); have n3_ := Aside0.mk ((by rw [hg]; exact (qbz (bw_ HB.out)) : w.heap.size ≤ gb224)); clear HB; have HB := n0_; have BK224 := n1_; have GW224 := n2_; have GE224 := n3_; clear n0_ n1_ n2_ n3_; clear hb hbox hg))
 (try simp only [Act.put, List.setIfInBounds_toArray, List.set_cons_zero, List.set_cons_succ])
 go_cut [40] (fun v40 wc => ∃ (kq : Nat) (x40_1 : Bool), v40 = .bool x40_1 ∧ Aside0 (barbicanref05_Valid.j0 kq x40_1 a0_0 a0_1 a0_2 a0_3 = some r) ∧ Aside0 (kq ≤ k) ∧ Aside0 (wc.heap[gb224]? = some (.cells #[.int .i64 a0_0, .int .i64 a0_1, .string a0_2, .bool a0_3] 72 (0, 0))) ∧ Aside0 (Below w.heap.size w wc))
 case first =>
  have H := HC2.out
  clear HC2
  by_cases c4 : a0_0 < 0
  ·rw [if_pos c4] at H
   have c4b0 : decide (a0_0 < 0) = true := decide_eq_true c4
   clear c4
   (first | rw [c4b0] | (simp only [i64_w, i32_w]; rw [c4b0]) | skip)
   have H' := Aside0.mk H
   clear H
   have hcz5_0 : w3.cell? ⟨gb224, 0, none⟩ = some (.int .i64 a0_0) := (qkc BK224.out 0).trans rfl
   have hcz5_1 : w3.cell? ⟨gb224, 1, none⟩ = some (.int .i64 a0_1) := (qkc BK224.out 1).trans rfl
   have hcz5_2 : w3.cell? ⟨gb224, 2, none⟩ = some (.string a0_2) := (qkc BK224.out 2).trans rfl
   have hcz5_3 : w3.cell? ⟨gb224, 3, none⟩ = some (.bool a0_3) := (qkc BK224.out 3).trans rfl
   have hfz5_0 := qkf BK224.out 0
   have hfz5_1 := qkf BK224.out 1
   have hfz5_2 := qkf BK224.out 2
   have hfz5_3 := qkf BK224.out 3
   go_wp2
   refine Met.intro ?_
   go_step
   (repeat apply Exists.intro)
   refine ⟨?rel, ?frm⟩
   case frm => first | rfl | (simp only [c4b0]; rfl) | (simp only [c4b0]; first | done | rfl)
   case rel => exact ⟨_, (true), (by first | rfl | (simp; done) | (simp [*]; done) | (simp [bne]; done)), H', ⟨by first | omega | exact Nat.le_refl _⟩, ⟨by (with_reducible repeat (first | refine qkN ?_ _ | refine qkd ?_ | refine qka ?_ _)); exact BK224.out⟩, ⟨bw_ HB.out⟩⟩
  rw [if_neg c4] at H
  have c4b0 : decide (a0_0 < 0) = false := decide_eq_false c4
  clear c4
  (first | rw [c4b0] | (simp only [i64_w, i32_w]; rw [c4b0]) | skip)
  by_cases c6 : a0_0 > 3
  ·rw [if_pos c6] at H
   have c6b0 : decide (3 < a0_0) = true := decide_eq_true c6
   clear c6
   have H' := Aside0.mk H
   clear H
   have hcz7_0 : w3.cell? ⟨gb224, 0, none⟩ = some (.int .i64 a0_0) := (qkc BK224.out 0).trans rfl
   have hcz7_1 : w3.cell? ⟨gb224, 1, none⟩ = some (.int .i64 a0_1) := (qkc BK224.out 1).trans rfl
   have hcz7_2 : w3.cell? ⟨gb224, 2, none⟩ = some (.string a0_2) := (qkc BK224.out 2).trans rfl
   have hcz7_3 : w3.cell? ⟨gb224, 3, none⟩ = some (.bool a0_3) := (qkc BK224.out 3).trans rfl
   have hfz7_0 := qkf BK224.out 0
   have hfz7_1 := qkf BK224.out 1
   have hfz7_2 := qkf BK224.out 2
   have hfz7_3 := qkf BK224.out 3
   go_wp2
   refine Met.intro ?_
   go_step
   (repeat apply Exists.intro)
   refine ⟨?rel, ?frm⟩
   case frm => first | rfl | (simp only [c4b0, c6b0]; rfl) | (simp only [c4b0, c6b0]; first | done | rfl)
   case rel => exact ⟨_, (true), (by first | rfl | (simp; done) | (simp [*]; done) | (simp [bne]; done)), H', ⟨by first | omega | exact Nat.le_refl _⟩, ⟨by (with_reducible repeat (first | refine qkN ?_ _ | refine qkd ?_ | refine qka ?_ _)); exact BK224.out⟩, ⟨bw_ HB.out⟩⟩
  rw [if_neg c6] at H
  have c6b0 : decide (3 < a0_0) = false := decide_eq_false c6
  clear c6
  by_cases c8 : a0_0 = 1
  ·rw [if_pos c8] at H
   have c8b0 : (a0_0 == 1) = true := beq_iff_eq.mpr c8
   have c8b1 : (a0_0 != 1) = false := bne_eq_false_iff_eq.mpr c8
   clear c8
   by_cases c9 : a0_0 = 2
   ·rw [if_pos c9] at H
    have c9b0 : (a0_0 == 2) = true := beq_iff_eq.mpr c9
    have c9b1 : (a0_0 != 2) = false := bne_eq_false_iff_eq.mpr c9
    clear c9
    by_cases c10 : a0_0 = 3
    ·rw [if_pos c10] at H
     have c10b0 : (a0_0 == 3) = true := beq_iff_eq.mpr c10
     have c10b1 : (a0_0 != 3) = false := bne_eq_false_iff_eq.mpr c10
     clear c10
     have H' := Aside0.mk H
     clear H
     have hcz11_0 : w3.cell? ⟨gb224, 0, none⟩ = some (.int .i64 a0_0) := (qkc BK224.out 0).trans rfl
     have hcz11_1 : w3.cell? ⟨gb224, 1, none⟩ = some (.int .i64 a0_1) := (qkc BK224.out 1).trans rfl
     have hcz11_2 : w3.cell? ⟨gb224, 2, none⟩ = some (.string a0_2) := (qkc BK224.out 2).trans rfl
     have hcz11_3 : w3.cell? ⟨gb224, 3, none⟩ = some (.bool a0_3) := (qkc BK224.out 3).trans rfl
     have hfz11_0 := qkf BK224.out 0
     have hfz11_1 := qkf BK224.out 1
     have hfz11_2 := qkf BK224.out 2
     have hfz11_3 := qkf BK224.out 3
     go_wp2
     refine Met.intro ?_
     go_step
     (repeat apply Exists.intro)
     refine ⟨?rel, ?frm⟩
     case frm => first | rfl | (simp only [c4b0, c6b0, c8b0, c8b1, c9b0, c9b1, c10b0, c10b1]; rfl) | (simp only [c4b0, c6b0, c8b0, c8b1, c9b0, c9b1, c10b0, c10b1]; first | done | rfl)
     case rel => exact ⟨_, (false), (by first | rfl | (simp; done) | (simp [*]; done) | (simp [bne]; done)), H', ⟨by first | omega | exact Nat.le_refl _⟩, ⟨by (with_reducible repeat (first | refine qkN ?_ _ | refine qkd ?_ | refine qka ?_ _)); exact BK224.out⟩, ⟨bw_ HB.out⟩⟩
    rw [if_neg c10] at H
    have c10b0 : (a0_0 == 3) = false := beq_eq_false_iff_ne.mpr c10
    have c10b1 : (a0_0 != 3) = true := bne_iff_ne.mpr c10
    have H' := Aside0.mk H
    clear H
    have hcz12_0 : w3.cell? ⟨gb224, 0, none⟩ = some (.int .i64 a0_0) := (qkc BK224.out 0).trans rfl
    have hcz12_1 : w3.cell? ⟨gb224, 1, none⟩ = some (.int .i64 a0_1) := (qkc BK224.out 1).trans rfl
    have hcz12_2 : w3.cell? ⟨gb224, 2, none⟩ = some (.string a0_2) := (qkc BK224.out 2).trans rfl
    have hcz12_3 : w3.cell? ⟨gb224, 3, none⟩ = some (.bool a0_3) := (qkc BK224.out 3).trans rfl
    have hfz12_0 := qkf BK224.out 0
    have hfz12_1 := qkf BK224.out 1
    have hfz12_2 := qkf BK224.out 2
    have hfz12_3 := qkf BK224.out 3
    go_wp2
    refine Met.intro ?_
    go_step
    (repeat apply Exists.intro)
    refine ⟨?rel, ?frm⟩
    case frm => first | rfl | (simp only [c4b0, c6b0, c8b0, c8b1, c9b0, c9b1, c10b0, c10b1]; rfl) | (simp only [c4b0, c6b0, c8b0, c8b1, c9b0, c9b1, c10b0, c10b1]; first | done | rfl)
    case rel => exact ⟨_, (a0_3), (by first | rfl | (simp; done) | (simp [*]; done) | (simp [bne]; done)), H', ⟨by first | omega | exact Nat.le_refl _⟩, ⟨by (with_reducible repeat (first | refine qkN ?_ _ | refine qkd ?_ | refine qka ?_ _)); exact BK224.out⟩, ⟨bw_ HB.out⟩⟩
   rw [if_neg c9] at H
   have c9b0 : (a0_0 == 2) = false := beq_eq_false_iff_ne.mpr c9
   have c9b1 : (a0_0 != 2) = true := bne_iff_ne.mpr c9
   by_cases c13 : a0_2.toList = ([] : List UInt8)
   ·rw [if_pos c13] at H
    have c13b0 : (a0_2.toList == ([] : List UInt8)) = true := beq_iff_eq.mpr c13
    have c13b1 : (a0_2.toList != ([] : List UInt8)) = false := bne_eq_false_iff_eq.mpr c13
    clear c13
    by_cases c14 : a0_0 = 3
    ·rw [if_pos c14] at H
     have c14b0 : (a0_0 == 3) = true := beq_iff_eq.mpr c14
     have c14b1 : (a0_0 != 3) = false := bne_eq_false_iff_eq.mpr c14
     clear c14
     have H' := Aside0.mk H
     clear H
     have hcz15_0 : w3.cell? ⟨gb224, 0, none⟩ = some (.int .i64 a0_0) := (qkc BK224.out 0).trans rfl
     have hcz15_1 : w3.cell? ⟨gb224, 1, none⟩ = some (.int .i64 a0_1) := (qkc BK224.out 1).trans rfl
     have hcz15_2 : w3.cell? ⟨gb224, 2, none⟩ = some (.string a0_2) := (qkc BK224.out 2).trans rfl
     have hcz15_3 : w3.cell? ⟨gb224, 3, none⟩ = some (.bool a0_3) := (qkc BK224.out 3).trans rfl
     have hfz15_0 := qkf BK224.out 0
     have hfz15_1 := qkf BK224.out 1
     have hfz15_2 := qkf BK224.out 2
     have hfz15_3 := qkf BK224.out 3
     go_wp2
     refine Met.intro ?_
     go_step
     (repeat apply Exists.intro)
     refine ⟨?rel, ?frm⟩
     case frm => first | rfl | (simp only [c4b0, c6b0, c8b0, c8b1, c9b0, c9b1, c13b0, c13b1, c14b0, c14b1]; rfl) | (simp only [c4b0, c6b0, c8b0, c8b1, c9b0, c9b1, c13b0, c13b1, c14b0, c14b1]; first | done | rfl)
     case rel => exact ⟨_, (false), (by first | rfl | (simp; done) | (simp [*]; done) | (simp [bne]; done)), H', ⟨by first | omega | exact Nat.le_refl _⟩, ⟨by (with_reducible repeat (first | refine qkN ?_ _ | refine qkd ?_ | refine qka ?_ _)); exact BK224.out⟩, ⟨bw_ HB.out⟩⟩
    rw [if_neg c14] at H
    have c14b0 : (a0_0 == 3) = false := beq_eq_false_iff_ne.mpr c14
    have c14b1 : (a0_0 != 3) = true := bne_iff_ne.mpr c14
    have H' := Aside0.mk H
    clear H
    have hcz16_0 : w3.cell? ⟨gb224, 0, none⟩ = some (.int .i64 a0_0) := (qkc BK224.out 0).trans rfl
    have hcz16_1 : w3.cell? ⟨gb224, 1, none⟩ = some (.int .i64 a0_1) := (qkc BK224.out 1).trans rfl
    have hcz16_2 : w3.cell? ⟨gb224, 2, none⟩ = some (.string a0_2) := (qkc BK224.out 2).trans rfl
    have hcz16_3 : w3.cell? ⟨gb224, 3, none⟩ = some (.bool a0_3) := (qkc BK224.out 3).trans rfl
    have hfz16_0 := qkf BK224.out 0
    have hfz16_1 := qkf BK224.out 1
    have hfz16_2 := qkf BK224.out 2
    have hfz16_3 := qkf BK224.out 3
    go_wp2
    refine Met.intro ?_
    go_step
    (repeat apply Exists.intro)
    refine ⟨?rel, ?frm⟩
    case frm => first | rfl | (simp only [c4b0, c6b0, c8b0, c8b1, c9b0, c9b1, c13b0, c13b1, c14b0, c14b1]; rfl) | (simp only [c4b0, c6b0, c8b0, c8b1, c9b0, c9b1, c13b0, c13b1, c14b0, c14b1]; first | done | rfl)
    case rel => exact ⟨_, (a0_3), (by first | rfl | (simp; done) | (simp [*]; done) | (simp [bne]; done)), H', ⟨by first | omega | exact Nat.le_refl _⟩, ⟨by (with_reducible repeat (first | refine qkN ?_ _ | refine qkd ?_ | refine qka ?_ _)); exact BK224.out⟩, ⟨bw_ HB.out⟩⟩
   rw [if_neg c13] at H
   have c13b0 : (a0_2.toList == ([] : List UInt8)) = false := beq_eq_false_iff_ne.mpr c13
   have c13b1 : (a0_2.toList != ([] : List UInt8)) = true := bne_iff_ne.mpr c13
   have H' := Aside0.mk H
   clear H
   have hcz17_0 : w3.cell? ⟨gb224, 0, none⟩ = some (.int .i64 a0_0) := (qkc BK224.out 0).trans rfl
   have hcz17_1 : w3.cell? ⟨gb224, 1, none⟩ = some (.int .i64 a0_1) := (qkc BK224.out 1).trans rfl
   have hcz17_2 : w3.cell? ⟨gb224, 2, none⟩ = some (.string a0_2) := (qkc BK224.out 2).trans rfl
   have hcz17_3 : w3.cell? ⟨gb224, 3, none⟩ = some (.bool a0_3) := (qkc BK224.out 3).trans rfl
   have hfz17_0 := qkf BK224.out 0
   have hfz17_1 := qkf BK224.out 1
   have hfz17_2 := qkf BK224.out 2
   have hfz17_3 := qkf BK224.out 3
   go_wp2
   refine Met.intro ?_
   go_step
   (repeat apply Exists.intro)
   refine ⟨?rel, ?frm⟩
   case frm => first | rfl | (simp only [c4b0, c6b0, c8b0, c8b1, c9b0, c9b1, c13b0, c13b1]; rfl) | (simp only [c4b0, c6b0, c8b0, c8b1, c9b0, c9b1, c13b0, c13b1]; first | done | rfl)
   case rel => exact ⟨_, (true), (by first | rfl | (simp; done) | (simp [*]; done) | (simp [bne]; done)), H', ⟨by first | omega | exact Nat.le_refl _⟩, ⟨by (with_reducible repeat (first | refine qkN ?_ _ | refine qkd ?_ | refine qka ?_ _)); exact BK224.out⟩, ⟨bw_ HB.out⟩⟩
  rw [if_neg c8] at H
  have c8b0 : (a0_0 == 1) = false := beq_eq_false_iff_ne.mpr c8
  have c8b1 : (a0_0 != 1) = true := bne_iff_ne.mpr c8
  by_cases c18 : a0_1 = 0
  ·rw [if_pos c18] at H
   have c18b0 : (a0_1 == 0) = true := beq_iff_eq.mpr c18
   have c18b1 : (a0_1 != 0) = false := bne_eq_false_iff_eq.mpr c18
   clear c18
   by_cases c19 : a0_0 = 2
   ·rw [if_pos c19] at H
    have c19b0 : (a0_0 == 2) = true := beq_iff_eq.mpr c19
    have c19b1 : (a0_0 != 2) = false := bne_eq_false_iff_eq.mpr c19
    clear c19
    by_cases c20 : a0_0 = 3
    ·rw [if_pos c20] at H
     have c20b0 : (a0_0 == 3) = true := beq_iff_eq.mpr c20
     have c20b1 : (a0_0 != 3) = false := bne_eq_false_iff_eq.mpr c20
     clear c20
     have H' := Aside0.mk H
     clear H
     have hcz21_0 : w3.cell? ⟨gb224, 0, none⟩ = some (.int .i64 a0_0) := (qkc BK224.out 0).trans rfl
     have hcz21_1 : w3.cell? ⟨gb224, 1, none⟩ = some (.int .i64 a0_1) := (qkc BK224.out 1).trans rfl
     have hcz21_2 : w3.cell? ⟨gb224, 2, none⟩ = some (.string a0_2) := (qkc BK224.out 2).trans rfl
     have hcz21_3 : w3.cell? ⟨gb224, 3, none⟩ = some (.bool a0_3) := (qkc BK224.out 3).trans rfl
     have hfz21_0 := qkf BK224.out 0
     have hfz21_1 := qkf BK224.out 1
     have hfz21_2 := qkf BK224.out 2
     have hfz21_3 := qkf BK224.out 3
     go_wp2
     refine Met.intro ?_
     go_step
     (repeat apply Exists.intro)
     refine ⟨?rel, ?frm⟩
     case frm => first | rfl | (simp only [c4b0, c6b0, c8b0, c8b1, c18b0, c18b1, c19b0, c19b1, c20b0, c20b1]; rfl) | (simp only [c4b0, c6b0, c8b0, c8b1, c18b0, c18b1, c19b0, c19b1, c20b0, c20b1]; first | done | rfl)
     case rel => exact ⟨_, (false), (by first | rfl | (simp; done) | (simp [*]; done) | (simp [bne]; done)), H', ⟨by first | omega | exact Nat.le_refl _⟩, ⟨by (with_reducible repeat (first | refine qkN ?_ _ | refine qkd ?_ | refine qka ?_ _)); exact BK224.out⟩, ⟨bw_ HB.out⟩⟩
    rw [if_neg c20] at H
    have c20b0 : (a0_0 == 3) = false := beq_eq_false_iff_ne.mpr c20
    have c20b1 : (a0_0 != 3) = true := bne_iff_ne.mpr c20
    have H' := Aside0.mk H
    clear H
    have hcz22_0 : w3.cell? ⟨gb224, 0, none⟩ = some (.int .i64 a0_0) := (qkc BK224.out 0).trans rfl
    have hcz22_1 : w3.cell? ⟨gb224, 1, none⟩ = some (.int .i64 a0_1) := (qkc BK224.out 1).trans rfl
    have hcz22_2 : w3.cell? ⟨gb224, 2, none⟩ = some (.string a0_2) := (qkc BK224.out 2).trans rfl
    have hcz22_3 : w3.cell? ⟨gb224, 3, none⟩ = some (.bool a0_3) := (qkc BK224.out 3).trans rfl
    have hfz22_0 := qkf BK224.out 0
    have hfz22_1 := qkf BK224.out 1
    have hfz22_2 := qkf BK224.out 2
    have hfz22_3 := qkf BK224.out 3
    go_wp2
    refine Met.intro ?_
    go_step
    (repeat apply Exists.intro)
    refine ⟨?rel, ?frm⟩
    case frm => first | rfl | (simp only [c4b0, c6b0, c8b0, c8b1, c18b0, c18b1, c19b0, c19b1, c20b0, c20b1]; rfl) | (simp only [c4b0, c6b0, c8b0, c8b1, c18b0, c18b1, c19b0, c19b1, c20b0, c20b1]; first | done | rfl)
    case rel => exact ⟨_, (a0_3), (by first | rfl | (simp; done) | (simp [*]; done) | (simp [bne]; done)), H', ⟨by first | omega | exact Nat.le_refl _⟩, ⟨by (with_reducible repeat (first | refine qkN ?_ _ | refine qkd ?_ | refine qka ?_ _)); exact BK224.out⟩, ⟨bw_ HB.out⟩⟩
   rw [if_neg c19] at H
   have c19b0 : (a0_0 == 2) = false := beq_eq_false_iff_ne.mpr c19
   have c19b1 : (a0_0 != 2) = true := bne_iff_ne.mpr c19
   by_cases c23 : a0_2.toList = ([] : List UInt8)
   ·rw [if_pos c23] at H
    have c23b0 : (a0_2.toList == ([] : List UInt8)) = true := beq_iff_eq.mpr c23
    have c23b1 : (a0_2.toList != ([] : List UInt8)) = false := bne_eq_false_iff_eq.mpr c23
    clear c23
    by_cases c24 : a0_0 = 3
    ·rw [if_pos c24] at H
     have c24b0 : (a0_0 == 3) = true := beq_iff_eq.mpr c24
     have c24b1 : (a0_0 != 3) = false := bne_eq_false_iff_eq.mpr c24
     clear c24
     have H' := Aside0.mk H
     clear H
     have hcz25_0 : w3.cell? ⟨gb224, 0, none⟩ = some (.int .i64 a0_0) := (qkc BK224.out 0).trans rfl
     have hcz25_1 : w3.cell? ⟨gb224, 1, none⟩ = some (.int .i64 a0_1) := (qkc BK224.out 1).trans rfl
     have hcz25_2 : w3.cell? ⟨gb224, 2, none⟩ = some (.string a0_2) := (qkc BK224.out 2).trans rfl
     have hcz25_3 : w3.cell? ⟨gb224, 3, none⟩ = some (.bool a0_3) := (qkc BK224.out 3).trans rfl
     have hfz25_0 := qkf BK224.out 0
     have hfz25_1 := qkf BK224.out 1
     have hfz25_2 := qkf BK224.out 2
     have hfz25_3 := qkf BK224.out 3
     go_wp2
     refine Met.intro ?_
     go_step
     (repeat apply Exists.intro)
     refine ⟨?rel, ?frm⟩
     case frm => first | rfl | (simp only [c4b0, c6b0, c8b0, c8b1, c18b0, c18b1, c19b0, c19b1, c23b0, c23b1, c24b0, c24b1]; rfl) | (simp only [c4b0, c6b0, c8b0, c8b1, c18b0, c18b1, c19b0, c19b1, c23b0, c23b1, c24b0, c24b1]; first | done | rfl)
     case rel => exact ⟨_, (false), (by first | rfl | (simp; done) | (simp [*]; done) | (simp [bne]; done)), H', ⟨by first | omega | exact Nat.le_refl _⟩, ⟨by (with_reducible repeat (first | refine qkN ?_ _ | refine qkd ?_ | refine qka ?_ _)); exact BK224.out⟩, ⟨bw_ HB.out⟩⟩
    rw [if_neg c24] at H
    have c24b0 : (a0_0 == 3) = false := beq_eq_false_iff_ne.mpr c24
    have c24b1 : (a0_0 != 3) = true := bne_iff_ne.mpr c24
    have H' := Aside0.mk H
    clear H
    have hcz26_0 : w3.cell? ⟨gb224, 0, none⟩ = some (.int .i64 a0_0) := (qkc BK224.out 0).trans rfl
    have hcz26_1 : w3.cell? ⟨gb224, 1, none⟩ = some (.int .i64 a0_1) := (qkc BK224.out 1).trans rfl
    have hcz26_2 : w3.cell? ⟨gb224, 2, none⟩ = some (.string a0_2) := (qkc BK224.out 2).trans rfl
    have hcz26_3 : w3.cell? ⟨gb224, 3, none⟩ = some (.bool a0_3) := (qkc BK224.out 3).trans rfl
    have hfz26_0 := qkf BK224.out 0
    have hfz26_1 := qkf BK224.out 1
    have hfz26_2 := qkf BK224.out 2
    have hfz26_3 := qkf BK224.out 3
    go_wp2
    refine Met.intro ?_
    go_step
    (repeat apply Exists.intro)
    refine ⟨?rel, ?frm⟩
    case frm => first | rfl | (simp only [c4b0, c6b0, c8b0, c8b1, c18b0, c18b1, c19b0, c19b1, c23b0, c23b1, c24b0, c24b1]; rfl) | (simp only [c4b0, c6b0, c8b0, c8b1, c18b0, c18b1, c19b0, c19b1, c23b0, c23b1, c24b0, c24b1]; first | done | rfl)
    case rel => exact ⟨_, (a0_3), (by first | rfl | (simp; done) | (simp [*]; done) | (simp [bne]; done)), H', ⟨by first | omega | exact Nat.le_refl _⟩, ⟨by (with_reducible repeat (first | refine qkN ?_ _ | refine qkd ?_ | refine qka ?_ _)); exact BK224.out⟩, ⟨bw_ HB.out⟩⟩
   rw [if_neg c23] at H
   have c23b0 : (a0_2.toList == ([] : List UInt8)) = false := beq_eq_false_iff_ne.mpr c23
   have c23b1 : (a0_2.toList != ([] : List UInt8)) = true := bne_iff_ne.mpr c23
   have H' := Aside0.mk H
   clear H
   have hcz27_0 : w3.cell? ⟨gb224, 0, none⟩ = some (.int .i64 a0_0) := (qkc BK224.out 0).trans rfl
   have hcz27_1 : w3.cell? ⟨gb224, 1, none⟩ = some (.int .i64 a0_1) := (qkc BK224.out 1).trans rfl
   have hcz27_2 : w3.cell? ⟨gb224, 2, none⟩ = some (.string a0_2) := (qkc BK224.out 2).trans rfl
   have hcz27_3 : w3.cell? ⟨gb224, 3, none⟩ = some (.bool a0_3) := (qkc BK224.out 3).trans rfl
   have hfz27_0 := qkf BK224.out 0
   have hfz27_1 := qkf BK224.out 1
   have hfz27_2 := qkf BK224.out 2
   have hfz27_3 := qkf BK224.out 3
   go_wp2
   refine Met.intro ?_
   go_step
   (repeat apply Exists.intro)
   refine ⟨?rel, ?frm⟩
   case frm => first | rfl | (simp only [c4b0, c6b0, c8b0, c8b1, c18b0, c18b1, c19b0, c19b1, c23b0, c23b1]; rfl) | (simp only [c4b0, c6b0, c8b0, c8b1, c18b0, c18b1, c19b0, c19b1, c23b0, c23b1]; first | done | rfl)
   case rel => exact ⟨_, (true), (by first | rfl | (simp; done) | (simp [*]; done) | (simp [bne]; done)), H', ⟨by first | omega | exact Nat.le_refl _⟩, ⟨by (with_reducible repeat (first | refine qkN ?_ _ | refine qkd ?_ | refine qka ?_ _)); exact BK224.out⟩, ⟨bw_ HB.out⟩⟩
  rw [if_neg c18] at H
  have c18b0 : (a0_1 == 0) = false := beq_eq_false_iff_ne.mpr c18
  have c18b1 : (a0_1 != 0) = true := bne_iff_ne.mpr c18
  have H' := Aside0.mk H
  clear H
  have hcz28_0 : w3.cell? ⟨gb224, 0, none⟩ = some (.int .i64 a0_0) := (qkc BK224.out 0).trans rfl
  have hcz28_1 : w3.cell? ⟨gb224, 1, none⟩ = some (.int .i64 a0_1) := (qkc BK224.out 1).trans rfl
  have hcz28_2 : w3.cell? ⟨gb224, 2, none⟩ = some (.string a0_2) := (qkc BK224.out 2).trans rfl
  have hcz28_3 : w3.cell? ⟨gb224, 3, none⟩ = some (.bool a0_3) := (qkc BK224.out 3).trans rfl
  have hfz28_0 := qkf BK224.out 0
  have hfz28_1 := qkf BK224.out 1
  have hfz28_2 := qkf BK224.out 2
  have hfz28_3 := qkf BK224.out 3
  go_wp2
  refine Met.intro ?_
  go_step
  (repeat apply Exists.intro)
  refine ⟨?rel, ?frm⟩
  case frm => first | rfl | (simp only [c4b0, c6b0, c8b0, c8b1, c18b0, c18b1]; rfl) | (simp only [c4b0, c6b0, c8b0, c8b1, c18b0, c18b1]; first | done | rfl)
  case rel => exact ⟨_, (true), (by first | rfl | (simp; done) | (simp [*]; done) | (simp [bne]; done)), H', ⟨by first | omega | exact Nat.le_refl _⟩, ⟨by (with_reducible repeat (first | refine qkN ?_ _ | refine qkd ?_ | refine qka ?_ _)); exact BK224.out⟩, ⟨bw_ HB.out⟩⟩
 clear HC2
 (try clear c1); (try clear c2); (try clear p2); (try clear c3); (try clear c4); (try clear c4b0); (try clear c6); (try clear c6b0); (try clear c8); (try clear c8b0); (try clear c8b1); (try clear c9)
 (try clear c9b0); (try clear c9b1); (try clear c10); (try clear c10b0); (try clear c10b1); (try clear c13); (try clear c13b0); (try clear c13b1); (try clear c14); (try clear c14b0); (try clear c14b1); (try clear c18)
 (try clear c18b0); (try clear c18b1); (try clear c19); (try clear c19b0); (try clear c19b1); (try clear c20); (try clear c20b0); (try clear c20b1); (try clear c23); (try clear c23b0); (try clear c23b1); (try clear c24)
 (try clear c24b0); (try clear c24b1); (try clear hcz11_0); (try clear hcz11_1); (try clear hcz11_2); (try clear hcz11_3); (try clear hcz12_0); (try clear hcz12_1); (try clear hcz12_2); (try clear hcz12_3); (try clear hcz15_0); (try clear hcz15_1)
 (try clear hcz15_2); (try clear hcz15_3); (try clear hcz16_0); (try clear hcz16_1); (try clear hcz16_2); (try clear hcz16_3); (try clear hcz17_0); (try clear hcz17_1); (try clear hcz17_2); (try clear hcz17_3); (try clear hcz21_0); (try clear hcz21_1)
 (try clear hcz21_2); (try clear hcz21_3); (try clear hcz22_0); (try clear hcz22_1); (try clear hcz22_2); (try clear hcz22_3); (try clear hcz25_0); (try clear hcz25_1); (try clear hcz25_2); (try clear hcz25_3); (try clear hcz26_0); (try clear hcz26_1)
 (try clear hcz26_2); (try clear hcz26_3); (try clear hcz27_0); (try clear hcz27_1); (try clear hcz27_2); (try clear hcz27_3); (try clear hcz28_0); (try clear hcz28_1); (try clear hcz28_2); (try clear hcz28_3); (try clear hcz5_0); (try clear hcz5_1)
 (try clear hcz5_2); (try clear hcz5_3); (try clear hcz7_0); (try clear hcz7_1); (try clear hcz7_2); (try clear hcz7_3); (try clear hfz11_0); (try clear hfz11_1); (try clear hfz11_2); (try clear hfz11_3); (try clear hfz12_0); (try clear hfz12_1)
 (try clear hfz12_2); (try clear hfz12_3); (try clear hfz15_0); (try clear hfz15_1); (try clear hfz15_2); (try clear hfz15_3); (try clear hfz16_0); (try clear hfz16_1); (try clear hfz16_2); (try clear hfz16_3); (try clear hfz17_0); (try clear hfz17_1)
 (try clear hfz17_2); (try clear hfz17_3); (try clear hfz21_0); (try clear hfz21_1); (try clear hfz21_2); (try clear hfz21_3); (try clear hfz22_0); (try clear hfz22_1); (try clear hfz22_2); (try clear hfz22_3); (try clear hfz25_0); (try clear hfz25_1)
 (try clear hfz25_2); (try clear hfz25_3); (try clear hfz26_0); (try clear hfz26_1); (try clear hfz26_2); (try clear hfz26_3); (try clear hfz27_0); (try clear hfz27_1); (try clear hfz27_2); (try clear hfz27_3); (try clear hfz28_0); (try clear hfz28_1)
 (try clear hfz28_2); (try clear hfz28_3); (try clear hfz5_0); (try clear hfz5_1); (try clear hfz5_2); (try clear hfz5_3); (try clear hfz7_0); (try clear hfz7_1); (try clear hfz7_2); (try clear hfz7_3)
 obtain ⟨kq, x40_1, rfl, HA, HJ1, BK224, HB⟩ := hcut
 cases kq with
 | zero => exact absurd HA.out (by simp [barbicanref05_Valid.j0])
 | succ kj1 =>
  have H := HA.out
  clear HA
  simp only [barbicanref05_Valid.j0] at H
  by_cases c29 : x40_1 = true
  ·subst c29
   rw [if_pos rfl] at H
   obtain rfl := Option.some.inj H
   go_wp2
   go_ret
   exact ⟨by first | rfl | (simp [errW_none, errW_some] <;> rfl) | (simp [*, errW_none, errW_some] <;> rfl), bw_ HB.out⟩
  replace c29 := Bool.eq_false_iff.mpr c29
  subst c29
  rw [if_neg (show ¬ (false = true) by decide)] at H
  by_cases c30 : (a0_2.size : Int) > 4096
  ·rw [if_pos c30] at H
   have c30b0 : decide (4096 < (a0_2.size : Int)) = true := decide_eq_true c30
   have c30b1 : decide (4096 < a0_2.size) = true := decide_eq_true (by omega)
   clear c30
   obtain rfl := Option.some.inj H
   have hcz31_0 : wc.cell? ⟨gb224, 0, none⟩ = some (.int .i64 a0_0) := (qkc BK224.out 0).trans rfl
   have hcz31_1 : wc.cell? ⟨gb224, 1, none⟩ = some (.int .i64 a0_1) := (qkc BK224.out 1).trans rfl
   have hcz31_2 : wc.cell? ⟨gb224, 2, none⟩ = some (.string a0_2) := (qkc BK224.out 2).trans rfl
   have hcz31_3 : wc.cell? ⟨gb224, 3, none⟩ = some (.bool a0_3) := (qkc BK224.out 3).trans rfl
   have hfz31_0 := qkf BK224.out 0
   have hfz31_1 := qkf BK224.out 1
   have hfz31_2 := qkf BK224.out 2
   have hfz31_3 := qkf BK224.out 3
   go_wp2
   go_ret
   exact ⟨by first | rfl | (simp [errW_none, errW_some] <;> rfl) | (simp [*, errW_none, errW_some] <;> rfl), bw_ HB.out⟩
  rw [if_neg c30] at H
  have c30b0 : decide (4096 < (a0_2.size : Int)) = false := decide_eq_false c30
  have c30b1 : decide (4096 < a0_2.size) = false := decide_eq_false (by omega)
  clear c30
  have H' := Aside0.mk H
  clear H
  have hcz32_0 : wc.cell? ⟨gb224, 0, none⟩ = some (.int .i64 a0_0) := (qkc BK224.out 0).trans rfl
  have hcz32_1 : wc.cell? ⟨gb224, 1, none⟩ = some (.int .i64 a0_1) := (qkc BK224.out 1).trans rfl
  have hcz32_2 : wc.cell? ⟨gb224, 2, none⟩ = some (.string a0_2) := (qkc BK224.out 2).trans rfl
  have hcz32_3 : wc.cell? ⟨gb224, 3, none⟩ = some (.bool a0_3) := (qkc BK224.out 3).trans rfl
  have hfz32_0 := qkf BK224.out 0
  have hfz32_1 := qkf BK224.out 1
  have hfz32_2 := qkf BK224.out 2
  have hfz32_3 := qkf BK224.out 3
  go_wp2
  go_loopg [3] kj1 (fun kq v3 w' => ∃ (x3_2 : Int), v3 = .int .i64 x3_2 ∧ Aside0 (barbicanref05_Valid.l0 kq x3_2 a0_0 a0_1 a0_2 a0_3 = some r) ∧ Aside0 (kq ≤ kj1) ∧ Aside0 (w'.heap[gb224]? = some (.cells #[.int .i64 a0_0, .int .i64 a0_1, .string a0_2, .bool a0_3] 72 (0, 0))) ∧ Aside0 (Below w.heap.size w w'))
  case atStart => exact ⟨(0), (by first | rfl | (simp; done) | (simp [*]; done) | (simp [bne]; done)), H', ⟨Nat.le_refl _⟩, ⟨by (with_reducible repeat (first | refine qkN ?_ _ | refine qkd ?_ | refine qka ?_ _)); exact BK224.out⟩, ⟨bw_ HB.out⟩⟩
  case round =>
   clear H'
   (try clear c1); (try clear c2); (try clear p2); (try clear c3); (try clear c4); (try clear c4b0); (try clear c6); (try clear c6b0); (try clear c8); (try clear c8b0); (try clear c8b1); (try clear c9)
   (try clear c9b0); (try clear c9b1); (try clear c10); (try clear c10b0); (try clear c10b1); (try clear c13); (try clear c13b0); (try clear c13b1); (try clear c14); (try clear c14b0); (try clear c14b1); (try clear c18)
   (try clear c18b0); (try clear c18b1); (try clear c19); (try clear c19b0); (try clear c19b1); (try clear c20); (try clear c20b0); (try clear c20b1); (try clear c23); (try clear c23b0); (try clear c23b1); (try clear c24)
   (try clear c24b0); (try clear c24b1); (try clear c29); (try clear c30); (try clear c30b0); (try clear c30b1); (try clear hcz11_0); (try clear hcz11_1); (try clear hcz11_2); (try clear hcz11_3); (try clear hcz12_0); (try clear hcz12_1)
   (try clear hcz12_2); (try clear hcz12_3); (try clear hcz15_0); (try clear hcz15_1); (try clear hcz15_2); (try clear hcz15_3); (try clear hcz16_0); (try clear hcz16_1); (try clear hcz16_2); (try clear hcz16_3); (try clear hcz17_0); (try clear hcz17_1)
   (try clear hcz17_2); (try clear hcz17_3); (try clear hcz21_0); (try clear hcz21_1); (try clear hcz21_2); (try clear hcz21_3); (try clear hcz22_0); (try clear hcz22_1); (try clear hcz22_2); (try clear hcz22_3); (try clear hcz25_0); (try clear hcz25_1)
   (try clear hcz25_2); (try clear hcz25_3); (try clear hcz26_0); (try clear hcz26_1); (try clear hcz26_2); (try clear hcz26_3); (try clear hcz27_0); (try clear hcz27_1); (try clear hcz27_2); (try clear hcz27_3); (try clear hcz28_0); (try clear hcz28_1)
   (try clear hcz28_2); (try clear hcz28_3); (try clear hcz31_0); (try clear hcz31_1); (try clear hcz31_2); (try clear hcz31_3); (try clear hcz32_0); (try clear hcz32_1); (try clear hcz32_2); (try clear hcz32_3); (try clear hcz5_0); (try clear hcz5_1)
   (try clear hcz5_2); (try clear hcz5_3); (try clear hcz7_0); (try clear hcz7_1); (try clear hcz7_2); (try clear hcz7_3); (try clear hfz11_0); (try clear hfz11_1); (try clear hfz11_2); (try clear hfz11_3); (try clear hfz12_0); (try clear hfz12_1)
   (try clear hfz12_2); (try clear hfz12_3); (try clear hfz15_0); (try clear hfz15_1); (try clear hfz15_2); (try clear hfz15_3); (try clear hfz16_0); (try clear hfz16_1); (try clear hfz16_2); (try clear hfz16_3); (try clear hfz17_0); (try clear hfz17_1)
   (try clear hfz17_2); (try clear hfz17_3); (try clear hfz21_0); (try clear hfz21_1); (try clear hfz21_2); (try clear hfz21_3); (try clear hfz22_0); (try clear hfz22_1); (try clear hfz22_2); (try clear hfz22_3); (try clear hfz25_0); (try clear hfz25_1)
   (try clear hfz25_2); (try clear hfz25_3); (try clear hfz26_0); (try clear hfz26_1); (try clear hfz26_2); (try clear hfz26_3); (try clear hfz27_0); (try clear hfz27_1); (try clear hfz27_2); (try clear hfz27_3); (try clear hfz28_0); (try clear hfz28_1)
   (try clear hfz28_2); (try clear hfz28_3); (try clear hfz31_0); (try clear hfz31_1); (try clear hfz31_2); (try clear hfz31_3); (try clear hfz32_0); (try clear hfz32_1); (try clear hfz32_2); (try clear hfz32_3); (try clear hfz5_0); (try clear hfz5_1)
   (try clear hfz5_2); (try clear hfz5_3); (try clear hfz7_0); (try clear hfz7_1); (try clear hfz7_2); (try clear hfz7_3); (try clear p2)
   obtain ⟨x3_2, rfl, HA, HK2, BK224, HB⟩ := hrel
   cases gk with
   | zero => exact absurd HA.out (by simp [barbicanref05_Valid.l0])
   | succ k2 =>
    have H := HA.out
    clear HA
    simp only [barbicanref05_Valid.l0] at H
    by_cases c33 : x3_2 < (a0_2.size : Int)
    ·rw [if_pos c33] at H
     have c33b0 : decide (x3_2 < (a0_2.size : Int)) = true := decide_eq_true c33
     clear c33
     have c34 : 0 ≤ x3_2 := Classical.byContradiction fun c34 => by rw [if_neg c34] at H; exact absurd H (by simp)
     rw [if_pos c34] at H
     have c34b0 : decide (0 ≤ x3_2) = true := decide_eq_true c34
     clear c34
     by_cases c36 : (bt a0_2 x3_2) < 32
     ·rw [if_pos c36] at H
      have c36b0 : decide ((bt a0_2 x3_2) < 32) = true := decide_eq_true c36
      clear c36
      obtain rfl := Option.some.inj H
      have hcz37_0 : wr.cell? ⟨gb224, 0, none⟩ = some (.int .i64 a0_0) := (qkc BK224.out 0).trans rfl
      have hcz37_1 : wr.cell? ⟨gb224, 1, none⟩ = some (.int .i64 a0_1) := (qkc BK224.out 1).trans rfl
      have hcz37_2 : wr.cell? ⟨gb224, 2, none⟩ = some (.string a0_2) := (qkc BK224.out 2).trans rfl
      have hcz37_3 : wr.cell? ⟨gb224, 3, none⟩ = some (.bool a0_3) := (qkc BK224.out 3).trans rfl
      have hfz37_0 := qkf BK224.out 0
      have hfz37_1 := qkf BK224.out 1
      have hfz37_2 := qkf BK224.out 2
      have hfz37_3 := qkf BK224.out 3
      have p35 : 0 ≤ (x3_2 : Int) := ode_
      have q35 : x3_2 < (a0_2.size : Int) := ode_
      have hx35 := bt_at a0_2 x3_2
      replace p35 := eq_true p35
      replace q35 := eq_true q35
      go_wp2
      go_ret
      exact ⟨by first | rfl | (simp [errW_none, errW_some] <;> rfl) | (simp [*, errW_none, errW_some] <;> rfl), bw_ HB.out⟩
     rw [if_neg c36] at H
     have c36b0 : decide ((bt a0_2 x3_2) < 32) = false := decide_eq_false c36
     clear c36
     by_cases c39 : (bt a0_2 x3_2) > 126
     ·rw [if_pos c39] at H
      have c39b0 : decide (126 < (bt a0_2 x3_2)) = true := decide_eq_true c39
      clear c39
      obtain rfl := Option.some.inj H
      have hcz40_0 : wr.cell? ⟨gb224, 0, none⟩ = some (.int .i64 a0_0) := (qkc BK224.out 0).trans rfl
      have hcz40_1 : wr.cell? ⟨gb224, 1, none⟩ = some (.int .i64 a0_1) := (qkc BK224.out 1).trans rfl
      have hcz40_2 : wr.cell? ⟨gb224, 2, none⟩ = some (.string a0_2) := (qkc BK224.out 2).trans rfl
      have hcz40_3 : wr.cell? ⟨gb224, 3, none⟩ = some (.bool a0_3) := (qkc BK224.out 3).trans rfl
      have hfz40_0 := qkf BK224.out 0
      have hfz40_1 := qkf BK224.out 1
      have hfz40_2 := qkf BK224.out 2
      have hfz40_3 := qkf BK224.out 3
      have p35 : 0 ≤ (x3_2 : Int) := ode_
      have q35 : x3_2 < (a0_2.size : Int) := ode_
      have hx35 := bt_at a0_2 x3_2
      replace p35 := eq_true p35
      replace q35 := eq_true q35
      have p38 : 0 ≤ (x3_2 : Int) := ode_
      have q38 : x3_2 < (a0_2.size : Int) := ode_
      have hx38 := bt_at a0_2 x3_2
      replace p38 := eq_true p38
      replace q38 := eq_true q38
      go_wp2
      go_ret
      exact ⟨by first | rfl | (simp [errW_none, errW_some] <;> rfl) | (simp [*, errW_none, errW_some] <;> rfl), bw_ HB.out⟩
     rw [if_neg c39] at H
     have c39b0 : decide (126 < (bt a0_2 x3_2)) = false := decide_eq_false c39
     clear c39
     have H' := Aside0.mk H
     clear H
     have hcz41_0 : wr.cell? ⟨gb224, 0, none⟩ = some (.int .i64 a0_0) := (qkc BK224.out 0).trans rfl
     have hcz41_1 : wr.cell? ⟨gb224, 1, none⟩ = some (.int .i64 a0_1) := (qkc BK224.out 1).trans rfl
     have hcz41_2 : wr.cell? ⟨gb224, 2, none⟩ = some (.string a0_2) := (qkc BK224.out 2).trans rfl
     have hcz41_3 : wr.cell? ⟨gb224, 3, none⟩ = some (.bool a0_3) := (qkc BK224.out 3).trans rfl
     have hfz41_0 := qkf BK224.out 0
     have hfz41_1 := qkf BK224.out 1
     have hfz41_2 := qkf BK224.out 2
     have hfz41_3 := qkf BK224.out 3
     have p35 : 0 ≤ (x3_2 : Int) := ode_
     have q35 : x3_2 < (a0_2.size : Int) := ode_
     have hx35 := bt_at a0_2 x3_2
     replace p35 := eq_true p35
     replace q35 := eq_true q35
     have p38 : 0 ≤ (x3_2 : Int) := ode_
     have q38 : x3_2 < (a0_2.size : Int) := ode_
     have hx38 := bt_at a0_2 x3_2
     replace p38 := eq_true p38
     replace q38 := eq_true q38
     go_wp2
     go_roundg k2
     case measure => have := HJ1.out; have := HK2.out; omega
     case rel => exact ⟨(wrap64 (x3_2 + 1)), (by first | rfl | (simp; done) | (simp [*]; done) | (simp [bne]; done)), H', ⟨by have := HJ1.out; have := HK2.out; omega⟩, ⟨by (with_reducible repeat (first | refine qkN ?_ _ | refine qkd ?_ | refine qka ?_ _)); exact BK224.out⟩, ⟨bw_ HB.out⟩⟩
    rw [if_neg c33] at H
    have c33b0 : decide (x3_2 < (a0_2.size : Int)) = false := decide_eq_false c33
    clear c33
    obtain rfl := Option.some.inj H
    have hcz42_0 : wr.cell? ⟨gb224, 0, none⟩ = some (.int .i64 a0_0) := (qkc BK224.out 0).trans rfl
    have hcz42_1 : wr.cell? ⟨gb224, 1, none⟩ = some (.int .i64 a0_1) := (qkc BK224.out 1).trans rfl
    have hcz42_2 : wr.cell? ⟨gb224, 2, none⟩ = some (.string a0_2) := (qkc BK224.out 2).trans rfl
    have hcz42_3 : wr.cell? ⟨gb224, 3, none⟩ = some (.bool a0_3) := (qkc BK224.out 3).trans rfl
    have hfz42_0 := qkf BK224.out 0
    have hfz42_1 := qkf BK224.out 1
    have hfz42_2 := qkf BK224.out 2
    have hfz42_3 := qkf BK224.out 3
    go_wp2
    go_ret
    exact ⟨by first | rfl | (simp [errW_none, errW_some] <;> rfl) | (simp [*, errW_none, errW_some] <;> rfl), bw_ HB.out⟩

end Go.Proofs.YtddkbhglbkfelaaDoor.E
