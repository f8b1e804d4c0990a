import Derived.Test.YtddkbhglbkfelaaDoorPsEx0
import Derived.Test.YtddkbhglbkfelaaDoorPsEx5
namespace Go.Proofs.YtddkbhglbkfelaaDoor.E
open Go.RowKit Go.Proofs.YtddkbhglbkfelaaDoorW.PrintWords Go.Proofs.YtddkbhglbkfelaaDoorW.PrintLast Go.Proofs.YtddkbhglbkfelaaDoorW.PrintMore Go.Proofs.YtddkbhglbkfelaaDoorX
attribute [local go_sem] max2_int min2_int max_two min_two max_three min_three max_four min_four
set_option linter.unusedVariables false
set_option linter.unusedSimpArgs false

/-! ### barbicanref15_Name: function 17 -/
def barbicanref15_Name.l0 : Nat → ByteArray → Int → Option (Bool)
 | 0, _, _ => none
 | k + 1, x0, x3 => if x3 < (x0.size : Int) then (if 0 ≤ x3 then (if (bt x0 x3) ≥ 97 then (if (bt x0 x3) ≥ 48 then (if (bt x0 x3) ≤ 57 then (if ((bt x0 x3) ≤ 122) then (barbicanref15_Name.l0 k x0 (wrap64 (x3 + 1))) else (if x3 > 0 then (barbicanref15_Name.l0 k x0 (wrap64 (x3 + 1))) else (some false))) else (if ((bt x0 x3) ≤ 122) then (barbicanref15_Name.l0 k x0 (wrap64 (x3 + 1))) else (if (bt x0 x3) = 95 then (if x3 > 0 then (barbicanref15_Name.l0 k x0 (wrap64 (x3 + 1))) else (some false)) else (some false)))) else (if ((bt x0 x3) ≤ 122) then (barbicanref15_Name.l0 k x0 (wrap64 (x3 + 1))) else (if (bt x0 x3) = 95 then (if x3 > 0 then (barbicanref15_Name.l0 k x0 (wrap64 (x3 + 1))) else (some false)) else (some false)))) else (if (bt x0 x3) ≥ 48 then (if (bt x0 x3) ≤ 57 then (if x3 > 0 then (barbicanref15_Name.l0 k x0 (wrap64 (x3 + 1))) else (some false)) else (if (bt x0 x3) = 95 then (if x3 > 0 then (barbicanref15_Name.l0 k x0 (wrap64 (x3 + 1))) else (some false)) else (some false))) else (if (bt x0 x3) = 95 then (if x3 > 0 then (barbicanref15_Name.l0 k x0 (wrap64 (x3 + 1))) else (some false)) else (some false)))) else (none)) else (if (x0.size : Int) > 0 then (if (x0.size : Int) ≤ 32 then ((barbicanref15_Reserved.f k x0).bind fun t195 => (some (!t195))) else (some false)) else (some false))
def barbicanref15_Name.f (k : Nat) (a0 : ByteArray) : Option (Bool) := barbicanref15_Name.l0 k a0 0
set_option maxHeartbeats 8000000 in
set_option maxRecDepth 100000 in
theorem barbicanref15_Name.calls (k : Nat) (a0 : ByteArray) (r : Bool) (w : World) (h : barbicanref15_Name.f k a0 = some r) :
  Calls Tryd.prog 17 #[.string a0] w fun e w' => e = .returned (.bool r) ∧ Below w.heap.size w w' := by
 have HB := Aside0.mk (Below.refl w.heap.size w)
 have H : (barbicanref15_Name.l0 k a0 0) = some r := h
 clear h
 have H' := Aside0.mk H
 clear H
 go_enter Tryd.func17, Tryd.ntmps17
 go_wp2
 go_loopg [3] k (fun kq v3 w' => ∃ (x3_1 : Int), v3 = .int .i64 x3_1 ∧ Aside0 (barbicanref15_Name.l0 kq a0 x3_1 = some r) ∧ Aside0 (kq ≤ k) ∧ Aside0 (Below w.heap.size w w'))
 case atStart => exact ⟨(0), (by first | rfl | (simp; done) | (simp [*]; done) | (simp [bne]; done)), H', ⟨Nat.le_refl _⟩, ⟨bw_ HB.out⟩⟩
 case round =>
  clear H'
  (try clear c1)
  obtain ⟨x3_1, rfl, HA, HK1, HB⟩ := hrel
  cases gk with
  | zero => exact absurd HA.out (by simp [barbicanref15_Name.l0])
  | succ k1 =>
   have H := HA.out
   clear HA
   simp only [barbicanref15_Name.l0] at H
   by_cases c2 : x3_1 < (a0.size : Int)
   ·rw [if_pos c2] at H
    have c2b0 : decide (x3_1 < (a0.size : Int)) = true := decide_eq_true c2
    clear c2
    have c3 : 0 ≤ x3_1 := Classical.byContradiction fun c3 => by rw [if_neg c3] at H; exact absurd H (by simp)
    rw [if_pos c3] at H
    have c3b0 : decide (0 ≤ x3_1) = true := decide_eq_true c3
    clear c3
    by_cases c5 : (bt a0 x3_1) ≥ 97
    ·rw [if_pos c5] at H
     have c5b0 : decide (97 ≤ (bt a0 x3_1)) = true := decide_eq_true c5
     clear c5
     by_cases c8 : (bt a0 x3_1) ≥ 48
     ·rw [if_pos c8] at H
      have c8b0 : decide (48 ≤ (bt a0 x3_1)) = true := decide_eq_true c8
      clear c8
      by_cases c10 : (bt a0 x3_1) ≤ 57
      ·rw [if_pos c10] at H
       have c10b0 : decide ((bt a0 x3_1) ≤ 57) = true := decide_eq_true c10
       clear c10
       by_cases c11 : ((bt a0 x3_1) ≤ 122)
       ·rw [if_pos c11] at H
        have c11b0 : decide ((bt a0 x3_1) ≤ 122) = true := decide_eq_true c11
        clear c11
        have H' := Aside0.mk H
        clear H
        have p4 : 0 ≤ (x3_1 : Int) := ode_
        have q4 : x3_1 < (a0.size : Int) := ode_
        have hx4 := bt_at a0 x3_1
        replace p4 := eq_true p4
        replace q4 := eq_true q4
        have p6 : 0 ≤ (x3_1 : Int) := ode_
        have q6 : x3_1 < (a0.size : Int) := ode_
        have hx6 := bt_at a0 x3_1
        replace p6 := eq_true p6
        replace q6 := eq_true q6
        have p7 : 0 ≤ (x3_1 : Int) := ode_
        have q7 : x3_1 < (a0.size : Int) := ode_
        have hx7 := bt_at a0 x3_1
        replace p7 := eq_true p7
        replace q7 := eq_true q7
        have p9 : 0 ≤ (x3_1 : Int) := ode_
        have q9 : x3_1 < (a0.size : Int) := ode_
        have hx9 := bt_at a0 x3_1
        replace p9 := eq_true p9
        replace q9 := eq_true q9
        go_wp2
        go_roundg k1
        case measure => have := HK1.out; omega
        case rel => exact ⟨(wrap64 (x3_1 + 1)), (by first | rfl | (simp; done) | (simp [*]; done) | (simp [bne]; done)), H', ⟨by have := HK1.out; omega⟩, ⟨bw_ HB.out⟩⟩
       rw [if_neg c11] at H
       have c11b0 : decide ((bt a0 x3_1) ≤ 122) = false := decide_eq_false c11
       clear c11
       by_cases c12 : x3_1 > 0
       ·rw [if_pos c12] at H
        have c12b0 : decide (0 < x3_1) = true := decide_eq_true c12
        clear c12
        have H' := Aside0.mk H
        clear H
        have p4 : 0 ≤ (x3_1 : Int) := ode_
        have q4 : x3_1 < (a0.size : Int) := ode_
        have hx4 := bt_at a0 x3_1
        replace p4 := eq_true p4
        replace q4 := eq_true q4
        have p6 : 0 ≤ (x3_1 : Int) := ode_
        have q6 : x3_1 < (a0.size : Int) := ode_
        have hx6 := bt_at a0 x3_1
        replace p6 := eq_true p6
        replace q6 := eq_true q6
        have p7 : 0 ≤ (x3_1 : Int) := ode_
        have q7 : x3_1 < (a0.size : Int) := ode_
        have hx7 := bt_at a0 x3_1
        replace p7 := eq_true p7
        replace q7 := eq_true q7
        have p9 : 0 ≤ (x3_1 : Int) := ode_
        have q9 : x3_1 < (a0.size : Int) := ode_
        have hx9 := bt_at a0 x3_1
        replace p9 := eq_true p9
        replace q9 := eq_true q9
        go_wp2
        go_roundg k1
        case measure => have := HK1.out; omega
        case rel => exact ⟨(wrap64 (x3_1 + 1)), (by first | rfl | (simp; done) | (simp [*]; done) | (simp [bne]; done)), H', ⟨by have := HK1.out; omega⟩, ⟨bw_ HB.out⟩⟩
       rw [if_neg c12] at H
       have c12b0 : decide (0 < x3_1) = false := decide_eq_false c12
       clear c12
       obtain rfl := Option.some.inj H
       have p4 : 0 ≤ (x3_1 : Int) := ode_
       have q4 : x3_1 < (a0.size : Int) := ode_
       have hx4 := bt_at a0 x3_1
       replace p4 := eq_true p4
       replace q4 := eq_true q4
       have p6 : 0 ≤ (x3_1 : Int) := ode_
       have q6 : x3_1 < (a0.size : Int) := ode_
       have hx6 := bt_at a0 x3_1
       replace p6 := eq_true p6
       replace q6 := eq_true q6
       have p7 : 0 ≤ (x3_1 : Int) := ode_
       have q7 : x3_1 < (a0.size : Int) := ode_
       have hx7 := bt_at a0 x3_1
       replace p7 := eq_true p7
       replace q7 := eq_true q7
       have p9 : 0 ≤ (x3_1 : Int) := ode_
       have q9 : x3_1 < (a0.size : Int) := ode_
       have hx9 := bt_at a0 x3_1
       replace p9 := eq_true p9
       replace q9 := eq_true q9
       go_wp2
       go_ret
       exact ⟨by first | rfl | (simp [errW_none, errW_some] <;> rfl) | (simp [*, errW_none, errW_some] <;> rfl), bw_ HB.out⟩
      rw [if_neg c10] at H
      have c10b0 : decide ((bt a0 x3_1) ≤ 57) = false := decide_eq_false c10
      clear c10
      by_cases c14 : ((bt a0 x3_1) ≤ 122)
      ·rw [if_pos c14] at H
       have c14b0 : decide ((bt a0 x3_1) ≤ 122) = true := decide_eq_true c14
       clear c14
       have H' := Aside0.mk H
       clear H
       have p4 : 0 ≤ (x3_1 : Int) := ode_
       have q4 : x3_1 < (a0.size : Int) := ode_
       have hx4 := bt_at a0 x3_1
       replace p4 := eq_true p4
       replace q4 := eq_true q4
       have p6 : 0 ≤ (x3_1 : Int) := ode_
       have q6 : x3_1 < (a0.size : Int) := ode_
       have hx6 := bt_at a0 x3_1
       replace p6 := eq_true p6
       replace q6 := eq_true q6
       have p7 : 0 ≤ (x3_1 : Int) := ode_
       have q7 : x3_1 < (a0.size : Int) := ode_
       have hx7 := bt_at a0 x3_1
       replace p7 := eq_true p7
       replace q7 := eq_true q7
       have p9 : 0 ≤ (x3_1 : Int) := ode_
       have q9 : x3_1 < (a0.size : Int) := ode_
       have hx9 := bt_at a0 x3_1
       replace p9 := eq_true p9
       replace q9 := eq_true q9
       have p13 : 0 ≤ (x3_1 : Int) := ode_
       have q13 : x3_1 < (a0.size : Int) := ode_
       have hx13 := bt_at a0 x3_1
       replace p13 := eq_true p13
       replace q13 := eq_true q13
       go_wp2
       go_roundg k1
       case measure => have := HK1.out; omega
       case rel => exact ⟨(wrap64 (x3_1 + 1)), (by first | rfl | (simp; done) | (simp [*]; done) | (simp [bne]; done)), H', ⟨by have := HK1.out; omega⟩, ⟨bw_ HB.out⟩⟩
      rw [if_neg c14] at H
      have c14b0 : decide ((bt a0 x3_1) ≤ 122) = false := decide_eq_false c14
      clear c14
      by_cases c15 : (bt a0 x3_1) = 95
      ·rw [if_pos c15] at H
       have c15b0 : ((bt a0 x3_1) == 95) = true := beq_iff_eq.mpr c15
       have c15b1 : ((bt a0 x3_1) != 95) = false := bne_eq_false_iff_eq.mpr c15
       clear c15
       by_cases c16 : x3_1 > 0
       ·rw [if_pos c16] at H
        have c16b0 : decide (0 < x3_1) = true := decide_eq_true c16
        clear c16
        have H' := Aside0.mk H
        clear H
        have p4 : 0 ≤ (x3_1 : Int) := ode_
        have q4 : x3_1 < (a0.size : Int) := ode_
        have hx4 := bt_at a0 x3_1
        replace p4 := eq_true p4
        replace q4 := eq_true q4
        have p6 : 0 ≤ (x3_1 : Int) := ode_
        have q6 : x3_1 < (a0.size : Int) := ode_
        have hx6 := bt_at a0 x3_1
        replace p6 := eq_true p6
        replace q6 := eq_true q6
        have p7 : 0 ≤ (x3_1 : Int) := ode_
        have q7 : x3_1 < (a0.size : Int) := ode_
        have hx7 := bt_at a0 x3_1
        replace p7 := eq_true p7
        replace q7 := eq_true q7
        have p9 : 0 ≤ (x3_1 : Int) := ode_
        have q9 : x3_1 < (a0.size : Int) := ode_
        have hx9 := bt_at a0 x3_1
        replace p9 := eq_true p9
        replace q9 := eq_true q9
        have p13 : 0 ≤ (x3_1 : Int) := ode_
        have q13 : x3_1 < (a0.size : Int) := ode_
        have hx13 := bt_at a0 x3_1
        replace p13 := eq_true p13
        replace q13 := eq_true q13
        go_wp2
        go_roundg k1
        case measure => have := HK1.out; omega
        case rel => exact ⟨(wrap64 (x3_1 + 1)), (by first | rfl | (simp; done) | (simp [*]; done) | (simp [bne]; done)), H', ⟨by have := HK1.out; omega⟩, ⟨bw_ HB.out⟩⟩
       rw [if_neg c16] at H
       have c16b0 : decide (0 < x3_1) = false := decide_eq_false c16
       clear c16
       obtain rfl := Option.some.inj H
       have p4 : 0 ≤ (x3_1 : Int) := ode_
       have q4 : x3_1 < (a0.size : Int) := ode_
       have hx4 := bt_at a0 x3_1
       replace p4 := eq_true p4
       replace q4 := eq_true q4
       have p6 : 0 ≤ (x3_1 : Int) := ode_
       have q6 : x3_1 < (a0.size : Int) := ode_
       have hx6 := bt_at a0 x3_1
       replace p6 := eq_true p6
       replace q6 := eq_true q6
       have p7 : 0 ≤ (x3_1 : Int) := ode_
       have q7 : x3_1 < (a0.size : Int) := ode_
       have hx7 := bt_at a0 x3_1
       replace p7 := eq_true p7
       replace q7 := eq_true q7
       have p9 : 0 ≤ (x3_1 : Int) := ode_
       have q9 : x3_1 < (a0.size : Int) := ode_
       have hx9 := bt_at a0 x3_1
       replace p9 := eq_true p9
       replace q9 := eq_true q9
       have p13 : 0 ≤ (x3_1 : Int) := ode_
       have q13 : x3_1 < (a0.size : Int) := ode_
       have hx13 := bt_at a0 x3_1
       replace p13 := eq_true p13
       replace q13 := eq_true q13
       go_wp2
       go_ret
       exact ⟨by first | rfl | (simp [errW_none, errW_some] <;> rfl) | (simp [*, errW_none, errW_some] <;> rfl), bw_ HB.out⟩
      rw [if_neg c15] at H
      have c15b0 : ((bt a0 x3_1) == 95) = false := beq_eq_false_iff_ne.mpr c15
      have c15b1 : ((bt a0 x3_1) != 95) = true := bne_iff_ne.mpr c15
      obtain rfl := Option.some.inj H
      have p4 : 0 ≤ (x3_1 : Int) := ode_
      have q4 : x3_1 < (a0.size : Int) := ode_
      have hx4 := bt_at a0 x3_1
      replace p4 := eq_true p4
      replace q4 := eq_true q4
      have p6 : 0 ≤ (x3_1 : Int) := ode_
      have q6 : x3_1 < (a0.size : Int) := ode_
      have hx6 := bt_at a0 x3_1
      replace p6 := eq_true p6
      replace q6 := eq_true q6
      have p7 : 0 ≤ (x3_1 : Int) := ode_
      have q7 : x3_1 < (a0.size : Int) := ode_
      have hx7 := bt_at a0 x3_1
      replace p7 := eq_true p7
      replace q7 := eq_true q7
      have p9 : 0 ≤ (x3_1 : Int) := ode_
      have q9 : x3_1 < (a0.size : Int) := ode_
      have hx9 := bt_at a0 x3_1
      replace p9 := eq_true p9
      replace q9 := eq_true q9
      have p13 : 0 ≤ (x3_1 : Int) := ode_
      have q13 : x3_1 < (a0.size : Int) := ode_
      have hx13 := bt_at a0 x3_1
      replace p13 := eq_true p13
      replace q13 := eq_true q13
      go_wp2
      go_ret
      exact ⟨by first | rfl | (simp [errW_none, errW_some] <;> rfl) | (simp [*, errW_none, errW_some] <;> rfl), bw_ HB.out⟩
     rw [if_neg c8] at H
     have c8b0 : decide (48 ≤ (bt a0 x3_1)) = false := decide_eq_false c8
     clear c8
     by_cases c18 : ((bt a0 x3_1) ≤ 122)
     ·rw [if_pos c18] at H
      have c18b0 : decide ((bt a0 x3_1) ≤ 122) = true := decide_eq_true c18
      clear c18
      have H' := Aside0.mk H
      clear H
      have p4 : 0 ≤ (x3_1 : Int) := ode_
      have q4 : x3_1 < (a0.size : Int) := ode_
      have hx4 := bt_at a0 x3_1
      replace p4 := eq_true p4
      replace q4 := eq_true q4
      have p6 : 0 ≤ (x3_1 : Int) := ode_
      have q6 : x3_1 < (a0.size : Int) := ode_
      have hx6 := bt_at a0 x3_1
      replace p6 := eq_true p6
      replace q6 := eq_true q6
      have p7 : 0 ≤ (x3_1 : Int) := ode_
      have q7 : x3_1 < (a0.size : Int) := ode_
      have hx7 := bt_at a0 x3_1
      replace p7 := eq_true p7
      replace q7 := eq_true q7
      have p17 : 0 ≤ (x3_1 : Int) := ode_
      have q17 : x3_1 < (a0.size : Int) := ode_
      have hx17 := bt_at a0 x3_1
      replace p17 := eq_true p17
      replace q17 := eq_true q17
      go_wp2
      go_roundg k1
      case measure => have := HK1.out; omega
      case rel => exact ⟨(wrap64 (x3_1 + 1)), (by first | rfl | (simp; done) | (simp [*]; done) | (simp [bne]; done)), H', ⟨by have := HK1.out; omega⟩, ⟨bw_ HB.out⟩⟩
     rw [if_neg c18] at H
     have c18b0 : decide ((bt a0 x3_1) ≤ 122) = false := decide_eq_false c18
     clear c18
     by_cases c19 : (bt a0 x3_1) = 95
     ·rw [if_pos c19] at H
      have c19b0 : ((bt a0 x3_1) == 95) = true := beq_iff_eq.mpr c19
      have c19b1 : ((bt a0 x3_1) != 95) = false := bne_eq_false_iff_eq.mpr c19
      clear c19
      by_cases c20 : x3_1 > 0
      ·rw [if_pos c20] at H
       have c20b0 : decide (0 < x3_1) = true := decide_eq_true c20
       clear c20
       have H' := Aside0.mk H
       clear H
       have p4 : 0 ≤ (x3_1 : Int) := ode_
       have q4 : x3_1 < (a0.size : Int) := ode_
       have hx4 := bt_at a0 x3_1
       replace p4 := eq_true p4
       replace q4 := eq_true q4
       have p6 : 0 ≤ (x3_1 : Int) := ode_
       have q6 : x3_1 < (a0.size : Int) := ode_
       have hx6 := bt_at a0 x3_1
       replace p6 := eq_true p6
       replace q6 := eq_true q6
       have p7 : 0 ≤ (x3_1 : Int) := ode_
       have q7 : x3_1 < (a0.size : Int) := ode_
       have hx7 := bt_at a0 x3_1
       replace p7 := eq_true p7
       replace q7 := eq_true q7
       have p17 : 0 ≤ (x3_1 : Int) := ode_
       have q17 : x3_1 < (a0.size : Int) := ode_
       have hx17 := bt_at a0 x3_1
       replace p17 := eq_true p17
       replace q17 := eq_true q17
       go_wp2
       go_roundg k1
       case measure => have := HK1.out; omega
       case rel => exact ⟨(wrap64 (x3_1 + 1)), (by first | rfl | (simp; done) | (simp [*]; done) | (simp [bne]; done)), H', ⟨by have := HK1.out; omega⟩, ⟨bw_ HB.out⟩⟩
      rw [if_neg c20] at H
      have c20b0 : decide (0 < x3_1) = false := decide_eq_false c20
      clear c20
      obtain rfl := Option.some.inj H
      have p4 : 0 ≤ (x3_1 : Int) := ode_
      have q4 : x3_1 < (a0.size : Int) := ode_
      have hx4 := bt_at a0 x3_1
      replace p4 := eq_true p4
      replace q4 := eq_true q4
      have p6 : 0 ≤ (x3_1 : Int) := ode_
      have q6 : x3_1 < (a0.size : Int) := ode_
      have hx6 := bt_at a0 x3_1
      replace p6 := eq_true p6
      replace q6 := eq_true q6
      have p7 : 0 ≤ (x3_1 : Int) := ode_
      have q7 : x3_1 < (a0.size : Int) := ode_
      have hx7 := bt_at a0 x3_1
      replace p7 := eq_true p7
      replace q7 := eq_true q7
      have p17 : 0 ≤ (x3_1 : Int) := ode_
      have q17 : x3_1 < (a0.size : Int) := ode_
      have hx17 := bt_at a0 x3_1
      replace p17 := eq_true p17
      replace q17 := eq_true q17
      go_wp2
      go_ret
      exact ⟨by first | rfl | (simp [errW_none, errW_some] <;> rfl) | (simp [*, errW_none, errW_some] <;> rfl), bw_ HB.out⟩
     rw [if_neg c19] at H
     have c19b0 : ((bt a0 x3_1) == 95) = false := beq_eq_false_iff_ne.mpr c19
     have c19b1 : ((bt a0 x3_1) != 95) = true := bne_iff_ne.mpr c19
     obtain rfl := Option.some.inj H
     have p4 : 0 ≤ (x3_1 : Int) := ode_
     have q4 : x3_1 < (a0.size : Int) := ode_
     have hx4 := bt_at a0 x3_1
     replace p4 := eq_true p4
     replace q4 := eq_true q4
     have p6 : 0 ≤ (x3_1 : Int) := ode_
     have q6 : x3_1 < (a0.size : Int) := ode_
     have hx6 := bt_at a0 x3_1
     replace p6 := eq_true p6
     replace q6 := eq_true q6
     have p7 : 0 ≤ (x3_1 : Int) := ode_
     have q7 : x3_1 < (a0.size : Int) := ode_
     have hx7 := bt_at a0 x3_1
     replace p7 := eq_true p7
     replace q7 := eq_true q7
     have p17 : 0 ≤ (x3_1 : Int) := ode_
     have q17 : x3_1 < (a0.size : Int) := ode_
     have hx17 := bt_at a0 x3_1
     replace p17 := eq_true p17
     replace q17 := eq_true q17
     go_wp2
     go_ret
     exact ⟨by first | rfl | (simp [errW_none, errW_some] <;> rfl) | (simp [*, errW_none, errW_some] <;> rfl), bw_ HB.out⟩
    rw [if_neg c5] at H
    have c5b0 : decide (97 ≤ (bt a0 x3_1)) = false := decide_eq_false c5
    clear c5
    by_cases c22 : (bt a0 x3_1) ≥ 48
    ·rw [if_pos c22] at H
     have c22b0 : decide (48 ≤ (bt a0 x3_1)) = true := decide_eq_true c22
     clear c22
     by_cases c24 : (bt a0 x3_1) ≤ 57
     ·rw [if_pos c24] at H
      have c24b0 : decide ((bt a0 x3_1) ≤ 57) = true := decide_eq_true c24
      clear c24
      by_cases c25 : x3_1 > 0
      ·rw [if_pos c25] at H
       have c25b0 : decide (0 < x3_1) = true := decide_eq_true c25
       clear c25
       have H' := Aside0.mk H
       clear H
       have p4 : 0 ≤ (x3_1 : Int) := ode_
       have q4 : x3_1 < (a0.size : Int) := ode_
       have hx4 := bt_at a0 x3_1
       replace p4 := eq_true p4
       replace q4 := eq_true q4
       have p21 : 0 ≤ (x3_1 : Int) := ode_
       have q21 : x3_1 < (a0.size : Int) := ode_
       have hx21 := bt_at a0 x3_1
       replace p21 := eq_true p21
       replace q21 := eq_true q21
       have p23 : 0 ≤ (x3_1 : Int) := ode_
       have q23 : x3_1 < (a0.size : Int) := ode_
       have hx23 := bt_at a0 x3_1
       replace p23 := eq_true p23
       replace q23 := eq_true q23
       go_wp2
       go_roundg k1
       case measure => have := HK1.out; omega
       case rel => exact ⟨(wrap64 (x3_1 + 1)), (by first | rfl | (simp; done) | (simp [*]; done) | (simp [bne]; done)), H', ⟨by have := HK1.out; omega⟩, ⟨bw_ HB.out⟩⟩
      rw [if_neg c25] at H
      have c25b0 : decide (0 < x3_1) = false := decide_eq_false c25
      clear c25
      obtain rfl := Option.some.inj H
      have p4 : 0 ≤ (x3_1 : Int) := ode_
      have q4 : x3_1 < (a0.size : Int) := ode_
      have hx4 := bt_at a0 x3_1
      replace p4 := eq_true p4
      replace q4 := eq_true q4
      have p21 : 0 ≤ (x3_1 : Int) := ode_
      have q21 : x3_1 < (a0.size : Int) := ode_
      have hx21 := bt_at a0 x3_1
      replace p21 := eq_true p21
      replace q21 := eq_true q21
      have p23 : 0 ≤ (x3_1 : Int) := ode_
      have q23 : x3_1 < (a0.size : Int) := ode_
      have hx23 := bt_at a0 x3_1
      replace p23 := eq_true p23
      replace q23 := eq_true q23
      go_wp2
      go_ret
      exact ⟨by first | rfl | (simp [errW_none, errW_some] <;> rfl) | (simp [*, errW_none, errW_some] <;> rfl), bw_ HB.out⟩
     rw [if_neg c24] at H
     have c24b0 : decide ((bt a0 x3_1) ≤ 57) = false := decide_eq_false c24
     clear c24
     by_cases c27 : (bt a0 x3_1) = 95
     ·rw [if_pos c27] at H
      have c27b0 : ((bt a0 x3_1) == 95) = true := beq_iff_eq.mpr c27
      have c27b1 : ((bt a0 x3_1) != 95) = false := bne_eq_false_iff_eq.mpr c27
      clear c27
      by_cases c28 : x3_1 > 0
      ·rw [if_pos c28] at H
       have c28b0 : decide (0 < x3_1) = true := decide_eq_true c28
       clear c28
       have H' := Aside0.mk H
       clear H
       have p4 : 0 ≤ (x3_1 : Int) := ode_
       have q4 : x3_1 < (a0.size : Int) := ode_
       have hx4 := bt_at a0 x3_1
       replace p4 := eq_true p4
       replace q4 := eq_true q4
       have p21 : 0 ≤ (x3_1 : Int) := ode_
       have q21 : x3_1 < (a0.size : Int) := ode_
       have hx21 := bt_at a0 x3_1
       replace p21 := eq_true p21
       replace q21 := eq_true q21
       have p23 : 0 ≤ (x3_1 : Int) := ode_
       have q23 : x3_1 < (a0.size : Int) := ode_
       have hx23 := bt_at a0 x3_1
       replace p23 := eq_true p23
       replace q23 := eq_true q23
       have p26 : 0 ≤ (x3_1 : Int) := ode_
       have q26 : x3_1 < (a0.size : Int) := ode_
       have hx26 := bt_at a0 x3_1
       replace p26 := eq_true p26
       replace q26 := eq_true q26
       go_wp2
       go_roundg k1
       case measure => have := HK1.out; omega
       case rel => exact ⟨(wrap64 (x3_1 + 1)), (by first | rfl | (simp; done) | (simp [*]; done) | (simp [bne]; done)), H', ⟨by have := HK1.out; omega⟩, ⟨bw_ HB.out⟩⟩
      rw [if_neg c28] at H
      have c28b0 : decide (0 < x3_1) = false := decide_eq_false c28
      clear c28
      obtain rfl := Option.some.inj H
      have p4 : 0 ≤ (x3_1 : Int) := ode_
      have q4 : x3_1 < (a0.size : Int) := ode_
      have hx4 := bt_at a0 x3_1
      replace p4 := eq_true p4
      replace q4 := eq_true q4
      have p21 : 0 ≤ (x3_1 : Int) := ode_
      have q21 : x3_1 < (a0.size : Int) := ode_
      have hx21 := bt_at a0 x3_1
      replace p21 := eq_true p21
      replace q21 := eq_true q21
      have p23 : 0 ≤ (x3_1 : Int) := ode_
      have q23 : x3_1 < (a0.size : Int) := ode_
      have hx23 := bt_at a0 x3_1
      replace p23 := eq_true p23
      replace q23 := eq_true q23
      have p26 : 0 ≤ (x3_1 : Int) := ode_
      have q26 : x3_1 < (a0.size : Int) := ode_
      have hx26 := bt_at a0 x3_1
      replace p26 := eq_true p26
      replace q26 := eq_true q26
      go_wp2
      go_ret
      exact ⟨by first | rfl | (simp [errW_none, errW_some] <;> rfl) | (simp [*, errW_none, errW_some] <;> rfl), bw_ HB.out⟩
     rw [if_neg c27] at H
     have c27b0 : ((bt a0 x3_1) == 95) = false := beq_eq_false_iff_ne.mpr c27
     have c27b1 : ((bt a0 x3_1) != 95) = true := bne_iff_ne.mpr c27
     obtain rfl := Option.some.inj H
     have p4 : 0 ≤ (x3_1 : Int) := ode_
     have q4 : x3_1 < (a0.size : Int) := ode_
     have hx4 := bt_at a0 x3_1
     replace p4 := eq_true p4
     replace q4 := eq_true q4
     have p21 : 0 ≤ (x3_1 : Int) := ode_
     have q21 : x3_1 < (a0.size : Int) := ode_
     have hx21 := bt_at a0 x3_1
     replace p21 := eq_true p21
     replace q21 := eq_true q21
     have p23 : 0 ≤ (x3_1 : Int) := ode_
     have q23 : x3_1 < (a0.size : Int) := ode_
     have hx23 := bt_at a0 x3_1
     replace p23 := eq_true p23
     replace q23 := eq_true q23
     have p26 : 0 ≤ (x3_1 : Int) := ode_
     have q26 : x3_1 < (a0.size : Int) := ode_
     have hx26 := bt_at a0 x3_1
     replace p26 := eq_true p26
     replace q26 := eq_true q26
     go_wp2
     go_ret
     exact ⟨by first | rfl | (simp [errW_none, errW_some] <;> rfl) | (simp [*, errW_none, errW_some] <;> rfl), bw_ HB.out⟩
    rw [if_neg c22] at H
    have c22b0 : decide (48 ≤ (bt a0 x3_1)) = false := decide_eq_false c22
    clear c22
    by_cases c30 : (bt a0 x3_1) = 95
    ·rw [if_pos c30] at H
     have c30b0 : ((bt a0 x3_1) == 95) = true := beq_iff_eq.mpr c30
     have c30b1 : ((bt a0 x3_1) != 95) = false := bne_eq_false_iff_eq.mpr c30
     clear c30
     by_cases c31 : x3_1 > 0
     ·rw [if_pos c31] at H
      have c31b0 : decide (0 < x3_1) = true := decide_eq_true c31
      clear c31
      have H' := Aside0.mk H
      clear H
      have p4 : 0 ≤ (x3_1 : Int) := ode_
      have q4 : x3_1 < (a0.size : Int) := ode_
      have hx4 := bt_at a0 x3_1
      replace p4 := eq_true p4
      replace q4 := eq_true q4
      have p21 : 0 ≤ (x3_1 : Int) := ode_
      have q21 : x3_1 < (a0.size : Int) := ode_
      have hx21 := bt_at a0 x3_1
      replace p21 := eq_true p21
      replace q21 := eq_true q21
      have p29 : 0 ≤ (x3_1 : Int) := ode_
      have q29 : x3_1 < (a0.size : Int) := ode_
      have hx29 := bt_at a0 x3_1
      replace p29 := eq_true p29
      replace q29 := eq_true q29
      go_wp2
      go_roundg k1
      case measure => have := HK1.out; omega
      case rel => exact ⟨(wrap64 (x3_1 + 1)), (by first | rfl | (simp; done) | (simp [*]; done) | (simp [bne]; done)), H', ⟨by have := HK1.out; omega⟩, ⟨bw_ HB.out⟩⟩
     rw [if_neg c31] at H
     have c31b0 : decide (0 < x3_1) = false := decide_eq_false c31
     clear c31
     obtain rfl := Option.some.inj H
     have p4 : 0 ≤ (x3_1 : Int) := ode_
     have q4 : x3_1 < (a0.size : Int) := ode_
     have hx4 := bt_at a0 x3_1
     replace p4 := eq_true p4
     replace q4 := eq_true q4
     have p21 : 0 ≤ (x3_1 : Int) := ode_
     have q21 : x3_1 < (a0.size : Int) := ode_
     have hx21 := bt_at a0 x3_1
     replace p21 := eq_true p21
     replace q21 := eq_true q21
     have p29 : 0 ≤ (x3_1 : Int) := ode_
     have q29 : x3_1 < (a0.size : Int) := ode_
     have hx29 := bt_at a0 x3_1
     replace p29 := eq_true p29
     replace q29 := eq_true q29
     go_wp2
     go_ret
     exact ⟨by first | rfl | (simp [errW_none, errW_some] <;> rfl) | (simp [*, errW_none, errW_some] <;> rfl), bw_ HB.out⟩
    rw [if_neg c30] at H
    have c30b0 : ((bt a0 x3_1) == 95) = false := beq_eq_false_iff_ne.mpr c30
    have c30b1 : ((bt a0 x3_1) != 95) = true := bne_iff_ne.mpr c30
    obtain rfl := Option.some.inj H
    have p4 : 0 ≤ (x3_1 : Int) := ode_
    have q4 : x3_1 < (a0.size : Int) := ode_
    have hx4 := bt_at a0 x3_1
    replace p4 := eq_true p4
    replace q4 := eq_true q4
    have p21 : 0 ≤ (x3_1 : Int) := ode_
    have q21 : x3_1 < (a0.size : Int) := ode_
    have hx21 := bt_at a0 x3_1
    replace p21 := eq_true p21
    replace q21 := eq_true q21
    have p29 : 0 ≤ (x3_1 : Int) := ode_
    have q29 : x3_1 < (a0.size : Int) := ode_
    have hx29 := bt_at a0 x3_1
    replace p29 := eq_true p29
    replace q29 := eq_true q29
    go_wp2
    go_ret
    exact ⟨by first | rfl | (simp [errW_none, errW_some] <;> rfl) | (simp [*, errW_none, errW_some] <;> rfl), bw_ HB.out⟩
   rw [if_neg c2] at H
   have c2b0 : decide (x3_1 < (a0.size : Int)) = false := decide_eq_false c2
   clear c2
   by_cases c32 : (a0.size : Int) > 0
   ·rw [if_pos c32] at H
    have c32b0 : decide (0 < (a0.size : Int)) = true := decide_eq_true c32
    have c32b1 : decide (0 < a0.size) = true := decide_eq_true (by omega)
    clear c32
    by_cases c33 : (a0.size : Int) ≤ 32
    ·rw [if_pos c33] at H
     have c33b0 : decide ((a0.size : Int) ≤ 32) = true := decide_eq_true c33
     have c33b1 : decide (a0.size ≤ 32) = true := decide_eq_true (by omega)
     clear c33
     replace H := Option.bind_eq_some_iff.mp H
     obtain ⟨t195, A340, H⟩ := H
     (try dsimp only at H)
     have A34 := Aside0.mk A340
     clear A340
     obtain rfl := Option.some.inj H
     go_wp2_with (first | (go_at_call 32; (with_reducible refine (barbicanref15_Reserved.calls k1 a0 t195 _ A34.out).mono ?_); rintro e w35 ⟨rfl, hb⟩; have n0_ := Aside0.mk (below_step (bw_ HB.out) hb); clear HB; have HB := n0_; clear n0_; (try clear hb); (try clear hb2); (try clear hk); (try clear hi)))
     go_ret
     exact ⟨by first | rfl | (simp [errW_none, errW_some] <;> rfl) | (simp [*, errW_none, errW_some] <;> rfl), bw_ HB.out⟩
    rw [if_neg c33] at H
    have c33b0 : decide ((a0.size : Int) ≤ 32) = false := decide_eq_false c33
    have c33b1 : decide (a0.size ≤ 32) = false := decide_eq_false (by omega)
    clear c33
    obtain rfl := Option.some.inj H
    go_wp2
    go_ret
    exact ⟨by first | rfl | (simp [errW_none, errW_some] <;> rfl) | (simp [*, errW_none, errW_some] <;> rfl), bw_ HB.out⟩
   rw [if_neg c32] at H
   have c32b0 : decide (0 < (a0.size : Int)) = false := decide_eq_false c32
   have c32b1 : decide (0 < a0.size) = false := decide_eq_false (by omega)
   clear c32
   obtain rfl := Option.some.inj H
   go_wp2
   go_ret
   exact ⟨by first | rfl | (simp [errW_none, errW_some] <;> rfl) | (simp [*, errW_none, errW_some] <;> rfl), bw_ HB.out⟩

/-! ### barbicanref03_Uints: function 33 -/
def barbicanref03_Uints.f : Nat → Int → Option (List Int)
 | 0, _ => none
 | k + 1, a0 => if a0 < 128 then (some (([(a0) % 256] : List Int))) else ((some (([((Int.tmod a0 128) + 128) % 256] : List Int) : List Int)).bind fun y199 => ((barbicanref03_Uints.f k (IntKind.u64.wrap (Int.tdiv a0 128))).bind fun t202 => (if y199.length + t202.length < 140737488355328 then (some (y199 ++ t202)) else (none))))
set_option maxHeartbeats 8000000 in
set_option maxRecDepth 100000 in
theorem barbicanref03_Uints.calls (k : Nat) : ∀ (a0 : Int) (r : List Int) (w : World) (h : barbicanref03_Uints.f k a0 = some r),
  Calls Tryd.prog 33 #[.int .u64 a0] w fun e w' => ∃ v0_ : Value, e = .returned (v0_) ∧ Kd.R (Kd.int .u8) 5 w' w.heap.size (fun _ => True) v0_ r ∧ Below w.heap.size w w' := by
 induction k using Nat.strongRecOn with
 | _ k ih =>
 intro a0 r w h
 cases k with
 | zero => exact absurd h (by simp [barbicanref03_Uints.f])
 | succ k =>
 simp only [barbicanref03_Uints.f] at h
 have HB := Aside0.mk (Below.refl w.heap.size w)
 have H : (if a0 < 128 then (some (([(a0) % 256] : List Int))) else ((some (([((Int.tmod a0 128) + 128) % 256] : List Int) : List Int)).bind fun y199 => ((barbicanref03_Uints.f k (IntKind.u64.wrap (Int.tdiv a0 128))).bind fun t202 => (if y199.length + t202.length < 140737488355328 then (some (y199 ++ t202)) else (none))))) = some r := h
 clear h
 by_cases c2 : a0 < 128
 ·rw [if_pos c2] at H
  have c2b0 : decide (a0 < 128) = true := decide_eq_true c2
  clear c2
  obtain ⟨y196, hy196⟩ : ∃ y_ : List Int, y_ = (([(a0) % 256] : List Int)) := ⟨_, rfl⟩
  replace H : (some y196) = some r := by first | (rw [hy196]; with_reducible exact H) | (have H2_ := (Option.bind_some _ _).symm.trans H; rw [hy196]; with_reducible exact H2_) | (have H2_ := (Option.bind_some _ _).symm.trans H; with_reducible exact H2_) | with_reducible exact H | (rw [hy196]; exact H) | exact H
  have Ny196 := Aside0.mk hy196
  clear hy196
  obtain rfl := Option.some.inj H
  go_enter Tryd.func33, Tryd.ntmps33
  go_wp2_with (first | ((with_reducible refine qgd (N := 7) rfl ?_); refine Kd.R_lit (Kd.int .u8) _ 5 ?hg (N := 7) ?hd (xs := ([(a0) % 256] : List Int)) (inner := [.int .u8 ((a0) % 256)]) (ok := fun _ => True) (okp := fun _ => True) ?hr ?hp (fun _ hk => hk) trivial (Below.refl _ _) (Nat.le_refl _) (by simp) ?_; (case hd => rfl); (case hg => rfl); (case hr => first | (go_simp; done) | (go_simp; rfl)); (case hp => exact (Reps.one (show Kd.M (Kd.int .u8) _ _ _ ((a0) % 256) [.int .u8 ((a0) % 256)] from rfl) (Reps.none _ _))); intro v197 w3 ho4 hb hg_ hnew_; clear hg_ hnew_; (first | rw [← Ny196.out] at ho4 | (simp only [Int.reduceToNat] at ho4; rw [← Ny196.out] at ho4)); have n0_ := Aside0.mk (Kd.R_lower ho4 (qbz (bw_ HB.out))); have n1_ := Aside0.mk (below_step (bw_ HB.out) hb); clear HB; have HO198 := n0_; have HB := n1_; clear n0_ n1_; clear hb ho4))
  go_ret
  exact ⟨_, by first | rfl | (simp [errW_none, errW_some] <;> rfl) | (simp [*, errW_none, errW_some] <;> rfl), by (with_reducible repeat (first | apply Kd.R_alloc | apply Kd.R_drewN | apply Kd.R_drew)); exact HO198.out, bw_ HB.out⟩
 rw [if_neg c2] at H
 have c2b0 : decide (a0 < 128) = false := decide_eq_false c2
 clear c2
 obtain ⟨y199, hy199⟩ : ∃ y_ : List Int, y_ = (([((Int.tmod a0 128) + 128) % 256] : List Int)) := ⟨_, rfl⟩
 replace H : ((barbicanref03_Uints.f k (IntKind.u64.wrap (Int.tdiv a0 128))).bind fun t202 => (if y199.length + t202.length < 140737488355328 then (some (y199 ++ t202)) else (none))) = some r := by first | (rw [hy199]; with_reducible exact H) | (have H2_ := (Option.bind_some _ _).symm.trans H; rw [hy199]; with_reducible exact H2_) | (have H2_ := (Option.bind_some _ _).symm.trans H; with_reducible exact H2_) | with_reducible exact H | (rw [hy199]; exact H) | exact H
 have Ny199 := Aside0.mk hy199
 clear hy199
 replace H := Option.bind_eq_some_iff.mp H
 obtain ⟨t202, A50, H⟩ := H
 (try dsimp only at H)
 have A5 := Aside0.mk A50
 clear A50
 have c6 : y199.length + t202.length < 140737488355328 := Classical.byContradiction fun c6 => by rw [if_neg c6] at H; exact absurd H (by simp)
 rw [if_pos c6] at H
 have LMc6 := Aside0.mk c6
 clear c6
 obtain ⟨y205, hy205⟩ : ∃ y_ : List Int, y_ = (y199 ++ t202) := ⟨_, rfl⟩
 replace H : (some y205) = some r := by first | (rw [hy205]; with_reducible exact H) | (have H2_ := (Option.bind_some _ _).symm.trans H; rw [hy205]; with_reducible exact H2_) | (have H2_ := (Option.bind_some _ _).symm.trans H; with_reducible exact H2_) | with_reducible exact H | (rw [hy205]; exact H) | exact H
 have Ny205 := Aside0.mk hy205
 clear hy205
 obtain rfl := Option.some.inj H
 go_enter Tryd.func33, Tryd.ntmps33
 go_wp2_with (first | ((with_reducible refine qgd (N := 12) rfl ?_); refine Kd.R_lit (Kd.int .u8) _ 5 ?hg (N := 12) ?hd (xs := ([((Int.tmod a0 128) + 128) % 256] : List Int)) (inner := [.int .u8 (((Int.tmod a0 128) + 128) % 256)]) (ok := fun _ => True) (okp := fun _ => True) ?hr ?hp (fun _ hk => hk) trivial (Below.refl _ _) (Nat.le_refl _) (by simp) ?_; (case hd => rfl); (case hg => rfl); (case hr => first | (go_simp; done) | (go_simp; rfl)); (case hp => exact (Reps.one (show Kd.M (Kd.int .u8) _ _ _ (((Int.tmod a0 128) + 128) % 256) [.int .u8 (((Int.tmod a0 128) + 128) % 256)] from rfl) (Reps.none _ _))); intro v200 w7 ho8 hb hg_ hnew_; clear hg_ hnew_; (first | rw [← Ny199.out] at ho8 | (simp only [Int.reduceToNat] at ho8; rw [← Ny199.out] at ho8)); have n0_ := Aside0.mk (Kd.R_lower ho8 (qbz (bw_ HB.out))); have n1_ := Aside0.mk (below_step (bw_ HB.out) hb); clear HB; have HO201 := n0_; have HB := n1_; clear n0_ n1_; clear hb ho8) | ((with_reducible refine qgc (f := 33) rfl ?_); refine goesL_ (some 15) rfl rfl Tryd.func33 (by kernel_rfl) rfl #[.int .u64 (IntKind.u64.wrap (Int.tdiv a0 128))] rfl (by (try simp only [List.map_toArray, List.map_cons, List.map_nil]); first | done | rfl | (simp only [List.length_drop, List.length_take]; rfl)) ?_; (with_reducible refine (ih k (by omega) (IntKind.u64.wrap (Int.tdiv a0 128)) t202 _ A5.out).mono ?_); rintro e w9 ⟨v203, rfl, ho0, hb⟩; refine ⟨_, rfl, ?_⟩; have n0_ := Aside0.mk (Kd.R_elder' (kR_ HO201.out) (Kd.R_base ho0) hb); have n1_ := Aside0.mk (Kd.R_lower (Kd.R_new' ho0 (Kd.R_lt (kR_ HO201.out))) (qbz (bw_ HB.out))); have n2_ := Aside0.mk (below_step (bw_ HB.out) hb); clear HO201; clear HB; have HO201 := n0_; have HO204 := n1_; have HB := n2_; clear n0_ n1_ n2_; (try clear hb); (try clear hb2); (try clear hk); (try clear hi); (try clear ho0); obtain ⟨Ao11, co11, eo11⟩ := Kd.R_slice HO204.out; subst eo11) | ((with_reducible refine gate_builtin (b := .append) (xs := #[.tmp 12, .tmp 15]) rfl ?_); at_builtin; refine Kd.R_append_rows (Kd.int .u8) (w0 := w) w.heap.size rfl (.tmp 12) (.tmp 15) 25 5 (.int .u8 0) 1 rfl Tryd.underlying25 info5 rfl (by decide) (by omega) v200 y199 t202 _ _ _ (fun k_ => some k_ ≠ (.slice Ao11 t202.length co11 : Value).ownBlock) (fun _ => False) rfl rfl ?aO ?aR (fun _ _ h => h) (fun _ h => h.elim) ?aF ?aB ?aS ?aL ?_; (case aR => repeat (first | exact (Kd.R_reads' HO204.out).2.2 | (with_reducible refine Kd.C_alloc ?_ _) | (with_reducible refine Kd.C_drewN ?_ _) | (with_reducible refine Kd.C_drew ?_))); (case aB => exact (bw_ HB.out)); (case aF => exact (fun k_ hk => Kd.fresh' (Kd.R_lt (kR_ HO204.out)) k_ hk)); (case aO => exact (by (with_reducible repeat (first | apply Kd.R_alloc | apply Kd.R_drewN | apply Kd.R_drew)); exact Kd.R_mono HO201.out (fun _ hk => hk.2))); (case aS => exact (qbz (bw_ HB.out))); (case aL => have := LMc6.out; omega); intro v206 w10 ho hb hg hat; rw [← Ny205.out] at ho; have n0_ := Aside0.mk (Kd.R_after (ok := (fun _ => True)) (kR_ HO204.out) hg hat); have n1_ := Aside0.mk (hb); have n2_ := Aside0.mk (ho); clear HO204; clear HB; clear HO201; have HO204 := n0_; have HB := n1_; have HO207 := n2_; clear n0_ n1_ n2_; clear ho hb hg hat))
 go_ret
 exact ⟨_, by first | rfl | (simp [errW_none, errW_some] <;> rfl) | (simp [*, errW_none, errW_some] <;> rfl), by (with_reducible repeat (first | apply Kd.R_alloc | apply Kd.R_drewN | apply Kd.R_drew)); exact Kd.R_mono HO207.out (fun _ hk => trivial), bw_ HB.out⟩

end Go.Proofs.YtddkbhglbkfelaaDoor.E
