import Derived.Test.YtddkbhglbkfelaaDoorPsEx0
namespace Go.Proofs.YtddkbhglbkfelaaDoor.E
open Go.RowKit Go.Proofs.YtddkbhglbkfelaaDoorW.PrintWords Go.Proofs.YtddkbhglbkfelaaDoorW.PrintLast Go.Proofs.YtddkbhglbkfelaaDoorW.PrintMore Go.Proofs.YtddkbhglbkfelaaDoorX
attribute [local go_sem] max2_int min2_int max_two min_two max_three min_three max_four min_four
set_option linter.unusedVariables false
set_option linter.unusedSimpArgs false

/-! ### barbicanref03_Uint: function 40 -/
mutual
def barbicanref03_Uint.j1 : Nat → List Int → Int → Option (Int × Int × Int)
 | 0, _, _ => none
 | k + 1, x0, x5 => if x5 = 10 then (some (0, 0, 3)) else (if x5 = (x0.length : Int) then (some (0, 0, 12)) else (if x5 = 9 then (if 0 ≤ x5 then (if x5 < (x0.length : Int) then (if (rd x0 x5) > 1 then (some (0, 0, 3)) else (if x5 > 0 then (if (rd x0 x5) = 0 then (some (0, 0, 3)) else (barbicanref03_Uint.j2 k x0 x5)) else (barbicanref03_Uint.j2 k x0 x5))) else (none)) else (none)) else (if x5 > 0 then (if 0 ≤ x5 then (if x5 < (x0.length : Int) then (if (rd x0 x5) = 0 then (some (0, 0, 3)) else (barbicanref03_Uint.j2 k x0 x5)) else (none)) else (none)) else (barbicanref03_Uint.j2 k x0 x5))))
def barbicanref03_Uint.j2 : Nat → List Int → Int → Option (Int × Int × Int)
 | 0, _, _ => none
 | k + 1, x0, x5 => barbicanref03_Uint.l1 k x0 x5 0 x5
def barbicanref03_Uint.l1 : Nat → List Int → Int → Int → Int → Option (Int × Int × Int)
 | 0, _, _, _, _ => none
 | k + 1, x0, x5, x6, x7 => if x7 ≥ 0 then (if 0 ≤ x7 then (if x7 < (x0.length : Int) then (barbicanref03_Uint.l1 k x0 x5 (IntKind.u64.wrap ((IntKind.u64.wrap (x6 * 128)) + (IntKind.u64.wrap (Int.tmod (rd x0 x7) 128)))) (wrap64 (x7 - 1))) else (none)) else (none)) else (some (x6, wrap64 (x5 + 1), 0))
def barbicanref03_Uint.l0 : Nat → List Int → Int → Option (Int × Int × Int)
 | 0, _, _ => none
 | k + 1, x0, x5 => if x5 < (x0.length : Int) then (if x5 < 10 then (if 0 ≤ x5 then (if (rd x0 x5) ≥ 128 then (barbicanref03_Uint.l0 k x0 (wrap64 (x5 + 1))) else (barbicanref03_Uint.j1 k x0 x5)) else (none)) else (barbicanref03_Uint.j1 k x0 x5)) else (barbicanref03_Uint.j1 k x0 x5)
end
def barbicanref03_Uint.f (k : Nat) (l0 : List Int) : Option (Int × Int × Int) := barbicanref03_Uint.l0 k l0 0
set_option maxHeartbeats 8000000 in
set_option maxRecDepth 100000 in
theorem barbicanref03_Uint.calls (k : Nat) (A0 : Option Addr) (c0 : Nat) (l0 : List Int) (r1 : Int) (r2 : Int) (r3 : Int) (w : World) (hr0 : Kd.C (Kd.int .u8) w A0 l0.length l0) (hc0 : l0.length ≤ c0) (h : barbicanref03_Uint.f k l0 = some (r1, r2, r3)) :
  Calls Tryd.prog 40 #[.slice A0 l0.length c0] w fun e w' => e = .returned (.tuple #[.int .u64 r1, .int .i64 r2, .int .i64 r3]) ∧ Drawn0 w w' := by
 have HR0 := Aside0.mk hr0
 have HC0 := Aside0.mk hc0
 clear hr0 hc0
 have H : (barbicanref03_Uint.l0 k l0 0) = some (r1, r2, r3) := h
 clear h
 have HC2 := Aside0.mk H
 clear H
 go_enter Tryd.func40, Tryd.ntmps40
 go_upto_block 0 with (fail)
 go_cut [5] (fun v5 wc => ∃ (kq : Nat) (x5_1 : Int), v5 = .int .i64 x5_1 ∧ Aside0 (barbicanref03_Uint.j1 kq l0 x5_1 = some (r1, r2, r3)) ∧ Aside0 (kq ≤ k) ∧ Drawn0 w wc)
 case first =>
  have H := HC2.out
  clear HC2
  have H' := Aside0.mk H
  clear H
  go_wp2
  go_loopg [5] k (fun kq v5 w' => ∃ (x5_1 : Int), v5 = .int .i64 x5_1 ∧ Aside0 (barbicanref03_Uint.l0 kq l0 x5_1 = some (r1, r2, r3)) ∧ Aside0 (kq ≤ k) ∧ Drawn0 w w')
  case atStart => exact ⟨(0), (by first | rfl | (simp; done) | (simp [*]; done) | (simp [bne]; done)), H', ⟨Nat.le_refl _⟩, by repeat (first | exact Drawn0.refl _ | apply Drawn0.step)⟩
  case round =>
   clear H'
   (try clear p2)
   obtain ⟨x5_1, rfl, HA, HK1, ⟨m1, rfl⟩⟩ := hrel
   cases gk with
   | zero => exact absurd HA.out (by simp [barbicanref03_Uint.l0])
   | succ k1 =>
    have H := HA.out
    clear HA
    simp only [barbicanref03_Uint.l0] at H
    by_cases c3 : x5_1 < (l0.length : Int)
    ·rw [if_pos c3] at H
     have c3b0 : decide (x5_1 < (l0.length : Int)) = true := decide_eq_true c3
     clear c3
     (first | rw [c3b0] | (simp only [i64_w, i32_w]; rw [c3b0]) | skip)
     by_cases c4 : x5_1 < 10
     ·rw [if_pos c4] at H
      have c4b0 : decide (x5_1 < 10) = true := decide_eq_true c4
      clear c4
      have c5 : 0 ≤ x5_1 := Classical.byContradiction fun c5 => by rw [if_neg c5] at H; exact absurd H (by simp)
      rw [if_pos c5] at H
      have c5b0 : decide (0 ≤ x5_1) = true := decide_eq_true c5
      clear c5
      by_cases c6 : (rd l0 x5_1) ≥ 128
      ·rw [if_pos c6] at H
       have c6b0 : decide (128 ≤ (rd l0 x5_1)) = true := decide_eq_true c6
       clear c6
       have H' := Aside0.mk H
       clear H
       have p331 : 0 ≤ (x5_1 : Int) := ode_
       have q331 : x5_1 < (l0.length : Int) := ode_
       obtain ⟨ad331, e331, hx331_0⟩ := Kd.at_int HR0.out x5_1 p331 q331
       cases e331
       replace p331 := eq_true p331
       replace q331 := eq_true q331
       go_wp2
       go_roundg k1
       case measure => have := HK1.out; omega
       case rel => exact ⟨(wrap64 (x5_1 + 1)), (by first | rfl | (simp; done) | (simp [*]; done) | (simp [bne]; done)), H', ⟨by have := HK1.out; omega⟩, by repeat (first | exact Drawn0.refl _ | apply Drawn0.step)⟩
      rw [if_neg c6] at H
      have c6b0 : decide (128 ≤ (rd l0 x5_1)) = false := decide_eq_false c6
      clear c6
      have H' := Aside0.mk H
      clear H
      have p331 : 0 ≤ (x5_1 : Int) := ode_
      have q331 : x5_1 < (l0.length : Int) := ode_
      obtain ⟨ad331, e331, hx331_0⟩ := Kd.at_int HR0.out x5_1 p331 q331
      cases e331
      replace p331 := eq_true p331
      replace q331 := eq_true q331
      go_wp2
      refine Met.intro ?_
      go_step
      (repeat apply Exists.intro)
      refine ⟨?rel, ?frm⟩
      case frm => first | rfl | (simp only [c3b0, c4b0, c5b0, c6b0]; rfl) | (simp only [c3b0, c4b0, c5b0, c6b0]; first | done | rfl)
      case rel => exact ⟨_, (x5_1), (by first | rfl | (simp; done) | (simp [*]; done) | (simp [bne]; done)), H', ⟨by have := HK1.out; first | omega | exact Nat.le_refl _⟩, by repeat (first | exact Drawn0.refl _ | apply Drawn0.step)⟩
     rw [if_neg c4] at H
     have c4b0 : decide (x5_1 < 10) = false := decide_eq_false c4
     clear c4
     have H' := Aside0.mk H
     clear H
     go_wp2
     refine Met.intro ?_
     go_step
     (repeat apply Exists.intro)
     refine ⟨?rel, ?frm⟩
     case frm => first | rfl | (simp only [c3b0, c4b0]; rfl) | (simp only [c3b0, c4b0]; first | done | rfl)
     case rel => exact ⟨_, (x5_1), (by first | rfl | (simp; done) | (simp [*]; done) | (simp [bne]; done)), H', ⟨by have := HK1.out; first | omega | exact Nat.le_refl _⟩, by repeat (first | exact Drawn0.refl _ | apply Drawn0.step)⟩
    rw [if_neg c3] at H
    have c3b0 : decide (x5_1 < (l0.length : Int)) = false := decide_eq_false c3
    clear c3
    (first | rw [c3b0] | (simp only [i64_w, i32_w]; rw [c3b0]) | skip)
    have H' := Aside0.mk H
    clear H
    go_wp2
    refine Met.intro ?_
    go_step
    (repeat apply Exists.intro)
    refine ⟨?rel, ?frm⟩
    case frm => first | rfl | (simp only [c3b0]; rfl) | (simp only [c3b0]; first | done | rfl)
    case rel => exact ⟨_, (x5_1), (by first | rfl | (simp; done) | (simp [*]; done) | (simp [bne]; done)), H', ⟨by have := HK1.out; first | omega | exact Nat.le_refl _⟩, by repeat (first | exact Drawn0.refl _ | apply Drawn0.step)⟩
 clear HC2
 (try clear p2); (try clear c3); (try clear c3b0); (try clear p3); (try clear q3); (try clear hx3); (try clear c4); (try clear c4b0); (try clear c5); (try clear c5b0); (try clear c6); (try clear c6b0)
 (try clear p6); (try clear hx331_0); (try clear p2); (try clear p331); (try clear q331)
 obtain ⟨kq, x5_1, rfl, HA, HJ1, ⟨mc1, rfl⟩⟩ := hcut
 cases kq with
 | zero => exact absurd HA.out (by simp [barbicanref03_Uint.j1])
 | succ kj1 =>
  have H := HA.out
  clear HA
  simp only [barbicanref03_Uint.j1] at H
  have HC7 := Aside0.mk H
  clear H
  go_upto_block 2 with (fail)
  go_cut [] (fun wc => ∃ (kq : Nat), Aside0 (barbicanref03_Uint.j2 kq l0 x5_1 = some (r1, r2, r3)) ∧ Aside0 (kq ≤ kj1) ∧ Drawn0 w wc)
  case first =>
   have H := HC7.out
   clear HC7
   by_cases c8 : x5_1 = 10
   ·rw [if_pos c8] at H
    have c8b0 : (x5_1 == 10) = true := beq_iff_eq.mpr c8
    have c8b1 : (x5_1 != 10) = false := bne_eq_false_iff_eq.mpr c8
    clear c8
    (first | rw [c8b0] | (simp only [i64_w, i32_w]; rw [c8b0]) | skip)
    simp only [Option.some.injEq, Prod.mk.injEq] at H
    obtain ⟨rfl, rfl, rfl⟩ := H
    go_wp2
    go_ret3
    exact ⟨by first | rfl | (simp; done) | (simp [*]; done) | (simp [bne]; done), by repeat (first | exact Drawn0.refl _ | apply Drawn0.step)⟩
   rw [if_neg c8] at H
   have c8b0 : (x5_1 == 10) = false := beq_eq_false_iff_ne.mpr c8
   have c8b1 : (x5_1 != 10) = true := bne_iff_ne.mpr c8
   (first | rw [c8b0] | (simp only [i64_w, i32_w]; rw [c8b0]) | skip)
   by_cases c9 : x5_1 = (l0.length : Int)
   ·rw [if_pos c9] at H
    have c9b0 : (x5_1 == (l0.length : Int)) = true := beq_iff_eq.mpr c9
    have c9b1 : (x5_1 != (l0.length : Int)) = false := bne_eq_false_iff_eq.mpr c9
    clear c9
    simp only [Option.some.injEq, Prod.mk.injEq] at H
    obtain ⟨rfl, rfl, rfl⟩ := H
    go_wp2
    go_ret3
    exact ⟨by first | rfl | (simp; done) | (simp [*]; done) | (simp [bne]; done), by repeat (first | exact Drawn0.refl _ | apply Drawn0.step)⟩
   rw [if_neg c9] at H
   have c9b0 : (x5_1 == (l0.length : Int)) = false := beq_eq_false_iff_ne.mpr c9
   have c9b1 : (x5_1 != (l0.length : Int)) = true := bne_iff_ne.mpr c9
   by_cases c10 : x5_1 = 9
   ·rw [if_pos c10] at H
    have c10b0 : (x5_1 == 9) = true := beq_iff_eq.mpr c10
    have c10b1 : (x5_1 != 9) = false := bne_eq_false_iff_eq.mpr c10
    clear c10
    have c11 : 0 ≤ x5_1 := Classical.byContradiction fun c11 => by rw [if_neg c11] at H; exact absurd H (by simp)
    rw [if_pos c11] at H
    have c11b0 : decide (0 ≤ x5_1) = true := decide_eq_true c11
    clear c11
    have c12 : x5_1 < (l0.length : Int) := Classical.byContradiction fun c12 => by rw [if_neg c12] at H; exact absurd H (by simp)
    rw [if_pos c12] at H
    have c12b0 : decide (x5_1 < (l0.length : Int)) = true := decide_eq_true c12
    clear c12
    by_cases c13 : (rd l0 x5_1) > 1
    ·rw [if_pos c13] at H
     have c13b0 : decide (1 < (rd l0 x5_1)) = true := decide_eq_true c13
     clear c13
     simp only [Option.some.injEq, Prod.mk.injEq] at H
     obtain ⟨rfl, rfl, rfl⟩ := H
     have p332 : 0 ≤ (x5_1 : Int) := ode_
     have q332 : x5_1 < (l0.length : Int) := ode_
     obtain ⟨ad332, e332, hx332_0⟩ := Kd.at_int HR0.out x5_1 p332 q332
     cases e332
     replace p332 := eq_true p332
     replace q332 := eq_true q332
     go_wp2
     go_ret3
     exact ⟨by first | rfl | (simp; done) | (simp [*]; done) | (simp [bne]; done), by repeat (first | exact Drawn0.refl _ | apply Drawn0.step)⟩
    rw [if_neg c13] at H
    have c13b0 : decide (1 < (rd l0 x5_1)) = false := decide_eq_false c13
    clear c13
    by_cases c14 : x5_1 > 0
    ·rw [if_pos c14] at H
     have c14b0 : decide (0 < x5_1) = true := decide_eq_true c14
     clear c14
     by_cases c15 : (rd l0 x5_1) = 0
     ·rw [if_pos c15] at H
      have c15b0 : ((rd l0 x5_1) == 0) = true := beq_iff_eq.mpr c15
      have c15b1 : ((rd l0 x5_1) != 0) = false := bne_eq_false_iff_eq.mpr c15
      clear c15
      simp only [Option.some.injEq, Prod.mk.injEq] at H
      obtain ⟨rfl, rfl, rfl⟩ := H
      have p332 : 0 ≤ (x5_1 : Int) := ode_
      have q332 : x5_1 < (l0.length : Int) := ode_
      obtain ⟨ad332, e332, hx332_0⟩ := Kd.at_int HR0.out x5_1 p332 q332
      cases e332
      replace p332 := eq_true p332
      replace q332 := eq_true q332
      have p333 : 0 ≤ (x5_1 : Int) := ode_
      have q333 : x5_1 < (l0.length : Int) := ode_
      obtain ⟨ad333, e333, hx333_0⟩ := Kd.at_int HR0.out x5_1 p333 q333
      obtain rfl : ad332 = ad333 := (by injection e333)
      replace p333 := eq_true p333
      replace q333 := eq_true q333
      go_wp2
      go_ret3
      exact ⟨by first | rfl | (simp; done) | (simp [*]; done) | (simp [bne]; done), by repeat (first | exact Drawn0.refl _ | apply Drawn0.step)⟩
     rw [if_neg c15] at H
     have c15b0 : ((rd l0 x5_1) == 0) = false := beq_eq_false_iff_ne.mpr c15
     have c15b1 : ((rd l0 x5_1) != 0) = true := bne_iff_ne.mpr c15
     have H' := Aside0.mk H
     clear H
     have p332 : 0 ≤ (x5_1 : Int) := ode_
     have q332 : x5_1 < (l0.length : Int) := ode_
     obtain ⟨ad332, e332, hx332_0⟩ := Kd.at_int HR0.out x5_1 p332 q332
     cases e332
     replace p332 := eq_true p332
     replace q332 := eq_true q332
     have p333 : 0 ≤ (x5_1 : Int) := ode_
     have q333 : x5_1 < (l0.length : Int) := ode_
     obtain ⟨ad333, e333, hx333_0⟩ := Kd.at_int HR0.out x5_1 p333 q333
     obtain rfl : ad332 = ad333 := (by injection e333)
     replace p333 := eq_true p333
     replace q333 := eq_true q333
     go_wp2
     refine Met.intro ?_
     go_step
     (repeat apply Exists.intro)
     refine ⟨?rel, ?frm⟩
     case frm => first | rfl | (simp only [c8b0, c8b1, c9b0, c9b1, c10b0, c10b1, c11b0, c12b0, c13b0, c14b0, c15b0, c15b1]; rfl) | (simp only [c8b0, c8b1, c9b0, c9b1, c10b0, c10b1, c11b0, c12b0, c13b0, c14b0, c15b0, c15b1]; first | done | rfl)
     case rel => exact ⟨_, H', ⟨by have := HJ1.out; first | omega | exact Nat.le_refl _⟩, by repeat (first | exact Drawn0.refl _ | apply Drawn0.step)⟩
    rw [if_neg c14] at H
    have c14b0 : decide (0 < x5_1) = false := decide_eq_false c14
    clear c14
    have H' := Aside0.mk H
    clear H
    have p332 : 0 ≤ (x5_1 : Int) := ode_
    have q332 : x5_1 < (l0.length : Int) := ode_
    obtain ⟨ad332, e332, hx332_0⟩ := Kd.at_int HR0.out x5_1 p332 q332
    cases e332
    replace p332 := eq_true p332
    replace q332 := eq_true q332
    go_wp2
    refine Met.intro ?_
    go_step
    (repeat apply Exists.intro)
    refine ⟨?rel, ?frm⟩
    case frm => first | rfl | (simp only [c8b0, c8b1, c9b0, c9b1, c10b0, c10b1, c11b0, c12b0, c13b0, c14b0]; rfl) | (simp only [c8b0, c8b1, c9b0, c9b1, c10b0, c10b1, c11b0, c12b0, c13b0, c14b0]; first | done | rfl)
    case rel => exact ⟨_, H', ⟨by have := HJ1.out; first | omega | exact Nat.le_refl _⟩, by repeat (first | exact Drawn0.refl _ | apply Drawn0.step)⟩
   rw [if_neg c10] at H
   have c10b0 : (x5_1 == 9) = false := beq_eq_false_iff_ne.mpr c10
   have c10b1 : (x5_1 != 9) = true := bne_iff_ne.mpr c10
   by_cases c16 : x5_1 > 0
   ·rw [if_pos c16] at H
    have c16b0 : decide (0 < x5_1) = true := decide_eq_true c16
    clear c16
    have c17 : 0 ≤ x5_1 := Classical.byContradiction fun c17 => by rw [if_neg c17] at H; exact absurd H (by simp)
    rw [if_pos c17] at H
    have c17b0 : decide (0 ≤ x5_1) = true := decide_eq_true c17
    clear c17
    have c18 : x5_1 < (l0.length : Int) := Classical.byContradiction fun c18 => by rw [if_neg c18] at H; exact absurd H (by simp)
    rw [if_pos c18] at H
    have c18b0 : decide (x5_1 < (l0.length : Int)) = true := decide_eq_true c18
    clear c18
    by_cases c19 : (rd l0 x5_1) = 0
    ·rw [if_pos c19] at H
     have c19b0 : ((rd l0 x5_1) == 0) = true := beq_iff_eq.mpr c19
     have c19b1 : ((rd l0 x5_1) != 0) = false := bne_eq_false_iff_eq.mpr c19
     clear c19
     simp only [Option.some.injEq, Prod.mk.injEq] at H
     obtain ⟨rfl, rfl, rfl⟩ := H
     have p334 : 0 ≤ (x5_1 : Int) := ode_
     have q334 : x5_1 < (l0.length : Int) := ode_
     obtain ⟨ad334, e334, hx334_0⟩ := Kd.at_int HR0.out x5_1 p334 q334
     cases e334
     replace p334 := eq_true p334
     replace q334 := eq_true q334
     go_wp2
     go_ret3
     exact ⟨by first | rfl | (simp; done) | (simp [*]; done) | (simp [bne]; done), by repeat (first | exact Drawn0.refl _ | apply Drawn0.step)⟩
    rw [if_neg c19] at H
    have c19b0 : ((rd l0 x5_1) == 0) = false := beq_eq_false_iff_ne.mpr c19
    have c19b1 : ((rd l0 x5_1) != 0) = true := bne_iff_ne.mpr c19
    have H' := Aside0.mk H
    clear H
    have p334 : 0 ≤ (x5_1 : Int) := ode_
    have q334 : x5_1 < (l0.length : Int) := ode_
    obtain ⟨ad334, e334, hx334_0⟩ := Kd.at_int HR0.out x5_1 p334 q334
    cases e334
    replace p334 := eq_true p334
    replace q334 := eq_true q334
    go_wp2
    refine Met.intro ?_
    go_step
    (repeat apply Exists.intro)
    refine ⟨?rel, ?frm⟩
    case frm => first | rfl | (simp only [c8b0, c8b1, c9b0, c9b1, c10b0, c10b1, c16b0, c17b0, c18b0, c19b0, c19b1]; rfl) | (simp only [c8b0, c8b1, c9b0, c9b1, c10b0, c10b1, c16b0, c17b0, c18b0, c19b0, c19b1]; first | done | rfl)
    case rel => exact ⟨_, H', ⟨by have := HJ1.out; first | omega | exact Nat.le_refl _⟩, by repeat (first | exact Drawn0.refl _ | apply Drawn0.step)⟩
   rw [if_neg c16] at H
   have c16b0 : decide (0 < x5_1) = false := decide_eq_false c16
   clear c16
   have H' := Aside0.mk H
   clear H
   go_wp2
   refine Met.intro ?_
   go_step
   (repeat apply Exists.intro)
   refine ⟨?rel, ?frm⟩
   case frm => first | rfl | (simp only [c8b0, c8b1, c9b0, c9b1, c10b0, c10b1, c16b0]; rfl) | (simp only [c8b0, c8b1, c9b0, c9b1, c10b0, c10b1, c16b0]; first | done | rfl)
   case rel => exact ⟨_, H', ⟨by have := HJ1.out; first | omega | exact Nat.le_refl _⟩, by repeat (first | exact Drawn0.refl _ | apply Drawn0.step)⟩
  clear HC7
  (try clear c1); (try clear p2); (try clear c3); (try clear c3b0); (try clear p3); (try clear q3); (try clear hx3); (try clear c4); (try clear c4b0); (try clear c5); (try clear c5b0); (try clear c6)
  (try clear c6b0); (try clear p6); (try clear c8); (try clear c8b0); (try clear c8b1); (try clear c9); (try clear c9b0); (try clear c9b1); (try clear c10); (try clear c10b0); (try clear c10b1); (try clear c11)
  (try clear c11b0); (try clear c12); (try clear c12b0); (try clear c13); (try clear c13b0); (try clear c14); (try clear c14b0); (try clear c15); (try clear c15b0); (try clear c15b1); (try clear c16); (try clear c16b0)
  (try clear c17); (try clear c17b0); (try clear c18); (try clear c18b0); (try clear c19); (try clear c19b0); (try clear c19b1); (try clear hx331_0); (try clear hx332_0); (try clear hx333_0); (try clear hx334_0); (try clear p2)
  (try clear p3); (try clear p331); (try clear p332); (try clear p333); (try clear p334); (try clear p6); (try clear q3); (try clear q331); (try clear q332); (try clear q333); (try clear q334)
  obtain ⟨kq, HA, HJ6, ⟨mc6, rfl⟩⟩ := hcut
  cases kq with
  | zero => exact absurd HA.out (by simp [barbicanref03_Uint.j2])
  | succ kj6 =>
   have H := HA.out
   clear HA
   simp only [barbicanref03_Uint.j2] at H
   have H' := Aside0.mk H
   clear H
   go_wp2
   go_loopg [6, 7] kj6 (fun kq v6 v7 w' => ∃ (x6_3 : Int) (x7_3 : Int), v6 = .int .u64 x6_3 ∧ v7 = .int .i64 x7_3 ∧ Aside0 (barbicanref03_Uint.l1 kq l0 x5_1 x6_3 x7_3 = some (r1, r2, r3)) ∧ Aside0 (kq ≤ kj6) ∧ Drawn0 w w')
   case atStart => exact ⟨(0), (x5_1), (by first | rfl | (simp; done) | (simp [*]; done) | (simp [bne]; done)), (by first | rfl | (simp; done) | (simp [*]; done) | (simp [bne]; done)), H', ⟨Nat.le_refl _⟩, by repeat (first | exact Drawn0.refl _ | apply Drawn0.step)⟩
   case round =>
    clear H'
    (try clear c1); (try clear p2); (try clear c3); (try clear c3b0); (try clear p3); (try clear q3); (try clear hx3); (try clear c4); (try clear c4b0); (try clear c5); (try clear c5b0); (try clear c6)
    (try clear c6b0); (try clear p6); (try clear c8); (try clear c8b0); (try clear c8b1); (try clear c9); (try clear c9b0); (try clear c9b1); (try clear c10); (try clear c10b0); (try clear c10b1); (try clear c11)
    (try clear c11b0); (try clear c12); (try clear c12b0); (try clear c13); (try clear c13b0); (try clear c14); (try clear c14b0); (try clear c15); (try clear c15b0); (try clear c15b1); (try clear c16); (try clear c16b0)
    (try clear c17); (try clear c17b0); (try clear c18); (try clear c18b0); (try clear c19); (try clear c19b0); (try clear c19b1); (try clear hx331_0); (try clear hx332_0); (try clear hx333_0); (try clear hx334_0); (try clear p2)
    (try clear p3); (try clear p331); (try clear p332); (try clear p333); (try clear p334); (try clear p6); (try clear q3); (try clear q331); (try clear q332); (try clear q333); (try clear q334)
    obtain ⟨x6_3, x7_3, rfl, rfl, HA, HK3, ⟨m3, rfl⟩⟩ := hrel
    cases gk with
    | zero => exact absurd HA.out (by simp [barbicanref03_Uint.l1])
    | succ k3 =>
     have H := HA.out
     clear HA
     simp only [barbicanref03_Uint.l1] at H
     by_cases c20 : x7_3 ≥ 0
     ·rw [if_pos c20] at H
      have c20b0 : decide (0 ≤ x7_3) = true := decide_eq_true c20
      clear c20
      have c21 : 0 ≤ x7_3 := Classical.byContradiction fun c21 => by rw [if_neg c21] at H; exact absurd H (by simp)
      rw [if_pos c21] at H
      have c21b0 : decide (0 ≤ x7_3) = true := decide_eq_true c21
      clear c21
      have c22 : x7_3 < (l0.length : Int) := Classical.byContradiction fun c22 => by rw [if_neg c22] at H; exact absurd H (by simp)
      rw [if_pos c22] at H
      have c22b0 : decide (x7_3 < (l0.length : Int)) = true := decide_eq_true c22
      clear c22
      have H' := Aside0.mk H
      clear H
      have p335 : 0 ≤ (x7_3 : Int) := ode_
      have q335 : x7_3 < (l0.length : Int) := ode_
      obtain ⟨ad335, e335, hx335_0⟩ := Kd.at_int HR0.out x7_3 p335 q335
      cases e335
      replace p335 := eq_true p335
      replace q335 := eq_true q335
      go_wp2
      go_roundg k3
      case measure => have := HJ1.out; have := HJ6.out; have := HK3.out; omega
      case rel => exact ⟨(IntKind.u64.wrap ((IntKind.u64.wrap (x6_3 * 128)) + (IntKind.u64.wrap (Int.tmod (rd l0 x7_3) 128)))), (wrap64 (x7_3 - 1)), (by first | rfl | (simp; done) | (simp [*]; done) | (simp [bne]; done)), (by first | rfl | (simp; done) | (simp [*]; done) | (simp [bne]; done)), H', ⟨by have := HJ1.out; have := HJ6.out; have := HK3.out; omega⟩, by repeat (first | exact Drawn0.refl _ | apply Drawn0.step)⟩
     rw [if_neg c20] at H
     have c20b0 : decide (0 ≤ x7_3) = false := decide_eq_false c20
     clear c20
     simp only [Option.some.injEq, Prod.mk.injEq] at H
     obtain ⟨rfl, rfl, rfl⟩ := H
     go_wp2
     go_ret3
     exact ⟨by first | rfl | (simp; done) | (simp [*]; done) | (simp [bne]; done), by repeat (first | exact Drawn0.refl _ | apply Drawn0.step)⟩

/-! ### barbicanref03_Text: function 39 -/
def barbicanref03_Text.f (k : Nat) (l0 : List Int) (a1 : Int) : Option (ByteArray × Int × Int) := if a1 < 0 then (some ((⟨#[]⟩ : ByteArray), 0, 1)) else ((barbicanref03_Uint.f k l0).bind fun bt336 => (if bt336.2.2 = 0 then (if bt336.1 > (IntKind.u64.wrap (a1)) then (some ((⟨#[]⟩ : ByteArray), 0, 2)) else (if bt336.1 > (IntKind.u64.wrap (wrap64 ((l0.length : Int) - bt336.2.1))) then (some ((⟨#[]⟩ : ByteArray), 0, 12)) else (if 0 ≤ bt336.2.1 then (if bt336.2.1 ≤ (wrap64 (bt336.2.1 + (wrap64 (bt336.1)))) then (if (wrap64 (bt336.2.1 + (wrap64 (bt336.1)))) ≤ (l0.length : Int) then (some (strOfNums ((l0.take ((wrap64 (bt336.2.1 + (wrap64 (bt336.1)))) : Int).toNat).drop (bt336.2.1 : Int).toNat), wrap64 (bt336.2.1 + (wrap64 (bt336.1))), 0)) else (none)) else (none)) else (none)))) else (some ((⟨#[]⟩ : ByteArray), 0, bt336.2.2))))
set_option maxHeartbeats 8000000 in
set_option maxRecDepth 100000 in
theorem barbicanref03_Text.calls (k : Nat) (A0 : Option Addr) (c0 : Nat) (l0 : List Int) (a1 : Int) (r1 : ByteArray) (r2 : Int) (r3 : Int) (w : World) (hr0 : Kd.C (Kd.int .u8) w A0 l0.length l0) (hc0 : l0.length ≤ c0) (h : barbicanref03_Text.f k l0 a1 = some (r1, r2, r3)) :
  Calls Tryd.prog 39 #[.slice A0 l0.length c0, .int .i64 a1] w fun e w' => e = .returned (.tuple #[.string r1, .int .i64 r2, .int .i64 r3]) ∧ Drawn0 w w' := by
 have HR0 := Aside0.mk hr0
 have HC0 := Aside0.mk hc0
 clear hr0 hc0
 have H : (if a1 < 0 then (some ((⟨#[]⟩ : ByteArray), 0, 1)) else ((barbicanref03_Uint.f k l0).bind fun bt336 => (if bt336.2.2 = 0 then (if bt336.1 > (IntKind.u64.wrap (a1)) then (some ((⟨#[]⟩ : ByteArray), 0, 2)) else (if bt336.1 > (IntKind.u64.wrap (wrap64 ((l0.length : Int) - bt336.2.1))) then (some ((⟨#[]⟩ : ByteArray), 0, 12)) else (if 0 ≤ bt336.2.1 then (if bt336.2.1 ≤ (wrap64 (bt336.2.1 + (wrap64 (bt336.1)))) then (if (wrap64 (bt336.2.1 + (wrap64 (bt336.1)))) ≤ (l0.length : Int) then (some (strOfNums ((l0.take ((wrap64 (bt336.2.1 + (wrap64 (bt336.1)))) : Int).toNat).drop (bt336.2.1 : Int).toNat), wrap64 (bt336.2.1 + (wrap64 (bt336.1))), 0)) else (none)) else (none)) else (none)))) else (some ((⟨#[]⟩ : ByteArray), 0, bt336.2.2))))) = some (r1, r2, r3) := h
 clear h
 by_cases c3 : a1 < 0
 ·rw [if_pos c3] at H
  have c3b0 : decide (a1 < 0) = true := decide_eq_true c3
  clear c3
  simp only [Option.some.injEq, Prod.mk.injEq] at H
  obtain ⟨rfl, rfl, rfl⟩ := H
  go_enter Tryd.func39, Tryd.ntmps39
  go_wp2
  go_ret3
  exact ⟨by first | rfl | (simp; done) | (simp [*]; done) | (simp [bne]; done), by repeat (first | exact Drawn0.refl _ | apply Drawn0.step)⟩
 rw [if_neg c3] at H
 have c3b0 : decide (a1 < 0) = false := decide_eq_false c3
 clear c3
 replace H := Option.bind_eq_some_iff.mp H
 obtain ⟨⟨t336, t337, t338⟩, A40, H⟩ := H
 (try dsimp only at H)
 have A4 := Aside0.mk A40
 clear A40
 by_cases c5 : t338 = 0
 ·rw [if_pos c5] at H
  have c5b0 : (t338 == 0) = true := beq_iff_eq.mpr c5
  have c5b1 : (t338 != 0) = false := bne_eq_false_iff_eq.mpr c5
  clear c5
  by_cases c6 : t336 > (IntKind.u64.wrap (a1))
  ·rw [if_pos c6] at H
   have c6b0 : decide ((IntKind.u64.wrap (a1)) < t336) = true := decide_eq_true c6
   clear c6
   simp only [Option.some.injEq, Prod.mk.injEq] at H
   obtain ⟨rfl, rfl, rfl⟩ := H
   go_enter Tryd.func39, Tryd.ntmps39
   go_wp2_with (first | ((with_reducible refine qgc (f := 40) rfl ?_); refine goesL_ (some 14) rfl rfl Tryd.func40 (by kernel_rfl) rfl #[.slice A0 l0.length c0] rfl (by (try simp only [List.map_toArray, List.map_cons, List.map_nil]); first | done | rfl | (simp only [List.length_drop, List.length_take]; rfl)) ?_; (with_reducible refine (barbicanref03_Uint.calls k _ _ l0 t336 t337 t338 _ ?side1 ?side2 A4.out).mono ?_); (case side1 => repeat (first | exact HR0.out | (with_reducible refine Kd.C_alloc ?_ _) | (with_reducible refine Kd.C_drewN ?_ _) | (with_reducible refine Kd.C_drew ?_))); (case side2 => exact HC0.out); rintro e w' ⟨rfl, ⟨nd, rfl⟩⟩; refine ⟨_, rfl, ?_⟩))
   go_ret3
   exact ⟨by first | rfl | (simp; done) | (simp [*]; done) | (simp [bne]; done), by repeat (first | exact Drawn0.refl _ | apply Drawn0.step)⟩
  rw [if_neg c6] at H
  have c6b0 : decide ((IntKind.u64.wrap (a1)) < t336) = false := decide_eq_false c6
  clear c6
  by_cases c7 : t336 > (IntKind.u64.wrap (wrap64 ((l0.length : Int) - t337)))
  ·rw [if_pos c7] at H
   have c7b0 : decide ((IntKind.u64.wrap (wrap64 ((l0.length : Int) - t337))) < t336) = true := decide_eq_true c7
   clear c7
   simp only [Option.some.injEq, Prod.mk.injEq] at H
   obtain ⟨rfl, rfl, rfl⟩ := H
   go_enter Tryd.func39, Tryd.ntmps39
   go_wp2_with (first | ((with_reducible refine qgc (f := 40) rfl ?_); refine goesL_ (some 14) rfl rfl Tryd.func40 (by kernel_rfl) rfl #[.slice A0 l0.length c0] rfl (by (try simp only [List.map_toArray, List.map_cons, List.map_nil]); first | done | rfl | (simp only [List.length_drop, List.length_take]; rfl)) ?_; (with_reducible refine (barbicanref03_Uint.calls k _ _ l0 t336 t337 t338 _ ?side1 ?side2 A4.out).mono ?_); (case side1 => repeat (first | exact HR0.out | (with_reducible refine Kd.C_alloc ?_ _) | (with_reducible refine Kd.C_drewN ?_ _) | (with_reducible refine Kd.C_drew ?_))); (case side2 => exact HC0.out); rintro e w' ⟨rfl, ⟨nd, rfl⟩⟩; refine ⟨_, rfl, ?_⟩))
   go_ret3
   exact ⟨by first | rfl | (simp; done) | (simp [*]; done) | (simp [bne]; done), by repeat (first | exact Drawn0.refl _ | apply Drawn0.step)⟩
  rw [if_neg c7] at H
  have c7b0 : decide ((IntKind.u64.wrap (wrap64 ((l0.length : Int) - t337))) < t336) = false := decide_eq_false c7
  clear c7
  have c8 : 0 ≤ t337 := Classical.byContradiction fun c8 => by rw [if_neg c8] at H; exact absurd H (by simp)
  rw [if_pos c8] at H
  have c8b0 := eq_true c8
  have c8b1 : decide (0 ≤ t337) = true := decide_eq_true c8
  clear c8
  have c9 : t337 ≤ (wrap64 (t337 + (wrap64 (t336)))) := Classical.byContradiction fun c9 => by rw [if_neg c9] at H; exact absurd H (by simp)
  rw [if_pos c9] at H
  have c9b0 := eq_true c9
  have c9b1 : decide (t337 ≤ (wrap64 (t337 + (wrap64 (t336))))) = true := decide_eq_true c9
  have c10 : (wrap64 (t337 + (wrap64 (t336)))) ≤ (l0.length : Int) := Classical.byContradiction fun c10 => by rw [if_neg c10] at H; exact absurd H (by simp)
  rw [if_pos c10] at H
  have c10b0 := eq_true c10
  have c10b1 : decide ((wrap64 (t337 + (wrap64 (t336)))) ≤ (l0.length : Int)) = true := decide_eq_true c10
  simp only [Option.some.injEq, Prod.mk.injEq] at H
  obtain ⟨rfl, rfl, rfl⟩ := H
  go_enter Tryd.func39, Tryd.ntmps39
  go_wp2_with (first | ((with_reducible refine qgc (f := 40) rfl ?_); refine goesL_ (some 14) rfl rfl Tryd.func40 (by kernel_rfl) rfl #[.slice A0 l0.length c0] rfl (by (try simp only [List.map_toArray, List.map_cons, List.map_nil]); first | done | rfl | (simp only [List.length_drop, List.length_take]; rfl)) ?_; (with_reducible refine (barbicanref03_Uint.calls k _ _ l0 t336 t337 t338 _ ?side1 ?side2 A4.out).mono ?_); (case side1 => repeat (first | exact HR0.out | (with_reducible refine Kd.C_alloc ?_ _) | (with_reducible refine Kd.C_drewN ?_ _) | (with_reducible refine Kd.C_drew ?_))); (case side2 => exact HC0.out); rintro e w' ⟨rfl, ⟨nd, rfl⟩⟩; refine ⟨_, rfl, ?_⟩; obtain ⟨i011, hi011, _, hsz11, _⟩ := info_parts info5; obtain ⟨A11, hcut11, hA11, hC11⟩ := print_mid_of (P := Tryd.prog) (Value.int .u8) 0 25 5 .i64 .i64 Tryd.underlying25 hi011 hsz11 A0 c0 l0 t337 (wrap64 (t337 + (wrap64 (t336)))) (ode_) (by first | omega | exact ode_) (ode_) HC0.out; have HR339 := Aside0.mk (Kd.C_of_reads (h1 := fun _ => rfl) (hA11 _ (Kd.reads_of_C HR0.out))); have HC339 := Aside0.mk hC11; clear hA11 hC11 hi011 hsz11; have hcv12 := Kd.C_string (P := Tryd.prog) (A := A11) (c := (c0 - t337.toNat)) Tryd.underlying25 Tryd.underlying5 Tryd.underlying9 HR339.out; have hcd12 := fun n_ : Nat => Kd.C_string (P := Tryd.prog) (A := A11) (c := (c0 - t337.toNat)) Tryd.underlying25 Tryd.underlying5 Tryd.underlying9 (Kd.C_drewN HR339.out n_); have hmn12 : min ((wrap64 (t337 + (wrap64 (t336)))) : Int).toNat l0.length = ((wrap64 (t337 + (wrap64 (t336)))) : Int).toNat := Nat.min_eq_left (by omega); (try simp only [List.length_drop, List.length_take, hmn12] at hcv12 hcd12); clear hmn12))
  go_ret3
  exact ⟨by first | rfl | (simp; done) | (simp [*]; done) | (simp [bne]; done), by repeat (first | exact Drawn0.refl _ | apply Drawn0.step)⟩
 rw [if_neg c5] at H
 have c5b0 : (t338 == 0) = false := beq_eq_false_iff_ne.mpr c5
 have c5b1 : (t338 != 0) = true := bne_iff_ne.mpr c5
 simp only [Option.some.injEq, Prod.mk.injEq] at H
 obtain ⟨rfl, rfl, rfl⟩ := H
 go_enter Tryd.func39, Tryd.ntmps39
 go_wp2_with (first | ((with_reducible refine qgc (f := 40) rfl ?_); refine goesL_ (some 14) rfl rfl Tryd.func40 (by kernel_rfl) rfl #[.slice A0 l0.length c0] rfl (by (try simp only [List.map_toArray, List.map_cons, List.map_nil]); first | done | rfl | (simp only [List.length_drop, List.length_take]; rfl)) ?_; (with_reducible refine (barbicanref03_Uint.calls k _ _ l0 t336 t337 t338 _ ?side1 ?side2 A4.out).mono ?_); (case side1 => repeat (first | exact HR0.out | (with_reducible refine Kd.C_alloc ?_ _) | (with_reducible refine Kd.C_drewN ?_ _) | (with_reducible refine Kd.C_drew ?_))); (case side2 => exact HC0.out); rintro e w' ⟨rfl, ⟨nd, rfl⟩⟩; refine ⟨_, rfl, ?_⟩))
 go_ret3
 exact ⟨by first | rfl | (simp; done) | (simp [*]; done) | (simp [bne]; done), by repeat (first | exact Drawn0.refl _ | apply Drawn0.step)⟩

/-! ### barbicanref26_Read_text: function 23 -/
def barbicanref26_Read_text.f (k : Nat) (l0_0 : List Int) (a0_1 : Bool) : Option (List Int × Bool × ByteArray) := (barbicanref03_Text.f k l0_0 (l0_0.length : Int)).bind fun bt342 => (if a0_1 = true then (some (([] : List Int), true, (⟨#[]⟩ : ByteArray))) else (if bt342.2.2 = 0 then (if 0 ≤ bt342.2.1 then (if bt342.2.1 ≤ (l0_0.length : Int) then (some ((l0_0.drop (bt342.2.1 : Int).toNat), false, bt342.1)) else (none)) else (none)) else (some (([] : List Int), true, (⟨#[]⟩ : ByteArray)))))
set_option maxHeartbeats 8000000 in
set_option maxRecDepth 100000 in
theorem barbicanref26_Read_text.calls (k : Nat) (P0_0_ : Nat → Prop) (A0_0 : Option Addr) (c0_0 : Nat) (l0_0 : List Int) (a0_1 : Bool) (r1 : List Int) (r2 : Bool) (r3 : ByteArray) (w : World) (hs0_0 : Kd.V (Kd.int .u8) 5 w w.heap.size (fun k_ => P0_0_ k_) (.slice A0_0 l0_0.length c0_0) l0_0) (h : barbicanref26_Read_text.f k l0_0 a0_1 = some (r1, r2, r3)) :
  Calls Tryd.prog 23 #[.agg #[.slice A0_0 l0_0.length c0_0, .bool a0_1]] w fun e w' => ∃ v0_ : Value, e = .returned (.tuple #[.agg #[v0_, .bool r2], .string r3]) ∧ Kd.V (Kd.int .u8) 5 w' w.heap.size (fun k_ => (P0_0_ k_ ∨ w.heap.size ≤ k_)) v0_ r1 ∧ Below w.heap.size w w' := by
 have hu60 := Tryd.underlying60
 have HO0_0 := Aside0.mk (show Kd.V (Kd.int .u8) 5 w w.heap.size (fun k_ => (P0_0_ k_ ∨ w.heap.size ≤ k_)) (.slice A0_0 l0_0.length c0_0) l0_0 from Kd.V_mono hs0_0 (fun k_ hk => .inl hk))
 have HB := Aside0.mk (Below.refl w.heap.size w)
 have H : ((barbicanref03_Text.f k l0_0 (l0_0.length : Int)).bind fun bt342 => (if a0_1 = true then (some (([] : List Int), true, (⟨#[]⟩ : ByteArray))) else (if bt342.2.2 = 0 then (if 0 ≤ bt342.2.1 then (if bt342.2.1 ≤ (l0_0.length : Int) then (some ((l0_0.drop (bt342.2.1 : Int).toNat), false, bt342.1)) else (none)) else (none)) else (some (([] : List Int), true, (⟨#[]⟩ : ByteArray)))))) = some (r1, r2, r3) := h
 clear h
 replace H := Option.bind_eq_some_iff.mp H
 obtain ⟨⟨t342, t343, t344⟩, A20, H⟩ := H
 (try dsimp only at H)
 have A2 := Aside0.mk A20
 clear A20
 by_cases c3 : a0_1 = true
 ·subst c3
  rw [if_pos rfl] at H
  simp only [Option.some.injEq, Prod.mk.injEq] at H
  obtain ⟨rfl, rfl, rfl⟩ := H
  go_enter Tryd.func23, Tryd.ntmps23
  go_wp2_with (first | ((with_reducible refine qgd (N := 1) rfl ?_); refine qbe ?hg (N := 1) ?hd (cs := #[.slice A0_0 l0_0.length c0_0, .bool true]) (t := 60) ?hr ?_; (case hd => rfl); (case hg => rfl); (case hr => first | (go_simp; done) | (go_simp; rfl)); intro gb340 hg w4 hbox hb; have n0_ := Aside0.mk (Kd.V_below (Kd.V_elderB (kV_ HO0_0.out) gb340 (Nat.le_of_eq hg.symm)) hb); have n1_ := Aside0.mk (below_step (bw_ HB.out) hb); have n2_ := Aside0.mk (hbox); have n3_ := Aside0.mk ((by rw [hg]; exact (qbz (bw_ HB.out)) : w.heap.size ≤ gb340)); have n4_ := Aside0.mk ((by rw [hg]; exact (qbz (bw_ HB.out)) : w.heap.size ≤ gb340)); clear HO0_0; clear HB; have HO0_0 := n0_; have HB := n1_; have BK340 := n2_; have GW340 := n3_; have GE340 := n4_; clear n0_ n1_ n2_ n3_ n4_; clear hb hbox hg) | ((with_reducible refine qgd (N := 2) rfl ?_); refine qbe ?hg (N := 2) ?hd (cs := #[.slice none 0 0, .bool false]) (t := 60) ?hr ?_; (case hd => rfl); (case hg => rfl); (case hr => first | (go_simp; done) | (go_simp; rfl)); intro gb341 hg w5 hbox hb; have n0_ := Aside0.mk (Kd.V_below (Kd.V_elderB (kV_ HO0_0.out) gb341 (Nat.le_of_eq hg.symm)) hb); have n1_ := Aside0.mk (qkb (g := gb340) (o := .cells #[.slice A0_0 l0_0.length c0_0, .bool true] 60 (0, 0)) (bl_ BK340.out) hb); have n2_ := Aside0.mk (below_step (bw_ HB.out) hb); have n3_ := Aside0.mk (hbox); have n4_ := Aside0.mk ((by rw [hg]; exact (qbz (bw_ HB.out)) : w.heap.size ≤ gb341)); have n5_ := Aside0.mk ((by rw [hg]; exact (qbz (bw_ HB.out)) : w.heap.size ≤ gb341)); have n6_ := Aside0.mk ((by rw [hg]; exact Nat.ne_of_lt (blk_lt (g := gb340) (o := .cells #[.slice A0_0 l0_0.length c0_0, .bool true] 60 (0, 0)) (bl_ BK340.out)) : gb340 ≠ gb341)); have n7_ := Aside0.mk ((by rw [hg]; exact Nat.ne_of_gt (blk_lt (g := gb340) (o := .cells #[.slice A0_0 l0_0.length c0_0, .bool true] 60 (0, 0)) (bl_ BK340.out)) : gb341 ≠ gb340)); clear HO0_0; clear BK340; clear HB; have HO0_0 := n0_; have BK340 := n1_; have HB := n2_; have BK341 := n3_; have GW341 := n4_; have GE341 := n5_; have NB340_341 := n6_; have NB341_340 := n7_; clear n0_ n1_ n2_ n3_ n4_ n5_ n6_ n7_; clear hb hbox hg; have hnb6 := NB340_341.out; have hnc6 := NB341_340.out; have hcz7_0 : w5.cell? ⟨gb340, 0, none⟩ = some (.slice A0_0 l0_0.length c0_0) := (qkc BK340.out 0).trans rfl; have hcz7_1 : w5.cell? ⟨gb340, 1, none⟩ = some (.bool true) := (qkc BK340.out 1).trans rfl; have hfz7_0 := qkf BK340.out 0; have hfz7_1 := qkf BK340.out 1) | ((with_reducible refine qgc (f := 39) rfl ?_); refine goesL_ (some 13) rfl rfl Tryd.func39 (by kernel_rfl) rfl #[.slice A0_0 l0_0.length c0_0, .int .i64 (l0_0.length : Int)] rfl (by (try simp only [List.map_toArray, List.map_cons, List.map_nil]); first | done | rfl | (simp only [List.length_drop, List.length_take]; rfl)) ?_; (with_reducible refine (barbicanref03_Text.calls k _ _ l0_0 (l0_0.length : Int) t342 t343 t344 _ ?side1 ?side2 A2.out).mono ?_); (case side1 => repeat (first | exact (Kd.V_reads' HO0_0.out).2.2 | (with_reducible refine Kd.C_alloc ?_ _) | (with_reducible refine Kd.C_drewN ?_ _) | (with_reducible refine Kd.C_drew ?_))); (case side2 => exact (Kd.V_reads' HO0_0.out).2.1); rintro e w' ⟨rfl, ⟨nd, rfl⟩⟩; refine ⟨_, rfl, ?_⟩; (try (rw [drewN_self w5]; generalize hq_ : World.drewN w5 _ = w5; have n0_ : Aside0 (Kd.V (Kd.int .u8) 5 w5 w.heap.size (fun k_ => (P0_0_ k_ ∨ w.heap.size ≤ k_) ∧ k_ ≠ gb340 ∧ k_ ≠ gb341) (.slice A0_0 l0_0.length c0_0) l0_0) := ⟨by rw [← hq_]; exact (by (with_reducible repeat (first | apply Kd.V_alloc | apply Kd.V_drewN | apply Kd.V_drew)); exact Kd.V_mono HO0_0.out (fun _ hk => ⟨hk.1.1, ⟨hk.1.2, hk.2⟩⟩))⟩; have n1_ : Aside0 (w5.heap[gb340]? = some (.cells #[.slice A0_0 l0_0.length c0_0, .bool true] 60 (0, 0))) := ⟨by rw [← hq_]; exact (bl_ BK340.out)⟩; have n2_ : Aside0 (w5.heap[gb341]? = some (.cells #[.slice none 0 0, .bool false] 60 (0, 0))) := ⟨by rw [← hq_]; exact (bl_ BK341.out)⟩; have n3_ : Aside0 (Below w.heap.size w w5) := ⟨by rw [← hq_]; exact (bw_ HB.out)⟩; clear HO0_0 BK340 BK341 HB hq_; have HO0_0 := n0_; have BK340 := n1_; have BK341 := n2_; have HB := n3_; clear n0_ n1_ n2_ n3_)); (try have hcz7_0 : w5.cell? ⟨gb340, 0, none⟩ = some (.slice A0_0 l0_0.length c0_0) := (qkc BK340.out 0).trans rfl); (try have hcz7_1 : w5.cell? ⟨gb340, 1, none⟩ = some (.bool true) := (qkc BK340.out 1).trans rfl); (try have hfz7_0 := qkf BK340.out 0); (try have hfz7_1 := qkf BK340.out 1); have hcz8_0 : w5.cell? ⟨gb341, 0, none⟩ = some (.slice none 0 0) := (qkc BK341.out 0).trans rfl; have hcz8_1 : w5.cell? ⟨gb341, 1, none⟩ = some (.bool false) := (qkc BK341.out 1).trans rfl; have hfz8_0 := qkf BK341.out 0; have hfz8_1 := qkf BK341.out 1))
  refine bodyPost_ret (results_ct rfl _ _ gb341 60 #[.slice none 0 0, .bool true] (0, 0) _ rfl (by (with_reducible repeat (first | refine qkN ?_ _ | refine qkd ?_ | refine qka ?_ _)); refine qkp (cs := #[.slice none 0 0, .bool false]) ?_ 1 _ rfl; (with_reducible repeat (first | refine qkN ?_ _ | refine qkd ?_ | refine qka ?_ _)); refine qkp (cs := #[.slice none 0 0, .bool false]) ?_ 0 _ rfl; (with_reducible repeat (first | refine qkN ?_ _ | refine qkd ?_ | refine qka ?_ _)); exact BK341.out) Tryd.underlying60 rfl (by kernel_rfl)) rfl ?_
  exact ⟨_, by first | rfl | (simp [errW_none, errW_some] <;> rfl) | (simp [*, errW_none, errW_some] <;> rfl), Kd.V_nil _ _ _ _ _, bw_ HB.out⟩
 replace c3 := Bool.eq_false_iff.mpr c3
 subst c3
 rw [if_neg (show ¬ (false = true) by decide)] at H
 by_cases c9 : t344 = 0
 ·rw [if_pos c9] at H
  have c9b0 : (t344 == 0) = true := beq_iff_eq.mpr c9
  have c9b1 : (t344 != 0) = false := bne_eq_false_iff_eq.mpr c9
  clear c9
  have c10 : 0 ≤ t343 := Classical.byContradiction fun c10 => by rw [if_neg c10] at H; exact absurd H (by simp)
  rw [if_pos c10] at H
  have c10b0 := eq_true c10
  have c10b1 : decide (0 ≤ t343) = true := decide_eq_true c10
  clear c10
  have c11 : t343 ≤ (l0_0.length : Int) := Classical.byContradiction fun c11 => by rw [if_neg c11] at H; exact absurd H (by simp)
  rw [if_pos c11] at H
  have c11b0 := eq_true c11
  have c11b1 : decide (t343 ≤ (l0_0.length : Int)) = true := decide_eq_true c11
  clear c11
  obtain ⟨y345, hy345⟩ : ∃ y_ : List Int, y_ = (l0_0.drop (t343 : Int).toNat) := ⟨_, rfl⟩
  replace H : (some (y345, false, t342)) = some (r1, r2, r3) := by first | (rw [hy345]; with_reducible exact H) | (have H2_ := (Option.bind_some _ _).symm.trans H; rw [hy345]; with_reducible exact H2_) | (have H2_ := (Option.bind_some _ _).symm.trans H; with_reducible exact H2_) | with_reducible exact H | (rw [hy345]; exact H) | exact H
  have Ny345 := Aside0.mk hy345
  clear hy345
  simp only [Option.some.injEq, Prod.mk.injEq] at H
  obtain ⟨rfl, rfl, rfl⟩ := H
  go_enter Tryd.func23, Tryd.ntmps23
  go_wp2_with (first | ((with_reducible refine qgd (N := 1) rfl ?_); refine qbe ?hg (N := 1) ?hd (cs := #[.slice A0_0 l0_0.length c0_0, .bool false]) (t := 60) ?hr ?_; (case hd => rfl); (case hg => rfl); (case hr => first | (go_simp; done) | (go_simp; rfl)); intro gb340 hg w12 hbox hb; have n0_ := Aside0.mk (Kd.V_below (Kd.V_elderB (kV_ HO0_0.out) gb340 (Nat.le_of_eq hg.symm)) hb); have n1_ := Aside0.mk (below_step (bw_ HB.out) hb); have n2_ := Aside0.mk (hbox); have n3_ := Aside0.mk ((by rw [hg]; exact (qbz (bw_ HB.out)) : w.heap.size ≤ gb340)); have n4_ := Aside0.mk ((by rw [hg]; exact (qbz (bw_ HB.out)) : w.heap.size ≤ gb340)); clear HO0_0; clear HB; have HO0_0 := n0_; have HB := n1_; have BK340 := n2_; have GW340 := n3_; have GE340 := n4_; clear n0_ n1_ n2_ n3_ n4_; clear hb hbox hg) | ((with_reducible refine qgd (N := 2) rfl ?_); refine qbe ?hg (N := 2) ?hd (cs := #[.slice none 0 0, .bool false]) (t := 60) ?hr ?_; (case hd => rfl); (case hg => rfl); (case hr => first | (go_simp; done) | (go_simp; rfl)); intro gb341 hg w13 hbox hb; have n0_ := Aside0.mk (Kd.V_below (Kd.V_elderB (kV_ HO0_0.out) gb341 (Nat.le_of_eq hg.symm)) hb); have n1_ := Aside0.mk (qkb (g := gb340) (o := .cells #[.slice A0_0 l0_0.length c0_0, .bool false] 60 (0, 0)) (bl_ BK340.out) hb); have n2_ := Aside0.mk (below_step (bw_ HB.out) hb); have n3_ := Aside0.mk (hbox); have n4_ := Aside0.mk ((by rw [hg]; exact (qbz (bw_ HB.out)) : w.heap.size ≤ gb341)); have n5_ := Aside0.mk ((by rw [hg]; exact (qbz (bw_ HB.out)) : w.heap.size ≤ gb341)); have n6_ := Aside0.mk ((by rw [hg]; exact Nat.ne_of_lt (blk_lt (g := gb340) (o := .cells #[.slice A0_0 l0_0.length c0_0, .bool false] 60 (0, 0)) (bl_ BK340.out)) : gb340 ≠ gb341)); have n7_ := Aside0.mk ((by rw [hg]; exact Nat.ne_of_gt (blk_lt (g := gb340) (o := .cells #[.slice A0_0 l0_0.length c0_0, .bool false] 60 (0, 0)) (bl_ BK340.out)) : gb341 ≠ gb340)); clear HO0_0; clear BK340; clear HB; have HO0_0 := n0_; have BK340 := n1_; have HB := n2_; have BK341 := n3_; have GW341 := n4_; have GE341 := n5_; have NB340_341 := n6_; have NB341_340 := n7_; clear n0_ n1_ n2_ n3_ n4_ n5_ n6_ n7_; clear hb hbox hg; have hnb14 := NB340_341.out; have hnc14 := NB341_340.out; have hcz15_0 : w13.cell? ⟨gb340, 0, none⟩ = some (.slice A0_0 l0_0.length c0_0) := (qkc BK340.out 0).trans rfl; have hcz15_1 : w13.cell? ⟨gb340, 1, none⟩ = some (.bool false) := (qkc BK340.out 1).trans rfl; have hfz15_0 := qkf BK340.out 0; have hfz15_1 := qkf BK340.out 1) | ((with_reducible refine qgc (f := 39) rfl ?_); refine goesL_ (some 13) rfl rfl Tryd.func39 (by kernel_rfl) rfl #[.slice A0_0 l0_0.length c0_0, .int .i64 (l0_0.length : Int)] rfl (by (try simp only [List.map_toArray, List.map_cons, List.map_nil]); first | done | rfl | (simp only [List.length_drop, List.length_take]; rfl)) ?_; (with_reducible refine (barbicanref03_Text.calls k _ _ l0_0 (l0_0.length : Int) t342 t343 t344 _ ?side1 ?side2 A2.out).mono ?_); (case side1 => repeat (first | exact (Kd.V_reads' HO0_0.out).2.2 | (with_reducible refine Kd.C_alloc ?_ _) | (with_reducible refine Kd.C_drewN ?_ _) | (with_reducible refine Kd.C_drew ?_))); (case side2 => exact (Kd.V_reads' HO0_0.out).2.1); rintro e w' ⟨rfl, ⟨nd, rfl⟩⟩; refine ⟨_, rfl, ?_⟩; (try (rw [drewN_self w13]; generalize hq_ : World.drewN w13 _ = w13; have n0_ : Aside0 (Kd.V (Kd.int .u8) 5 w13 w.heap.size (fun k_ => (P0_0_ k_ ∨ w.heap.size ≤ k_) ∧ k_ ≠ gb340 ∧ k_ ≠ gb341) (.slice A0_0 l0_0.length c0_0) l0_0) := ⟨by rw [← hq_]; exact (by (with_reducible repeat (first | apply Kd.V_alloc | apply Kd.V_drewN | apply Kd.V_drew)); exact Kd.V_mono HO0_0.out (fun _ hk => ⟨hk.1.1, ⟨hk.1.2, hk.2⟩⟩))⟩; have n1_ : Aside0 (w13.heap[gb340]? = some (.cells #[.slice A0_0 l0_0.length c0_0, .bool false] 60 (0, 0))) := ⟨by rw [← hq_]; exact (bl_ BK340.out)⟩; have n2_ : Aside0 (w13.heap[gb341]? = some (.cells #[.slice none 0 0, .bool false] 60 (0, 0))) := ⟨by rw [← hq_]; exact (bl_ BK341.out)⟩; have n3_ : Aside0 (Below w.heap.size w w13) := ⟨by rw [← hq_]; exact (bw_ HB.out)⟩; clear HO0_0 BK340 BK341 HB hq_; have HO0_0 := n0_; have BK340 := n1_; have BK341 := n2_; have HB := n3_; clear n0_ n1_ n2_ n3_)); (try have hcz15_0 : w13.cell? ⟨gb340, 0, none⟩ = some (.slice A0_0 l0_0.length c0_0) := (qkc BK340.out 0).trans rfl); (try have hcz15_1 : w13.cell? ⟨gb340, 1, none⟩ = some (.bool false) := (qkc BK340.out 1).trans rfl); (try have hfz15_0 := qkf BK340.out 0); (try have hfz15_1 := qkf BK340.out 1); have q16 : (t343 : Int) ≤ ((l0_0.length : Int) : Int) := ode_; obtain ⟨i016, hi016, _, hsz16, _⟩ := info_parts info5; have hroom16 : l0_0.length ≤ c0_0 := (Kd.V_reads' HO0_0.out).2.1; have hC16 : Kd.F (Kd.int .u8) _ _ A0_0 l0_0.length l0_0 := (Kd.V_at (base := w.heap.size) HO0_0.out).2.2; have q016 : (0 : Int) ≤ (t343 : Int) := ode_; have hcut16 := cut_from (P := Tryd.prog) 25 5 .i64 Tryd.underlying25 hi016 1 hsz16 A0_0 l0_0.length c0_0 t343 q016 q16; have hr16 := Kd.F_cut (m := (t343 : Int).toNat) (c := c0_0) hC16 (by omega) hroom16; obtain ⟨A16, hA16⟩ : ∃ A1, A1 = (if c0_0 = (t343 : Int).toNat then A0_0 else (A0_0 : Option Addr).map (·.add ((t343 : Int).toNat * 1))) := ⟨_, rfl⟩; obtain ⟨c16, hc16⟩ : ∃ c1, c1 = c0_0 - (t343 : Int).toNat := ⟨_, rfl⟩; have hy16 : y345.length = l0_0.length - (t343 : Int).toNat := (by rw [Ny345.out, List.length_drop] <;> omega); rw [show (l0_0).drop (t343 : Int).toNat = y345 from Ny345.out.symm] at hr16; replace hr16 : Kd.F (Kd.int .u8) _ _ A16 y345.length y345 := (by rw [hA16]; exact hr16); rw [← hy16, ← hA16, ← hc16] at hcut16; have HO349 := Aside0.mk (show Kd.V (Kd.int .u8) 5 _ w.heap.size _ (.slice A16 y345.length c16) y345 from Kd.V_mk (by rw [hy16, hc16]; exact Nat.sub_le_sub_right hroom16 _) hr16); have HC349 := Aside0.mk (show y345.length ≤ c16 from by rw [hy16, hc16]; exact Nat.sub_le_sub_right hroom16 _); clear hr16 hC16 hroom16 hi016 hsz16 hc16; have KY16 := Aside0.mk hy16; have KA16 := Aside0.mk hA16; clear hy16 hA16; replace q16 := eq_true q16; have hcz17_0 : w13.cell? ⟨gb341, 0, none⟩ = some (.slice none 0 0) := (qkc BK341.out 0).trans rfl; have hcz17_1 : w13.cell? ⟨gb341, 1, none⟩ = some (.bool false) := (qkc BK341.out 1).trans rfl; have hfz17_0 := qkf BK341.out 0; have hfz17_1 := qkf BK341.out 1))
  refine bodyPost_ret (results_ct rfl _ _ gb341 60 #[.slice A16 y345.length c16, .bool false] (0, 0) _ rfl (by (with_reducible repeat (first | refine qkN ?_ _ | refine qkd ?_ | refine qka ?_ _)); refine qkp (cs := #[.slice A16 y345.length c16, .bool false]) ?_ 1 _ rfl; (with_reducible repeat (first | refine qkN ?_ _ | refine qkd ?_ | refine qka ?_ _)); refine qkp (cs := #[.slice none 0 0, .bool false]) ?_ 0 _ rfl; (with_reducible repeat (first | refine qkN ?_ _ | refine qkd ?_ | refine qka ?_ _)); exact BK341.out) Tryd.underlying60 rfl (by kernel_rfl)) rfl ?_
  exact ⟨_, by first | rfl | (simp [errW_none, errW_some] <;> rfl) | (simp [*, errW_none, errW_some] <;> rfl), by (with_reducible repeat (first | apply Kd.V_alloc | apply Kd.V_drewN | apply Kd.V_drew)); exact Kd.V_mono (Kd.V_far (p := ⟨gb341, 1, none⟩) (Kd.V_far (p := ⟨gb341, 0, none⟩) (Kd.V_mono HO349.out (fun k_ hk => (⟨hk, hk.2.2⟩ : _ ∧ k_ ≠ gb341))) (fun _ hk => hk.2) (.slice A16 y345.length c16)) (fun _ hk => hk.2) (.bool false)) (fun _ hk => hk.1.1), bw_ HB.out⟩
 rw [if_neg c9] at H
 have c9b0 : (t344 == 0) = false := beq_eq_false_iff_ne.mpr c9
 have c9b1 : (t344 != 0) = true := bne_iff_ne.mpr c9
 simp only [Option.some.injEq, Prod.mk.injEq] at H
 obtain ⟨rfl, rfl, rfl⟩ := H
 go_enter Tryd.func23, Tryd.ntmps23
 go_wp2_with (first | ((with_reducible refine qgd (N := 1) rfl ?_); refine qbe ?hg (N := 1) ?hd (cs := #[.slice A0_0 l0_0.length c0_0, .bool false]) (t := 60) ?hr ?_; (case hd => rfl); (case hg => rfl); (case hr => first | (go_simp; done) | (go_simp; rfl)); intro gb340 hg w18 hbox hb; have n0_ := Aside0.mk (Kd.V_below (Kd.V_elderB (kV_ HO0_0.out) gb340 (Nat.le_of_eq hg.symm)) hb); have n1_ := Aside0.mk (below_step (bw_ HB.out) hb); have n2_ := Aside0.mk (hbox); have n3_ := Aside0.mk ((by rw [hg]; exact (qbz (bw_ HB.out)) : w.heap.size ≤ gb340)); have n4_ := Aside0.mk ((by rw [hg]; exact (qbz (bw_ HB.out)) : w.heap.size ≤ gb340)); clear HO0_0; clear HB; have HO0_0 := n0_; have HB := n1_; have BK340 := n2_; have GW340 := n3_; have GE340 := n4_; clear n0_ n1_ n2_ n3_ n4_; clear hb hbox hg) | ((with_reducible refine qgd (N := 2) rfl ?_); refine qbe ?hg (N := 2) ?hd (cs := #[.slice none 0 0, .bool false]) (t := 60) ?hr ?_; (case hd => rfl); (case hg => rfl); (case hr => first | (go_simp; done) | (go_simp; rfl)); intro gb341 hg w19 hbox hb; have n0_ := Aside0.mk (Kd.V_below (Kd.V_elderB (kV_ HO0_0.out) gb341 (Nat.le_of_eq hg.symm)) hb); have n1_ := Aside0.mk (qkb (g := gb340) (o := .cells #[.slice A0_0 l0_0.length c0_0, .bool false] 60 (0, 0)) (bl_ BK340.out) hb); have n2_ := Aside0.mk (below_step (bw_ HB.out) hb); have n3_ := Aside0.mk (hbox); have n4_ := Aside0.mk ((by rw [hg]; exact (qbz (bw_ HB.out)) : w.heap.size ≤ gb341)); have n5_ := Aside0.mk ((by rw [hg]; exact (qbz (bw_ HB.out)) : w.heap.size ≤ gb341)); have n6_ := Aside0.mk ((by rw [hg]; exact Nat.ne_of_lt (blk_lt (g := gb340) (o := .cells #[.slice A0_0 l0_0.length c0_0, .bool false] 60 (0, 0)) (bl_ BK340.out)) : gb340 ≠ gb341)); have n7_ := Aside0.mk ((by rw [hg]; exact Nat.ne_of_gt (blk_lt (g := gb340) (o := .cells #[.slice A0_0 l0_0.length c0_0, .bool false] 60 (0, 0)) (bl_ BK340.out)) : gb341 ≠ gb340)); clear HO0_0; clear BK340; clear HB; have HO0_0 := n0_; have BK340 := n1_; have HB := n2_; have BK341 := n3_; have GW341 := n4_; have GE341 := n5_; have NB340_341 := n6_; have NB341_340 := n7_; clear n0_ n1_ n2_ n3_ n4_ n5_ n6_ n7_; clear hb hbox hg; have hnb20 := NB340_341.out; have hnc20 := NB341_340.out; have hcz21_0 : w19.cell? ⟨gb340, 0, none⟩ = some (.slice A0_0 l0_0.length c0_0) := (qkc BK340.out 0).trans rfl; have hcz21_1 : w19.cell? ⟨gb340, 1, none⟩ = some (.bool false) := (qkc BK340.out 1).trans rfl; have hfz21_0 := qkf BK340.out 0; have hfz21_1 := qkf BK340.out 1) | ((with_reducible refine qgc (f := 39) rfl ?_); refine goesL_ (some 13) rfl rfl Tryd.func39 (by kernel_rfl) rfl #[.slice A0_0 l0_0.length c0_0, .int .i64 (l0_0.length : Int)] rfl (by (try simp only [List.map_toArray, List.map_cons, List.map_nil]); first | done | rfl | (simp only [List.length_drop, List.length_take]; rfl)) ?_; (with_reducible refine (barbicanref03_Text.calls k _ _ l0_0 (l0_0.length : Int) t342 t343 t344 _ ?side1 ?side2 A2.out).mono ?_); (case side1 => repeat (first | exact (Kd.V_reads' HO0_0.out).2.2 | (with_reducible refine Kd.C_alloc ?_ _) | (with_reducible refine Kd.C_drewN ?_ _) | (with_reducible refine Kd.C_drew ?_))); (case side2 => exact (Kd.V_reads' HO0_0.out).2.1); rintro e w' ⟨rfl, ⟨nd, rfl⟩⟩; refine ⟨_, rfl, ?_⟩; (try (rw [drewN_self w19]; generalize hq_ : World.drewN w19 _ = w19; have n0_ : Aside0 (Kd.V (Kd.int .u8) 5 w19 w.heap.size (fun k_ => (P0_0_ k_ ∨ w.heap.size ≤ k_) ∧ k_ ≠ gb340 ∧ k_ ≠ gb341) (.slice A0_0 l0_0.length c0_0) l0_0) := ⟨by rw [← hq_]; exact (by (with_reducible repeat (first | apply Kd.V_alloc | apply Kd.V_drewN | apply Kd.V_drew)); exact Kd.V_mono HO0_0.out (fun _ hk => ⟨hk.1.1, ⟨hk.1.2, hk.2⟩⟩))⟩; have n1_ : Aside0 (w19.heap[gb340]? = some (.cells #[.slice A0_0 l0_0.length c0_0, .bool false] 60 (0, 0))) := ⟨by rw [← hq_]; exact (bl_ BK340.out)⟩; have n2_ : Aside0 (w19.heap[gb341]? = some (.cells #[.slice none 0 0, .bool false] 60 (0, 0))) := ⟨by rw [← hq_]; exact (bl_ BK341.out)⟩; have n3_ : Aside0 (Below w.heap.size w w19) := ⟨by rw [← hq_]; exact (bw_ HB.out)⟩; clear HO0_0 BK340 BK341 HB hq_; have HO0_0 := n0_; have BK340 := n1_; have BK341 := n2_; have HB := n3_; clear n0_ n1_ n2_ n3_)); (try have hcz21_0 : w19.cell? ⟨gb340, 0, none⟩ = some (.slice A0_0 l0_0.length c0_0) := (qkc BK340.out 0).trans rfl); (try have hcz21_1 : w19.cell? ⟨gb340, 1, none⟩ = some (.bool false) := (qkc BK340.out 1).trans rfl); (try have hfz21_0 := qkf BK340.out 0); (try have hfz21_1 := qkf BK340.out 1); have hcz22_0 : w19.cell? ⟨gb341, 0, none⟩ = some (.slice none 0 0) := (qkc BK341.out 0).trans rfl; have hcz22_1 : w19.cell? ⟨gb341, 1, none⟩ = some (.bool false) := (qkc BK341.out 1).trans rfl; have hfz22_0 := qkf BK341.out 0; have hfz22_1 := qkf BK341.out 1))
 refine bodyPost_ret (results_ct rfl _ _ gb341 60 #[.slice none 0 0, .bool true] (0, 0) _ rfl (by (with_reducible repeat (first | refine qkN ?_ _ | refine qkd ?_ | refine qka ?_ _)); refine qkp (cs := #[.slice none 0 0, .bool false]) ?_ 1 _ rfl; (with_reducible repeat (first | refine qkN ?_ _ | refine qkd ?_ | refine qka ?_ _)); refine qkp (cs := #[.slice none 0 0, .bool false]) ?_ 0 _ rfl; (with_reducible repeat (first | refine qkN ?_ _ | refine qkd ?_ | refine qka ?_ _)); exact BK341.out) Tryd.underlying60 rfl (by kernel_rfl)) rfl ?_
 exact ⟨_, by first | rfl | (simp [errW_none, errW_some] <;> rfl) | (simp [*, errW_none, errW_some] <;> rfl), Kd.V_nil _ _ _ _ _, bw_ HB.out⟩

end Go.Proofs.YtddkbhglbkfelaaDoor.E
