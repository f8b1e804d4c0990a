import Derived.Test.YtljadejgdbemoaaDoorPyRx0
namespace Go.Proofs.YtljadejgdbemoaaDoor.R
open Go.RowKit Go.Proofs.YtljadejgdbemoaaDoorW.PrintWords Go.Proofs.YtljadejgdbemoaaDoorW.PrintLast Go.Proofs.YtljadejgdbemoaaDoorW.PrintMore Go.Proofs.YtljadejgdbemoaaDoorX
attribute [local go_sem] max2_int min2_int max_two min_two max_three min_three max_four min_four
set_option linter.unusedVariables false
set_option linter.unusedSimpArgs false

/-! ### barbicanref03_Uint: function 75 -/
mutual
def barbicanref03_Uint.j1 : Nat → List Int → Int → Option (Int × Int × Int)
 | 0, _, _ => none
 | k + 1, x0, x5 => if x5 = 10 then (some (0, 0, 3)) else (if x5 = (x0.length : Int) then (some (0, 0, 12)) else (if x5 = 9 then (if 0 ≤ x5 then (if x5 < (x0.length : Int) then (if (rd x0 x5) > 1 then (some (0, 0, 3)) else (if x5 > 0 then (if (rd x0 x5) = 0 then (some (0, 0, 3)) else (barbicanref03_Uint.j2 k x0 x5)) else (barbicanref03_Uint.j2 k x0 x5))) else (none)) else (none)) else (if x5 > 0 then (if 0 ≤ x5 then (if x5 < (x0.length : Int) then (if (rd x0 x5) = 0 then (some (0, 0, 3)) else (barbicanref03_Uint.j2 k x0 x5)) else (none)) else (none)) else (barbicanref03_Uint.j2 k x0 x5))))
def barbicanref03_Uint.j2 : Nat → List Int → Int → Option (Int × Int × Int)
 | 0, _, _ => none
 | k + 1, x0, x5 => barbicanref03_Uint.l1 k x0 x5 0 x5
def barbicanref03_Uint.l1 : Nat → List Int → Int → Int → Int → Option (Int × Int × Int)
 | 0, _, _, _, _ => none
 | k + 1, x0, x5, x6, x7 => if x7 ≥ 0 then (if 0 ≤ x7 then (if x7 < (x0.length : Int) then (barbicanref03_Uint.l1 k x0 x5 (IntKind.u64.wrap ((IntKind.u64.wrap (x6 * 128)) + (IntKind.u64.wrap (Int.tmod (rd x0 x7) 128)))) (wrap64 (x7 - 1))) else (none)) else (none)) else (some (x6, wrap64 (x5 + 1), 0))
def barbicanref03_Uint.l0 : Nat → List Int → Int → Option (Int × Int × Int)
 | 0, _, _ => none
 | k + 1, x0, x5 => if x5 < (x0.length : Int) then (if x5 < 10 then (if 0 ≤ x5 then (if (rd x0 x5) ≥ 128 then (barbicanref03_Uint.l0 k x0 (wrap64 (x5 + 1))) else (barbicanref03_Uint.j1 k x0 x5)) else (none)) else (barbicanref03_Uint.j1 k x0 x5)) else (barbicanref03_Uint.j1 k x0 x5)
end
def barbicanref03_Uint.f (k : Nat) (l0 : List Int) : Option (Int × Int × Int) := barbicanref03_Uint.l0 k l0 0
set_option maxHeartbeats 8000000 in
set_option maxRecDepth 100000 in
theorem barbicanref03_Uint.calls (k : Nat) (A0 : Option Addr) (c0 : Nat) (l0 : List Int) (r1 : Int) (r2 : Int) (r3 : Int) (w : World) (hr0 : Kd.C (Kd.int .u8) w A0 l0.length l0) (hc0 : l0.length ≤ c0) (h : barbicanref03_Uint.f k l0 = some (r1, r2, r3)) :
  Calls Tryd.prog 75 #[.slice A0 l0.length c0] w fun e w' => e = .returned (.tuple #[.int .u64 r1, .int .i64 r2, .int .i64 r3]) ∧ Drawn0 w w' := by
 have HR0 := Aside0.mk hr0
 have HC0 := Aside0.mk hc0
 clear hr0 hc0
 have H : (barbicanref03_Uint.l0 k l0 0) = some (r1, r2, r3) := h
 clear h
 have HC2 := Aside0.mk H
 clear H
 go_enter Tryd.func75, Tryd.ntmps75
 go_upto_block 0 with (fail)
 go_cut [5] (fun v5 wc => ∃ (kq : Nat) (x5_1 : Int), v5 = .int .i64 x5_1 ∧ Aside0 (barbicanref03_Uint.j1 kq l0 x5_1 = some (r1, r2, r3)) ∧ Aside0 (kq ≤ k) ∧ Drawn0 w wc)
 case first =>
  have H := HC2.out
  clear HC2
  have H' := Aside0.mk H
  clear H
  go_wp2
  go_loopg [5] k (fun kq v5 w' => ∃ (x5_1 : Int), v5 = .int .i64 x5_1 ∧ Aside0 (barbicanref03_Uint.l0 kq l0 x5_1 = some (r1, r2, r3)) ∧ Aside0 (kq ≤ k) ∧ Drawn0 w w')
  case atStart => exact ⟨(0), (by first | rfl | (simp; done) | (simp [*]; done)), H', ⟨Nat.le_refl _⟩, by repeat (first | exact Drawn0.refl _ | apply Drawn0.step)⟩
  case round =>
   clear H'
   try clear p2
   obtain ⟨x5_1, rfl, HA, HK1, ⟨m1, rfl⟩⟩ := hrel
   cases gk with
   | zero => exact absurd HA.out (by simp [barbicanref03_Uint.l0])
   | succ k1 =>
    have H := HA.out
    clear HA
    simp only [barbicanref03_Uint.l0] at H
    by_cases c3 : x5_1 < (l0.length : Int)
    ·rw [if_pos c3] at H
     have c3b0 : decide (x5_1 < (l0.length : Int)) = true := decide_eq_true c3
     clear c3
     (first | rw [c3b0] | (simp only [i64_w, i32_w]; rw [c3b0]) | skip)
     by_cases c4 : x5_1 < 10
     ·rw [if_pos c4] at H
      have c4b0 : decide (x5_1 < 10) = true := decide_eq_true c4
      clear c4
      by_cases c5 : 0 ≤ x5_1
      ·rw [if_pos c5] at H
       have c5b0 : decide (0 ≤ x5_1) = true := decide_eq_true c5
       clear c5
       by_cases c6 : (rd l0 x5_1) ≥ 128
       ·rw [if_pos c6] at H
        have c6b0 : decide (128 ≤ (rd l0 x5_1)) = true := decide_eq_true c6
        clear c6
        have H' := Aside0.mk H
        clear H
        have p408 : 0 ≤ (x5_1 : Int) := ode_
        have q408 : x5_1 < (l0.length : Int) := ode_
        obtain ⟨ad408, e408, hx408_0⟩ := Kd.at_int HR0.out x5_1 p408 q408
        cases e408
        replace p408 := eq_true p408
        replace q408 := eq_true q408
        go_wp2
        go_roundg k1
        case measure => have := HK1.out; omega
        case rel => exact ⟨(wrap64 (x5_1 + 1)), (by first | rfl | (simp; done) | (simp [*]; done)), H', ⟨by have := HK1.out; omega⟩, by repeat (first | exact Drawn0.refl _ | apply Drawn0.step)⟩
       ·rw [if_neg c6] at H
        have c6b0 : decide (128 ≤ (rd l0 x5_1)) = false := decide_eq_false c6
        clear c6
        have H' := Aside0.mk H
        clear H
        have p408 : 0 ≤ (x5_1 : Int) := ode_
        have q408 : x5_1 < (l0.length : Int) := ode_
        obtain ⟨ad408, e408, hx408_0⟩ := Kd.at_int HR0.out x5_1 p408 q408
        cases e408
        replace p408 := eq_true p408
        replace q408 := eq_true q408
        go_wp2
        refine Met.intro ?_
        go_step
        (repeat apply Exists.intro)
        refine ⟨?rel, ?frm⟩
        case frm => first | rfl | (simp only [c3b0, c4b0, c5b0, c6b0]; rfl) | (simp only [c3b0, c4b0, c5b0, c6b0]; first | done | rfl)
        case rel => exact ⟨_, (x5_1), (by first | rfl | (simp; done) | (simp [*]; done)), H', ⟨by have := HK1.out; first | omega | exact Nat.le_refl _⟩, by repeat (first | exact Drawn0.refl _ | apply Drawn0.step)⟩
      ·rw [if_neg c5] at H
       exact absurd H (by simp)
     ·rw [if_neg c4] at H
      have c4b0 : decide (x5_1 < 10) = false := decide_eq_false c4
      clear c4
      have H' := Aside0.mk H
      clear H
      go_wp2
      refine Met.intro ?_
      go_step
      (repeat apply Exists.intro)
      refine ⟨?rel, ?frm⟩
      case frm => first | rfl | (simp only [c3b0, c4b0]; rfl) | (simp only [c3b0, c4b0]; first | done | rfl)
      case rel => exact ⟨_, (x5_1), (by first | rfl | (simp; done) | (simp [*]; done)), H', ⟨by have := HK1.out; first | omega | exact Nat.le_refl _⟩, by repeat (first | exact Drawn0.refl _ | apply Drawn0.step)⟩
    ·rw [if_neg c3] at H
     have c3b0 : decide (x5_1 < (l0.length : Int)) = false := decide_eq_false c3
     clear c3
     (first | rw [c3b0] | (simp only [i64_w, i32_w]; rw [c3b0]) | skip)
     have H' := Aside0.mk H
     clear H
     go_wp2
     refine Met.intro ?_
     go_step
     (repeat apply Exists.intro)
     refine ⟨?rel, ?frm⟩
     case frm => first | rfl | (simp only [c3b0]; rfl) | (simp only [c3b0]; first | done | rfl)
     case rel => exact ⟨_, (x5_1), (by first | rfl | (simp; done) | (simp [*]; done)), H', ⟨by have := HK1.out; first | omega | exact Nat.le_refl _⟩, by repeat (first | exact Drawn0.refl _ | apply Drawn0.step)⟩
 case rest =>
  clear HC2
  try clear p2
  try clear c3
  try clear c3b0
  try clear c4
  try clear c4b0
  try clear p4
  try clear q4
  try clear hx4
  try clear c5
  try clear c5b0
  try clear c6
  try clear c6b0
  try clear p6
  try clear hx408_0
  try clear p2
  try clear p408
  try clear q408
  obtain ⟨kq, x5_1, rfl, HA, HJ1, ⟨mc1, rfl⟩⟩ := hcut
  cases kq with
  | zero => exact absurd HA.out (by simp [barbicanref03_Uint.j1])
  | succ kj1 =>
   have H := HA.out
   clear HA
   simp only [barbicanref03_Uint.j1] at H
   have HC7 := Aside0.mk H
   clear H
   go_upto_block 2 with (fail)
   go_cut [] (fun wc => ∃ (kq : Nat), Aside0 (barbicanref03_Uint.j2 kq l0 x5_1 = some (r1, r2, r3)) ∧ Aside0 (kq ≤ kj1) ∧ Drawn0 w wc)
   case first =>
    have H := HC7.out
    clear HC7
    by_cases c8 : x5_1 = 10
    ·rw [if_pos c8] at H
     have c8b0 : (x5_1 == 10) = true := beq_iff_eq.mpr c8
     have c8b1 : (x5_1 != 10) = false := bne_eq_false_iff_eq.mpr c8
     clear c8
     (first | rw [c8b0] | (simp only [i64_w, i32_w]; rw [c8b0]) | skip)
     simp only [Option.some.injEq, Prod.mk.injEq] at H
     obtain ⟨rfl, rfl, rfl⟩ := H
     go_wp2
     go_ret3
     exact ⟨by first | rfl | (simp; done) | (simp [*]; done), by repeat (first | exact Drawn0.refl _ | apply Drawn0.step)⟩
    ·rw [if_neg c8] at H
     have c8b0 : (x5_1 == 10) = false := beq_eq_false_iff_ne.mpr c8
     have c8b1 : (x5_1 != 10) = true := bne_iff_ne.mpr c8
     (first | rw [c8b0] | (simp only [i64_w, i32_w]; rw [c8b0]) | skip)
     by_cases c9 : x5_1 = (l0.length : Int)
     ·rw [if_pos c9] at H
      have c9b0 : (x5_1 == (l0.length : Int)) = true := beq_iff_eq.mpr c9
      have c9b1 : (x5_1 != (l0.length : Int)) = false := bne_eq_false_iff_eq.mpr c9
      clear c9
      simp only [Option.some.injEq, Prod.mk.injEq] at H
      obtain ⟨rfl, rfl, rfl⟩ := H
      go_wp2
      go_ret3
      exact ⟨by first | rfl | (simp; done) | (simp [*]; done), by repeat (first | exact Drawn0.refl _ | apply Drawn0.step)⟩
     ·rw [if_neg c9] at H
      have c9b0 : (x5_1 == (l0.length : Int)) = false := beq_eq_false_iff_ne.mpr c9
      have c9b1 : (x5_1 != (l0.length : Int)) = true := bne_iff_ne.mpr c9
      by_cases c10 : x5_1 = 9
      ·rw [if_pos c10] at H
       have c10b0 : (x5_1 == 9) = true := beq_iff_eq.mpr c10
       have c10b1 : (x5_1 != 9) = false := bne_eq_false_iff_eq.mpr c10
       clear c10
       by_cases c11 : 0 ≤ x5_1
       ·rw [if_pos c11] at H
        have c11b0 : decide (0 ≤ x5_1) = true := decide_eq_true c11
        clear c11
        by_cases c12 : x5_1 < (l0.length : Int)
        ·rw [if_pos c12] at H
         have c12b0 : decide (x5_1 < (l0.length : Int)) = true := decide_eq_true c12
         clear c12
         by_cases c13 : (rd l0 x5_1) > 1
         ·rw [if_pos c13] at H
          have c13b0 : decide (1 < (rd l0 x5_1)) = true := decide_eq_true c13
          clear c13
          simp only [Option.some.injEq, Prod.mk.injEq] at H
          obtain ⟨rfl, rfl, rfl⟩ := H
          have p409 : 0 ≤ (x5_1 : Int) := ode_
          have q409 : x5_1 < (l0.length : Int) := ode_
          obtain ⟨ad409, e409, hx409_0⟩ := Kd.at_int HR0.out x5_1 p409 q409
          cases e409
          replace p409 := eq_true p409
          replace q409 := eq_true q409
          go_wp2
          go_ret3
          exact ⟨by first | rfl | (simp; done) | (simp [*]; done), by repeat (first | exact Drawn0.refl _ | apply Drawn0.step)⟩
         ·rw [if_neg c13] at H
          have c13b0 : decide (1 < (rd l0 x5_1)) = false := decide_eq_false c13
          clear c13
          by_cases c14 : x5_1 > 0
          ·rw [if_pos c14] at H
           have c14b0 : decide (0 < x5_1) = true := decide_eq_true c14
           clear c14
           by_cases c15 : (rd l0 x5_1) = 0
           ·rw [if_pos c15] at H
            have c15b0 : ((rd l0 x5_1) == 0) = true := beq_iff_eq.mpr c15
            have c15b1 : ((rd l0 x5_1) != 0) = false := bne_eq_false_iff_eq.mpr c15
            clear c15
            simp only [Option.some.injEq, Prod.mk.injEq] at H
            obtain ⟨rfl, rfl, rfl⟩ := H
            have p409 : 0 ≤ (x5_1 : Int) := ode_
            have q409 : x5_1 < (l0.length : Int) := ode_
            obtain ⟨ad409, e409, hx409_0⟩ := Kd.at_int HR0.out x5_1 p409 q409
            cases e409
            replace p409 := eq_true p409
            replace q409 := eq_true q409
            have p410 : 0 ≤ (x5_1 : Int) := ode_
            have q410 : x5_1 < (l0.length : Int) := ode_
            obtain ⟨ad410, e410, hx410_0⟩ := Kd.at_int HR0.out x5_1 p410 q410
            obtain rfl : ad409 = ad410 := (by injection e410)
            replace p410 := eq_true p410
            replace q410 := eq_true q410
            go_wp2
            go_ret3
            exact ⟨by first | rfl | (simp; done) | (simp [*]; done), by repeat (first | exact Drawn0.refl _ | apply Drawn0.step)⟩
           ·rw [if_neg c15] at H
            have c15b0 : ((rd l0 x5_1) == 0) = false := beq_eq_false_iff_ne.mpr c15
            have c15b1 : ((rd l0 x5_1) != 0) = true := bne_iff_ne.mpr c15
            have H' := Aside0.mk H
            clear H
            have p409 : 0 ≤ (x5_1 : Int) := ode_
            have q409 : x5_1 < (l0.length : Int) := ode_
            obtain ⟨ad409, e409, hx409_0⟩ := Kd.at_int HR0.out x5_1 p409 q409
            cases e409
            replace p409 := eq_true p409
            replace q409 := eq_true q409
            have p410 : 0 ≤ (x5_1 : Int) := ode_
            have q410 : x5_1 < (l0.length : Int) := ode_
            obtain ⟨ad410, e410, hx410_0⟩ := Kd.at_int HR0.out x5_1 p410 q410
            obtain rfl : ad409 = ad410 := (by injection e410)
            replace p410 := eq_true p410
            replace q410 := eq_true q410
            go_wp2
            refine Met.intro ?_
            go_step
            (repeat apply Exists.intro)
            refine ⟨?rel, ?frm⟩
            case frm => first | rfl | (simp only [c8b0, c8b1, c9b0, c9b1, c10b0, c10b1, c11b0, c12b0, c13b0, c14b0, c15b0, c15b1]; rfl) | (simp only [c8b0, c8b1, c9b0, c9b1, c10b0, c10b1, c11b0, c12b0, c13b0, c14b0, c15b0, c15b1]; first | done | rfl)
            case rel => exact ⟨_, H', ⟨by have := HJ1.out; first | omega | exact Nat.le_refl _⟩, by repeat (first | exact Drawn0.refl _ | apply Drawn0.step)⟩
          ·rw [if_neg c14] at H
           have c14b0 : decide (0 < x5_1) = false := decide_eq_false c14
           clear c14
           have H' := Aside0.mk H
           clear H
           have p409 : 0 ≤ (x5_1 : Int) := ode_
           have q409 : x5_1 < (l0.length : Int) := ode_
           obtain ⟨ad409, e409, hx409_0⟩ := Kd.at_int HR0.out x5_1 p409 q409
           cases e409
           replace p409 := eq_true p409
           replace q409 := eq_true q409
           go_wp2
           refine Met.intro ?_
           go_step
           (repeat apply Exists.intro)
           refine ⟨?rel, ?frm⟩
           case frm => first | rfl | (simp only [c8b0, c8b1, c9b0, c9b1, c10b0, c10b1, c11b0, c12b0, c13b0, c14b0]; rfl) | (simp only [c8b0, c8b1, c9b0, c9b1, c10b0, c10b1, c11b0, c12b0, c13b0, c14b0]; first | done | rfl)
           case rel => exact ⟨_, H', ⟨by have := HJ1.out; first | omega | exact Nat.le_refl _⟩, by repeat (first | exact Drawn0.refl _ | apply Drawn0.step)⟩
        ·rw [if_neg c12] at H
         exact absurd H (by simp)
       ·rw [if_neg c11] at H
        exact absurd H (by simp)
      ·rw [if_neg c10] at H
       have c10b0 : (x5_1 == 9) = false := beq_eq_false_iff_ne.mpr c10
       have c10b1 : (x5_1 != 9) = true := bne_iff_ne.mpr c10
       by_cases c16 : x5_1 > 0
       ·rw [if_pos c16] at H
        have c16b0 : decide (0 < x5_1) = true := decide_eq_true c16
        clear c16
        by_cases c17 : 0 ≤ x5_1
        ·rw [if_pos c17] at H
         have c17b0 : decide (0 ≤ x5_1) = true := decide_eq_true c17
         clear c17
         by_cases c18 : x5_1 < (l0.length : Int)
         ·rw [if_pos c18] at H
          have c18b0 : decide (x5_1 < (l0.length : Int)) = true := decide_eq_true c18
          clear c18
          by_cases c19 : (rd l0 x5_1) = 0
          ·rw [if_pos c19] at H
           have c19b0 : ((rd l0 x5_1) == 0) = true := beq_iff_eq.mpr c19
           have c19b1 : ((rd l0 x5_1) != 0) = false := bne_eq_false_iff_eq.mpr c19
           clear c19
           simp only [Option.some.injEq, Prod.mk.injEq] at H
           obtain ⟨rfl, rfl, rfl⟩ := H
           have p411 : 0 ≤ (x5_1 : Int) := ode_
           have q411 : x5_1 < (l0.length : Int) := ode_
           obtain ⟨ad411, e411, hx411_0⟩ := Kd.at_int HR0.out x5_1 p411 q411
           cases e411
           replace p411 := eq_true p411
           replace q411 := eq_true q411
           go_wp2
           go_ret3
           exact ⟨by first | rfl | (simp; done) | (simp [*]; done), by repeat (first | exact Drawn0.refl _ | apply Drawn0.step)⟩
          ·rw [if_neg c19] at H
           have c19b0 : ((rd l0 x5_1) == 0) = false := beq_eq_false_iff_ne.mpr c19
           have c19b1 : ((rd l0 x5_1) != 0) = true := bne_iff_ne.mpr c19
           have H' := Aside0.mk H
           clear H
           have p411 : 0 ≤ (x5_1 : Int) := ode_
           have q411 : x5_1 < (l0.length : Int) := ode_
           obtain ⟨ad411, e411, hx411_0⟩ := Kd.at_int HR0.out x5_1 p411 q411
           cases e411
           replace p411 := eq_true p411
           replace q411 := eq_true q411
           go_wp2
           refine Met.intro ?_
           go_step
           (repeat apply Exists.intro)
           refine ⟨?rel, ?frm⟩
           case frm => first | rfl | (simp only [c8b0, c8b1, c9b0, c9b1, c10b0, c10b1, c16b0, c17b0, c18b0, c19b0, c19b1]; rfl) | (simp only [c8b0, c8b1, c9b0, c9b1, c10b0, c10b1, c16b0, c17b0, c18b0, c19b0, c19b1]; first | done | rfl)
           case rel => exact ⟨_, H', ⟨by have := HJ1.out; first | omega | exact Nat.le_refl _⟩, by repeat (first | exact Drawn0.refl _ | apply Drawn0.step)⟩
         ·rw [if_neg c18] at H
          exact absurd H (by simp)
        ·rw [if_neg c17] at H
         exact absurd H (by simp)
       ·rw [if_neg c16] at H
        have c16b0 : decide (0 < x5_1) = false := decide_eq_false c16
        clear c16
        have H' := Aside0.mk H
        clear H
        go_wp2
        refine Met.intro ?_
        go_step
        (repeat apply Exists.intro)
        refine ⟨?rel, ?frm⟩
        case frm => first | rfl | (simp only [c8b0, c8b1, c9b0, c9b1, c10b0, c10b1, c16b0]; rfl) | (simp only [c8b0, c8b1, c9b0, c9b1, c10b0, c10b1, c16b0]; first | done | rfl)
        case rel => exact ⟨_, H', ⟨by have := HJ1.out; first | omega | exact Nat.le_refl _⟩, by repeat (first | exact Drawn0.refl _ | apply Drawn0.step)⟩
   case rest =>
    clear HC7
    try clear c1
    try clear p2
    try clear c3
    try clear c3b0
    try clear c4
    try clear c4b0
    try clear p4
    try clear q4
    try clear hx4
    try clear c5
    try clear c5b0
    try clear c6
    try clear c6b0
    try clear p6
    try clear c7
    try clear c8
    try clear c8b0
    try clear c8b1
    try clear c9
    try clear c9b0
    try clear c9b1
    try clear c10
    try clear c10b0
    try clear c10b1
    try clear c11
    try clear c11b0
    try clear c12
    try clear c12b0
    try clear c13
    try clear c13b0
    try clear c14
    try clear c14b0
    try clear c15
    try clear c15b0
    try clear c15b1
    try clear c16
    try clear c16b0
    try clear c17
    try clear c17b0
    try clear c18
    try clear c18b0
    try clear c19
    try clear c19b0
    try clear c19b1
    try clear hx408_0
    try clear hx409_0
    try clear hx410_0
    try clear hx411_0
    try clear p2
    try clear p4
    try clear p408
    try clear p409
    try clear p410
    try clear p411
    try clear p6
    try clear q4
    try clear q408
    try clear q409
    try clear q410
    try clear q411
    obtain ⟨kq, HA, HJ6, ⟨mc6, rfl⟩⟩ := hcut
    cases kq with
    | zero => exact absurd HA.out (by simp [barbicanref03_Uint.j2])
    | succ kj6 =>
     have H := HA.out
     clear HA
     simp only [barbicanref03_Uint.j2] at H
     have H' := Aside0.mk H
     clear H
     go_wp2
     go_loopg [6, 7] kj6 (fun kq v6 v7 w' => ∃ (x6_3 : Int) (x7_3 : Int), v6 = .int .u64 x6_3 ∧ v7 = .int .i64 x7_3 ∧ Aside0 (barbicanref03_Uint.l1 kq l0 x5_1 x6_3 x7_3 = some (r1, r2, r3)) ∧ Aside0 (kq ≤ kj6) ∧ Drawn0 w w')
     case atStart => exact ⟨(0), (x5_1), (by first | rfl | (simp; done) | (simp [*]; done)), (by first | rfl | (simp; done) | (simp [*]; done)), H', ⟨Nat.le_refl _⟩, by repeat (first | exact Drawn0.refl _ | apply Drawn0.step)⟩
     case round =>
      clear H'
      try clear c1
      try clear p2
      try clear c3
      try clear c3b0
      try clear c4
      try clear c4b0
      try clear p4
      try clear q4
      try clear hx4
      try clear c5
      try clear c5b0
      try clear c6
      try clear c6b0
      try clear p6
      try clear c7
      try clear c8
      try clear c8b0
      try clear c8b1
      try clear c9
      try clear c9b0
      try clear c9b1
      try clear c10
      try clear c10b0
      try clear c10b1
      try clear c11
      try clear c11b0
      try clear c12
      try clear c12b0
      try clear c13
      try clear c13b0
      try clear c14
      try clear c14b0
      try clear c15
      try clear c15b0
      try clear c15b1
      try clear c16
      try clear c16b0
      try clear c17
      try clear c17b0
      try clear c18
      try clear c18b0
      try clear c19
      try clear c19b0
      try clear c19b1
      try clear hx408_0
      try clear hx409_0
      try clear hx410_0
      try clear hx411_0
      try clear p2
      try clear p4
      try clear p408
      try clear p409
      try clear p410
      try clear p411
      try clear p6
      try clear q4
      try clear q408
      try clear q409
      try clear q410
      try clear q411
      obtain ⟨x6_3, x7_3, rfl, rfl, HA, HK3, ⟨m3, rfl⟩⟩ := hrel
      cases gk with
      | zero => exact absurd HA.out (by simp [barbicanref03_Uint.l1])
      | succ k3 =>
       have H := HA.out
       clear HA
       simp only [barbicanref03_Uint.l1] at H
       by_cases c20 : x7_3 ≥ 0
       ·rw [if_pos c20] at H
        have c20b0 : decide (0 ≤ x7_3) = true := decide_eq_true c20
        clear c20
        by_cases c21 : 0 ≤ x7_3
        ·rw [if_pos c21] at H
         have c21b0 : decide (0 ≤ x7_3) = true := decide_eq_true c21
         clear c21
         by_cases c22 : x7_3 < (l0.length : Int)
         ·rw [if_pos c22] at H
          have c22b0 : decide (x7_3 < (l0.length : Int)) = true := decide_eq_true c22
          clear c22
          have H' := Aside0.mk H
          clear H
          have p412 : 0 ≤ (x7_3 : Int) := ode_
          have q412 : x7_3 < (l0.length : Int) := ode_
          obtain ⟨ad412, e412, hx412_0⟩ := Kd.at_int HR0.out x7_3 p412 q412
          cases e412
          replace p412 := eq_true p412
          replace q412 := eq_true q412
          go_wp2
          go_roundg k3
          case measure => have := HJ1.out; have := HJ6.out; have := HK3.out; omega
          case rel => exact ⟨(IntKind.u64.wrap ((IntKind.u64.wrap (x6_3 * 128)) + (IntKind.u64.wrap (Int.tmod (rd l0 x7_3) 128)))), (wrap64 (x7_3 - 1)), (by first | rfl | (simp; done) | (simp [*]; done)), (by first | rfl | (simp; done) | (simp [*]; done)), H', ⟨by have := HJ1.out; have := HJ6.out; have := HK3.out; omega⟩, by repeat (first | exact Drawn0.refl _ | apply Drawn0.step)⟩
         ·rw [if_neg c22] at H
          exact absurd H (by simp)
        ·rw [if_neg c21] at H
         exact absurd H (by simp)
       ·rw [if_neg c20] at H
        have c20b0 : decide (0 ≤ x7_3) = false := decide_eq_false c20
        clear c20
        simp only [Option.some.injEq, Prod.mk.injEq] at H
        obtain ⟨rfl, rfl, rfl⟩ := H
        go_wp2
        go_ret3
        exact ⟨by first | rfl | (simp; done) | (simp [*]; done), by repeat (first | exact Drawn0.refl _ | apply Drawn0.step)⟩

/-! ### barbicanref03_Int: function 44 -/
def barbicanref03_Int.f (k : Nat) (l0 : List Int) : Option (Int × Int × Int) := (barbicanref03_Uint.f k l0).bind fun bt413 => (if (Int.tmod bt413.1 2) = 1 then (some (wrap64 ((wrap64 (-(wrap64 (IntKind.u64.wrap (Int.tdiv bt413.1 2))))) - 1), bt413.2.1, bt413.2.2)) else (some (wrap64 (IntKind.u64.wrap (Int.tdiv bt413.1 2)), bt413.2.1, bt413.2.2)))
set_option maxHeartbeats 8000000 in
set_option maxRecDepth 100000 in
theorem barbicanref03_Int.calls (k : Nat) (A0 : Option Addr) (c0 : Nat) (l0 : List Int) (r1 : Int) (r2 : Int) (r3 : Int) (w : World) (hr0 : Kd.C (Kd.int .u8) w A0 l0.length l0) (hc0 : l0.length ≤ c0) (h : barbicanref03_Int.f k l0 = some (r1, r2, r3)) :
  Calls Tryd.prog 44 #[.slice A0 l0.length c0] w fun e w' => e = .returned (.tuple #[.int .i64 r1, .int .i64 r2, .int .i64 r3]) ∧ Drawn0 w w' := by
 have HR0 := Aside0.mk hr0
 have HC0 := Aside0.mk hc0
 clear hr0 hc0
 have H : ((barbicanref03_Uint.f k l0).bind fun bt413 => (if (Int.tmod bt413.1 2) = 1 then (some (wrap64 ((wrap64 (-(wrap64 (IntKind.u64.wrap (Int.tdiv bt413.1 2))))) - 1), bt413.2.1, bt413.2.2)) else (some (wrap64 (IntKind.u64.wrap (Int.tdiv bt413.1 2)), bt413.2.1, bt413.2.2)))) = some (r1, r2, r3) := h
 clear h
 replace H := Option.bind_eq_some_iff.mp H
 obtain ⟨⟨t413, t414, t415⟩, A20, H⟩ := H
 replace H : (if (Int.tmod t413 2) = 1 then (some (wrap64 ((wrap64 (-(wrap64 (IntKind.u64.wrap (Int.tdiv t413 2))))) - 1), t414, t415)) else (some (wrap64 (IntKind.u64.wrap (Int.tdiv t413 2)), t414, t415))) = some (r1, r2, r3) := H
 have A2 := Aside0.mk A20
 clear A20
 by_cases c3 : (Int.tmod t413 2) = 1
 ·rw [if_pos c3] at H
  have c3b0 : ((Int.tmod t413 2) == 1) = true := beq_iff_eq.mpr c3
  have c3b1 : ((Int.tmod t413 2) != 1) = false := bne_eq_false_iff_eq.mpr c3
  clear c3
  simp only [Option.some.injEq, Prod.mk.injEq] at H
  obtain ⟨rfl, rfl, rfl⟩ := H
  go_enter Tryd.func44, Tryd.ntmps44
  go_wp2_with (first | ((with_reducible refine qgc (f := 75) rfl ?_); refine goesL_ (some 10) rfl rfl Tryd.func75 (by kernel_rfl) rfl #[.slice A0 l0.length c0] rfl (by (try simp only [List.map_toArray, List.map_cons, List.map_nil]); first | done | rfl | (simp only [List.length_drop, List.length_take]; rfl)) ?_; (with_reducible refine (barbicanref03_Uint.calls k _ _ l0 t413 t414 t415 _ ?side1 ?side2 A2.out).mono ?_); (case side1 => repeat (first | exact HR0.out | (with_reducible refine Kd.C_alloc ?_ _) | (with_reducible refine Kd.C_drewN ?_ _) | (with_reducible refine Kd.C_drew ?_))); (case side2 => exact HC0.out); rintro e w' ⟨rfl, ⟨nd, rfl⟩⟩; refine ⟨_, rfl, ?_⟩))
  go_ret3
  exact ⟨by first | rfl | (simp; done) | (simp [*]; done), by repeat (first | exact Drawn0.refl _ | apply Drawn0.step)⟩
 ·rw [if_neg c3] at H
  have c3b0 : ((Int.tmod t413 2) == 1) = false := beq_eq_false_iff_ne.mpr c3
  have c3b1 : ((Int.tmod t413 2) != 1) = true := bne_iff_ne.mpr c3
  simp only [Option.some.injEq, Prod.mk.injEq] at H
  obtain ⟨rfl, rfl, rfl⟩ := H
  go_enter Tryd.func44, Tryd.ntmps44
  go_wp2_with (first | ((with_reducible refine qgc (f := 75) rfl ?_); refine goesL_ (some 10) rfl rfl Tryd.func75 (by kernel_rfl) rfl #[.slice A0 l0.length c0] rfl (by (try simp only [List.map_toArray, List.map_cons, List.map_nil]); first | done | rfl | (simp only [List.length_drop, List.length_take]; rfl)) ?_; (with_reducible refine (barbicanref03_Uint.calls k _ _ l0 t413 t414 t415 _ ?side1 ?side2 A2.out).mono ?_); (case side1 => repeat (first | exact HR0.out | (with_reducible refine Kd.C_alloc ?_ _) | (with_reducible refine Kd.C_drewN ?_ _) | (with_reducible refine Kd.C_drew ?_))); (case side2 => exact HC0.out); rintro e w' ⟨rfl, ⟨nd, rfl⟩⟩; refine ⟨_, rfl, ?_⟩))
  go_ret3
  exact ⟨by first | rfl | (simp; done) | (simp [*]; done), by repeat (first | exact Drawn0.refl _ | apply Drawn0.step)⟩

/-! ### barbicanref03_Text: function 45 -/
def barbicanref03_Text.f (k : Nat) (l0 : List Int) (a1 : Int) : Option (ByteArray × Int × Int) := if a1 < 0 then (some ((⟨#[]⟩ : ByteArray), 0, 1)) else ((barbicanref03_Uint.f k l0).bind fun bt416 => (if bt416.2.2 = 0 then (if bt416.1 > (IntKind.u64.wrap (a1)) then (some ((⟨#[]⟩ : ByteArray), 0, 2)) else (if bt416.1 > (IntKind.u64.wrap (wrap64 ((l0.length : Int) - bt416.2.1))) then (some ((⟨#[]⟩ : ByteArray), 0, 12)) else (if 0 ≤ bt416.2.1 then (if bt416.2.1 ≤ (wrap64 (bt416.2.1 + (wrap64 (bt416.1)))) then (if (wrap64 (bt416.2.1 + (wrap64 (bt416.1)))) ≤ (l0.length : Int) then (some (strOfNums ((l0.take ((wrap64 (bt416.2.1 + (wrap64 (bt416.1)))) : Int).toNat).drop (bt416.2.1 : Int).toNat), wrap64 (bt416.2.1 + (wrap64 (bt416.1))), 0)) else (none)) else (none)) else (none)))) else (some ((⟨#[]⟩ : ByteArray), 0, bt416.2.2))))
set_option maxHeartbeats 8000000 in
set_option maxRecDepth 100000 in
theorem barbicanref03_Text.calls (k : Nat) (A0 : Option Addr) (c0 : Nat) (l0 : List Int) (a1 : Int) (r1 : ByteArray) (r2 : Int) (r3 : Int) (w : World) (hr0 : Kd.C (Kd.int .u8) w A0 l0.length l0) (hc0 : l0.length ≤ c0) (h : barbicanref03_Text.f k l0 a1 = some (r1, r2, r3)) :
  Calls Tryd.prog 45 #[.slice A0 l0.length c0, .int .i64 a1] w fun e w' => e = .returned (.tuple #[.string r1, .int .i64 r2, .int .i64 r3]) ∧ Drawn0 w w' := by
 have HR0 := Aside0.mk hr0
 have HC0 := Aside0.mk hc0
 clear hr0 hc0
 have H : (if a1 < 0 then (some ((⟨#[]⟩ : ByteArray), 0, 1)) else ((barbicanref03_Uint.f k l0).bind fun bt416 => (if bt416.2.2 = 0 then (if bt416.1 > (IntKind.u64.wrap (a1)) then (some ((⟨#[]⟩ : ByteArray), 0, 2)) else (if bt416.1 > (IntKind.u64.wrap (wrap64 ((l0.length : Int) - bt416.2.1))) then (some ((⟨#[]⟩ : ByteArray), 0, 12)) else (if 0 ≤ bt416.2.1 then (if bt416.2.1 ≤ (wrap64 (bt416.2.1 + (wrap64 (bt416.1)))) then (if (wrap64 (bt416.2.1 + (wrap64 (bt416.1)))) ≤ (l0.length : Int) then (some (strOfNums ((l0.take ((wrap64 (bt416.2.1 + (wrap64 (bt416.1)))) : Int).toNat).drop (bt416.2.1 : Int).toNat), wrap64 (bt416.2.1 + (wrap64 (bt416.1))), 0)) else (none)) else (none)) else (none)))) else (some ((⟨#[]⟩ : ByteArray), 0, bt416.2.2))))) = some (r1, r2, r3) := h
 clear h
 by_cases c3 : a1 < 0
 ·rw [if_pos c3] at H
  have c3b0 : decide (a1 < 0) = true := decide_eq_true c3
  clear c3
  simp only [Option.some.injEq, Prod.mk.injEq] at H
  obtain ⟨rfl, rfl, rfl⟩ := H
  go_enter Tryd.func45, Tryd.ntmps45
  go_wp2
  go_ret3
  exact ⟨by first | rfl | (simp; done) | (simp [*]; done), by repeat (first | exact Drawn0.refl _ | apply Drawn0.step)⟩
 ·rw [if_neg c3] at H
  have c3b0 : decide (a1 < 0) = false := decide_eq_false c3
  clear c3
  replace H := Option.bind_eq_some_iff.mp H
  obtain ⟨⟨t416, t417, t418⟩, A40, H⟩ := H
  replace H : (if t418 = 0 then (if t416 > (IntKind.u64.wrap (a1)) then (some ((⟨#[]⟩ : ByteArray), 0, 2)) else (if t416 > (IntKind.u64.wrap (wrap64 ((l0.length : Int) - t417))) then (some ((⟨#[]⟩ : ByteArray), 0, 12)) else (if 0 ≤ t417 then (if t417 ≤ (wrap64 (t417 + (wrap64 (t416)))) then (if (wrap64 (t417 + (wrap64 (t416)))) ≤ (l0.length : Int) then (some (strOfNums ((l0.take ((wrap64 (t417 + (wrap64 (t416)))) : Int).toNat).drop (t417 : Int).toNat), wrap64 (t417 + (wrap64 (t416))), 0)) else (none)) else (none)) else (none)))) else (some ((⟨#[]⟩ : ByteArray), 0, t418))) = some (r1, r2, r3) := H
  have A4 := Aside0.mk A40
  clear A40
  by_cases c5 : t418 = 0
  ·rw [if_pos c5] at H
   have c5b0 : (t418 == 0) = true := beq_iff_eq.mpr c5
   have c5b1 : (t418 != 0) = false := bne_eq_false_iff_eq.mpr c5
   clear c5
   by_cases c6 : t416 > (IntKind.u64.wrap (a1))
   ·rw [if_pos c6] at H
    have c6b0 : decide ((IntKind.u64.wrap (a1)) < t416) = true := decide_eq_true c6
    clear c6
    simp only [Option.some.injEq, Prod.mk.injEq] at H
    obtain ⟨rfl, rfl, rfl⟩ := H
    go_enter Tryd.func45, Tryd.ntmps45
    go_wp2_with (first | ((with_reducible refine qgc (f := 75) rfl ?_); refine goesL_ (some 14) rfl rfl Tryd.func75 (by kernel_rfl) rfl #[.slice A0 l0.length c0] rfl (by (try simp only [List.map_toArray, List.map_cons, List.map_nil]); first | done | rfl | (simp only [List.length_drop, List.length_take]; rfl)) ?_; (with_reducible refine (barbicanref03_Uint.calls k _ _ l0 t416 t417 t418 _ ?side1 ?side2 A4.out).mono ?_); (case side1 => repeat (first | exact HR0.out | (with_reducible refine Kd.C_alloc ?_ _) | (with_reducible refine Kd.C_drewN ?_ _) | (with_reducible refine Kd.C_drew ?_))); (case side2 => exact HC0.out); rintro e w' ⟨rfl, ⟨nd, rfl⟩⟩; refine ⟨_, rfl, ?_⟩))
    go_ret3
    exact ⟨by first | rfl | (simp; done) | (simp [*]; done), by repeat (first | exact Drawn0.refl _ | apply Drawn0.step)⟩
   ·rw [if_neg c6] at H
    have c6b0 : decide ((IntKind.u64.wrap (a1)) < t416) = false := decide_eq_false c6
    clear c6
    by_cases c7 : t416 > (IntKind.u64.wrap (wrap64 ((l0.length : Int) - t417)))
    ·rw [if_pos c7] at H
     have c7b0 : decide ((IntKind.u64.wrap (wrap64 ((l0.length : Int) - t417))) < t416) = true := decide_eq_true c7
     clear c7
     simp only [Option.some.injEq, Prod.mk.injEq] at H
     obtain ⟨rfl, rfl, rfl⟩ := H
     go_enter Tryd.func45, Tryd.ntmps45
     go_wp2_with (first | ((with_reducible refine qgc (f := 75) rfl ?_); refine goesL_ (some 14) rfl rfl Tryd.func75 (by kernel_rfl) rfl #[.slice A0 l0.length c0] rfl (by (try simp only [List.map_toArray, List.map_cons, List.map_nil]); first | done | rfl | (simp only [List.length_drop, List.length_take]; rfl)) ?_; (with_reducible refine (barbicanref03_Uint.calls k _ _ l0 t416 t417 t418 _ ?side1 ?side2 A4.out).mono ?_); (case side1 => repeat (first | exact HR0.out | (with_reducible refine Kd.C_alloc ?_ _) | (with_reducible refine Kd.C_drewN ?_ _) | (with_reducible refine Kd.C_drew ?_))); (case side2 => exact HC0.out); rintro e w' ⟨rfl, ⟨nd, rfl⟩⟩; refine ⟨_, rfl, ?_⟩))
     go_ret3
     exact ⟨by first | rfl | (simp; done) | (simp [*]; done), by repeat (first | exact Drawn0.refl _ | apply Drawn0.step)⟩
    ·rw [if_neg c7] at H
     have c7b0 : decide ((IntKind.u64.wrap (wrap64 ((l0.length : Int) - t417))) < t416) = false := decide_eq_false c7
     clear c7
     by_cases c8 : 0 ≤ t417
     ·rw [if_pos c8] at H
      have c8b0 := eq_true c8
      have c8b1 : decide (0 ≤ t417) = true := decide_eq_true c8
      clear c8
      by_cases c9 : t417 ≤ (wrap64 (t417 + (wrap64 (t416))))
      ·rw [if_pos c9] at H
       have c9b0 := eq_true c9
       have c9b1 : decide (t417 ≤ (wrap64 (t417 + (wrap64 (t416))))) = true := decide_eq_true c9
       by_cases c10 : (wrap64 (t417 + (wrap64 (t416)))) ≤ (l0.length : Int)
       ·rw [if_pos c10] at H
        have c10b0 := eq_true c10
        have c10b1 : decide ((wrap64 (t417 + (wrap64 (t416)))) ≤ (l0.length : Int)) = true := decide_eq_true c10
        simp only [Option.some.injEq, Prod.mk.injEq] at H
        obtain ⟨rfl, rfl, rfl⟩ := H
        go_enter Tryd.func45, Tryd.ntmps45
        go_wp2_with (first | ((with_reducible refine qgc (f := 75) rfl ?_); refine goesL_ (some 14) rfl rfl Tryd.func75 (by kernel_rfl) rfl #[.slice A0 l0.length c0] rfl (by (try simp only [List.map_toArray, List.map_cons, List.map_nil]); first | done | rfl | (simp only [List.length_drop, List.length_take]; rfl)) ?_; (with_reducible refine (barbicanref03_Uint.calls k _ _ l0 t416 t417 t418 _ ?side1 ?side2 A4.out).mono ?_); (case side1 => repeat (first | exact HR0.out | (with_reducible refine Kd.C_alloc ?_ _) | (with_reducible refine Kd.C_drewN ?_ _) | (with_reducible refine Kd.C_drew ?_))); (case side2 => exact HC0.out); rintro e w' ⟨rfl, ⟨nd, rfl⟩⟩; refine ⟨_, rfl, ?_⟩; obtain ⟨i011, hi011, _, hsz11, _⟩ := info_parts info5; obtain ⟨A11, hcut11, hA11, hC11⟩ := print_mid_of (P := Tryd.prog) (Value.int .u8) 0 26 5 .i64 .i64 Tryd.underlying26 hi011 hsz11 A0 c0 l0 t417 (wrap64 (t417 + (wrap64 (t416)))) (ode_) (by first | omega | exact ode_) (ode_) HC0.out; have HR419 := Aside0.mk (Kd.C_of_reads (h1 := fun _ => rfl) (hA11 _ (Kd.reads_of_C HR0.out))); have HC419 := Aside0.mk hC11; clear hA11 hC11 hi011 hsz11; have hcv12 := Kd.C_string (P := Tryd.prog) (A := A11) (c := (c0 - t417.toNat)) Tryd.underlying26 Tryd.underlying5 Tryd.underlying9 HR419.out; have hcd12 := fun n_ : Nat => Kd.C_string (P := Tryd.prog) (A := A11) (c := (c0 - t417.toNat)) Tryd.underlying26 Tryd.underlying5 Tryd.underlying9 (Kd.C_drewN HR419.out n_); have hmn12 : min ((wrap64 (t417 + (wrap64 (t416)))) : Int).toNat l0.length = ((wrap64 (t417 + (wrap64 (t416)))) : Int).toNat := Nat.min_eq_left (by omega); (try simp only [List.length_drop, List.length_take, hmn12] at hcv12 hcd12); clear hmn12))
        go_ret3
        exact ⟨by first | rfl | (simp; done) | (simp [*]; done), by repeat (first | exact Drawn0.refl _ | apply Drawn0.step)⟩
       ·rw [if_neg c10] at H
        exact absurd H (by simp)
      ·rw [if_neg c9] at H
       exact absurd H (by simp)
     ·rw [if_neg c8] at H
      exact absurd H (by simp)
  ·rw [if_neg c5] at H
   have c5b0 : (t418 == 0) = false := beq_eq_false_iff_ne.mpr c5
   have c5b1 : (t418 != 0) = true := bne_iff_ne.mpr c5
   simp only [Option.some.injEq, Prod.mk.injEq] at H
   obtain ⟨rfl, rfl, rfl⟩ := H
   go_enter Tryd.func45, Tryd.ntmps45
   go_wp2_with (first | ((with_reducible refine qgc (f := 75) rfl ?_); refine goesL_ (some 14) rfl rfl Tryd.func75 (by kernel_rfl) rfl #[.slice A0 l0.length c0] rfl (by (try simp only [List.map_toArray, List.map_cons, List.map_nil]); first | done | rfl | (simp only [List.length_drop, List.length_take]; rfl)) ?_; (with_reducible refine (barbicanref03_Uint.calls k _ _ l0 t416 t417 t418 _ ?side1 ?side2 A4.out).mono ?_); (case side1 => repeat (first | exact HR0.out | (with_reducible refine Kd.C_alloc ?_ _) | (with_reducible refine Kd.C_drewN ?_ _) | (with_reducible refine Kd.C_drew ?_))); (case side2 => exact HC0.out); rintro e w' ⟨rfl, ⟨nd, rfl⟩⟩; refine ⟨_, rfl, ?_⟩))
   go_ret3
   exact ⟨by first | rfl | (simp; done) | (simp [*]; done), by repeat (first | exact Drawn0.refl _ | apply Drawn0.step)⟩

end Go.Proofs.YtljadejgdbemoaaDoor.R
