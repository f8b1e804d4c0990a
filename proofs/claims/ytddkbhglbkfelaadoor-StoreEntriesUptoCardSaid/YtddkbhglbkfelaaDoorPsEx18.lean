import Derived.Test.YtddkbhglbkfelaaDoorPsEx0
import Derived.Test.YtddkbhglbkfelaaDoorPsEx4
import Derived.Test.YtddkbhglbkfelaaDoorPsEx5
import Derived.Test.YtddkbhglbkfelaaDoorPsEx10
import Derived.Test.YtddkbhglbkfelaaDoorPsEx14
import Derived.Test.YtddkbhglbkfelaaDoorPsEx17
namespace Go.Proofs.YtddkbhglbkfelaaDoor.E
open Go.RowKit Go.Proofs.YtddkbhglbkfelaaDoorW.PrintWords Go.Proofs.YtddkbhglbkfelaaDoorW.PrintLast Go.Proofs.YtddkbhglbkfelaaDoorW.PrintMore Go.Proofs.YtddkbhglbkfelaaDoorX
attribute [local go_sem] max2_int min2_int max_two min_two max_three min_three max_four min_four
set_option linter.unusedVariables false
set_option linter.unusedSimpArgs false

/-! ### barbicanlaw26_lists: function 10 -/
def barbicanlaw26_lists.l0 : Nat → List (List (S72)) → List (List (S72)) → Int → Option (Bool)
 | 0, _, _, _ => none
 | k + 1, x0, x1, x5 => if x5 < (x0.length : Int) then (if 0 ≤ x5 then (if x5 < (x1.length : Int) then ((barbicanlaw26_values.f k (rd_L5 x0 x5) (rd_L5 x1 x5)).bind fun t419 => (if t419 = true then (barbicanlaw26_lists.l0 k x0 x1 (wrap64 (x5 + 1))) else (some false))) else (none)) else (none)) else (some true)
def barbicanlaw26_lists.f (k : Nat) (l0 : List (List (S72))) (l1 : List (List (S72))) : Option (Bool) := if (l0.length : Int) = (l1.length : Int) then (barbicanlaw26_lists.l0 k l0 l1 0) else (some false)
set_option maxHeartbeats 8000000 in
set_option maxRecDepth 100000 in
theorem barbicanlaw26_lists.calls (k : Nat) (A0 : Option Addr) (c0 : Nat) (l0 : List (List (S72))) (A1 : Option Addr) (c1 : Nat) (l1 : List (List (S72))) (r : Bool) (w : World) (hr0 : Kd.C (Kd.slice 72 k72) w A0 l0.length l0) (hc0 : l0.length ≤ c0) (hr1 : Kd.C (Kd.slice 72 k72) w A1 l1.length l1) (hc1 : l1.length ≤ c1) (h : barbicanlaw26_lists.f k l0 l1 = some r) :
  Calls Tryd.prog 10 #[.slice A0 l0.length c0, .slice A1 l1.length c1] w fun e w' => e = .returned (.bool r) ∧ Drawn0 w w' := by
 have HR0 := Aside0.mk hr0
 have HC0 := Aside0.mk hc0
 clear hr0 hc0
 have HR1 := Aside0.mk hr1
 have HC1 := Aside0.mk hc1
 clear hr1 hc1
 have H : (if (l0.length : Int) = (l1.length : Int) then (barbicanlaw26_lists.l0 k l0 l1 0) else (some false)) = some r := h
 clear h
 by_cases c3 : (l0.length : Int) = (l1.length : Int)
 ·rw [if_pos c3] at H
  have c3b0 : ((l0.length : Int) == (l1.length : Int)) = true := beq_iff_eq.mpr c3
  have c3b1 : ((l0.length : Int) != (l1.length : Int)) = false := bne_eq_false_iff_eq.mpr c3
  have c3b2 : (l0.length == l1.length) = true := by first | simpa using c3 | (simp at c3 ⊢; omega)
  clear c3
  have H' := Aside0.mk H
  clear H
  go_enter Tryd.func10, Tryd.ntmps10
  go_wp2
  repeat (go_quiet (fail); try go_wp2)
  go_loopg [5] k (fun kq v5 w' => ∃ (x5_1 : Int), v5 = .int .i64 x5_1 ∧ Aside0 (barbicanlaw26_lists.l0 kq l0 l1 x5_1 = some r) ∧ Aside0 (kq ≤ k) ∧ Drawn0 w w')
  case atStart => exact ⟨(0), (by first | rfl | (simp; done) | (simp [*]; done) | (simp [bne]; done)), H', ⟨Nat.le_refl _⟩, by repeat (first | exact Drawn0.refl _ | apply Drawn0.step)⟩
  case round =>
   clear H'
   (try clear c1); (try clear p2); (try clear c3); (try clear c3b0); (try clear c3b1); (try clear c3b2)
   obtain ⟨x5_1, rfl, HA, HK1, ⟨m1, rfl⟩⟩ := hrel
   cases gk with
   | zero => exact absurd HA.out (by simp [barbicanlaw26_lists.l0])
   | succ k1 =>
    have H := HA.out
    clear HA
    simp only [barbicanlaw26_lists.l0] at H
    by_cases c4 : x5_1 < (l0.length : Int)
    ·rw [if_pos c4] at H
     have c4b0 : decide (x5_1 < (l0.length : Int)) = true := decide_eq_true c4
     clear c4
     have c5 : 0 ≤ x5_1 := Classical.byContradiction fun c5 => by rw [if_neg c5] at H; exact absurd H (by simp)
     rw [if_pos c5] at H
     have c5b0 : decide (0 ≤ x5_1) = true := decide_eq_true c5
     clear c5
     have c6 : x5_1 < (l1.length : Int) := Classical.byContradiction fun c6 => by rw [if_neg c6] at H; exact absurd H (by simp)
     rw [if_pos c6] at H
     have c6b0 : decide (x5_1 < (l1.length : Int)) = true := decide_eq_true c6
     clear c6
     replace H := Option.bind_eq_some_iff.mp H
     obtain ⟨t419, A70, H⟩ := H
     (try dsimp only at H)
     have A7 := Aside0.mk A70
     clear A70
     by_cases c8 : t419 = true
     ·subst c8
      rw [if_pos rfl] at H
      have H' := Aside0.mk H
      clear H
      have p417 : 0 ≤ (x5_1 : Int) := ode_
      have q417 : x5_1 < (l0.length : Int) := ode_
      obtain ⟨ad417, A417_0, c417_0, e417, hx417_0, hl417_0, hi417_0⟩ := at_L5 HR0.out x5_1 p417 q417
      cases e417
      have HR417_0 := Aside0.mk hi417_0
      have HC417_0 := Aside0.mk hl417_0
      clear hi417_0 hl417_0
      replace p417 := eq_true p417
      replace q417 := eq_true q417
      have p418 : 0 ≤ (x5_1 : Int) := ode_
      have q418 : x5_1 < (l1.length : Int) := ode_
      obtain ⟨ad418, A418_0, c418_0, e418, hx418_0, hl418_0, hi418_0⟩ := at_L5 HR1.out x5_1 p418 q418
      cases e418
      have HR418_0 := Aside0.mk hi418_0
      have HC418_0 := Aside0.mk hl418_0
      clear hi418_0 hl418_0
      replace p418 := eq_true p418
      replace q418 := eq_true q418
      go_wp2_with (first | (go_at_call 27; (with_reducible refine (barbicanlaw26_values.calls k1 _ _ (rd_L5 l0 x5_1) _ _ (rd_L5 l1 x5_1) true _ ?side1 ?side2 ?side3 ?side4 A7.out).mono ?_); (case side1 => repeat (first | exact HR417_0.out | (with_reducible refine Kd.C_alloc ?_ _) | (with_reducible refine Kd.C_drewN ?_ _) | (with_reducible refine Kd.C_drew ?_))); (case side2 => exact HC417_0.out); (case side3 => repeat (first | exact HR418_0.out | (with_reducible refine Kd.C_alloc ?_ _) | (with_reducible refine Kd.C_drewN ?_ _) | (with_reducible refine Kd.C_drew ?_))); (case side4 => exact HC418_0.out); rintro e w' ⟨rfl, ⟨nd, rfl⟩⟩; (try first | exact ⟨rfl, _, World.drewN_drewN _ _ _⟩ | exact ⟨rfl, _, Eq.trans (World.drewN_drewN _ _ _) (congrArg (World.drewN _) (Nat.add_assoc _ _ _))⟩)))
      repeat (go_quiet (first | (go_at_call 27; (with_reducible refine (barbicanlaw26_values.calls k1 _ _ (rd_L5 l0 x5_1) _ _ (rd_L5 l1 x5_1) true _ ?side1 ?side2 ?side3 ?side4 A7.out).mono ?_); (case side1 => repeat (first | exact HR417_0.out | (with_reducible refine Kd.C_alloc ?_ _) | (with_reducible refine Kd.C_drewN ?_ _) | (with_reducible refine Kd.C_drew ?_))); (case side2 => exact HC417_0.out); (case side3 => repeat (first | exact HR418_0.out | (with_reducible refine Kd.C_alloc ?_ _) | (with_reducible refine Kd.C_drewN ?_ _) | (with_reducible refine Kd.C_drew ?_))); (case side4 => exact HC418_0.out); rintro e w' ⟨rfl, ⟨nd, rfl⟩⟩; (try first | exact ⟨rfl, _, World.drewN_drewN _ _ _⟩ | exact ⟨rfl, _, Eq.trans (World.drewN_drewN _ _ _) (congrArg (World.drewN _) (Nat.add_assoc _ _ _))⟩))); try go_wp2_with (first | (go_at_call 27; (with_reducible refine (barbicanlaw26_values.calls k1 _ _ (rd_L5 l0 x5_1) _ _ (rd_L5 l1 x5_1) true _ ?side1 ?side2 ?side3 ?side4 A7.out).mono ?_); (case side1 => repeat (first | exact HR417_0.out | (with_reducible refine Kd.C_alloc ?_ _) | (with_reducible refine Kd.C_drewN ?_ _) | (with_reducible refine Kd.C_drew ?_))); (case side2 => exact HC417_0.out); (case side3 => repeat (first | exact HR418_0.out | (with_reducible refine Kd.C_alloc ?_ _) | (with_reducible refine Kd.C_drewN ?_ _) | (with_reducible refine Kd.C_drew ?_))); (case side4 => exact HC418_0.out); rintro e w' ⟨rfl, ⟨nd, rfl⟩⟩; (try first | exact ⟨rfl, _, World.drewN_drewN _ _ _⟩ | exact ⟨rfl, _, Eq.trans (World.drewN_drewN _ _ _) (congrArg (World.drewN _) (Nat.add_assoc _ _ _))⟩))))
      go_roundg k1
      case measure => have := HK1.out; omega
      case rel => exact ⟨(wrap64 (x5_1 + 1)), (by first | rfl | (simp; done) | (simp [*]; done) | (simp [bne]; done)), H', ⟨by have := HK1.out; omega⟩, by repeat (first | exact Drawn0.refl _ | apply Drawn0.step)⟩
     replace c8 := Bool.eq_false_iff.mpr c8
     subst c8
     rw [if_neg (show ¬ (false = true) by decide)] at H
     obtain rfl := Option.some.inj H
     have p417 : 0 ≤ (x5_1 : Int) := ode_
     have q417 : x5_1 < (l0.length : Int) := ode_
     obtain ⟨ad417, A417_0, c417_0, e417, hx417_0, hl417_0, hi417_0⟩ := at_L5 HR0.out x5_1 p417 q417
     cases e417
     have HR417_0 := Aside0.mk hi417_0
     have HC417_0 := Aside0.mk hl417_0
     clear hi417_0 hl417_0
     replace p417 := eq_true p417
     replace q417 := eq_true q417
     have p418 : 0 ≤ (x5_1 : Int) := ode_
     have q418 : x5_1 < (l1.length : Int) := ode_
     obtain ⟨ad418, A418_0, c418_0, e418, hx418_0, hl418_0, hi418_0⟩ := at_L5 HR1.out x5_1 p418 q418
     cases e418
     have HR418_0 := Aside0.mk hi418_0
     have HC418_0 := Aside0.mk hl418_0
     clear hi418_0 hl418_0
     replace p418 := eq_true p418
     replace q418 := eq_true q418
     go_wp2_with (first | (go_at_call 27; (with_reducible refine (barbicanlaw26_values.calls k1 _ _ (rd_L5 l0 x5_1) _ _ (rd_L5 l1 x5_1) false _ ?side1 ?side2 ?side3 ?side4 A7.out).mono ?_); (case side1 => repeat (first | exact HR417_0.out | (with_reducible refine Kd.C_alloc ?_ _) | (with_reducible refine Kd.C_drewN ?_ _) | (with_reducible refine Kd.C_drew ?_))); (case side2 => exact HC417_0.out); (case side3 => repeat (first | exact HR418_0.out | (with_reducible refine Kd.C_alloc ?_ _) | (with_reducible refine Kd.C_drewN ?_ _) | (with_reducible refine Kd.C_drew ?_))); (case side4 => exact HC418_0.out); rintro e w' ⟨rfl, ⟨nd, rfl⟩⟩; (try first | exact ⟨rfl, _, World.drewN_drewN _ _ _⟩ | exact ⟨rfl, _, Eq.trans (World.drewN_drewN _ _ _) (congrArg (World.drewN _) (Nat.add_assoc _ _ _))⟩)))
     repeat (go_quiet (first | (go_at_call 27; (with_reducible refine (barbicanlaw26_values.calls k1 _ _ (rd_L5 l0 x5_1) _ _ (rd_L5 l1 x5_1) false _ ?side1 ?side2 ?side3 ?side4 A7.out).mono ?_); (case side1 => repeat (first | exact HR417_0.out | (with_reducible refine Kd.C_alloc ?_ _) | (with_reducible refine Kd.C_drewN ?_ _) | (with_reducible refine Kd.C_drew ?_))); (case side2 => exact HC417_0.out); (case side3 => repeat (first | exact HR418_0.out | (with_reducible refine Kd.C_alloc ?_ _) | (with_reducible refine Kd.C_drewN ?_ _) | (with_reducible refine Kd.C_drew ?_))); (case side4 => exact HC418_0.out); rintro e w' ⟨rfl, ⟨nd, rfl⟩⟩; (try first | exact ⟨rfl, _, World.drewN_drewN _ _ _⟩ | exact ⟨rfl, _, Eq.trans (World.drewN_drewN _ _ _) (congrArg (World.drewN _) (Nat.add_assoc _ _ _))⟩))); try go_wp2_with (first | (go_at_call 27; (with_reducible refine (barbicanlaw26_values.calls k1 _ _ (rd_L5 l0 x5_1) _ _ (rd_L5 l1 x5_1) false _ ?side1 ?side2 ?side3 ?side4 A7.out).mono ?_); (case side1 => repeat (first | exact HR417_0.out | (with_reducible refine Kd.C_alloc ?_ _) | (with_reducible refine Kd.C_drewN ?_ _) | (with_reducible refine Kd.C_drew ?_))); (case side2 => exact HC417_0.out); (case side3 => repeat (first | exact HR418_0.out | (with_reducible refine Kd.C_alloc ?_ _) | (with_reducible refine Kd.C_drewN ?_ _) | (with_reducible refine Kd.C_drew ?_))); (case side4 => exact HC418_0.out); rintro e w' ⟨rfl, ⟨nd, rfl⟩⟩; (try first | exact ⟨rfl, _, World.drewN_drewN _ _ _⟩ | exact ⟨rfl, _, Eq.trans (World.drewN_drewN _ _ _) (congrArg (World.drewN _) (Nat.add_assoc _ _ _))⟩))))
     go_ret
     exact ⟨by first | rfl | (simp; done) | (simp [*]; done) | (simp [bne]; done), by repeat (first | exact Drawn0.refl _ | apply Drawn0.step)⟩
    rw [if_neg c4] at H
    have c4b0 : decide (x5_1 < (l0.length : Int)) = false := decide_eq_false c4
    clear c4
    obtain rfl := Option.some.inj H
    go_wp2
    repeat (go_quiet (fail); try go_wp2)
    go_ret
    exact ⟨by first | rfl | (simp; done) | (simp [*]; done) | (simp [bne]; done), by repeat (first | exact Drawn0.refl _ | apply Drawn0.step)⟩
 rw [if_neg c3] at H
 have c3b0 : ((l0.length : Int) == (l1.length : Int)) = false := beq_eq_false_iff_ne.mpr c3
 have c3b1 : ((l0.length : Int) != (l1.length : Int)) = true := bne_iff_ne.mpr c3
 have c3b2 : (l0.length == l1.length) = false := by first | simpa using c3 | (simp at c3 ⊢; omega)
 obtain rfl := Option.some.inj H
 go_enter Tryd.func10, Tryd.ntmps10
 go_wp2
 repeat (go_quiet (fail); try go_wp2)
 go_ret
 exact ⟨by first | rfl | (simp; done) | (simp [*]; done) | (simp [bne]; done), by repeat (first | exact Drawn0.refl _ | apply Drawn0.step)⟩

/-! ### barbicanlaw26_sure: function 11 -/
def barbicanlaw26_sure.f (k : Nat)  : Option (Bool) := (store_EncodeEntry.f k (⟨#[118]⟩ : ByteArray) (([(([(⟨1, 1, (⟨#[]⟩ : ByteArray), false⟩ : S72)] : List (S72)))] : List (List (S72))))).bind fun bt427 => ((store_DecodeEntry.f k bt427.1).bind fun bt431 => (if bt427.2.isNone = true then (if bt431.2.2.isNone = true then (if (bt427.1.length : Int) > 4 then (if 0 < (bt427.1.length : Int) then (if (rd bt427.1 0) = 2 then (if bt431.1.toList = ([118] : List UInt8) then (some ((bt431.2.1.length : Int) == 1)) else (none)) else (none)) else (none)) else (none)) else (none)) else (none)))
theorem barbicanlaw26_sure.mono : ∀ k, LeO (barbicanlaw26_sure.f k ) (barbicanlaw26_sure.f (k + 1) ) := by
 intro  k
 unfold barbicanlaw26_sure.f
 repeat' first
   | (with_reducible exact store_DecodeEntry.mono _ _)
   | (with_reducible exact store_EncodeEntry.mono _ _ _)
   | (with_reducible exact LeO.refl _)
   | (with_reducible exact LeO.none _)
   | (with_reducible refine LeO.ite ?_ ?_)
   | (with_reducible refine LeO.bind ?_ (fun _ => ?_))
   | exact store_DecodeEntry.mono _ _
   | exact store_EncodeEntry.mono _ _ _
   | exact LeO.none _
   | refine LeO.ite ?_ ?_
   | refine LeO.bind ?_ (fun _ => ?_)
set_option maxHeartbeats 8000000 in
set_option maxRecDepth 100000 in
theorem barbicanlaw26_sure.calls (k : Nat)  (r : Bool) (w : World) (hG : GW w) (h : barbicanlaw26_sure.f k  = some r) :
  Calls Tryd.prog 11 #[] w fun e w' => e = .returned (.bool r) ∧ Below w.heap.size w w' := by
 have hu72 := Tryd.underlying72
 have hu30 := Tryd.underlying30
 have hu27 := Tryd.underlying27
 have hu43 := Tryd.underlying43
 have HB := Aside0.mk (Below.refl w.heap.size w)
 have HG := Aside0.mk hG
 clear hG
 have H : ((store_EncodeEntry.f k (⟨#[118]⟩ : ByteArray) (([(([(⟨1, 1, (⟨#[]⟩ : ByteArray), false⟩ : S72)] : List (S72)))] : List (List (S72))))).bind fun bt427 => ((store_DecodeEntry.f k bt427.1).bind fun bt431 => (if bt427.2.isNone = true then (if bt431.2.2.isNone = true then (if (bt427.1.length : Int) > 4 then (if 0 < (bt427.1.length : Int) then (if (rd bt427.1 0) = 2 then (if bt431.1.toList = ([118] : List UInt8) then (some ((bt431.2.1.length : Int) == 1)) else (none)) else (none)) else (none)) else (none)) else (none)) else (none)))) = some r := h
 clear h
 obtain ⟨y420, hy420⟩ : ∃ y_ : List (S72), y_ = (([(⟨1, 1, (⟨#[]⟩ : ByteArray), false⟩ : S72)] : List (S72))) := ⟨_, rfl⟩
 replace H : ((store_EncodeEntry.f k (⟨#[118]⟩ : ByteArray) (([y420] : List (List (S72))))).bind fun bt427 => ((store_DecodeEntry.f k bt427.1).bind fun bt431 => (if bt427.2.isNone = true then (if bt431.2.2.isNone = true then (if (bt427.1.length : Int) > 4 then (if 0 < (bt427.1.length : Int) then (if (rd bt427.1 0) = 2 then (if bt431.1.toList = ([118] : List UInt8) then (some ((bt431.2.1.length : Int) == 1)) else (none)) else (none)) else (none)) else (none)) else (none)) else (none)))) = some r := by first | (rw [hy420]; with_reducible exact H) | (have H2_ := (Option.bind_some _ _).symm.trans H; rw [hy420]; with_reducible exact H2_) | (have H2_ := (Option.bind_some _ _).symm.trans H; with_reducible exact H2_) | with_reducible exact H | (rw [hy420]; exact H) | exact H
 have Ny420 := Aside0.mk hy420
 clear hy420
 obtain ⟨y423, hy423⟩ : ∃ y_ : List (List (S72)), y_ = (([y420] : List (List (S72)))) := ⟨_, rfl⟩
 replace H : ((store_EncodeEntry.f k (⟨#[118]⟩ : ByteArray) y423).bind fun bt427 => ((store_DecodeEntry.f k bt427.1).bind fun bt431 => (if bt427.2.isNone = true then (if bt431.2.2.isNone = true then (if (bt427.1.length : Int) > 4 then (if 0 < (bt427.1.length : Int) then (if (rd bt427.1 0) = 2 then (if bt431.1.toList = ([118] : List UInt8) then (some ((bt431.2.1.length : Int) == 1)) else (none)) else (none)) else (none)) else (none)) else (none)) else (none)))) = some r := by first | (rw [hy423]; with_reducible exact H) | (have H2_ := (Option.bind_some _ _).symm.trans H; rw [hy423]; with_reducible exact H2_) | (have H2_ := (Option.bind_some _ _).symm.trans H; with_reducible exact H2_) | with_reducible exact H | (rw [hy423]; exact H) | exact H
 have Ny423 := Aside0.mk hy423
 clear hy423
 replace H := Option.bind_eq_some_iff.mp H
 obtain ⟨⟨t427, t430⟩, A10, H⟩ := H
 (try dsimp only at H)
 have A1 := Aside0.mk A10
 clear A10
 replace H := Option.bind_eq_some_iff.mp H
 obtain ⟨⟨t431, t432, t435⟩, A20, H⟩ := H
 (try dsimp only at H)
 have A2 := Aside0.mk A20
 clear A20
 rcases t430 with _ | q437
 ·have H1 : (if t435.isNone = true then (if (t427.length : Int) > 4 then (if 0 < (t427.length : Int) then (if (rd t427 0) = 2 then (if t431.toList = ([118] : List UInt8) then (some ((t432.length : Int) == 1)) else (none)) else (none)) else (none)) else (none)) else (none)) = some r := by rw [if_pos (show (none : Option Int).isNone = true by rfl)] at H; exact H
  clear H
  have H := H1
  clear H1
  try simp only [errW_none, errW_some]
  rcases t435 with _ | q438
  ·have H1 : (if (t427.length : Int) > 4 then (if 0 < (t427.length : Int) then (if (rd t427 0) = 2 then (if t431.toList = ([118] : List UInt8) then (some ((t432.length : Int) == 1)) else (none)) else (none)) else (none)) else (none)) = some r := by rw [if_pos (show (none : Option Int).isNone = true by rfl)] at H; exact H
   clear H
   have H := H1
   clear H1
   try simp only [errW_none, errW_some]
   have c3 : (t427.length : Int) > 4 := Classical.byContradiction fun c3 => by rw [if_neg c3] at H; exact absurd H (by simp)
   rw [if_pos c3] at H
   have c3b0 : decide (4 < (t427.length : Int)) = true := decide_eq_true c3
   have c3b1 : decide (4 < t427.length) = true := decide_eq_true (by omega)
   clear c3
   have c4 : 0 < (t427.length : Int) := Classical.byContradiction fun c4 => by rw [if_neg c4] at H; exact absurd H (by simp)
   rw [if_pos c4] at H
   have c4b0 : decide (0 < (t427.length : Int)) = true := decide_eq_true c4
   have c4b1 : decide (0 < t427.length) = true := decide_eq_true (by omega)
   clear c4
   have c5 : (rd t427 0) = 2 := Classical.byContradiction fun c5 => by rw [if_neg c5] at H; exact absurd H (by simp)
   rw [if_pos c5] at H
   have c5b0 : ((rd t427 0) == 2) = true := beq_iff_eq.mpr c5
   have c5b1 : ((rd t427 0) != 2) = false := bne_eq_false_iff_eq.mpr c5
   clear c5
   have c6 : t431.toList = ([118] : List UInt8) := Classical.byContradiction fun c6 => by rw [if_neg c6] at H; exact absurd H (by simp)
   rw [if_pos c6] at H
   have c6b0 : (t431.toList == ([118] : List UInt8)) = true := beq_iff_eq.mpr c6
   have c6b1 : (t431.toList != ([118] : List UInt8)) = false := bne_eq_false_iff_eq.mpr c6
   clear c6
   obtain rfl := Option.some.inj H
   go_enter Tryd.func11, Tryd.ntmps11
   go_wp2_with (first | ((with_reducible refine qgd (N := 7) rfl ?_); (try (refine gate_guard (by rfl) ?_; dsimp only)); refine Kd.R_lit k72 _ 72 ?hg (N := 7) ?hd (xs := ([(⟨1, 1, (⟨#[]⟩ : ByteArray), false⟩ : S72)] : List (S72))) (inner := [.int .i64 1, .int .i64 1, .string (⟨#[]⟩ : ByteArray), .bool false]) (ok := fun _ => True) (okp := fun _ => True) ?hr ?hp (fun _ hk => hk) trivial (Below.refl _ _) (Nat.le_refl _) (by simp) ?_; (case hd => rfl); (case hg => rfl); (case hr => first | (go_simp; done) | (go_simp; rfl)); (case hp => exact (Reps.c4 (show Kd.M k72 _ _ _ (⟨1, 1, (⟨#[]⟩ : ByteArray), false⟩ : S72) [.int .i64 1, .int .i64 1, .string (⟨#[]⟩ : ByteArray), .bool false] from (k72_mkM _ _ _ (⟨1, 1, (⟨#[]⟩ : ByteArray), false⟩ : S72) )) (Reps.none _ _))); intro v421 w7 ho8 hb hg_ hnew_; clear hg_ hnew_; (first | rw [← Ny420.out] at ho8 | (simp only [Int.reduceToNat] at ho8; rw [← Ny420.out] at ho8)); have n0_ := Aside0.mk (Kd.R_lower ho8 (qbz (bw_ HB.out))); have n1_ := Aside0.mk (below_step (bw_ HB.out) hb); clear HB; have HO422 := n0_; have HB := n1_; clear n0_ n1_; clear hb ho8; obtain ⟨Ao9, co9, eo9⟩ := Kd.R_slice HO422.out; subst eo9) | ((with_reducible refine qgd (N := 8) rfl ?_); (try (refine gate_guard (by rfl) ?_; dsimp only)); refine Kd.N_lit (Kd.slice 72 k72) _ 46 ?hg (N' := 8) ?hd (xs := ([y420] : List (List (S72)))) (inner := [.slice Ao9 y420.length co9]) (ok := (fun _ => True)) (okp := (fun _ => True)) ?hr ?hp (fun _ hk => hk) ((show ∀ k_, w7.heap.size ≤ k_ → (fun _ => True) k_ from fun k_ hk => trivial) _ (Nat.le_refl _)) (Below.refl _ _) (Nat.le_refl _) (by simp) ?_; (case hd => rfl); (case hg => rfl); (case hr => first | (go_simp; done) | (go_simp; rfl)); (case hp => exact (Reps.one (show Kd.FK (Kd.slice 72 k72) _ _ y420 [.slice Ao9 y420.length co9] from (Kd.FK_slice_mk (Kd.R_reads' (Kd.R_mono (ok' := (fun _ => True)) (HO422.out) (fun k_ hk => trivial))).2.1 (Kd.R_F (Kd.R_mono (ok' := (fun _ => True)) (HO422.out) (fun k_ hk => trivial))))) (Reps.none _ _))); intro v424 w10 ho11 hb hg_ hnew_; clear hg_ hnew_; (first | rw [← Ny423.out] at ho11 | (simp only [Int.reduceToNat] at ho11; rw [← Ny423.out] at ho11)); have n0_ := Aside0.mk (Kd.N_lower ho11 (qbz (bw_ HB.out))); have n1_ := Aside0.mk (below_step (bw_ HB.out) hb); clear HB; clear HO422; have HO425 := n0_; have HB := n1_; clear n0_ n1_; clear hb ho11; obtain ⟨Ao12, co12, eo12⟩ := Kd.N_slice HO425.out; subst eo12) | ((with_reducible refine qgd (N := 1) rfl ?_); (try (refine gate_guard (by rfl) ?_; dsimp only)); refine qbe ?hg (N := 1) ?hd (cs := #[.string (⟨#[]⟩ : ByteArray), .slice none 0 0]) (t := 30) ?hr ?_; (case hd => rfl); (case hg => rfl); (case hr => first | (go_simp; done) | (go_simp; rfl)); intro gb426 hg w13 hbox hb; have n0_ := Aside0.mk (Kd.N_below (Kd.N_elderB (kN_ HO425.out) gb426 (Nat.le_of_eq hg.symm)) hb); have n1_ := Aside0.mk (below_step (bw_ HB.out) hb); have n2_ := Aside0.mk (hbox); have n3_ := Aside0.mk ((by rw [hg]; exact (qbz (bw_ HB.out)) : w.heap.size ≤ gb426)); have n4_ := Aside0.mk ((by rw [hg]; exact (qbz (bw_ HB.out)) : w.heap.size ≤ gb426)); clear HO425; clear HB; have HO425 := n0_; have HB := n1_; have BK426 := n2_; have GW426 := n3_; have GE426 := n4_; clear n0_ n1_ n2_ n3_ n4_; clear hb hbox hg; have hcz14_0 : w13.cell? ⟨gb426, 0, none⟩ = some (.string (⟨#[]⟩ : ByteArray)) := (qkc BK426.out 0).trans rfl; have hcz14_1 : w13.cell? ⟨gb426, 1, none⟩ = some (.slice none 0 0) := (qkc BK426.out 1).trans rfl; have hfz14_0 := qkf BK426.out 0; have hfz14_1 := qkf BK426.out 1) | ((with_reducible refine qgc (f := 4) rfl ?_); refine goesL_ (some 12) rfl rfl Tryd.func4 (by kernel_rfl) rfl #[.agg #[.string (⟨#[118]⟩ : ByteArray), .slice Ao12 y423.length co12]] rfl (by (try simp only [List.map_toArray, List.map_cons, List.map_nil]); first | done | rfl | (simp only [List.length_drop, List.length_take]; rfl)) ?_; (with_reducible refine (store_EncodeEntry.calls k (⟨#[118]⟩ : ByteArray) _ _ y423 t427 none _ ?side1 ?side2 ?side3 A1.out).mono ?_); (case side1 => refine (Kd.N_reads' (e := 46) (base := w.heap.size) (ok := fun k_ => (True ∧ k_ ≠ gb426)) (n := y423.length) (c := co12) ?_).2.2; exact (by (with_reducible repeat (first | apply Kd.N_alloc | apply Kd.N_drewN | apply Kd.N_drew)); exact (Kd.N_mono (Kd.N_far (p := ⟨gb426, 1, none⟩) (Kd.N_far (p := ⟨gb426, 0, none⟩) (Kd.N_mono HO425.out (fun k_ hk => (⟨hk, hk.2⟩ : _ ∧ k_ ≠ gb426))) (fun _ hk => hk.2) (.string (⟨#[118]⟩ : ByteArray))) (fun _ hk => hk.2) (.slice Ao12 y423.length co12)) (fun _ h_ => h_.1)))); (case side2 => exact (Kd.N_reads' HO425.out).2.1); (case side3 => exact GW_below HG.out (bw_ HB.out)); rintro e w15 ⟨v428, rfl, ho0, hb⟩; refine ⟨_, rfl, ?_⟩; have n0_ := Aside0.mk (Kd.N_elder' (by (with_reducible repeat (first | apply Kd.N_alloc | apply Kd.N_drewN | apply Kd.N_drew)); exact (Kd.N_mono (Kd.N_far (p := ⟨gb426, 1, none⟩) (Kd.N_far (p := ⟨gb426, 0, none⟩) (Kd.N_mono HO425.out (fun k_ hk => (⟨hk, hk.2⟩ : _ ∧ k_ ≠ gb426))) (fun _ hk => hk.2) (.string (⟨#[118]⟩ : ByteArray))) (fun _ hk => hk.2) (.slice Ao12 y423.length co12)) (fun _ h_ => h_.1))) (Kd.R_base ho0) hb); have n1_ := Aside0.mk (Kd.R_lower ho0 (qbz (bw_ HB.out))); have n2_ := Aside0.mk (qkb (g := gb426) (o := .cells #[.string (⟨#[118]⟩ : ByteArray), .slice Ao12 y423.length co12] 30 (0, 0)) (by (with_reducible repeat (first | refine qkN ?_ _ | refine qkd ?_ | refine qka ?_ _)); refine qkp (cs := #[.string (⟨#[118]⟩ : ByteArray), .slice none 0 0]) ?_ 1 _ rfl; (with_reducible repeat (first | refine qkN ?_ _ | refine qkd ?_ | refine qka ?_ _)); refine qkp (cs := #[.string (⟨#[]⟩ : ByteArray), .slice none 0 0]) ?_ 0 _ rfl; (with_reducible repeat (first | refine qkN ?_ _ | refine qkd ?_ | refine qka ?_ _)); exact BK426.out) hb); have n3_ := Aside0.mk (below_step (bw_ HB.out) hb); clear HO425; clear BK426; clear HB; have HO425 := n0_; have HO429 := n1_; have BK426 := n2_; have HB := n3_; clear n0_ n1_ n2_ n3_; (try clear hb); (try clear hb2); (try clear hk); (try clear hi); (try clear ho0); (try simp only [errW_none, errW_some]); obtain ⟨Ao16, co16, eo16⟩ := Kd.R_slice HO429.out; subst eo16) | ((with_reducible refine qgc (f := 7) rfl ?_); refine goesL_ (some 17) rfl rfl Tryd.func7 (by kernel_rfl) rfl #[.slice Ao16 t427.length co16] rfl (by (try simp only [List.map_toArray, List.map_cons, List.map_nil]); first | done | rfl | (simp only [List.length_drop, List.length_take]; rfl)) ?_; (with_reducible refine (store_DecodeEntry.calls k _ _ t427 t431 t432 none _ ?side1 ?side2 ?side3 A2.out).mono ?_); (case side1 => repeat (first | exact (Kd.R_reads' HO429.out).2.2 | (with_reducible refine Kd.C_alloc ?_ _) | (with_reducible refine Kd.C_drewN ?_ _) | (with_reducible refine Kd.C_drew ?_))); (case side2 => exact (Kd.R_reads' HO429.out).2.1); (case side3 => exact GW_below HG.out (bw_ HB.out)); rintro e w17 ⟨v433, rfl, ho0, hb⟩; refine ⟨_, rfl, ?_⟩; have n0_ := Aside0.mk (Kd.N_elder' (kN_ HO425.out) (Kd.S_base ho0) hb); have n1_ := Aside0.mk (Kd.R_below (kR_ HO429.out) hb); have n2_ := Aside0.mk (Kd.N_lower (Kd.N_mono (ok' := fun k_ => some k_ ≠ (.slice Ao12 y423.length co12 : Value).ownBlock ∧ some k_ ≠ (.slice Ao16 t427.length co16 : Value).ownBlock ∧ k_ ≠ gb426) (Kd.S_N (Kd.S_bound ho0)) (fun k_ hk_ => ⟨(Kd.fresh' (Kd.N_lt (kN_ HO425.out)) k_ hk_.2.1), (Kd.fresh' (Kd.R_lt (kR_ HO429.out)) k_ hk_.2.1), (Kd.freshB (g := gb426) (o := .cells #[.string (⟨#[118]⟩ : ByteArray), .slice Ao12 y423.length co12] 30 (0, 0)) (bl_ BK426.out) k_ hk_.2.1)⟩)) (qbz (bw_ HB.out))); have n3_ := Aside0.mk (qkb (g := gb426) (o := .cells #[.string (⟨#[118]⟩ : ByteArray), .slice Ao12 y423.length co12] 30 (0, 0)) (bl_ BK426.out) hb); have n4_ := Aside0.mk (below_step (bw_ HB.out) hb); clear HO425; clear HO429; clear BK426; clear HB; have HO425 := n0_; have HO429 := n1_; have HO434 := n2_; have BK426 := n3_; have HB := n4_; clear n0_ n1_ n2_ n3_ n4_; (try clear hb); (try clear hb2); (try clear hk); (try clear hi); (try clear ho0); (try simp only [errW_none, errW_some])) | ((with_reducible refine qgd (N := 4) rfl ?_); (try (refine gate_guard (by rfl) ?_; dsimp only)); refine qbe ?hg (N := 4) ?hd (cs := #[.string (⟨#[]⟩ : ByteArray), .slice none 0 0]) (t := 30) ?hr ?_; (case hd => rfl); (case hg => rfl); (case hr => first | (go_simp; done) | (go_simp; rfl)); intro gb436 hg w18 hbox hb; have n0_ := Aside0.mk (Kd.N_below (Kd.N_elderB (kN_ HO425.out) gb436 (Nat.le_of_eq hg.symm)) hb); have n1_ := Aside0.mk (Kd.R_below (kR_ HO429.out) hb); have n2_ := Aside0.mk (Kd.N_below (Kd.N_elderB (kN_ HO434.out) gb436 (Nat.le_of_eq hg.symm)) hb); have n3_ := Aside0.mk (qkb (g := gb426) (o := .cells #[.string (⟨#[118]⟩ : ByteArray), .slice Ao12 y423.length co12] 30 (0, 0)) (bl_ BK426.out) hb); have n4_ := Aside0.mk (below_step (bw_ HB.out) hb); have n5_ := Aside0.mk (hbox); have n6_ := Aside0.mk ((by rw [hg]; exact (qbz (bw_ HB.out)) : w.heap.size ≤ gb436)); have n7_ := Aside0.mk ((by rw [hg]; exact (qbz (bw_ HB.out)) : w.heap.size ≤ gb436)); have n8_ := Aside0.mk ((by rw [hg]; exact Nat.ne_of_lt (blk_lt (g := gb426) (o := .cells #[.string (⟨#[118]⟩ : ByteArray), .slice Ao12 y423.length co12] 30 (0, 0)) (bl_ BK426.out)) : gb426 ≠ gb436)); have n9_ := Aside0.mk ((by rw [hg]; exact Nat.ne_of_gt (blk_lt (g := gb426) (o := .cells #[.string (⟨#[118]⟩ : ByteArray), .slice Ao12 y423.length co12] 30 (0, 0)) (bl_ BK426.out)) : gb436 ≠ gb426)); clear HO425; clear HO429; clear HO434; clear BK426; clear HB; have HO425 := n0_; have HO429 := n1_; have HO434 := n2_; have BK426 := n3_; have HB := n4_; have BK436 := n5_; have GW436 := n6_; have GE436 := n7_; have NB426_436 := n8_; have NB436_426 := n9_; clear n0_ n1_ n2_ n3_ n4_ n5_ n6_ n7_ n8_ n9_; clear hb hbox hg; have hnb19 := NB436_426.out; have hnc19 := NB426_436.out; have hcz20_0 : w18.cell? ⟨gb436, 0, none⟩ = some (.string (⟨#[]⟩ : ByteArray)) := (qkc BK436.out 0).trans rfl; have hcz20_1 : w18.cell? ⟨gb436, 1, none⟩ = some (.slice none 0 0) := (qkc BK436.out 1).trans rfl; have hfz20_0 := qkf BK436.out 0; have hfz20_1 := qkf BK436.out 1; obtain ⟨Ao21, co21, eo21⟩ := Kd.N_slice HO434.out; subst eo21; have p439 : 0 ≤ (0 : Int) := (by omega); have q439 : 0 < (t427.length : Int) := ode_; obtain ⟨ad439, e439, hx439_0⟩ := Kd.at_int (Kd.R_reads' HO429.out).2.2 0 p439 q439; cases e439; have qi439 : (0 < t427.length) = True := eq_true (by omega); (try rw [show ((0 : Int)).toNat = 0 from rfl] at hx439_0); (try rw [Addr.add_zero'] at hx439_0); have hn439_0 : ad439.block ≠ gb436 := Kd.own_blk (Kd.R_ne HO429.out BK436.out (by decide)); have hn439_1 : ad439.block ≠ gb436 := Kd.own_blk (Kd.R_ne HO429.out BK436.out (by decide)); replace hx439_0 := (cell_far (p := ⟨gb436, 0, none⟩) (by first | (rw [qab]; exact hn439_0) | (show (Addr.add _ _).block ≠ _; rw [qab]; exact hn439_0) | exact hn439_0) (.string t431)).trans hx439_0; replace hx439_0 := (cell_far (p := ⟨gb436, 1, none⟩) (by first | (rw [qab]; exact hn439_1) | (show (Addr.add _ _).block ≠ _; rw [qab]; exact hn439_1) | exact hn439_1) (.slice Ao21 t432.length co21)).trans hx439_0; clear hn439_0; clear hn439_1; replace p439 := eq_true p439; replace q439 := eq_true q439))
   go_ret
   exact ⟨by first | rfl | (simp [errW_none, errW_some] <;> rfl) | (simp [*, errW_none, errW_some] <;> rfl), bw_ HB.out⟩
  have H1 : (none) = some r := by rw [if_neg (show ¬ (some q438).isNone = true by simp)] at H; exact H
  clear H
  have H := H1
  clear H1
  try simp only [errW_none, errW_some]
  exact absurd H (by simp)
 have H1 : (none) = some r := by rw [if_neg (show ¬ (some q437).isNone = true by simp)] at H; exact H
 clear H
 have H := H1
 clear H1
 try simp only [errW_none, errW_some]
 exact absurd H (by simp)

/-! ### barbicanlaw26_StoreEntries: function 3 -/
def barbicanlaw26_StoreEntries.f (k : Nat) (a0_0 : ByteArray) (l0_1 : List (List (S72))) (l1 : List Int) : Option (Bool) := (barbicanlaw26_entry.f k a0_0 l0_1).bind fun bt441 => ((store_EncodeEntry.f k bt441.1 bt441.2).bind fun bt445 => ((barbicanref26_EncodeEntry.f k a0_0 l0_1).bind fun bt449 => (if ([] : List Int).length + l1.length < 140737488355328 then ((store_DecodeEntry.f k (([] : List Int) ++ l1)).bind fun bt456 => ((barbicanref26_DecodeEntry.f k l1).bind fun bt462 => (if (strOfNums bt445.1).toList = (strOfNums bt449.1).toList then ((barbicanlaw26_num.f bt445.2).bind fun t468 => (if t468 = bt449.2 then (if bt456.1.toList = bt462.1.toList then ((barbicanlaw26_lists.f k bt456.2.1 bt462.2.1).bind fun t469 => (if t469 = true then ((barbicanlaw26_num.f bt456.2.2).bind fun t470 => (if t470 = bt462.2.2 then ((barbicanlaw26_sure.f k).bind fun t471 => (some t471)) else (none))) else (none))) else (none)) else (none))) else (none)))) else (none))))
set_option maxHeartbeats 8000000 in
set_option maxRecDepth 100000 in
theorem barbicanlaw26_StoreEntries.calls (k : Nat) (a0_0 : ByteArray) (A0_1 : Option Addr) (c0_1 : Nat) (l0_1 : List (List (S72))) (A1 : Option Addr) (c1 : Nat) (l1 : List Int) (r : Bool) (w : World) (hr0_1 : Kd.C (Kd.slice 72 k72) w A0_1 l0_1.length l0_1) (hc0_1 : l0_1.length ≤ c0_1) (hr1 : Kd.C (Kd.int .u8) w A1 l1.length l1) (hc1 : l1.length ≤ c1) (hG : GW w) (h : barbicanlaw26_StoreEntries.f k a0_0 l0_1 l1 = some r) :
  Calls Tryd.prog 3 #[.agg #[.string a0_0, .slice A0_1 l0_1.length c0_1], .slice A1 l1.length c1] w fun e w' => e = .returned (.bool r) ∧ Below w.heap.size w w' := by
 have hu24 := Tryd.underlying24
 have hu30 := Tryd.underlying30
 have HR0_1 := Aside0.mk hr0_1
 have HC0_1 := Aside0.mk hc0_1
 clear hr0_1 hc0_1
 have HR1 := Aside0.mk hr1
 have HC1 := Aside0.mk hc1
 clear hr1 hc1
 have HB := Aside0.mk (Below.refl w.heap.size w)
 have HG := Aside0.mk hG
 clear hG
 have H : ((barbicanlaw26_entry.f k a0_0 l0_1).bind fun bt441 => ((store_EncodeEntry.f k bt441.1 bt441.2).bind fun bt445 => ((barbicanref26_EncodeEntry.f k a0_0 l0_1).bind fun bt449 => (if ([] : List Int).length + l1.length < 140737488355328 then ((store_DecodeEntry.f k (([] : List Int) ++ l1)).bind fun bt456 => ((barbicanref26_DecodeEntry.f k l1).bind fun bt462 => (if (strOfNums bt445.1).toList = (strOfNums bt449.1).toList then ((barbicanlaw26_num.f bt445.2).bind fun t468 => (if t468 = bt449.2 then (if bt456.1.toList = bt462.1.toList then ((barbicanlaw26_lists.f k bt456.2.1 bt462.2.1).bind fun t469 => (if t469 = true then ((barbicanlaw26_num.f bt456.2.2).bind fun t470 => (if t470 = bt462.2.2 then ((barbicanlaw26_sure.f k).bind fun t471 => (some t471)) else (none))) else (none))) else (none)) else (none))) else (none)))) else (none))))) = some r := h
 clear h
 replace H := Option.bind_eq_some_iff.mp H
 obtain ⟨⟨t441, t442⟩, A30, H⟩ := H
 (try dsimp only at H)
 have A3 := Aside0.mk A30
 clear A30
 replace H := Option.bind_eq_some_iff.mp H
 obtain ⟨⟨t445, t448⟩, A40, H⟩ := H
 (try dsimp only at H)
 have A4 := Aside0.mk A40
 clear A40
 replace H := Option.bind_eq_some_iff.mp H
 obtain ⟨⟨t449, t452⟩, A50, H⟩ := H
 (try dsimp only at H)
 have A5 := Aside0.mk A50
 clear A50
 have c6 : ([] : List Int).length + l1.length < 140737488355328 := Classical.byContradiction fun c6 => by rw [if_neg c6] at H; exact absurd H (by simp)
 rw [if_pos c6] at H
 have LMc6 := Aside0.mk c6
 clear c6
 obtain ⟨y453, hy453⟩ : ∃ y_ : List Int, y_ = (([] : List Int) ++ l1) := ⟨_, rfl⟩
 replace H : ((store_DecodeEntry.f k y453).bind fun bt456 => ((barbicanref26_DecodeEntry.f k l1).bind fun bt462 => (if (strOfNums t445).toList = (strOfNums t449).toList then ((barbicanlaw26_num.f t448).bind fun t468 => (if t468 = t452 then (if bt456.1.toList = bt462.1.toList then ((barbicanlaw26_lists.f k bt456.2.1 bt462.2.1).bind fun t469 => (if t469 = true then ((barbicanlaw26_num.f bt456.2.2).bind fun t470 => (if t470 = bt462.2.2 then ((barbicanlaw26_sure.f k).bind fun t471 => (some t471)) else (none))) else (none))) else (none)) else (none))) else (none)))) = some r := by first | (rw [hy453]; with_reducible exact H) | (have H2_ := (Option.bind_some _ _).symm.trans H; rw [hy453]; with_reducible exact H2_) | (have H2_ := (Option.bind_some _ _).symm.trans H; with_reducible exact H2_) | with_reducible exact H | (rw [hy453]; exact H) | exact H
 have Ny453 := Aside0.mk hy453
 clear hy453
 replace H := Option.bind_eq_some_iff.mp H
 obtain ⟨⟨t456, t457, t460⟩, A70, H⟩ := H
 (try dsimp only at H)
 have A7 := Aside0.mk A70
 clear A70
 replace H := Option.bind_eq_some_iff.mp H
 obtain ⟨⟨t462, t463, t466⟩, A80, H⟩ := H
 (try dsimp only at H)
 have A8 := Aside0.mk A80
 clear A80
 have c9 : (strOfNums t445).toList = (strOfNums t449).toList := Classical.byContradiction fun c9 => by rw [if_neg c9] at H; exact absurd H (by simp)
 rw [if_pos c9] at H
 have c9b0 : ((strOfNums t445).toList == (strOfNums t449).toList) = true := beq_iff_eq.mpr c9
 have c9b1 : ((strOfNums t445).toList != (strOfNums t449).toList) = false := bne_eq_false_iff_eq.mpr c9
 clear c9
 replace H := Option.bind_eq_some_iff.mp H
 obtain ⟨t468, A100, H⟩ := H
 (try dsimp only at H)
 have A10 := Aside0.mk A100
 clear A100
 have c11 : t468 = t452 := Classical.byContradiction fun c11 => by rw [if_neg c11] at H; exact absurd H (by simp)
 rw [if_pos c11] at H
 have c11b0 : (t468 == t452) = true := beq_iff_eq.mpr c11
 have c11b1 : (t468 != t452) = false := bne_eq_false_iff_eq.mpr c11
 clear c11
 have c12 : t456.toList = t462.toList := Classical.byContradiction fun c12 => by rw [if_neg c12] at H; exact absurd H (by simp)
 rw [if_pos c12] at H
 have c12b0 : (t456.toList == t462.toList) = true := beq_iff_eq.mpr c12
 have c12b1 : (t456.toList != t462.toList) = false := bne_eq_false_iff_eq.mpr c12
 clear c12
 replace H := Option.bind_eq_some_iff.mp H
 obtain ⟨t469, A130, H⟩ := H
 (try dsimp only at H)
 have A13 := Aside0.mk A130
 clear A130
 have c14 : t469 = true := Classical.byContradiction fun c14 => by
  replace c14 := Bool.eq_false_iff.mpr c14
  subst c14
  rw [if_neg (show ¬ (false = true) by decide)] at H
  exact absurd H (by simp)
 subst c14
 rw [if_pos rfl] at H
 replace H := Option.bind_eq_some_iff.mp H
 obtain ⟨t470, A150, H⟩ := H
 (try dsimp only at H)
 have A15 := Aside0.mk A150
 clear A150
 have c16 : t470 = t466 := Classical.byContradiction fun c16 => by rw [if_neg c16] at H; exact absurd H (by simp)
 rw [if_pos c16] at H
 have c16b0 : (t470 == t466) = true := beq_iff_eq.mpr c16
 have c16b1 : (t470 != t466) = false := bne_eq_false_iff_eq.mpr c16
 clear c16
 replace H := Option.bind_eq_some_iff.mp H
 obtain ⟨t471, A170, H⟩ := H
 (try dsimp only at H)
 have A17 := Aside0.mk A170
 clear A170
 obtain rfl := Option.some.inj H
 go_enter Tryd.func3, Tryd.ntmps3
 go_wp2_with (first | ((with_reducible refine qgd (N := 2) rfl ?_); refine qbe ?hg (N := 2) ?hd (cs := #[.string a0_0, .slice A0_1 l0_1.length c0_1]) (t := 24) ?hr ?_; (case hd => rfl); (case hg => rfl); (case hr => first | (go_simp; done) | (go_simp; rfl)); intro gb440 hg w18 hbox hb; have n0_ := Aside0.mk (below_step (bw_ HB.out) hb); have n1_ := Aside0.mk (hbox); have n2_ := Aside0.mk ((by rw [hg]; exact (qbz (bw_ HB.out)) : w.heap.size ≤ gb440)); have n3_ := Aside0.mk ((by rw [hg]; exact (qbz (bw_ HB.out)) : w.heap.size ≤ gb440)); clear HB; have HB := n0_; have BK440 := n1_; have GW440 := n2_; have GE440 := n3_; clear n0_ n1_ n2_ n3_; clear hb hbox hg; have hcz19_0 : w18.cell? ⟨gb440, 0, none⟩ = some (.string a0_0) := (qkc BK440.out 0).trans rfl; have hcz19_1 : w18.cell? ⟨gb440, 1, none⟩ = some (.slice A0_1 l0_1.length c0_1) := (qkc BK440.out 1).trans rfl; have hfz19_0 := qkf BK440.out 0; have hfz19_1 := qkf BK440.out 1) | ((with_reducible refine qgc (f := 5) rfl ?_); refine goesL_ (some 16) rfl rfl Tryd.func5 (by kernel_rfl) rfl #[.agg #[.string a0_0, .slice A0_1 l0_1.length c0_1]] rfl (by (try simp only [List.map_toArray, List.map_cons, List.map_nil]); first | done | rfl | (simp only [List.length_drop, List.length_take]; rfl)) ?_; (with_reducible refine (barbicanlaw26_entry.calls k a0_0 _ _ l0_1 t441 t442 _ ?side1 ?side2 A3.out).mono ?_); (case side1 => repeat (first | exact (Kd.C_below HR0_1.out HB.out) | (with_reducible refine Kd.C_alloc ?_ _) | (with_reducible refine Kd.C_drewN ?_ _) | (with_reducible refine Kd.C_drew ?_))); (case side2 => exact HC0_1.out); rintro e w20 ⟨v443, rfl, ho0, hb⟩; refine ⟨_, rfl, ?_⟩; have n0_ := Aside0.mk (Kd.S_lower ho0 (qbz (bw_ HB.out))); have n1_ := Aside0.mk (qkb (g := gb440) (o := .cells #[.string a0_0, .slice A0_1 l0_1.length c0_1] 24 (0, 0)) (bl_ BK440.out) hb); have n2_ := Aside0.mk (below_step (bw_ HB.out) hb); clear BK440; clear HB; have HO444 := n0_; have BK440 := n1_; have HB := n2_; clear n0_ n1_ n2_; (try clear hb); (try clear hb2); (try clear hk); (try clear hi); (try clear ho0); obtain ⟨Ao21, co21, eo21⟩ := Kd.S_slice HO444.out; subst eo21) | ((with_reducible refine qgc (f := 4) rfl ?_); refine goesL_ (some 17) rfl rfl Tryd.func4 (by kernel_rfl) rfl #[.agg #[.string t441, .slice Ao21 t442.length co21]] rfl (by (try simp only [List.map_toArray, List.map_cons, List.map_nil]); first | done | rfl | (simp only [List.length_drop, List.length_take]; rfl)) ?_; (with_reducible refine (store_EncodeEntry.calls k t441 _ _ t442 t445 t448 _ ?side1 ?side2 ?side3 A4.out).mono ?_); (case side1 => repeat (first | exact (Kd.S_reads' HO444.out).2.2 | (with_reducible refine Kd.C_alloc ?_ _) | (with_reducible refine Kd.C_drewN ?_ _) | (with_reducible refine Kd.C_drew ?_))); (case side2 => exact (Kd.S_reads' HO444.out).2.1); (case side3 => exact GW_below HG.out (bw_ HB.out)); rintro e w22 ⟨v446, rfl, ho0, hb⟩; refine ⟨_, rfl, ?_⟩; have n0_ := Aside0.mk (Kd.S_below (by (with_reducible repeat (first | apply Kd.S_alloc | apply Kd.S_drewN | apply Kd.S_drew)); exact HO444.out) hb); have n1_ := Aside0.mk (Kd.R_lower ho0 (qbz (bw_ HB.out))); have n2_ := Aside0.mk (qkb (g := gb440) (o := .cells #[.string a0_0, .slice A0_1 l0_1.length c0_1] 24 (0, 0)) (bl_ BK440.out) hb); have n3_ := Aside0.mk (below_step (bw_ HB.out) hb); clear HO444; clear BK440; clear HB; have HO444 := n0_; have HO447 := n1_; have BK440 := n2_; have HB := n3_; clear n0_ n1_ n2_ n3_; (try clear hb); (try clear hb2); (try clear hk); (try clear hi); (try clear ho0); (try simp only [errW_none, errW_some]); have hcz23_0 : w22.cell? ⟨gb440, 0, none⟩ = some (.string a0_0) := (qkc BK440.out 0).trans rfl; have hcz23_1 : w22.cell? ⟨gb440, 1, none⟩ = some (.slice A0_1 l0_1.length c0_1) := (qkc BK440.out 1).trans rfl; have hfz23_0 := qkf BK440.out 0; have hfz23_1 := qkf BK440.out 1) | ((with_reducible refine qgc (f := 6) rfl ?_); refine goesL_ (some 22) rfl rfl Tryd.func6 (by kernel_rfl) rfl #[.agg #[.string a0_0, .slice A0_1 l0_1.length c0_1]] rfl (by (try simp only [List.map_toArray, List.map_cons, List.map_nil]); first | done | rfl | (simp only [List.length_drop, List.length_take]; rfl)) ?_; (with_reducible refine (barbicanref26_EncodeEntry.calls k a0_0 _ _ l0_1 t449 t452 _ ?side1 ?side2 A5.out).mono ?_); (case side1 => repeat (first | exact (Kd.C_below HR0_1.out HB.out) | (with_reducible refine Kd.C_alloc ?_ _) | (with_reducible refine Kd.C_drewN ?_ _) | (with_reducible refine Kd.C_drew ?_))); (case side2 => exact HC0_1.out); rintro e w24 ⟨v450, rfl, ho0, hb⟩; refine ⟨_, rfl, ?_⟩; have n0_ := Aside0.mk (Kd.S_below (by (with_reducible repeat (first | apply Kd.S_alloc | apply Kd.S_drewN | apply Kd.S_drew)); exact HO444.out) hb); have n1_ := Aside0.mk (Kd.R_elder' (kR_ HO447.out) (Kd.R_base ho0) hb); have n2_ := Aside0.mk (Kd.R_lower (Kd.R_new' ho0 (Kd.R_lt (kR_ HO447.out))) (qbz (bw_ HB.out))); have n3_ := Aside0.mk (qkb (g := gb440) (o := .cells #[.string a0_0, .slice A0_1 l0_1.length c0_1] 24 (0, 0)) (bl_ BK440.out) hb); have n4_ := Aside0.mk (below_step (bw_ HB.out) hb); clear HO444; clear HO447; clear BK440; clear HB; have HO444 := n0_; have HO447 := n1_; have HO451 := n2_; have BK440 := n3_; have HB := n4_; clear n0_ n1_ n2_ n3_ n4_; (try clear hb); (try clear hb2); (try clear hk); (try clear hi); (try clear ho0)) | ((with_reducible refine gate_builtin (b := .append) (xs := #[.tmp 26, .tmp 27]) rfl ?_); at_builtin; refine Kd.R_append_rows (Kd.int .u8) (w0 := w) w.heap.size rfl (.tmp 26) (.tmp 27) 25 5 (.int .u8 0) 1 rfl Tryd.underlying25 info5 rfl (by decide) (by omega) (.slice none 0 0) ([] : List Int) l1 _ _ _ (fun k_ => some k_ ≠ (v446 : Value).ownBlock ∧ some k_ ≠ (v450 : Value).ownBlock) (fun _ => False) rfl rfl ?aO ?aR (fun _ _ h => h) (fun _ h => h.elim) ?aF ?aB ?aS ?aL ?_; (case aR => repeat (first | exact (Kd.C_below HR1.out HB.out) | (with_reducible refine Kd.C_alloc ?_ _) | (with_reducible refine Kd.C_drewN ?_ _) | (with_reducible refine Kd.C_drew ?_))); (case aB => exact (bw_ HB.out)); (case aF => exact (fun k_ hk => ⟨Kd.fresh' (Kd.R_lt (kR_ HO447.out)) k_ hk, Kd.fresh' (Kd.R_lt (kR_ HO451.out)) k_ hk⟩)); (case aO => exact ((Kd.R_nil _ _ _ _ (fun k_ => some k_ ≠ (v446 : Value).ownBlock ∧ some k_ ≠ (v450 : Value).ownBlock)))); (case aS => exact (qbz (bw_ HB.out))); (case aL => have := LMc6.out; omega); intro v454 w25 ho hb hg hat; rw [← Ny453.out] at ho; have n0_ := Aside0.mk (blk_grown (g := gb440) (o := .cells #[.string a0_0, .slice A0_1 l0_1.length c0_1] 24 (0, 0)) (bl_ BK440.out) hg (by simp [Value.ownBlock])); have n1_ := Aside0.mk (Kd.S_grown (by (with_reducible repeat (first | apply Kd.S_alloc | apply Kd.S_drewN | apply Kd.S_drew)); exact HO444.out) hg (fun _ _ => by simp [Value.ownBlock])); have n2_ := Aside0.mk (Kd.R_after (Kd.R_apart_nil (kR_ HO447.out)) hg hat); have n3_ := Aside0.mk (Kd.R_after (Kd.R_apart_nil (kR_ HO451.out)) hg hat); have n4_ := Aside0.mk (hb); have n5_ := Aside0.mk (ho); clear BK440; clear HO444; clear HO447; clear HO451; clear HB; have BK440 := n0_; have HO444 := n1_; have HO447 := n2_; have HO451 := n3_; have HB := n4_; have HO455 := n5_; clear n0_ n1_ n2_ n3_ n4_ n5_; clear ho hb hg hat; obtain ⟨Ao26, co26, eo26⟩ := Kd.R_slice HO455.out; subst eo26) | ((with_reducible refine qgc (f := 7) rfl ?_); refine goesL_ (some 29) rfl rfl Tryd.func7 (by kernel_rfl) rfl #[.slice Ao26 y453.length co26] rfl (by (try simp only [List.map_toArray, List.map_cons, List.map_nil]); first | done | rfl | (simp only [List.length_drop, List.length_take]; rfl)) ?_; (with_reducible refine (store_DecodeEntry.calls k _ _ y453 t456 t457 t460 _ ?side1 ?side2 ?side3 A7.out).mono ?_); (case side1 => repeat (first | exact (Kd.R_reads' HO455.out).2.2 | (with_reducible refine Kd.C_alloc ?_ _) | (with_reducible refine Kd.C_drewN ?_ _) | (with_reducible refine Kd.C_drew ?_))); (case side2 => exact (Kd.R_reads' HO455.out).2.1); (case side3 => exact GW_below HG.out (bw_ HB.out)); rintro e w27 ⟨v458, rfl, ho0, hb⟩; refine ⟨_, rfl, ?_⟩; have n0_ := Aside0.mk (Kd.S_elder' (by (with_reducible repeat (first | apply Kd.S_alloc | apply Kd.S_drewN | apply Kd.S_drew)); exact HO444.out) (Kd.S_base ho0) hb); have n1_ := Aside0.mk (Kd.R_below (kR_ HO447.out) hb); have n2_ := Aside0.mk (Kd.R_below (kR_ HO451.out) hb); have n3_ := Aside0.mk (Kd.R_below (kR_ HO455.out) hb); have n4_ := Aside0.mk (Kd.S_lower (Kd.S_new' ho0 (Kd.S_lt (by (with_reducible repeat (first | apply Kd.S_alloc | apply Kd.S_drewN | apply Kd.S_drew)); exact HO444.out))) (qbz (bw_ HB.out))); have n5_ := Aside0.mk (qkb (g := gb440) (o := .cells #[.string a0_0, .slice A0_1 l0_1.length c0_1] 24 (0, 0)) (bl_ BK440.out) hb); have n6_ := Aside0.mk (below_step (bw_ HB.out) hb); clear HO444; clear HO447; clear HO451; clear HO455; clear BK440; clear HB; have HO444 := n0_; have HO447 := n1_; have HO451 := n2_; have HO455 := n3_; have HO459 := n4_; have BK440 := n5_; have HB := n6_; clear n0_ n1_ n2_ n3_ n4_ n5_ n6_; (try clear hb); (try clear hb2); (try clear hk); (try clear hi); (try clear ho0); (try simp only [errW_none, errW_some])) | ((with_reducible refine qgd (N := 10) rfl ?_); refine qbe ?hg (N := 10) ?hd (cs := #[.string (⟨#[]⟩ : ByteArray), .slice none 0 0]) (t := 30) ?hr ?_; (case hd => rfl); (case hg => rfl); (case hr => first | (go_simp; done) | (go_simp; rfl)); intro gb461 hg w28 hbox hb; have n0_ := Aside0.mk (Kd.S_below (by (with_reducible repeat (first | apply Kd.S_alloc | apply Kd.S_drewN | apply Kd.S_drew)); exact HO444.out) hb); have n1_ := Aside0.mk (Kd.R_below (kR_ HO447.out) hb); have n2_ := Aside0.mk (Kd.R_below (kR_ HO451.out) hb); have n3_ := Aside0.mk (Kd.R_below (kR_ HO455.out) hb); have n4_ := Aside0.mk (Kd.S_below (by (with_reducible repeat (first | apply Kd.S_alloc | apply Kd.S_drewN | apply Kd.S_drew)); exact HO459.out) hb); have n5_ := Aside0.mk (qkb (g := gb440) (o := .cells #[.string a0_0, .slice A0_1 l0_1.length c0_1] 24 (0, 0)) (bl_ BK440.out) hb); have n6_ := Aside0.mk (below_step (bw_ HB.out) hb); have n7_ := Aside0.mk (hbox); have n8_ := Aside0.mk ((by rw [hg]; exact (qbz (bw_ HB.out)) : w.heap.size ≤ gb461)); have n9_ := Aside0.mk ((by rw [hg]; exact (qbz (bw_ HB.out)) : w.heap.size ≤ gb461)); have n10_ := Aside0.mk ((by rw [hg]; exact Nat.ne_of_lt (blk_lt (g := gb440) (o := .cells #[.string a0_0, .slice A0_1 l0_1.length c0_1] 24 (0, 0)) (bl_ BK440.out)) : gb440 ≠ gb461)); have n11_ := Aside0.mk ((by rw [hg]; exact Nat.ne_of_gt (blk_lt (g := gb440) (o := .cells #[.string a0_0, .slice A0_1 l0_1.length c0_1] 24 (0, 0)) (bl_ BK440.out)) : gb461 ≠ gb440)); clear HO444; clear HO447; clear HO451; clear HO455; clear HO459; clear BK440; clear HB; have HO444 := n0_; have HO447 := n1_; have HO451 := n2_; have HO455 := n3_; have HO459 := n4_; have BK440 := n5_; have HB := n6_; have BK461 := n7_; have GW461 := n8_; have GE461 := n9_; have NB440_461 := n10_; have NB461_440 := n11_; clear n0_ n1_ n2_ n3_ n4_ n5_ n6_ n7_ n8_ n9_ n10_ n11_; clear hb hbox hg; have hnb29 := NB461_440.out; have hnc29 := NB440_461.out; have hcz30_0 : w28.cell? ⟨gb461, 0, none⟩ = some (.string (⟨#[]⟩ : ByteArray)) := (qkc BK461.out 0).trans rfl; have hcz30_1 : w28.cell? ⟨gb461, 1, none⟩ = some (.slice none 0 0) := (qkc BK461.out 1).trans rfl; have hfz30_0 := qkf BK461.out 0; have hfz30_1 := qkf BK461.out 1; obtain ⟨Ao31, co31, eo31⟩ := Kd.S_slice HO459.out; subst eo31) | ((with_reducible refine qgc (f := 8) rfl ?_); refine goesL_ (some 34) rfl rfl Tryd.func8 (by kernel_rfl) rfl #[.slice A1 l1.length c1] rfl (by (try simp only [List.map_toArray, List.map_cons, List.map_nil]); first | done | rfl | (simp only [List.length_drop, List.length_take]; rfl)) ?_; (with_reducible refine (barbicanref26_DecodeEntry.calls k _ _ l1 t462 t463 t466 _ ?side1 ?side2 A8.out).mono ?_); (case side1 => exact Kd.C_below HR1.out (bw_ HB.out)); (case side2 => exact HC1.out); rintro e w32 ⟨v464, rfl, ho0, hb⟩; refine ⟨_, rfl, ?_⟩; have n0_ := Aside0.mk (Kd.S_elder' (by (with_reducible repeat (first | apply Kd.S_alloc | apply Kd.S_drewN | apply Kd.S_drew)); exact (Kd.S_mono (Kd.S_far (p := ⟨gb461, 1, none⟩) (Kd.S_far (p := ⟨gb461, 0, none⟩) (Kd.S_types HO444.out BK461.out (by decide)) (fun _ hk => hk.2) (.string t456)) (fun _ hk => hk.2) (.slice Ao31 t457.length co31)) (fun _ h_ => h_.1))) (Kd.S_base ho0) hb); have n1_ := Aside0.mk (Kd.R_below (by (with_reducible repeat (first | apply Kd.R_alloc | apply Kd.R_drewN | apply Kd.R_drew)); exact (Kd.R_mono (Kd.R_far (p := ⟨gb461, 1, none⟩) (Kd.R_far (p := ⟨gb461, 0, none⟩) (Kd.R_types HO447.out BK461.out (by decide)) (fun _ hk => hk.2) (.string t456)) (fun _ hk => hk.2) (.slice Ao31 t457.length co31)) (fun _ h_ => h_.1))) hb); have n2_ := Aside0.mk (Kd.R_below (by (with_reducible repeat (first | apply Kd.R_alloc | apply Kd.R_drewN | apply Kd.R_drew)); exact (Kd.R_mono (Kd.R_far (p := ⟨gb461, 1, none⟩) (Kd.R_far (p := ⟨gb461, 0, none⟩) (Kd.R_types HO451.out BK461.out (by decide)) (fun _ hk => hk.2) (.string t456)) (fun _ hk => hk.2) (.slice Ao31 t457.length co31)) (fun _ h_ => h_.1))) hb); have n3_ := Aside0.mk (Kd.R_below (by (with_reducible repeat (first | apply Kd.R_alloc | apply Kd.R_drewN | apply Kd.R_drew)); exact (Kd.R_mono (Kd.R_far (p := ⟨gb461, 1, none⟩) (Kd.R_far (p := ⟨gb461, 0, none⟩) (Kd.R_types HO455.out BK461.out (by decide)) (fun _ hk => hk.2) (.string t456)) (fun _ hk => hk.2) (.slice Ao31 t457.length co31)) (fun _ h_ => h_.1))) hb); have n4_ := Aside0.mk (Kd.S_elder' (by (with_reducible repeat (first | apply Kd.S_alloc | apply Kd.S_drewN | apply Kd.S_drew)); exact (Kd.S_mono (Kd.S_far (p := ⟨gb461, 1, none⟩) (Kd.S_far (p := ⟨gb461, 0, none⟩) (Kd.S_types HO459.out BK461.out (by decide)) (fun _ hk => hk.2) (.string t456)) (fun _ hk => hk.2) (.slice Ao31 t457.length co31)) (fun _ h_ => h_.1))) (Kd.S_base ho0) hb); have n5_ := Aside0.mk (Kd.S_lower (Kd.S_new' (Kd.S_new' ho0 (Kd.S_lt (by (with_reducible repeat (first | apply Kd.S_alloc | apply Kd.S_drewN | apply Kd.S_drew)); exact (Kd.S_mono (Kd.S_far (p := ⟨gb461, 1, none⟩) (Kd.S_far (p := ⟨gb461, 0, none⟩) (Kd.S_types HO444.out BK461.out (by decide)) (fun _ hk => hk.2) (.string t456)) (fun _ hk => hk.2) (.slice Ao31 t457.length co31)) (fun _ h_ => h_.1))))) (Kd.S_lt (by (with_reducible repeat (first | apply Kd.S_alloc | apply Kd.S_drewN | apply Kd.S_drew)); exact (Kd.S_mono (Kd.S_far (p := ⟨gb461, 1, none⟩) (Kd.S_far (p := ⟨gb461, 0, none⟩) (Kd.S_types HO459.out BK461.out (by decide)) (fun _ hk => hk.2) (.string t456)) (fun _ hk => hk.2) (.slice Ao31 t457.length co31)) (fun _ h_ => h_.1))))) (qbz (bw_ HB.out))); have n6_ := Aside0.mk (qkb (g := gb440) (o := .cells #[.string a0_0, .slice A0_1 l0_1.length c0_1] 24 (0, 0)) (by (with_reducible repeat (first | refine qkN ?_ _ | refine qkd ?_ | refine qka ?_ _)); refine qkr ?_ NB440_461.out _; (with_reducible repeat (first | refine qkN ?_ _ | refine qkd ?_ | refine qka ?_ _)); refine qkr ?_ NB440_461.out _; (with_reducible repeat (first | refine qkN ?_ _ | refine qkd ?_ | refine qka ?_ _)); exact BK440.out) hb); have n7_ := Aside0.mk (qkb (g := gb461) (o := .cells #[.string t456, .slice Ao31 t457.length co31] 30 (0, 0)) (by (with_reducible repeat (first | refine qkN ?_ _ | refine qkd ?_ | refine qka ?_ _)); refine qkp (cs := #[.string t456, .slice none 0 0]) ?_ 1 _ rfl; (with_reducible repeat (first | refine qkN ?_ _ | refine qkd ?_ | refine qka ?_ _)); refine qkp (cs := #[.string (⟨#[]⟩ : ByteArray), .slice none 0 0]) ?_ 0 _ rfl; (with_reducible repeat (first | refine qkN ?_ _ | refine qkd ?_ | refine qka ?_ _)); exact BK461.out) hb); have n8_ := Aside0.mk (below_step (bw_ HB.out) hb); clear HO444; clear HO447; clear HO451; clear HO455; clear HO459; clear BK440; clear BK461; clear HB; have HO444 := n0_; have HO447 := n1_; have HO451 := n2_; have HO455 := n3_; have HO459 := n4_; have HO465 := n5_; have BK440 := n6_; have BK461 := n7_; have HB := n8_; clear n0_ n1_ n2_ n3_ n4_ n5_ n6_ n7_ n8_; (try clear hb); (try clear hb2); (try clear hk); (try clear hi); (try clear ho0)) | ((with_reducible refine qgd (N := 12) rfl ?_); refine qbe ?hg (N := 12) ?hd (cs := #[.string (⟨#[]⟩ : ByteArray), .slice none 0 0]) (t := 24) ?hr ?_; (case hd => rfl); (case hg => rfl); (case hr => first | (go_simp; done) | (go_simp; rfl)); intro gb467 hg w33 hbox hb; have n0_ := Aside0.mk (Kd.S_below (by (with_reducible repeat (first | apply Kd.S_alloc | apply Kd.S_drewN | apply Kd.S_drew)); exact HO444.out) hb); have n1_ := Aside0.mk (Kd.R_below (kR_ HO447.out) hb); have n2_ := Aside0.mk (Kd.R_below (kR_ HO451.out) hb); have n3_ := Aside0.mk (Kd.R_below (kR_ HO455.out) hb); have n4_ := Aside0.mk (Kd.S_below (by (with_reducible repeat (first | apply Kd.S_alloc | apply Kd.S_drewN | apply Kd.S_drew)); exact HO459.out) hb); have n5_ := Aside0.mk (Kd.S_below (by (with_reducible repeat (first | apply Kd.S_alloc | apply Kd.S_drewN | apply Kd.S_drew)); exact HO465.out) hb); have n6_ := Aside0.mk (qkb (g := gb440) (o := .cells #[.string a0_0, .slice A0_1 l0_1.length c0_1] 24 (0, 0)) (bl_ BK440.out) hb); have n7_ := Aside0.mk (qkb (g := gb461) (o := .cells #[.string t456, .slice Ao31 t457.length co31] 30 (0, 0)) (bl_ BK461.out) hb); have n8_ := Aside0.mk (below_step (bw_ HB.out) hb); have n9_ := Aside0.mk (hbox); have n10_ := Aside0.mk ((by rw [hg]; exact (qbz (bw_ HB.out)) : w.heap.size ≤ gb467)); have n11_ := Aside0.mk ((by rw [hg]; exact (qbz (bw_ HB.out)) : w.heap.size ≤ gb467)); have n12_ := Aside0.mk ((by rw [hg]; exact Nat.ne_of_lt (blk_lt (g := gb440) (o := .cells #[.string a0_0, .slice A0_1 l0_1.length c0_1] 24 (0, 0)) (bl_ BK440.out)) : gb440 ≠ gb467)); have n13_ := Aside0.mk ((by rw [hg]; exact Nat.ne_of_gt (blk_lt (g := gb440) (o := .cells #[.string a0_0, .slice A0_1 l0_1.length c0_1] 24 (0, 0)) (bl_ BK440.out)) : gb467 ≠ gb440)); have n14_ := Aside0.mk ((by rw [hg]; exact Nat.ne_of_lt (blk_lt (g := gb461) (o := .cells #[.string t456, .slice Ao31 t457.length co31] 30 (0, 0)) (bl_ BK461.out)) : gb461 ≠ gb467)); have n15_ := Aside0.mk ((by rw [hg]; exact Nat.ne_of_gt (blk_lt (g := gb461) (o := .cells #[.string t456, .slice Ao31 t457.length co31] 30 (0, 0)) (bl_ BK461.out)) : gb467 ≠ gb461)); clear HO444; clear HO447; clear HO451; clear HO455; clear HO459; clear HO465; clear BK440; clear BK461; clear HB; have HO444 := n0_; have HO447 := n1_; have HO451 := n2_; have HO455 := n3_; have HO459 := n4_; have HO465 := n5_; have BK440 := n6_; have BK461 := n7_; have HB := n8_; have BK467 := n9_; have GW467 := n10_; have GE467 := n11_; have NB440_467 := n12_; have NB467_440 := n13_; have NB461_467 := n14_; have NB467_461 := n15_; clear n0_ n1_ n2_ n3_ n4_ n5_ n6_ n7_ n8_ n9_ n10_ n11_ n12_ n13_ n14_ n15_; clear hb hbox hg; have hnb34 := NB467_440.out; have hnc34 := NB440_467.out; have hnb35 := NB467_461.out; have hnc35 := NB461_467.out; have hcz36_0 : w33.cell? ⟨gb467, 0, none⟩ = some (.string (⟨#[]⟩ : ByteArray)) := (qkc BK467.out 0).trans rfl; have hcz36_1 : w33.cell? ⟨gb467, 1, none⟩ = some (.slice none 0 0) := (qkc BK467.out 1).trans rfl; have hfz36_0 := qkf BK467.out 0; have hfz36_1 := qkf BK467.out 1; obtain ⟨Ao37, co37, eo37⟩ := Kd.S_slice HO465.out; subst eo37; have hcv38 := fun (u_ v_ : Value) => own_string (P := Tryd.prog) Tryd.underlying25 Tryd.underlying5 Tryd.underlying9 (Kd.own_of_R (Kd.R_far (p := ⟨gb467, 1, none⟩) (Kd.R_far (p := ⟨gb467, 0, none⟩) (Kd.R_types HO447.out BK467.out (by decide)) (fun _ hk => hk.2) u_) (fun _ hk => hk.2) v_)); have hcv39 := fun (u_ v_ : Value) => own_string (P := Tryd.prog) Tryd.underlying25 Tryd.underlying5 Tryd.underlying9 (Kd.own_of_R (Kd.R_far (p := ⟨gb467, 1, none⟩) (Kd.R_far (p := ⟨gb467, 0, none⟩) (Kd.R_types HO451.out BK467.out (by decide)) (fun _ hk => hk.2) u_) (fun _ hk => hk.2) v_)); have CA10 := fun W (hG_ : GW W) => barbicanlaw26_num.calls t448 t468 W hG_ A10.out; try simp only [errW_none, errW_some] at CA10) | (go_at_call 9; (with_reducible refine (CA10 _ ?side1).mono ?_); (case side1 => exact GW_below HG.out (bw_ HB.out)); rintro e w40 ⟨rfl, hb⟩; have n0_ := Aside0.mk (Kd.S_below (by (with_reducible repeat (first | apply Kd.S_alloc | apply Kd.S_drewN | apply Kd.S_drew)); exact (Kd.S_mono (Kd.S_far (p := ⟨gb467, 1, none⟩) (Kd.S_far (p := ⟨gb467, 0, none⟩) (Kd.S_types HO444.out BK467.out (by decide)) (fun _ hk => hk.2) (.string t462)) (fun _ hk => hk.2) (.slice Ao37 t463.length co37)) (fun _ h_ => h_.1))) hb); have n1_ := Aside0.mk (Kd.R_below (by (with_reducible repeat (first | apply Kd.R_alloc | apply Kd.R_drewN | apply Kd.R_drew)); exact (Kd.R_mono (Kd.R_far (p := ⟨gb467, 1, none⟩) (Kd.R_far (p := ⟨gb467, 0, none⟩) (Kd.R_types HO447.out BK467.out (by decide)) (fun _ hk => hk.2) (.string t462)) (fun _ hk => hk.2) (.slice Ao37 t463.length co37)) (fun _ h_ => h_.1))) hb); have n2_ := Aside0.mk (Kd.R_below (by (with_reducible repeat (first | apply Kd.R_alloc | apply Kd.R_drewN | apply Kd.R_drew)); exact (Kd.R_mono (Kd.R_far (p := ⟨gb467, 1, none⟩) (Kd.R_far (p := ⟨gb467, 0, none⟩) (Kd.R_types HO451.out BK467.out (by decide)) (fun _ hk => hk.2) (.string t462)) (fun _ hk => hk.2) (.slice Ao37 t463.length co37)) (fun _ h_ => h_.1))) hb); have n3_ := Aside0.mk (Kd.R_below (by (with_reducible repeat (first | apply Kd.R_alloc | apply Kd.R_drewN | apply Kd.R_drew)); exact (Kd.R_mono (Kd.R_far (p := ⟨gb467, 1, none⟩) (Kd.R_far (p := ⟨gb467, 0, none⟩) (Kd.R_types HO455.out BK467.out (by decide)) (fun _ hk => hk.2) (.string t462)) (fun _ hk => hk.2) (.slice Ao37 t463.length co37)) (fun _ h_ => h_.1))) hb); have n4_ := Aside0.mk (Kd.S_below (by (with_reducible repeat (first | apply Kd.S_alloc | apply Kd.S_drewN | apply Kd.S_drew)); exact (Kd.S_mono (Kd.S_far (p := ⟨gb467, 1, none⟩) (Kd.S_far (p := ⟨gb467, 0, none⟩) (Kd.S_types HO459.out BK467.out (by decide)) (fun _ hk => hk.2) (.string t462)) (fun _ hk => hk.2) (.slice Ao37 t463.length co37)) (fun _ h_ => h_.1))) hb); have n5_ := Aside0.mk (Kd.S_below (by (with_reducible repeat (first | apply Kd.S_alloc | apply Kd.S_drewN | apply Kd.S_drew)); exact (Kd.S_mono (Kd.S_far (p := ⟨gb467, 1, none⟩) (Kd.S_far (p := ⟨gb467, 0, none⟩) (Kd.S_types HO465.out BK467.out (by decide)) (fun _ hk => hk.2) (.string t462)) (fun _ hk => hk.2) (.slice Ao37 t463.length co37)) (fun _ h_ => h_.1))) hb); have n6_ := Aside0.mk (qkb (g := gb440) (o := .cells #[.string a0_0, .slice A0_1 l0_1.length c0_1] 24 (0, 0)) (by (with_reducible repeat (first | refine qkN ?_ _ | refine qkd ?_ | refine qka ?_ _)); refine qkr ?_ NB440_467.out _; (with_reducible repeat (first | refine qkN ?_ _ | refine qkd ?_ | refine qka ?_ _)); refine qkr ?_ NB440_467.out _; (with_reducible repeat (first | refine qkN ?_ _ | refine qkd ?_ | refine qka ?_ _)); exact BK440.out) hb); have n7_ := Aside0.mk (qkb (g := gb461) (o := .cells #[.string t456, .slice Ao31 t457.length co31] 30 (0, 0)) (by (with_reducible repeat (first | refine qkN ?_ _ | refine qkd ?_ | refine qka ?_ _)); refine qkr ?_ NB461_467.out _; (with_reducible repeat (first | refine qkN ?_ _ | refine qkd ?_ | refine qka ?_ _)); refine qkr ?_ NB461_467.out _; (with_reducible repeat (first | refine qkN ?_ _ | refine qkd ?_ | refine qka ?_ _)); exact BK461.out) hb); have n8_ := Aside0.mk (qkb (g := gb467) (o := .cells #[.string t462, .slice Ao37 t463.length co37] 24 (0, 0)) (by (with_reducible repeat (first | refine qkN ?_ _ | refine qkd ?_ | refine qka ?_ _)); refine qkp (cs := #[.string t462, .slice none 0 0]) ?_ 1 _ rfl; (with_reducible repeat (first | refine qkN ?_ _ | refine qkd ?_ | refine qka ?_ _)); refine qkp (cs := #[.string (⟨#[]⟩ : ByteArray), .slice none 0 0]) ?_ 0 _ rfl; (with_reducible repeat (first | refine qkN ?_ _ | refine qkd ?_ | refine qka ?_ _)); exact BK467.out) hb); have n9_ := Aside0.mk (below_step (bw_ HB.out) hb); clear HO444; clear HO447; clear HO451; clear HO455; clear HO459; clear HO465; clear BK440; clear BK461; clear BK467; clear HB; have HO444 := n0_; have HO447 := n1_; have HO451 := n2_; have HO455 := n3_; have HO459 := n4_; have HO465 := n5_; have BK440 := n6_; have BK461 := n7_; have BK467 := n8_; have HB := n9_; clear n0_ n1_ n2_ n3_ n4_ n5_ n6_ n7_ n8_ n9_; (try clear hb); (try clear hb2); (try clear hk); (try clear hi); have hcz41_0 : w40.cell? ⟨gb461, 0, none⟩ = some (.string t456) := (qkc BK461.out 0).trans rfl; have hcz41_1 : w40.cell? ⟨gb461, 1, none⟩ = some (.slice Ao31 t457.length co31) := (qkc BK461.out 1).trans rfl; have hfz41_0 := qkf BK461.out 0; have hfz41_1 := qkf BK461.out 1; have hcz42_0 : w40.cell? ⟨gb467, 0, none⟩ = some (.string t462) := (qkc BK467.out 0).trans rfl; have hcz42_1 : w40.cell? ⟨gb467, 1, none⟩ = some (.slice Ao37 t463.length co37) := (qkc BK467.out 1).trans rfl; have hfz42_0 := qkf BK467.out 0; have hfz42_1 := qkf BK467.out 1) | (go_at_call 10; (with_reducible refine (barbicanlaw26_lists.calls k _ _ t457 _ _ t463 true _ ?side1 ?side2 ?side3 ?side4 A13.out).mono ?_); (case side1 => repeat (first | exact (Kd.S_reads' HO459.out).2.2 | (with_reducible refine Kd.C_alloc ?_ _) | (with_reducible refine Kd.C_drewN ?_ _) | (with_reducible refine Kd.C_drew ?_))); (case side2 => exact (Kd.S_reads' HO459.out).2.1); (case side3 => repeat (first | exact (Kd.S_reads' HO465.out).2.2 | (with_reducible refine Kd.C_alloc ?_ _) | (with_reducible refine Kd.C_drewN ?_ _) | (with_reducible refine Kd.C_drew ?_))); (case side4 => exact (Kd.S_reads' HO465.out).2.1); rintro e w' ⟨rfl, ⟨nd, rfl⟩⟩; have CA15 := fun W (hG_ : GW W) => barbicanlaw26_num.calls t460 t470 W hG_ A15.out; try simp only [errW_none, errW_some] at CA15) | (go_at_call 9; (with_reducible refine (CA15 _ ?side1).mono ?_); (case side1 => exact GW_below HG.out (bw_ HB.out)); rintro e w43 ⟨rfl, hb⟩; have n0_ := Aside0.mk (Kd.S_below (by (with_reducible repeat (first | apply Kd.S_alloc | apply Kd.S_drewN | apply Kd.S_drew)); exact HO444.out) hb); have n1_ := Aside0.mk (Kd.R_below (kR_ HO447.out) hb); have n2_ := Aside0.mk (Kd.R_below (kR_ HO451.out) hb); have n3_ := Aside0.mk (Kd.R_below (kR_ HO455.out) hb); have n4_ := Aside0.mk (Kd.S_below (by (with_reducible repeat (first | apply Kd.S_alloc | apply Kd.S_drewN | apply Kd.S_drew)); exact HO459.out) hb); have n5_ := Aside0.mk (Kd.S_below (by (with_reducible repeat (first | apply Kd.S_alloc | apply Kd.S_drewN | apply Kd.S_drew)); exact HO465.out) hb); have n6_ := Aside0.mk (qkb (g := gb440) (o := .cells #[.string a0_0, .slice A0_1 l0_1.length c0_1] 24 (0, 0)) (bl_ BK440.out) hb); have n7_ := Aside0.mk (qkb (g := gb461) (o := .cells #[.string t456, .slice Ao31 t457.length co31] 30 (0, 0)) (bl_ BK461.out) hb); have n8_ := Aside0.mk (qkb (g := gb467) (o := .cells #[.string t462, .slice Ao37 t463.length co37] 24 (0, 0)) (bl_ BK467.out) hb); have n9_ := Aside0.mk (below_step (bw_ HB.out) hb); clear HO444; clear HO447; clear HO451; clear HO455; clear HO459; clear HO465; clear BK440; clear BK461; clear BK467; clear HB; have HO444 := n0_; have HO447 := n1_; have HO451 := n2_; have HO455 := n3_; have HO459 := n4_; have HO465 := n5_; have BK440 := n6_; have BK461 := n7_; have BK467 := n8_; have HB := n9_; clear n0_ n1_ n2_ n3_ n4_ n5_ n6_ n7_ n8_ n9_; (try clear hb); (try clear hb2); (try clear hk); (try clear hi)) | (go_at_call 11; (with_reducible refine (barbicanlaw26_sure.calls k  t471 _ ?side1 A17.out).mono ?_); (case side1 => exact GW_below HG.out (bw_ HB.out)); rintro e w44 ⟨rfl, hb⟩; have n0_ := Aside0.mk (Kd.S_below (by (with_reducible repeat (first | apply Kd.S_alloc | apply Kd.S_drewN | apply Kd.S_drew)); exact HO444.out) hb); have n1_ := Aside0.mk (Kd.R_below (kR_ HO447.out) hb); have n2_ := Aside0.mk (Kd.R_below (kR_ HO451.out) hb); have n3_ := Aside0.mk (Kd.R_below (kR_ HO455.out) hb); have n4_ := Aside0.mk (Kd.S_below (by (with_reducible repeat (first | apply Kd.S_alloc | apply Kd.S_drewN | apply Kd.S_drew)); exact HO459.out) hb); have n5_ := Aside0.mk (Kd.S_below (by (with_reducible repeat (first | apply Kd.S_alloc | apply Kd.S_drewN | apply Kd.S_drew)); exact HO465.out) hb); have n6_ := Aside0.mk (qkb (g := gb440) (o := .cells #[.string a0_0, .slice A0_1 l0_1.length c0_1] 24 (0, 0)) (bl_ BK440.out) hb); have n7_ := Aside0.mk (qkb (g := gb461) (o := .cells #[.string t456, .slice Ao31 t457.length co31] 30 (0, 0)) (bl_ BK461.out) hb); have n8_ := Aside0.mk (qkb (g := gb467) (o := .cells #[.string t462, .slice Ao37 t463.length co37] 24 (0, 0)) (bl_ BK467.out) hb); have n9_ := Aside0.mk (below_step (bw_ HB.out) hb); clear HO444; clear HO447; clear HO451; clear HO455; clear HO459; clear HO465; clear BK440; clear BK461; clear BK467; clear HB; have HO444 := n0_; have HO447 := n1_; have HO451 := n2_; have HO455 := n3_; have HO459 := n4_; have HO465 := n5_; have BK440 := n6_; have BK461 := n7_; have BK467 := n8_; have HB := n9_; clear n0_ n1_ n2_ n3_ n4_ n5_ n6_ n7_ n8_ n9_; (try clear hb); (try clear hb2); (try clear hk); (try clear hi)))
 go_ret
 exact ⟨by first | rfl | (simp [errW_none, errW_some] <;> rfl) | (simp [*, errW_none, errW_some] <;> rfl), bw_ HB.out⟩

end Go.Proofs.YtddkbhglbkfelaaDoor.E
