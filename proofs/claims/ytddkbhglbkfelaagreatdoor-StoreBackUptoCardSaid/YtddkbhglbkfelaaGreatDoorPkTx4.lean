import Derived.Test.YtddkbhglbkfelaaGreatDoorPkTx0
namespace Go.Proofs.YtddkbhglbkfelaaGreatDoor.T
open Go.RowKit Go.Proofs.YtddkbhglbkfelaaGreatDoorW.PrintWords Go.Proofs.YtddkbhglbkfelaaGreatDoorW.PrintLast Go.Proofs.YtddkbhglbkfelaaGreatDoorW.PrintMore Go.Proofs.YtddkbhglbkfelaaGreatDoorX
attribute [local go_sem] max2_int min2_int max_two min_two max_three min_three max_four min_four
set_option linter.unusedVariables false
set_option linter.unusedSimpArgs false

/-! ### pack_Uint: function 55 -/
mutual
def pack_Uint.l0 : Nat → List Int → Int → Int → Option (Int × Int × Option Int)
 | 0, _, _, _ => none
 | k + 1, x0, x5, x8 => if x8 < 10 then (if x8 = (x0.length : Int) then (some (0, 0, some 12)) else (if 0 ≤ x8 then (if x8 < (x0.length : Int) then (if x8 = 9 then (pack_Uint.j1 k x0 x5 x8 (rd x0 x8) x8 (decide ((rd x0 x8) > 1))) else (pack_Uint.j1 k x0 x5 x8 (rd x0 x8) x8 false)) else (none)) else (none))) else (some (0, 0, some 3))
def pack_Uint.j1 : Nat → List Int → Int → Int → Int → Int → Bool → Option (Int × Int × Option Int)
 | 0, _, _, _, _, _, _ => none
 | k + 1, x0, x5, x6, x7, x8, x25 => if x25 = true then (some (0, 0, some 3)) else (if 0 ≤ (IntKind.u64.wrap (wrap64 (7 * x6))) then (if x7 < 128 then (if x7 = 0 then (if x6 > 0 then (some (0, 0, some 3)) else (some (Go.bits .or .u64 x5 (shl .u64 (IntKind.u64.wrap (Go.bits .andNot .u8 x7 128)) (IntKind.u64.wrap (wrap64 (7 * x6)))), wrap64 (x6 + 1), none))) else (some (Go.bits .or .u64 x5 (shl .u64 (IntKind.u64.wrap (Go.bits .andNot .u8 x7 128)) (IntKind.u64.wrap (wrap64 (7 * x6)))), wrap64 (x6 + 1), none))) else (pack_Uint.l0 k x0 (Go.bits .or .u64 x5 (shl .u64 (IntKind.u64.wrap (Go.bits .andNot .u8 x7 128)) (IntKind.u64.wrap (wrap64 (7 * x6))))) (wrap64 (x8 + 1)))) else (none))
end
def pack_Uint.f (k : Nat) (l0 : List Int) : Option (Int × Int × Option Int) := pack_Uint.l0 k l0 0 0
theorem pack_Uint.mono_l : ∀ k, (∀ y0 y1 y2, LeO (pack_Uint.l0 k y0 y1 y2) (pack_Uint.l0 (k + 1) y0 y1 y2)) ∧ (∀ y0 y1 y2 y3 y4 y5, LeO (pack_Uint.j1 k y0 y1 y2 y3 y4 y5) (pack_Uint.j1 (k + 1) y0 y1 y2 y3 y4 y5))
 | 0 => ⟨fun _ _ _ r h => by simp [pack_Uint.l0] at h, fun _ _ _ _ _ _ r h => by simp [pack_Uint.j1] at h⟩
 | k + 1 => by
  obtain ⟨ih0, ih1⟩ := pack_Uint.mono_l k
  refine ⟨?_, ?_⟩
  ·intro y0 y1 y2
   unfold pack_Uint.l0
   repeat' first
   | (with_reducible exact ih0 _ _ _)
   | (with_reducible exact ih1 _ _ _ _ _ _)
   | (with_reducible exact LeO.refl _)
   | (with_reducible exact LeO.none _)
   | (with_reducible refine LeO.ite ?_ ?_)
   | (with_reducible refine LeO.bind ?_ (fun _ => ?_))
   | exact ih0 _ _ _
   | exact ih1 _ _ _ _ _ _
   | exact LeO.none _
   | refine LeO.ite ?_ ?_
   | refine LeO.bind ?_ (fun _ => ?_)
  intro y0 y1 y2 y3 y4 y5
  unfold pack_Uint.j1
  repeat' first
  | (with_reducible exact ih0 _ _ _)
  | (with_reducible exact ih1 _ _ _ _ _ _)
  | (with_reducible exact LeO.refl _)
  | (with_reducible exact LeO.none _)
  | (with_reducible refine LeO.ite ?_ ?_)
  | (with_reducible refine LeO.bind ?_ (fun _ => ?_))
  | exact ih0 _ _ _
  | exact ih1 _ _ _ _ _ _
  | exact LeO.none _
  | refine LeO.ite ?_ ?_
  | refine LeO.bind ?_ (fun _ => ?_)
theorem pack_Uint.mono : ∀ a0 k, LeO (pack_Uint.f k a0) (pack_Uint.f (k + 1) a0) := by
 intro a0 k
 obtain ⟨ih0, ih1⟩ := pack_Uint.mono_l k
 unfold pack_Uint.f
 repeat' first
   | (with_reducible exact ih0 _ _ _)
   | (with_reducible exact ih1 _ _ _ _ _ _)
   | (with_reducible exact LeO.refl _)
   | (with_reducible exact LeO.none _)
   | (with_reducible refine LeO.ite ?_ ?_)
   | (with_reducible refine LeO.bind ?_ (fun _ => ?_))
   | exact ih0 _ _ _
   | exact ih1 _ _ _ _ _ _
   | exact LeO.none _
   | refine LeO.ite ?_ ?_
   | refine LeO.bind ?_ (fun _ => ?_)
set_option maxHeartbeats 8000000 in
set_option maxRecDepth 100000 in
theorem pack_Uint.calls (k : Nat) (A0 : Option Addr) (c0 : Nat) (l0 : List Int) (r1 : Int) (r2 : Int) (r3 : Option Int) (w : World) (hr0 : Kd.C (Kd.int .u8) w A0 l0.length l0) (hc0 : l0.length ≤ c0) (h : pack_Uint.f k l0 = some (r1, r2, r3)) :
  Calls Tryz.prog 55 #[.slice A0 l0.length c0] w fun e w' => e = .returned (.tuple #[.int .u64 r1, .int .i64 r2, errW r3]) ∧ Drawn0 w w' := by
 have hu32 := Tryz.underlying32
 have hu65 := Tryz.underlying65
 have HR0 := Aside0.mk hr0
 have HC0 := Aside0.mk hc0
 clear hr0 hc0
 have H : (pack_Uint.l0 k l0 0 0) = some (r1, r2, r3) := h
 clear h
 have H' := Aside0.mk H
 clear H
 go_enter Tryz.func55, Tryz.ntmps55
 go_wp2
 go_loopg [5, 8] k (fun kq v5 v8 w' => ∃ (x5_1 : Int) (x8_1 : Int), v5 = .int .u64 x5_1 ∧ v8 = .int .i64 x8_1 ∧ Aside0 (pack_Uint.l0 kq l0 x5_1 x8_1 = some (r1, r2, r3)) ∧ Aside0 (kq ≤ k) ∧ Drawn0 w w')
 case atStart => exact ⟨(0), (0), fe_, fe_, H', ⟨Nat.le_refl _⟩, by repeat (first | exact Drawn0.refl _ | apply Drawn0.step)⟩
 case round =>
  clear H'
  obtain ⟨x5_1, x8_1, rfl, rfl, HA, HK1, ⟨m1, rfl⟩⟩ := hrel
  cases gk with
  | zero => exact absurd HA.out (by simp [pack_Uint.l0])
  | succ k1 =>
   have H := HA.out
   clear HA
   simp only [pack_Uint.l0] at H
   by_cases c2 : x8_1 < 10
   ·rw [if_pos c2] at H
    have c2b0 := dcT c2
    clear c2
    by_cases c3 : x8_1 = (l0.length : Int)
    ·rw [if_pos c3] at H
     have ⟨c3b0, c3b1⟩ := eqT c3
     clear c3
     obtain ⟨rfl, rfl, rfl⟩ := so3 H
     go_wp2
     go_ret3
     exact ⟨by first | rfl | (simp; done) | (simp [*]; done) | (simp [bne]; done), by repeat (first | exact Drawn0.refl _ | apply Drawn0.step)⟩
    rw [if_neg c3] at H
    have ⟨c3b0, c3b1⟩ := eqF c3
    have c4 : 0 ≤ x8_1 := Classical.byContradiction fun c4 => by rw [if_neg c4] at H; exact absurd H (by simp)
    rw [if_pos c4] at H
    have c4b0 := dcT c4
    clear c4
    have c5 : x8_1 < (l0.length : Int) := Classical.byContradiction fun c5 => by rw [if_neg c5] at H; exact absurd H (by simp)
    rw [if_pos c5] at H
    have c5b0 := dcT c5
    clear c5
    have HC6 := Aside0.mk H
    clear H
    have p128 : 0 ≤ (x8_1 : Int) := ode_
    have q128 : x8_1 < (l0.length : Int) := ode_
    obtain ⟨ad128, e128, hx128_0⟩ := Kd.at_int HR0.out x8_1 p128 q128
    cases e128
    replace p128 := eq_true p128
    replace q128 := eq_true q128
    go_upto_region 8 with (fail)
    go_cut [25] (fun v25 wc => ∃ (kq : Nat) (x25_5 : Bool), v25 = .bool x25_5 ∧ Aside0 (pack_Uint.j1 kq l0 x5_1 x8_1 (rd l0 x8_1) x8_1 x25_5 = some (r1, r2, r3)) ∧ Aside0 (kq ≤ k1) ∧ Drawn0 w wc)
    case first =>
     have H := HC6.out
     clear HC6
     by_cases c7 : x8_1 = 9
     ·rw [if_pos c7] at H
      have ⟨c7b0, c7b1⟩ := eqT c7
      clear c7
      (first | rw [c7b0] | (simp only [i64_w, i32_w]; rw [c7b0]) | skip)
      have H' := Aside0.mk H
      clear H
      go_wp2
      refine Met.intro ?_
      go_step
      (repeat apply Exists.intro)
      refine ⟨?rel, ?frm⟩
      case frm => first | rfl | (simp only [c2b0, c3b0, c3b1, c4b0, c5b0, c7b0, c7b1]; first | done | rfl)
      case rel => exact ⟨_, (decide ((rd l0 x8_1) > 1)), fe_, H', ⟨by have := HK1.out; first | omega | exact Nat.le_refl _⟩, by repeat (first | exact Drawn0.refl _ | apply Drawn0.step)⟩
     rw [if_neg c7] at H
     have ⟨c7b0, c7b1⟩ := eqF c7
     (first | rw [c7b0] | (simp only [i64_w, i32_w]; rw [c7b0]) | skip)
     have H' := Aside0.mk H
     clear H
     go_wp2
     refine Met.intro ?_
     go_step
     (repeat apply Exists.intro)
     refine ⟨?rel, ?frm⟩
     case frm => first | rfl | (simp only [c2b0, c3b0, c3b1, c4b0, c5b0, c7b0, c7b1]; first | done | rfl)
     case rel => exact ⟨_, (false), fe_, H', ⟨by have := HK1.out; first | omega | exact Nat.le_refl _⟩, by repeat (first | exact Drawn0.refl _ | apply Drawn0.step)⟩
    clear HC6
    (try clear c2); (try clear c2b0); (try clear c3); (try clear c3b0); (try clear c3b1); (try clear c4); (try clear c4b0); (try clear c5)
    (try clear c5b0); (try clear c7); (try clear c7b0); (try clear c7b1); (try clear hx128_0); (try clear p128); (try clear q128)
    obtain ⟨kq, x25_5, rfl, HA, HJ5, ⟨mc5, rfl⟩⟩ := hcut
    cases kq with
    | zero => exact absurd HA.out (by simp [pack_Uint.j1])
    | succ kj5 =>
     have H := HA.out
     clear HA
     simp only [pack_Uint.j1] at H
     by_cases c8 : x25_5 = true
     ·subst c8
      rw [if_pos rfl] at H
      obtain ⟨rfl, rfl, rfl⟩ := so3 H
      go_wp2
      go_ret3
      exact ⟨by first | rfl | (simp; done) | (simp [*]; done) | (simp [bne]; done), by repeat (first | exact Drawn0.refl _ | apply Drawn0.step)⟩
     replace c8 := Bool.eq_false_iff.mpr c8
     subst c8
     rw [if_neg (show ¬ (false = true) by decide)] at H
     obtain ⟨ji9, hji9⟩ : ∃ j_ : Int, (IntKind.u64.wrap (wrap64 (7 * x8_1))) = j_ := ⟨_, rfl⟩
     replace H : (if 0 ≤ (ji9) then (if (rd l0 x8_1) < 128 then (if (rd l0 x8_1) = 0 then (if x8_1 > 0 then (some (0, 0, some 3)) else (some (Go.bits .or .u64 x5_1 (shl .u64 (IntKind.u64.wrap (Go.bits .andNot .u8 (rd l0 x8_1) 128)) (ji9)), wrap64 (x8_1 + 1), none))) else (some (Go.bits .or .u64 x5_1 (shl .u64 (IntKind.u64.wrap (Go.bits .andNot .u8 (rd l0 x8_1) 128)) (ji9)), wrap64 (x8_1 + 1), none))) else (pack_Uint.l0 kj5 l0 (Go.bits .or .u64 x5_1 (shl .u64 (IntKind.u64.wrap (Go.bits .andNot .u8 (rd l0 x8_1) 128)) (ji9))) (wrap64 (x8_1 + 1)))) else (none)) = some (r1, r2, r3) := by first | (rw [hji9] at H; exact H) | (simp only [hji9] at H ⊢; exact H)
     have c10 : 0 ≤ (ji9) := Classical.byContradiction fun c10 => by rw [if_neg c10] at H; exact absurd H (by simp)
     rw [if_pos c10] at H
     have c10b0 := eq_true c10
     have c10b1 : decide (0 ≤ (ji9)) = true := decide_eq_true c10
     clear c10
     obtain ⟨ji11, hji11⟩ : ∃ j_ : Int, (shl .u64 (IntKind.u64.wrap (Go.bits .andNot .u8 (rd l0 x8_1) 128)) (ji9)) = j_ := ⟨_, rfl⟩
     replace H : (if (rd l0 x8_1) < 128 then (if (rd l0 x8_1) = 0 then (if x8_1 > 0 then (some (0, 0, some 3)) else (some (Go.bits .or .u64 x5_1 (ji11), wrap64 (x8_1 + 1), none))) else (some (Go.bits .or .u64 x5_1 (ji11), wrap64 (x8_1 + 1), none))) else (pack_Uint.l0 kj5 l0 (Go.bits .or .u64 x5_1 (ji11)) (wrap64 (x8_1 + 1)))) = some (r1, r2, r3) := by first | (rw [hji11] at H; exact H) | (simp only [hji11] at H ⊢; exact H)
     have hji11_ : (IntKind.u64.wrap ((IntKind.u64.wrap (Go.bits .andNot .u8 (rd l0 x8_1) 128)) * 2 ^ min (ji9).toNat 64)) = ji11 := hji11
     have hji11z : (ji9) ≤ 64 → (IntKind.u64.wrap ((IntKind.u64.wrap (Go.bits .andNot .u8 (rd l0 x8_1) 128)) * 2 ^ (ji9).toNat)) = ji11 := shl_small hji11
     by_cases c12 : (rd l0 x8_1) < 128
     ·rw [if_pos c12] at H
      have c12b0 := dcT c12
      clear c12
      by_cases c13 : (rd l0 x8_1) = 0
      ·rw [if_pos c13] at H
       have ⟨c13b0, c13b1⟩ := eqT c13
       clear c13
       by_cases c14 : x8_1 > 0
       ·rw [if_pos c14] at H
        have c14b0 : decide (0 < x8_1) = true := decide_eq_true c14
        clear c14
        obtain ⟨rfl, rfl, rfl⟩ := so3 H
        go_wp2
        go_ret3
        exact ⟨by first | rfl | (simp; done) | (simp only [← hji9, ← hji11] <;> (first | rfl | simp)) | (simp [*]; done) | (simp [bne]; done), by repeat (first | exact Drawn0.refl _ | apply Drawn0.step)⟩
       rw [if_neg c14] at H
       have c14b0 : decide (0 < x8_1) = false := decide_eq_false c14
       clear c14
       obtain ⟨rfl, rfl, rfl⟩ := so3 H
       go_wp2
       go_ret3
       exact ⟨by first | rfl | (simp; done) | (simp only [← hji9, ← hji11] <;> (first | rfl | simp)) | (simp [*]; done) | (simp [bne]; done), by repeat (first | exact Drawn0.refl _ | apply Drawn0.step)⟩
      rw [if_neg c13] at H
      have ⟨c13b0, c13b1⟩ := eqF c13
      obtain ⟨rfl, rfl, rfl⟩ := so3 H
      go_wp2
      go_ret3
      exact ⟨by first | rfl | (simp; done) | (simp only [← hji9, ← hji11] <;> (first | rfl | simp)) | (simp [*]; done) | (simp [bne]; done), by repeat (first | exact Drawn0.refl _ | apply Drawn0.step)⟩
     rw [if_neg c12] at H
     have c12b0 := dcF c12
     clear c12
     have H' := Aside0.mk H
     clear H
     go_wp2
     go_roundg kj5
     case measure => have := HK1.out; have := HJ5.out; omega
     case rel => exact ⟨(Go.bits .or .u64 x5_1 (ji11)), (wrap64 (x8_1 + 1)), (by first | rfl | (simp; done) | (simp only [← hji11] <;> (first | rfl | simp)) | (simp [*]; done) | (simp [bne]; done)), fe_, H', ⟨by have := HK1.out; have := HJ5.out; omega⟩, by repeat (first | exact Drawn0.refl _ | apply Drawn0.step)⟩
   rw [if_neg c2] at H
   have c2b0 := dcF c2
   clear c2
   obtain ⟨rfl, rfl, rfl⟩ := so3 H
   go_wp2
   go_ret3
   exact ⟨by first | rfl | (simp; done) | (simp [*]; done) | (simp [bne]; done), by repeat (first | exact Drawn0.refl _ | apply Drawn0.step)⟩

/-! ### pack_Text: function 82 -/
def pack_Text.f (k : Nat) (l0 : List Int) (a1 : Int) : Option (ByteArray × Int × Option Int) := if a1 < 0 then (some ((⟨#[]⟩ : ByteArray), 0, some 1)) else ((pack_Uint.f k l0).bind fun bt129 => (if bt129.2.2.isNone = true then (if bt129.1 > (IntKind.u64.wrap (a1)) then (some ((⟨#[]⟩ : ByteArray), 0, some 2)) else (if bt129.1 > (IntKind.u64.wrap (wrap64 ((l0.length : Int) - bt129.2.1))) then (some ((⟨#[]⟩ : ByteArray), 0, some 12)) else (if 0 ≤ bt129.2.1 then (if bt129.2.1 ≤ (wrap64 (bt129.2.1 + (wrap64 (bt129.1)))) then (if (wrap64 (bt129.2.1 + (wrap64 (bt129.1)))) ≤ (l0.length : Int) then (some (strOfNums ((l0.take ((wrap64 (bt129.2.1 + (wrap64 (bt129.1)))) : Int).toNat).drop (bt129.2.1 : Int).toNat), wrap64 (bt129.2.1 + (wrap64 (bt129.1))), none)) else (none)) else (none)) else (none)))) else (some ((⟨#[]⟩ : ByteArray), 0, some (bt129.2.2.getD 0)))))
theorem pack_Text.mono : ∀ a0 a1 k, LeO (pack_Text.f k a0 a1) (pack_Text.f (k + 1) a0 a1) := by
 intro a0 a1 k
 unfold pack_Text.f
 repeat' first
   | (with_reducible exact pack_Uint.mono _ _)
   | (with_reducible exact LeO.refl _)
   | (with_reducible exact LeO.none _)
   | (with_reducible refine LeO.ite ?_ ?_)
   | (with_reducible refine LeO.bind ?_ (fun _ => ?_))
   | exact pack_Uint.mono _ _
   | exact LeO.none _
   | refine LeO.ite ?_ ?_
   | refine LeO.bind ?_ (fun _ => ?_)
set_option maxHeartbeats 8000000 in
set_option maxRecDepth 100000 in
theorem pack_Text.calls (k : Nat) (A0 : Option Addr) (c0 : Nat) (l0 : List Int) (a1 : Int) (r1 : ByteArray) (r2 : Int) (r3 : Option Int) (w : World) (hr0 : Kd.C (Kd.int .u8) w A0 l0.length l0) (hc0 : l0.length ≤ c0) (h : pack_Text.f k l0 a1 = some (r1, r2, r3)) :
  Calls Tryz.prog 82 #[.slice A0 l0.length c0, .int .i64 a1] w fun e w' => e = .returned (.tuple #[.string r1, .int .i64 r2, errW r3]) ∧ Drawn0 w w' := by
 have hu32 := Tryz.underlying32
 have hu65 := Tryz.underlying65
 have HR0 := Aside0.mk hr0
 have HC0 := Aside0.mk hc0
 clear hr0 hc0
 have H : (if a1 < 0 then (some ((⟨#[]⟩ : ByteArray), 0, some 1)) else ((pack_Uint.f k l0).bind fun bt129 => (if bt129.2.2.isNone = true then (if bt129.1 > (IntKind.u64.wrap (a1)) then (some ((⟨#[]⟩ : ByteArray), 0, some 2)) else (if bt129.1 > (IntKind.u64.wrap (wrap64 ((l0.length : Int) - bt129.2.1))) then (some ((⟨#[]⟩ : ByteArray), 0, some 12)) else (if 0 ≤ bt129.2.1 then (if bt129.2.1 ≤ (wrap64 (bt129.2.1 + (wrap64 (bt129.1)))) then (if (wrap64 (bt129.2.1 + (wrap64 (bt129.1)))) ≤ (l0.length : Int) then (some (strOfNums ((l0.take ((wrap64 (bt129.2.1 + (wrap64 (bt129.1)))) : Int).toNat).drop (bt129.2.1 : Int).toNat), wrap64 (bt129.2.1 + (wrap64 (bt129.1))), none)) else (none)) else (none)) else (none)))) else (some ((⟨#[]⟩ : ByteArray), 0, some (bt129.2.2.getD 0)))))) = some (r1, r2, r3) := h
 clear h
 by_cases c3 : a1 < 0
 ·rw [if_pos c3] at H
  have c3b0 := dcT c3
  clear c3
  obtain ⟨rfl, rfl, rfl⟩ := so3 H
  go_enter Tryz.func82, Tryz.ntmps82
  go_wp2
  go_ret3
  exact ⟨by first | rfl | (simp; done) | (simp [*]; done) | (simp [bne]; done), by repeat (first | exact Drawn0.refl _ | apply Drawn0.step)⟩
 rw [if_neg c3] at H
 have c3b0 := dcF c3
 clear c3
 obtain ⟨⟨t129, t130, t131⟩, A4, H⟩ := bn_ H; (try dsimp only at H)
 rcases t131 with _ | q132
 ·have H1 : (if t129 > (IntKind.u64.wrap (a1)) then (some ((⟨#[]⟩ : ByteArray), 0, some 2)) else (if t129 > (IntKind.u64.wrap (wrap64 ((l0.length : Int) - t130))) then (some ((⟨#[]⟩ : ByteArray), 0, some 12)) else (if 0 ≤ t130 then (if t130 ≤ (wrap64 (t130 + (wrap64 (t129)))) then (if (wrap64 (t130 + (wrap64 (t129)))) ≤ (l0.length : Int) then (some (strOfNums ((l0.take ((wrap64 (t130 + (wrap64 (t129)))) : Int).toNat).drop (t130 : Int).toNat), wrap64 (t130 + (wrap64 (t129))), none)) else (none)) else (none)) else (none)))) = some (r1, r2, r3) := by rw [if_pos (show (none : Option Int).isNone = true by rfl)] at H; exact H
  clear H
  have H := H1
  clear H1
  try simp only [errW_none, errW_some]
  by_cases c5 : t129 > (IntKind.u64.wrap (a1))
  ·rw [if_pos c5] at H
   have c5b0 : decide ((IntKind.u64.wrap (a1)) < t129) = true := decide_eq_true c5
   clear c5
   obtain ⟨rfl, rfl, rfl⟩ := so3 H
   go_enter Tryz.func82, Tryz.ntmps82
   go_wp2_with (first | ((with_reducible refine qgc (f := 55) rfl ?_); refine gL_ (some 15) Tryz.func55 #[.slice A0 l0.length c0] ?_; (with_reducible refine (pack_Uint.calls k _ _ l0 t129 t130 none _ ?side1 ?side2 A4.out).mono ?_); (case side1 => exact kC_ HR0.out); (case side2 => exact HC0.out); rintro e w' ⟨rfl, ⟨nd, rfl⟩⟩; refine ⟨_, rfl, ?_⟩; (try simp only [errW_none, errW_some])))
   go_ret3
   exact ⟨by first | rfl | (simp; done) | (simp [*]; done) | (simp [bne]; done), by repeat (first | exact Drawn0.refl _ | apply Drawn0.step)⟩
  rw [if_neg c5] at H
  have c5b0 : decide ((IntKind.u64.wrap (a1)) < t129) = false := decide_eq_false c5
  clear c5
  by_cases c6 : t129 > (IntKind.u64.wrap (wrap64 ((l0.length : Int) - t130)))
  ·rw [if_pos c6] at H
   have c6b0 : decide ((IntKind.u64.wrap (wrap64 ((l0.length : Int) - t130))) < t129) = true := decide_eq_true c6
   clear c6
   obtain ⟨rfl, rfl, rfl⟩ := so3 H
   go_enter Tryz.func82, Tryz.ntmps82
   go_wp2_with (first | ((with_reducible refine qgc (f := 55) rfl ?_); refine gL_ (some 15) Tryz.func55 #[.slice A0 l0.length c0] ?_; (with_reducible refine (pack_Uint.calls k _ _ l0 t129 t130 none _ ?side1 ?side2 A4.out).mono ?_); (case side1 => exact kC_ HR0.out); (case side2 => exact HC0.out); rintro e w' ⟨rfl, ⟨nd, rfl⟩⟩; refine ⟨_, rfl, ?_⟩; (try simp only [errW_none, errW_some])))
   go_ret3
   exact ⟨by first | rfl | (simp; done) | (simp [*]; done) | (simp [bne]; done), by repeat (first | exact Drawn0.refl _ | apply Drawn0.step)⟩
  rw [if_neg c6] at H
  have c6b0 : decide ((IntKind.u64.wrap (wrap64 ((l0.length : Int) - t130))) < t129) = false := decide_eq_false c6
  clear c6
  have c7 : 0 ≤ t130 := Classical.byContradiction fun c7 => by rw [if_neg c7] at H; exact absurd H (by simp)
  rw [if_pos c7] at H
  have c7b0 := eq_true c7
  have c7b1 : decide (0 ≤ t130) = true := decide_eq_true c7
  clear c7
  have c8 : t130 ≤ (wrap64 (t130 + (wrap64 (t129)))) := Classical.byContradiction fun c8 => by rw [if_neg c8] at H; exact absurd H (by simp)
  rw [if_pos c8] at H
  have c8b0 := eq_true c8
  have c8b1 : decide (t130 ≤ (wrap64 (t130 + (wrap64 (t129))))) = true := decide_eq_true c8
  have c9 : (wrap64 (t130 + (wrap64 (t129)))) ≤ (l0.length : Int) := Classical.byContradiction fun c9 => by rw [if_neg c9] at H; exact absurd H (by simp)
  rw [if_pos c9] at H
  have c9b0 := eq_true c9
  have c9b1 : decide ((wrap64 (t130 + (wrap64 (t129)))) ≤ (l0.length : Int)) = true := decide_eq_true c9
  obtain ⟨rfl, rfl, rfl⟩ := so3 H
  go_enter Tryz.func82, Tryz.ntmps82
  go_wp2_with (first | ((with_reducible refine qgc (f := 55) rfl ?_); refine gL_ (some 15) Tryz.func55 #[.slice A0 l0.length c0] ?_; (with_reducible refine (pack_Uint.calls k _ _ l0 t129 t130 none _ ?side1 ?side2 A4.out).mono ?_); (case side1 => exact kC_ HR0.out); (case side2 => exact HC0.out); rintro e w' ⟨rfl, ⟨nd, rfl⟩⟩; refine ⟨_, rfl, ?_⟩; (try simp only [errW_none, errW_some]); obtain ⟨i010, hi010, _, hsz10, _⟩ := info_parts info5; obtain ⟨A10, hcut10, hA10, hC10⟩ := print_mid_of (P := Tryz.prog) (Value.int .u8) 0 27 5 .i64 .i64 Tryz.underlying27 hi010 hsz10 A0 c0 l0 t130 (wrap64 (t130 + (wrap64 (t129)))) (ode_) (by first | omega | exact ode_) (ode_) HC0.out; have HR133 := Aside0.mk (Kd.C_of_reads (h1 := fun _ => rfl) (hA10 _ (Kd.reads_of_C HR0.out))); have HC133 := Aside0.mk hC10; clear hA10 hC10 hi010 hsz10; have hcv11 := Kd.C_string (P := Tryz.prog) (A := A10) (c := (c0 - t130.toNat)) Tryz.underlying27 Tryz.underlying5 Tryz.underlying9 HR133.out; have hcd11 := fun n_ : Nat => Kd.C_string (P := Tryz.prog) (A := A10) (c := (c0 - t130.toNat)) Tryz.underlying27 Tryz.underlying5 Tryz.underlying9 (Kd.C_drewN HR133.out n_); have hmn11 : min ((wrap64 (t130 + (wrap64 (t129)))) : Int).toNat l0.length = ((wrap64 (t130 + (wrap64 (t129)))) : Int).toNat := Nat.min_eq_left (by omega); (try simp only [List.length_drop, List.length_take, hmn11] at hcv11 hcd11); clear hmn11))
  go_ret3
  exact ⟨by first | rfl | (simp; done) | (simp [*]; done) | (simp [bne]; done), by repeat (first | exact Drawn0.refl _ | apply Drawn0.step)⟩
 have H1 : (some ((⟨#[]⟩ : ByteArray), 0, some q132)) = some (r1, r2, r3) := by rw [if_neg (show ¬ (some q132).isNone = true by simp)] at H; exact H
 clear H
 have H := H1
 clear H1
 try simp only [errW_none, errW_some]
 obtain ⟨rfl, rfl, rfl⟩ := so3 H
 go_enter Tryz.func82, Tryz.ntmps82
 go_wp2_with (first | ((with_reducible refine qgc (f := 55) rfl ?_); refine gL_ (some 15) Tryz.func55 #[.slice A0 l0.length c0] ?_; (with_reducible refine (pack_Uint.calls k _ _ l0 t129 t130 (some q132) _ ?side1 ?side2 A4.out).mono ?_); (case side1 => exact kC_ HR0.out); (case side2 => exact HC0.out); rintro e w' ⟨rfl, ⟨nd, rfl⟩⟩; refine ⟨_, rfl, ?_⟩; (try simp only [errW_none, errW_some])))
 go_ret3
 exact ⟨by first | rfl | (simp; done) | (simp [*]; done) | (simp [bne]; done), by repeat (first | exact Drawn0.refl _ | apply Drawn0.step)⟩

/-! ### value_Kind: function 84 -/
def value_Kind.f (a0 : Int) : Option (ByteArray) := if a0 = 0 then (some (⟨#[78, 85, 76, 76]⟩ : ByteArray)) else (if a0 = 1 then (some (⟨#[73, 78, 84]⟩ : ByteArray)) else (if a0 = 2 then (some (⟨#[84, 69, 88, 84]⟩ : ByteArray)) else (if a0 = 3 then (some (⟨#[66, 79, 79, 76]⟩ : ByteArray)) else (some (⟨#[]⟩ : ByteArray)))))
set_option maxHeartbeats 8000000 in
set_option maxRecDepth 100000 in
theorem value_Kind.calls (a0 : Int) (r : ByteArray) (w : World) (h : value_Kind.f a0 = some r) :
  Calls Tryz.prog 84 #[.int .i64 a0] w fun e w' => e = .returned (.string r) ∧ Drawn0 w w' := by
 have H : (if a0 = 0 then (some (⟨#[78, 85, 76, 76]⟩ : ByteArray)) else (if a0 = 1 then (some (⟨#[73, 78, 84]⟩ : ByteArray)) else (if a0 = 2 then (some (⟨#[84, 69, 88, 84]⟩ : ByteArray)) else (if a0 = 3 then (some (⟨#[66, 79, 79, 76]⟩ : ByteArray)) else (some (⟨#[]⟩ : ByteArray)))))) = some r := h
 clear h
 by_cases c2 : a0 = 0
 ·rw [if_pos c2] at H
  have ⟨c2b0, c2b1⟩ := eqT c2
  clear c2
  obtain rfl := Option.some.inj H
  go_enter Tryz.func84, Tryz.ntmps84
  go_wp2
  go_ret
  exact ⟨by first | rfl | (simp; done) | (simp [*]; done) | (simp [bne]; done), by repeat (first | exact Drawn0.refl _ | apply Drawn0.step)⟩
 rw [if_neg c2] at H
 have ⟨c2b0, c2b1⟩ := eqF c2
 by_cases c3 : a0 = 1
 ·rw [if_pos c3] at H
  have ⟨c3b0, c3b1⟩ := eqT c3
  clear c3
  obtain rfl := Option.some.inj H
  go_enter Tryz.func84, Tryz.ntmps84
  go_wp2
  go_ret
  exact ⟨by first | rfl | (simp; done) | (simp [*]; done) | (simp [bne]; done), by repeat (first | exact Drawn0.refl _ | apply Drawn0.step)⟩
 rw [if_neg c3] at H
 have ⟨c3b0, c3b1⟩ := eqF c3
 by_cases c4 : a0 = 2
 ·rw [if_pos c4] at H
  have ⟨c4b0, c4b1⟩ := eqT c4
  clear c4
  obtain rfl := Option.some.inj H
  go_enter Tryz.func84, Tryz.ntmps84
  go_wp2
  go_ret
  exact ⟨by first | rfl | (simp; done) | (simp [*]; done) | (simp [bne]; done), by repeat (first | exact Drawn0.refl _ | apply Drawn0.step)⟩
 rw [if_neg c4] at H
 have ⟨c4b0, c4b1⟩ := eqF c4
 by_cases c5 : a0 = 3
 ·rw [if_pos c5] at H
  have ⟨c5b0, c5b1⟩ := eqT c5
  clear c5
  obtain rfl := Option.some.inj H
  go_enter Tryz.func84, Tryz.ntmps84
  go_wp2
  go_ret
  exact ⟨by first | rfl | (simp; done) | (simp [*]; done) | (simp [bne]; done), by repeat (first | exact Drawn0.refl _ | apply Drawn0.step)⟩
 rw [if_neg c5] at H
 have ⟨c5b0, c5b1⟩ := eqF c5
 obtain rfl := Option.some.inj H
 go_enter Tryz.func84, Tryz.ntmps84
 go_wp2
 go_ret
 exact ⟨by first | rfl | (simp; done) | (simp [*]; done) | (simp [bne]; done), by repeat (first | exact Drawn0.refl _ | apply Drawn0.step)⟩

/-! ### value_Valid_1: function 86 -/

/-! ### EXT strings_IndexFunc_Valid: function 85 -/
/-- Is a rune none of those that a text may have? -/
def nonPrint (r : Nat) : Bool := decide (r < 32) || decide (126 < r)
theorem validPred (w : World) : Go.Proofs.PredAt Tryz.prog 86 #[] Go.Proofs.encR nonPrint w := fun W r _ => by
 unfold Go.Proofs.FnGives
 by_cases h1 : r < 32 <;> by_cases h2 : 126 < r
 all_goals
  have z1 : (r : Int) < 32 ↔ r < 32 := by omega
  have z2 : (126 : Int) < (r : Int) ↔ 126 < r := by omega
  go_enter Tryz.func86, Tryz.ntmps86
  go_wp2
  all_goals first | (exfalso; omega) | (go_ret; exact ⟨by simp [nonPrint, h1, h2], 0, rfl⟩)
def strings_IndexFunc_Valid.f (a0 : ByteArray) : Option Int := some (Lib.idxFunc nonPrint true a0)
theorem strings_IndexFunc_Valid.calls (a0 : ByteArray) (r : Int) (w : World) (h : strings_IndexFunc_Valid.f a0 = some r) :
  Calls Tryz.prog 85 #[.string a0, .func (.func 86) #[] #[]] w fun e w' => e = .returned (.int .i64 r) ∧ Below w.heap.size w w' := by
 obtain rfl := Option.some.inj h
 exact Tryz.strings_IndexFunc 86 #[] (enters_of Tryz.func86 (by kernel_rfl) rfl) nonPrint a0 w (validPred w)

end Go.Proofs.YtddkbhglbkfelaaGreatDoor.T
