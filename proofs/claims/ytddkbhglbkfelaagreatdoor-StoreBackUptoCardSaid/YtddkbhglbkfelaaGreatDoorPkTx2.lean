import Derived.Test.YtddkbhglbkfelaaGreatDoorPkTx0
namespace Go.Proofs.YtddkbhglbkfelaaGreatDoor.T
open Go.RowKit Go.Proofs.YtddkbhglbkfelaaGreatDoorW.PrintWords Go.Proofs.YtddkbhglbkfelaaGreatDoorW.PrintLast Go.Proofs.YtddkbhglbkfelaaGreatDoorW.PrintMore Go.Proofs.YtddkbhglbkfelaaGreatDoorX
attribute [local go_sem] max2_int min2_int max_two min_two max_three min_three max_four min_four
set_option linter.unusedVariables false
set_option linter.unusedSimpArgs false

/-! ### EXT strings_Index: function 93 -/
def strings_Index.f (a0 a1 : ByteArray) : Option Int := if a0.size < 4294967281 then some (Lib.index a0.data.toList a1.data.toList) else none
theorem strings_Index.calls (a0 a1 : ByteArray) (r : Int) (w : World) (hG : GW w) (h : strings_Index.f a0 a1 = some r) :
  Calls Tryz.prog 93 #[.string a0, .string a1] w fun e w' => e = .returned (.int .i64 r) ∧ Below w.heap.size w w' := by
 unfold strings_Index.f at h
 by_cases hc : a0.size < 4294967281
 ·rw [if_pos hc] at h
  obtain rfl := Option.some.inj h
  obtain ⟨m, hm⟩ := hG.m
  refine (Tryz.strings_Index a0 a1 m w hc hm).mono ?_
  rintro e w' ⟨rfl, rfl⟩
  exact ⟨rfl, Below.refl _ _⟩
 rw [if_neg hc] at h; cases h

/-! ### strings_Contains: function 83 -/
def strings_Contains.f (a0 : ByteArray) (a1 : ByteArray) : Option (Bool) := (strings_Index.f a0 a1).bind fun t101 => (some (decide (t101 ≥ 0)))
set_option maxHeartbeats 8000000 in
set_option maxRecDepth 100000 in
theorem strings_Contains.calls (a0 : ByteArray) (a1 : ByteArray) (r : Bool) (w : World) (hG : GW w) (h : strings_Contains.f a0 a1 = some r) :
  Calls Tryz.prog 83 #[.string a0, .string a1] w fun e w' => e = .returned (.bool r) ∧ Below w.heap.size w w' := by
 have HB := Aside0.mk (Below.refl w.heap.size w)
 have HG := Aside0.mk hG
 clear hG
 have H : ((strings_Index.f a0 a1).bind fun t101 => (some (decide (t101 ≥ 0)))) = some r := h
 clear h
 obtain ⟨t101, A3, H⟩ := bn_ H; (try dsimp only at H)
 obtain rfl := Option.some.inj H
 go_enter Tryz.func83, Tryz.ntmps83
 go_wp2_with (first | ((with_reducible refine qgc (f := 93) rfl ?_); refine gL_ (some 7) Tryz.func93 #[.string a0, .string a1] ?_; (with_reducible refine (strings_Index.calls a0 a1 t101 _ ?side1 A3.out).mono ?_); (case side1 => exact GW_below HG.out (bw_ HB.out)); rintro e w4 ⟨rfl, hb⟩; refine ⟨_, rfl, ?_⟩; replace HB := bS_ HB hb; clear hb))
 go_ret
 exact ⟨fr_, bw_ HB.out⟩

/-! ### table_Reserved: function 67 -/
def table_Reserved.f (a0 : ByteArray) : Option (Bool) := if a0.toList = ([] : List UInt8) then (some false) else ((strings_Contains.f a0 (⟨#[32]⟩ : ByteArray)).bind fun t102 => (if t102 = true then (some false) else (if 1 + a0.size ≤ 9223372036854775807 then (if ((⟨#[32]⟩ : ByteArray) ++ a0).size + 1 ≤ 9223372036854775807 then ((strings_Contains.f (⟨#[32, 97, 110, 100, 32, 97, 115, 32, 97, 115, 99, 32, 98, 101, 103, 105, 110, 32, 98, 111, 111, 108, 32, 98, 121, 32, 99, 111, 109, 109, 105, 116, 32, 99, 111, 117, 110, 116, 32, 100, 101, 108, 101, 116, 101, 32, 100, 101, 115, 99, 32, 101, 120, 112, 108, 97, 105, 110, 32, 102, 97, 108, 115, 101, 32, 102, 114, 111, 109, 32, 103, 114, 111, 117, 112, 32, 105, 110, 115, 101, 114, 116, 32, 105, 110, 116, 32, 105, 110, 116, 111, 32, 105, 115, 32, 107, 101, 121, 32, 108, 97, 98, 101, 108, 32, 108, 105, 109, 105, 116, 32, 109, 97, 120, 32, 109, 105, 110, 32, 110, 111, 116, 32, 110, 117, 108, 108, 32, 111, 114, 32, 111, 114, 100, 101, 114, 32, 114, 101, 108, 101, 97, 115, 101, 32, 114, 111, 108, 108, 98, 97, 99, 107, 32, 115, 101, 108, 101, 99, 116, 32, 115, 101, 116, 32, 115, 117, 109, 32, 116, 97, 98, 108, 101, 32, 116, 101, 120, 116, 32, 116, 114, 117, 101, 32, 117, 112, 100, 97, 116, 101, 32, 118, 97, 108, 117, 101, 115, 32, 118, 105, 101, 119, 32, 119, 104, 101, 114, 101, 32]⟩ : ByteArray) (((⟨#[32]⟩ : ByteArray) ++ a0) ++ (⟨#[32]⟩ : ByteArray))).bind fun t103 => (some t103)) else (none)) else (none))))
set_option maxHeartbeats 8000000 in
set_option maxRecDepth 100000 in
theorem table_Reserved.calls (a0 : ByteArray) (r : Bool) (w : World) (hG : GW w) (h : table_Reserved.f a0 = some r) :
  Calls Tryz.prog 67 #[.string a0] w fun e w' => e = .returned (.bool r) ∧ Below w.heap.size w w' := by
 have HB := Aside0.mk (Below.refl w.heap.size w)
 have HG := Aside0.mk hG
 clear hG
 have H : (if a0.toList = ([] : List UInt8) then (some false) else ((strings_Contains.f a0 (⟨#[32]⟩ : ByteArray)).bind fun t102 => (if t102 = true then (some false) else (if 1 + a0.size ≤ 9223372036854775807 then (if ((⟨#[32]⟩ : ByteArray) ++ a0).size + 1 ≤ 9223372036854775807 then ((strings_Contains.f (⟨#[32, 97, 110, 100, 32, 97, 115, 32, 97, 115, 99, 32, 98, 101, 103, 105, 110, 32, 98, 111, 111, 108, 32, 98, 121, 32, 99, 111, 109, 109, 105, 116, 32, 99, 111, 117, 110, 116, 32, 100, 101, 108, 101, 116, 101, 32, 100, 101, 115, 99, 32, 101, 120, 112, 108, 97, 105, 110, 32, 102, 97, 108, 115, 101, 32, 102, 114, 111, 109, 32, 103, 114, 111, 117, 112, 32, 105, 110, 115, 101, 114, 116, 32, 105, 110, 116, 32, 105, 110, 116, 111, 32, 105, 115, 32, 107, 101, 121, 32, 108, 97, 98, 101, 108, 32, 108, 105, 109, 105, 116, 32, 109, 97, 120, 32, 109, 105, 110, 32, 110, 111, 116, 32, 110, 117, 108, 108, 32, 111, 114, 32, 111, 114, 100, 101, 114, 32, 114, 101, 108, 101, 97, 115, 101, 32, 114, 111, 108, 108, 98, 97, 99, 107, 32, 115, 101, 108, 101, 99, 116, 32, 115, 101, 116, 32, 115, 117, 109, 32, 116, 97, 98, 108, 101, 32, 116, 101, 120, 116, 32, 116, 114, 117, 101, 32, 117, 112, 100, 97, 116, 101, 32, 118, 97, 108, 117, 101, 115, 32, 118, 105, 101, 119, 32, 119, 104, 101, 114, 101, 32]⟩ : ByteArray) (((⟨#[32]⟩ : ByteArray) ++ a0) ++ (⟨#[32]⟩ : ByteArray))).bind fun t103 => (some t103)) else (none)) else (none))))) = some r := h
 clear h
 by_cases c2 : a0.toList = ([] : List UInt8)
 ·rw [if_pos c2] at H
  have ⟨c2b0, c2b1⟩ := eqT c2
  clear c2
  obtain rfl := Option.some.inj H
  go_enter Tryz.func67, Tryz.ntmps67
  go_wp2
  go_ret
  exact ⟨fr_, bw_ HB.out⟩
 rw [if_neg c2] at H
 have ⟨c2b0, c2b1⟩ := eqF c2
 obtain ⟨t102, A3, H⟩ := bn_ H; (try dsimp only at H)
 by_cases c4 : t102 = true
 ·subst c4
  rw [if_pos rfl] at H
  obtain rfl := Option.some.inj H
  go_enter Tryz.func67, Tryz.ntmps67
  go_wp2_with (first | (go_at_call 83; (with_reducible refine (strings_Contains.calls a0 (⟨#[32]⟩ : ByteArray) true _ ?side1 A3.out).mono ?_); (case side1 => exact GW_below HG.out (bw_ HB.out)); rintro e w5 ⟨rfl, hb⟩; replace HB := bS_ HB hb; clear hb))
  go_ret
  exact ⟨fr_, bw_ HB.out⟩
 replace c4 := Bool.eq_false_iff.mpr c4
 subst c4
 rw [if_neg (show ¬ (false = true) by decide)] at H
 have c6 : 1 + a0.size ≤ 9223372036854775807 := Classical.byContradiction fun c6 => by rw [if_neg c6] at H; exact absurd H (by simp)
 rw [if_pos c6] at H
 have c6b0 := eq_true c6
 have c6b1 : decide (1 + a0.size ≤ 9223372036854775807) = true := decide_eq_true c6
 try have c6b2 : (9223372036854775807 < 1 + a0.size) = False := eq_false (Nat.not_lt.2 c6)
 have c7 : ((⟨#[32]⟩ : ByteArray) ++ a0).size + 1 ≤ 9223372036854775807 := Classical.byContradiction fun c7 => by rw [if_neg c7] at H; exact absurd H (by simp)
 rw [if_pos c7] at H
 have c7b0 := eq_true c7
 have c7b1 : decide (((⟨#[32]⟩ : ByteArray) ++ a0).size + 1 ≤ 9223372036854775807) = true := decide_eq_true c7
 try have c7b2 : (9223372036854775807 < ((⟨#[32]⟩ : ByteArray) ++ a0).size + 1) = False := eq_false (Nat.not_lt.2 c7)
 try have c7b3 : (9223372036854775807 < 1 + a0.size + 1) = False := (by have h_ := c7b2; (try simp only [ByteArray.size_append] at h_); exact h_)
 obtain ⟨t103, A8, H⟩ := bn_ H; (try dsimp only at H)
 obtain rfl := Option.some.inj H
 go_enter Tryz.func67, Tryz.ntmps67
 go_wp2_with (first | (go_at_call 83; (with_reducible refine (strings_Contains.calls a0 (⟨#[32]⟩ : ByteArray) false _ ?side1 A3.out).mono ?_); (case side1 => exact GW_below HG.out (bw_ HB.out)); rintro e w9 ⟨rfl, hb⟩; replace HB := bS_ HB hb; clear hb) | (go_at_call 83; (with_reducible refine (strings_Contains.calls (⟨#[32, 97, 110, 100, 32, 97, 115, 32, 97, 115, 99, 32, 98, 101, 103, 105, 110, 32, 98, 111, 111, 108, 32, 98, 121, 32, 99, 111, 109, 109, 105, 116, 32, 99, 111, 117, 110, 116, 32, 100, 101, 108, 101, 116, 101, 32, 100, 101, 115, 99, 32, 101, 120, 112, 108, 97, 105, 110, 32, 102, 97, 108, 115, 101, 32, 102, 114, 111, 109, 32, 103, 114, 111, 117, 112, 32, 105, 110, 115, 101, 114, 116, 32, 105, 110, 116, 32, 105, 110, 116, 111, 32, 105, 115, 32, 107, 101, 121, 32, 108, 97, 98, 101, 108, 32, 108, 105, 109, 105, 116, 32, 109, 97, 120, 32, 109, 105, 110, 32, 110, 111, 116, 32, 110, 117, 108, 108, 32, 111, 114, 32, 111, 114, 100, 101, 114, 32, 114, 101, 108, 101, 97, 115, 101, 32, 114, 111, 108, 108, 98, 97, 99, 107, 32, 115, 101, 108, 101, 99, 116, 32, 115, 101, 116, 32, 115, 117, 109, 32, 116, 97, 98, 108, 101, 32, 116, 101, 120, 116, 32, 116, 114, 117, 101, 32, 117, 112, 100, 97, 116, 101, 32, 118, 97, 108, 117, 101, 115, 32, 118, 105, 101, 119, 32, 119, 104, 101, 114, 101, 32]⟩ : ByteArray) (((⟨#[32]⟩ : ByteArray) ++ a0) ++ (⟨#[32]⟩ : ByteArray)) t103 _ ?side1 A8.out).mono ?_); (case side1 => exact GW_below HG.out (bw_ HB.out)); rintro e w10 ⟨rfl, hb⟩; replace HB := bS_ HB hb; clear hb))
 go_ret
 exact ⟨fr_, bw_ HB.out⟩

/-! ### table_Name: function 40 -/
mutual
def table_Name.j0 : Nat → ByteArray → Bool → Option (Bool)
 | 0, _, _ => none
 | k + 1, x0, x17 => if x17 = true then (some false) else (table_Name.l0 k x0 (x0.size : Int) 0)
def table_Name.l0 : Nat → ByteArray → Int → Int → Option (Bool)
 | 0, _, _, _ => none
 | k + 1, x0, x19, x20 => if x20 < x19 then (if 0 ≤ x20 then (if x20 < (x0.size : Int) then (if (bt x0 x20) ≥ 97 then (if ((bt x0 x20) ≤ 122) then (table_Name.l0 k x0 x19 (wrap64 (x20 + 1))) else (if x20 = 0 then (some false) else (if (bt x0 x20) = 95 then (table_Name.l0 k x0 x19 (wrap64 (x20 + 1))) else (if (bt x0 x20) < 48 then (some false) else (if (bt x0 x20) > 57 then (some false) else (table_Name.l0 k x0 x19 (wrap64 (x20 + 1)))))))) else (if x20 = 0 then (some false) else (if (bt x0 x20) = 95 then (table_Name.l0 k x0 x19 (wrap64 (x20 + 1))) else (if (bt x0 x20) < 48 then (some false) else (if (bt x0 x20) > 57 then (some false) else (table_Name.l0 k x0 x19 (wrap64 (x20 + 1)))))))) else (none)) else (none)) else (some true)
end
def table_Name.f (k : Nat) (a0 : ByteArray) : Option (Bool) := if (a0.size : Int) < 1 then (table_Name.j0 k a0 true) else (if (a0.size : Int) > 32 then (table_Name.j0 k a0 true) else ((table_Reserved.f a0).bind fun t104 => (table_Name.j0 k a0 t104)))
theorem table_Name.mono_l : ∀ k, (∀ y0 y1, LeO (table_Name.j0 k y0 y1) (table_Name.j0 (k + 1) y0 y1)) ∧ (∀ y0 y1 y2, LeO (table_Name.l0 k y0 y1 y2) (table_Name.l0 (k + 1) y0 y1 y2))
 | 0 => ⟨fun _ _ r h => by simp [table_Name.j0] at h, fun _ _ _ r h => by simp [table_Name.l0] at h⟩
 | k + 1 => by
  obtain ⟨ih0, ih1⟩ := table_Name.mono_l k
  refine ⟨?_, ?_⟩
  ·intro y0 y1
   unfold table_Name.j0
   repeat' first
   | (with_reducible exact ih0 _ _)
   | (with_reducible exact ih1 _ _ _)
   | (with_reducible exact LeO.refl _)
   | (with_reducible exact LeO.none _)
   | (with_reducible refine LeO.ite ?_ ?_)
   | (with_reducible refine LeO.bind ?_ (fun _ => ?_))
   | exact ih0 _ _
   | exact ih1 _ _ _
   | exact LeO.none _
   | refine LeO.ite ?_ ?_
   | refine LeO.bind ?_ (fun _ => ?_)
  intro y0 y1 y2
  unfold table_Name.l0
  repeat' first
  | (with_reducible exact ih0 _ _)
  | (with_reducible exact ih1 _ _ _)
  | (with_reducible exact LeO.refl _)
  | (with_reducible exact LeO.none _)
  | (with_reducible refine LeO.ite ?_ ?_)
  | (with_reducible refine LeO.bind ?_ (fun _ => ?_))
  | exact ih0 _ _
  | exact ih1 _ _ _
  | exact LeO.none _
  | refine LeO.ite ?_ ?_
  | refine LeO.bind ?_ (fun _ => ?_)
theorem table_Name.mono : ∀ a0 k, LeO (table_Name.f k a0) (table_Name.f (k + 1) a0) := by
 intro a0 k
 obtain ⟨ih0, ih1⟩ := table_Name.mono_l k
 unfold table_Name.f
 repeat' first
   | (with_reducible exact ih0 _ _)
   | (with_reducible exact ih1 _ _ _)
   | (with_reducible exact LeO.refl _)
   | (with_reducible exact LeO.none _)
   | (with_reducible refine LeO.ite ?_ ?_)
   | (with_reducible refine LeO.bind ?_ (fun _ => ?_))
   | exact ih0 _ _
   | exact ih1 _ _ _
   | exact LeO.none _
   | refine LeO.ite ?_ ?_
   | refine LeO.bind ?_ (fun _ => ?_)
set_option maxHeartbeats 8000000 in
set_option maxRecDepth 100000 in
theorem table_Name.calls (k : Nat) (a0 : ByteArray) (r : Bool) (w : World) (hG : GW w) (h : table_Name.f k a0 = some r) :
  Calls Tryz.prog 40 #[.string a0] w fun e w' => e = .returned (.bool r) ∧ Below w.heap.size w w' := by
 have HB := Aside0.mk (Below.refl w.heap.size w)
 have HG := Aside0.mk hG
 clear hG
 have H : (if (a0.size : Int) < 1 then (table_Name.j0 k a0 true) else (if (a0.size : Int) > 32 then (table_Name.j0 k a0 true) else ((table_Reserved.f a0).bind fun t104 => (table_Name.j0 k a0 t104)))) = some r := h
 clear h
 have HC2 := Aside0.mk H
 clear H
 go_enter Tryz.func40, Tryz.ntmps40
 go_upto_region 1 with (fail)
 go_cut [17] (fun v17 wc => ∃ (kq : Nat) (x17_1 : Bool), v17 = .bool x17_1 ∧ Aside0 (table_Name.j0 kq a0 x17_1 = some r) ∧ Aside0 (kq ≤ k) ∧ Aside0 (Below w.heap.size w wc))
 case first =>
  have H := HC2.out
  clear HC2
  by_cases c3 : (a0.size : Int) < 1
  ·rw [if_pos c3] at H
   have c3b0 := dcT c3
   have c3b1 : decide (a0.size < 1) = true := decide_eq_true (by omega)
   clear c3
   (first | rw [c3b0] | (simp only [i64_w, i32_w]; rw [c3b0]) | skip)
   have H' := Aside0.mk H
   clear H
   go_wp2
   refine Met.intro ?_
   go_step
   (repeat apply Exists.intro)
   refine ⟨?rel, ?frm⟩
   case frm => first | rfl | (simp only [c3b0, c3b1]; first | done | rfl)
   case rel => exact ⟨_, (true), fe_, H', ⟨by first | omega | exact Nat.le_refl _⟩, ⟨bw_ HB.out⟩⟩
  rw [if_neg c3] at H
  have c3b0 := dcF c3
  have c3b1 : decide (a0.size < 1) = false := decide_eq_false (by omega)
  clear c3
  (first | rw [c3b0] | (simp only [i64_w, i32_w]; rw [c3b0]) | skip)
  by_cases c4 : (a0.size : Int) > 32
  ·rw [if_pos c4] at H
   have c4b0 : decide (32 < (a0.size : Int)) = true := decide_eq_true c4
   have c4b1 : decide (32 < a0.size) = true := decide_eq_true (by omega)
   clear c4
   have H' := Aside0.mk H
   clear H
   go_wp2
   refine Met.intro ?_
   go_step
   (repeat apply Exists.intro)
   refine ⟨?rel, ?frm⟩
   case frm => first | rfl | (simp only [c3b0, c3b1, c4b0, c4b1]; first | done | rfl)
   case rel => exact ⟨_, (true), fe_, H', ⟨by first | omega | exact Nat.le_refl _⟩, ⟨bw_ HB.out⟩⟩
  rw [if_neg c4] at H
  have c4b0 : decide (32 < (a0.size : Int)) = false := decide_eq_false c4
  have c4b1 : decide (32 < a0.size) = false := decide_eq_false (by omega)
  clear c4
  obtain ⟨t104, A5, H⟩ := bn_ H; (try dsimp only at H)
  have H' := Aside0.mk H
  clear H
  go_wp2_with (first | (go_at_call 67; (with_reducible refine (table_Reserved.calls a0 t104 _ ?side1 A5.out).mono ?_); (case side1 => exact GW_below HG.out (bw_ HB.out)); rintro e w6 ⟨rfl, hb⟩; replace HB := bS_ HB hb; clear hb))
  refine Met.intro ?_
  go_step
  (repeat apply Exists.intro)
  refine ⟨?rel, ?frm⟩
  case frm => first | rfl | (simp only [c3b0, c3b1, c4b0, c4b1]; first | done | rfl)
  case rel => exact ⟨_, (t104), fe_, H', ⟨by first | omega | exact Nat.le_refl _⟩, ⟨bw_ HB.out⟩⟩
 clear HC2
 (try clear c3); (try clear c3b0); (try clear c3b1); (try clear c4); (try clear c4b0); (try clear c4b1)
 obtain ⟨kq, x17_1, rfl, HA, HJ1, HB⟩ := hcut
 cases kq with
 | zero => exact absurd HA.out (by simp [table_Name.j0])
 | succ kj1 =>
  have H := HA.out
  clear HA
  simp only [table_Name.j0] at H
  by_cases c7 : x17_1 = true
  ·subst c7
   rw [if_pos rfl] at H
   obtain rfl := Option.some.inj H
   go_wp2
   go_ret
   exact ⟨fr_, bw_ HB.out⟩
  replace c7 := Bool.eq_false_iff.mpr c7
  subst c7
  rw [if_neg (show ¬ (false = true) by decide)] at H
  have H' := Aside0.mk H
  clear H
  go_wp2
  go_loopg [20] kj1 (fun kq v20 w' => ∃ (x20_2 : Int), v20 = .int .i64 x20_2 ∧ Aside0 (table_Name.l0 kq a0 (a0.size : Int) x20_2 = some r) ∧ Aside0 (kq ≤ kj1) ∧ Aside0 (Below w.heap.size w w'))
  case atStart => exact ⟨(0), fe_, H', ⟨Nat.le_refl _⟩, ⟨bw_ HB.out⟩⟩
  case round =>
   clear H'
   (try clear c3); (try clear c3b0); (try clear c3b1); (try clear c4); (try clear c4b0); (try clear c4b1); (try clear c7)
   obtain ⟨x20_2, rfl, HA, HK2, HB⟩ := hrel
   cases gk with
   | zero => exact absurd HA.out (by simp [table_Name.l0])
   | succ k2 =>
    have H := HA.out
    clear HA
    simp only [table_Name.l0] at H
    by_cases c8 : x20_2 < (a0.size : Int)
    ·rw [if_pos c8] at H
     have c8b0 := dcT c8
     clear c8
     have c9 : 0 ≤ x20_2 := Classical.byContradiction fun c9 => by rw [if_neg c9] at H; exact absurd H (by simp)
     rw [if_pos c9] at H
     have c9b0 := dcT c9
     clear c9
     have c10 : x20_2 < (a0.size : Int) := Classical.byContradiction fun c10 => by rw [if_neg c10] at H; exact absurd H (by simp)
     rw [if_pos c10] at H
     have c10b0 := dcT c10
     clear c10
     by_cases c12 : (bt a0 x20_2) ≥ 97
     ·rw [if_pos c12] at H
      have c12b0 : decide (97 ≤ (bt a0 x20_2)) = true := decide_eq_true c12
      clear c12
      by_cases c13 : ((bt a0 x20_2) ≤ 122)
      ·rw [if_pos c13] at H
       have c13b0 : decide ((bt a0 x20_2) ≤ 122) = true := decide_eq_true c13
       clear c13
       have H' := Aside0.mk H
       clear H
       have p11 : 0 ≤ (x20_2 : Int) := ode_
       have q11 : x20_2 < (a0.size : Int) := ode_
       have hx11 := bt_at a0 x20_2
       replace p11 := eq_true p11
       replace q11 := eq_true q11
       go_wp2
       go_roundg k2
       case measure => have := HJ1.out; have := HK2.out; omega
       case rel => exact ⟨(wrap64 (x20_2 + 1)), fe_, H', ⟨by have := HJ1.out; have := HK2.out; omega⟩, ⟨bw_ HB.out⟩⟩
      rw [if_neg c13] at H
      have c13b0 : decide ((bt a0 x20_2) ≤ 122) = false := decide_eq_false c13
      clear c13
      by_cases c14 : x20_2 = 0
      ·rw [if_pos c14] at H
       have ⟨c14b0, c14b1⟩ := eqT c14
       clear c14
       obtain rfl := Option.some.inj H
       have p11 : 0 ≤ (x20_2 : Int) := ode_
       have q11 : x20_2 < (a0.size : Int) := ode_
       have hx11 := bt_at a0 x20_2
       replace p11 := eq_true p11
       replace q11 := eq_true q11
       go_wp2
       go_ret
       exact ⟨fr_, bw_ HB.out⟩
      rw [if_neg c14] at H
      have ⟨c14b0, c14b1⟩ := eqF c14
      by_cases c15 : (bt a0 x20_2) = 95
      ·rw [if_pos c15] at H
       have ⟨c15b0, c15b1⟩ := eqT c15
       clear c15
       have H' := Aside0.mk H
       clear H
       have p11 : 0 ≤ (x20_2 : Int) := ode_
       have q11 : x20_2 < (a0.size : Int) := ode_
       have hx11 := bt_at a0 x20_2
       replace p11 := eq_true p11
       replace q11 := eq_true q11
       go_wp2
       go_roundg k2
       case measure => have := HJ1.out; have := HK2.out; omega
       case rel => exact ⟨(wrap64 (x20_2 + 1)), fe_, H', ⟨by have := HJ1.out; have := HK2.out; omega⟩, ⟨bw_ HB.out⟩⟩
      rw [if_neg c15] at H
      have ⟨c15b0, c15b1⟩ := eqF c15
      by_cases c16 : (bt a0 x20_2) < 48
      ·rw [if_pos c16] at H
       have c16b0 := dcT c16
       clear c16
       obtain rfl := Option.some.inj H
       have p11 : 0 ≤ (x20_2 : Int) := ode_
       have q11 : x20_2 < (a0.size : Int) := ode_
       have hx11 := bt_at a0 x20_2
       replace p11 := eq_true p11
       replace q11 := eq_true q11
       go_wp2
       go_ret
       exact ⟨fr_, bw_ HB.out⟩
      rw [if_neg c16] at H
      have c16b0 := dcF c16
      clear c16
      by_cases c17 : (bt a0 x20_2) > 57
      ·rw [if_pos c17] at H
       have c17b0 : decide (57 < (bt a0 x20_2)) = true := decide_eq_true c17
       clear c17
       obtain rfl := Option.some.inj H
       have p11 : 0 ≤ (x20_2 : Int) := ode_
       have q11 : x20_2 < (a0.size : Int) := ode_
       have hx11 := bt_at a0 x20_2
       replace p11 := eq_true p11
       replace q11 := eq_true q11
       go_wp2
       go_ret
       exact ⟨fr_, bw_ HB.out⟩
      rw [if_neg c17] at H
      have c17b0 : decide (57 < (bt a0 x20_2)) = false := decide_eq_false c17
      clear c17
      have H' := Aside0.mk H
      clear H
      have p11 : 0 ≤ (x20_2 : Int) := ode_
      have q11 : x20_2 < (a0.size : Int) := ode_
      have hx11 := bt_at a0 x20_2
      replace p11 := eq_true p11
      replace q11 := eq_true q11
      go_wp2
      go_roundg k2
      case measure => have := HJ1.out; have := HK2.out; omega
      case rel => exact ⟨(wrap64 (x20_2 + 1)), fe_, H', ⟨by have := HJ1.out; have := HK2.out; omega⟩, ⟨bw_ HB.out⟩⟩
     rw [if_neg c12] at H
     have c12b0 : decide (97 ≤ (bt a0 x20_2)) = false := decide_eq_false c12
     clear c12
     by_cases c18 : x20_2 = 0
     ·rw [if_pos c18] at H
      have ⟨c18b0, c18b1⟩ := eqT c18
      clear c18
      obtain rfl := Option.some.inj H
      have p11 : 0 ≤ (x20_2 : Int) := ode_
      have q11 : x20_2 < (a0.size : Int) := ode_
      have hx11 := bt_at a0 x20_2
      replace p11 := eq_true p11
      replace q11 := eq_true q11
      go_wp2
      go_ret
      exact ⟨fr_, bw_ HB.out⟩
     rw [if_neg c18] at H
     have ⟨c18b0, c18b1⟩ := eqF c18
     by_cases c19 : (bt a0 x20_2) = 95
     ·rw [if_pos c19] at H
      have ⟨c19b0, c19b1⟩ := eqT c19
      clear c19
      have H' := Aside0.mk H
      clear H
      have p11 : 0 ≤ (x20_2 : Int) := ode_
      have q11 : x20_2 < (a0.size : Int) := ode_
      have hx11 := bt_at a0 x20_2
      replace p11 := eq_true p11
      replace q11 := eq_true q11
      go_wp2
      go_roundg k2
      case measure => have := HJ1.out; have := HK2.out; omega
      case rel => exact ⟨(wrap64 (x20_2 + 1)), fe_, H', ⟨by have := HJ1.out; have := HK2.out; omega⟩, ⟨bw_ HB.out⟩⟩
     rw [if_neg c19] at H
     have ⟨c19b0, c19b1⟩ := eqF c19
     by_cases c20 : (bt a0 x20_2) < 48
     ·rw [if_pos c20] at H
      have c20b0 := dcT c20
      clear c20
      obtain rfl := Option.some.inj H
      have p11 : 0 ≤ (x20_2 : Int) := ode_
      have q11 : x20_2 < (a0.size : Int) := ode_
      have hx11 := bt_at a0 x20_2
      replace p11 := eq_true p11
      replace q11 := eq_true q11
      go_wp2
      go_ret
      exact ⟨fr_, bw_ HB.out⟩
     rw [if_neg c20] at H
     have c20b0 := dcF c20
     clear c20
     by_cases c21 : (bt a0 x20_2) > 57
     ·rw [if_pos c21] at H
      have c21b0 : decide (57 < (bt a0 x20_2)) = true := decide_eq_true c21
      clear c21
      obtain rfl := Option.some.inj H
      have p11 : 0 ≤ (x20_2 : Int) := ode_
      have q11 : x20_2 < (a0.size : Int) := ode_
      have hx11 := bt_at a0 x20_2
      replace p11 := eq_true p11
      replace q11 := eq_true q11
      go_wp2
      go_ret
      exact ⟨fr_, bw_ HB.out⟩
     rw [if_neg c21] at H
     have c21b0 : decide (57 < (bt a0 x20_2)) = false := decide_eq_false c21
     clear c21
     have H' := Aside0.mk H
     clear H
     have p11 : 0 ≤ (x20_2 : Int) := ode_
     have q11 : x20_2 < (a0.size : Int) := ode_
     have hx11 := bt_at a0 x20_2
     replace p11 := eq_true p11
     replace q11 := eq_true q11
     go_wp2
     go_roundg k2
     case measure => have := HJ1.out; have := HK2.out; omega
     case rel => exact ⟨(wrap64 (x20_2 + 1)), fe_, H', ⟨by have := HJ1.out; have := HK2.out; omega⟩, ⟨bw_ HB.out⟩⟩
    rw [if_neg c8] at H
    have c8b0 := dcF c8
    clear c8
    obtain rfl := Option.some.inj H
    go_wp2
    go_ret
    exact ⟨fr_, bw_ HB.out⟩

/-! ### EXT table_column: function 70 -/
def cidx (s : ByteArray) : List S118 → Int → Int
 | [], _ => -1
 | x :: r, i => if (x.f0.toList == s.toList) = true then i else cidx s r (i + 1)
theorem cidx_any (s : ByteArray) : ∀ (l : List S118) (i : Int), 0 ≤ i → (decide (0 ≤ cidx s l i) = l.any (fun o => o.f0.toList == s.toList))
 | [], i, _ => by simp [cidx]
 | x :: r, i, h => by
  unfold cidx
  by_cases c : (x.f0.toList == s.toList) = true
  ·rw [if_pos c]; simp only [List.any_cons, c, Bool.true_or]; exact decide_eq_true h
  rw [if_neg c]; rw [cidx_any s r (i + 1) (by omega)]; simp only [List.any_cons]; rw [Bool.eq_false_iff.mpr c]; rfl
set_option maxHeartbeats 8000000 in
set_option maxRecDepth 100000 in
theorem col1_calls (s : ByteArray) (k : Int) (b1 b2 : Bool) (x : S118) (g : Nat) (w : World) (hg : w.heap[g]? = some (.cells #[.string s, .int .i64 k, .bool b1, .bool b2] 118 (0, 0))) :
  Calls Tryz.prog 88 #[.agg #[.string x.f0, .int .i64 x.f1, .bool x.f2, .bool x.f3], .pointer (some ⟨g, 0, none⟩)] w fun e w' => e = .returned (.bool (x.f0.toList == s.toList)) ∧ Below w.heap.size w w' := by
 have hc0 : w.cell? ⟨g, 0, none⟩ = some (.string s) := (qkc hg 0).trans rfl
 have hlt : g < w.heap.size := blk_lt hg
 have hu := Tryz.underlying118
 clear hg
 go_enter Tryz.func88, Tryz.ntmps88
 go_wp2
 go_ret
 exact ⟨rfl, below_alloc (Below.refl _ _) _⟩
set_option maxHeartbeats 8000000 in
set_option maxRecDepth 100000 in
theorem cidx_calls (s : ByteArray) (k : Int) (b1 b2 : Bool) (g : Nat) (A : Option Addr) (c : Nat) (l : List S118) (w : World) (hg : w.heap[g]? = some (.cells #[.string s, .int .i64 k, .bool b1, .bool b2] 118 (0, 0)))
  (hr : Kd.C k118 w A l.length l) (hc : l.length ≤ c) :
  Calls Tryz.prog 95 #[.slice A l.length c, .func (.func 88) #[] #[.pointer (some ⟨g, 0, none⟩)]] w fun e w' => e = .returned (.int .i64 (cidx s l 0)) ∧ Below w.heap.size w w' := by
 have HR := Aside0.mk hr
 have HG := Aside0.mk hg
 have HM := Aside0.mk (Kd.C_max hr)
 have hu := Tryz.underlying118
 clear hr hg hc
 go_enter Tryz.func95, Tryz.ntmps95
 go_wp2
 go_loopw [8] (fun v wr => ∃ i : Nat, v = .int .i64 i ∧ Aside0 (i ≤ l.length) ∧ Aside0 (cidx s (l.drop i) i = cidx s l 0) ∧ Aside0 (Below w.heap.size w wr)) (fun v _ => l.length - (intOf v).toNat)
 case atStart => exact ⟨0, rfl, ⟨Nat.zero_le _⟩, ⟨rfl⟩, ⟨Below.refl _ _⟩⟩
 case round =>
  obtain ⟨i, rfl, HI, HX, HB⟩ := hrel
  have hm : i ≤ 9223372036854775807 := Nat.le_trans HI.out HM.out
  by_cases hlt : i < l.length
  ·obtain ⟨ad, e_, h0, h1, h2, h3⟩ := at_T118 HR.out (i : Int) (by omega) (by omega)
   cases e_
   have hm2 : i + 1 ≤ 9223372036854775807 := by have := HM.out; omega
   simp only [Int.toNat_natCast] at h0 h1 h2 h3
   replace h0 := hc_ HB h0
   replace h1 := hc_ HB h1
   replace h2 := hc_ HB h2
   replace h3 := hc_ HB h3
   have hd : decide ((i : Int) < (l.length : Int)) = true := decide_eq_true (by omega)
   have p1 : (0 ≤ (i : Int)) = True := eq_true (by omega)
   have p2 : ((i : Int) < (l.length : Int)) = True := eq_true (by omega)
   have HS := Aside0.mk (show cidx s (l.drop i) i = if ((rd_T118 l i).f0.toList == s.toList) = true then (i : Int) else cidx s (l.drop (i + 1)) (i + 1) from by
    rw [List.drop_eq_getElem_cons hlt]; have : rd_T118 l i = l[i] := by simp [rd_T118, List.getD, hlt]
    rw [this]; rfl)
   have C := fun W hb => (col1_calls s k b1 b2 (rd_T118 l i) g W hb)
   cases hv : ((rd_T118 l i).f0.toList == s.toList) with
   | true =>
    have HV := Aside0.mk hv
    rw [hv] at C
    clear hv
    go_wp2_with (go_at_call 88; (with_reducible refine (C _ (qkb HG.out HB.out)).mono ?_); rintro e w2 ⟨rfl, hb⟩; have HB2 := Aside0.mk (below_step HB.out hb); clear hb)
    have E : cidx s l 0 = (i : Int) := by rw [← HX.out, HS.out, if_pos HV.out]
    go_ret
    exact ⟨by rw [E]; rfl, HB2.out⟩
   | false =>
    have HV := Aside0.mk hv
    rw [hv] at C
    clear hv
    go_wp2_with (go_at_call 88; (with_reducible refine (C _ (qkb HG.out HB.out)).mono ?_); rintro e w2 ⟨rfl, hb⟩; have HB2 := Aside0.mk (below_step HB.out hb); clear hb)
    go_roundw
    case rel => exact ⟨i + 1, by go_num, ⟨hlt⟩, ⟨by rw [← HX.out, HS.out, if_neg (by rw [HV.out]; decide)]; rfl⟩, HB2⟩
    case measure => simp [intOf]; omega
  have hd : decide ((i : Int) < (l.length : Int)) = false := decide_eq_false (by omega)
  have hx := HX.out
  rw [List.drop_eq_nil_of_le (by omega)] at hx
  have HX2 := Aside0.mk hx
  clear hx
  go_wp2
  go_ret
  exact ⟨by rw [← HX2.out]; rfl, HB.out⟩
set_option maxHeartbeats 8000000 in
set_option maxRecDepth 100000 in
theorem ccont_calls (s : ByteArray) (k : Int) (b1 b2 : Bool) (g : Nat) (A : Option Addr) (c : Nat) (l : List S118) (w : World) (hg : w.heap[g]? = some (.cells #[.string s, .int .i64 k, .bool b1, .bool b2] 118 (0, 0)))
  (hr : Kd.C k118 w A l.length l) (hc : l.length ≤ c) :
  Calls Tryz.prog 87 #[.slice A l.length c, .func (.func 88) #[] #[.pointer (some ⟨g, 0, none⟩)]] w fun e w' => e = .returned (.bool (l.any (fun o => o.f0.toList == s.toList))) ∧ Below w.heap.size w w' := by
 rw [← cidx_any s l 0 (by omega)]
 have C := cidx_calls s k b1 b2 g A c l w hg hr hc
 clear hg hr hc
 go_enter Tryz.func87, Tryz.ntmps87
 go_wp2_with (go_at_call 95; (with_reducible refine C.mono ?_); rintro e w2 ⟨rfl, hb⟩; have HB2 := Aside0.mk hb; clear hb)
 go_ret
 exact ⟨rfl, HB2.out⟩
def table_column.f (k : Nat) (a0_0 : ByteArray) (a0_1 : Int) (a0_2 a0_3 : Bool) (l1 : List S118) : Option (Option Int) :=
 (table_Name.f k a0_0).bind fun t => some (if t = false then some 30 else if l1.any (fun o => o.f0.toList == a0_0.toList) = true then some 9 else if (a0_1 != 1 && (a0_1 != 2 && a0_1 != 3)) = true then some 7 else if (a0_2 && a0_3) = true then some 33 else none)
set_option maxHeartbeats 8000000 in
set_option maxRecDepth 100000 in
theorem table_column.calls (k : Nat) (a0_0 : ByteArray) (a0_1 : Int) (a0_2 a0_3 : Bool) (A1 : Option Addr) (c1 : Nat) (l1 : List S118) (r : Option Int) (w : World) (hr1 : Kd.C k118 w A1 l1.length l1) (hc1 : l1.length ≤ c1) (hG : GW w) (h : table_column.f k a0_0 a0_1 a0_2 a0_3 l1 = some r) :
  Calls Tryz.prog 70 #[.agg #[.string a0_0, .int .i64 a0_1, .bool a0_2, .bool a0_3], .slice A1 l1.length c1] w fun e w' => e = .returned (errW r) ∧ Below w.heap.size w w' := by
 obtain ⟨t, ht, h⟩ := Option.bind_eq_some_iff.mp h
 replace h := Option.some.inj h
 have HT := Aside0.mk ht
 have HR := Aside0.mk hr1
 have HC := Aside0.mk hc1
 have HG := Aside0.mk hG
 have hu := Tryz.underlying118
 have hue := Tryz.underlying65
 clear ht hr1 hc1 hG
 have C := fun W g hg (hb : Below w.heap.size w W) => ccont_calls a0_0 a0_1 a0_2 a0_3 g A1 c1 l1 W hg (Kd.C_below HR.out hb) HC.out
 cases hv : l1.any (fun o => o.f0.toList == a0_0.toList) <;> rw [hv] at C h <;> clear hv
 all_goals
  cases t
  all_goals
   try rw [if_pos rfl] at h
   try rw [if_neg (by decide)] at h
 case false.false | true.false =>
  subst h
  go_enter Tryz.func70, Tryz.ntmps70
  go_wp2_with (go_at_call 40; (with_reducible refine (table_Name.calls k a0_0 false _ (GW_below HG.out (below_alloc (Below.refl _ _) _)) HT.out).mono ?_); rintro e w2 ⟨rfl, hb⟩; have HB2 := Aside0.mk (below_step (below_alloc (Below.refl _ _) _) hb); clear hb)
  go_ret
  exact ⟨rfl, HB2.out⟩
 all_goals
  try (rw [if_neg (by decide)] at h)
  cases hk : (a0_1 != 1 && (a0_1 != 2 && a0_1 != 3))
 all_goals
  have HK := Aside0.mk hk
  try rw [hk] at h
  clear hk
  by_cases k1 : a0_1 = 1 <;> by_cases k2 : a0_1 = 2 <;> by_cases k3 : a0_1 = 3
 all_goals
  first
  | (exfalso; have := HK.out; simp [k1, k2, k3] at this; done)
  | (exfalso; omega)
  | skip
 all_goals
  have H := Aside0.mk h
  clear h
  go_enter Tryz.func70, Tryz.ntmps70
  go_wp2_with (first
   | ((with_reducible refine qgd (N := 2) rfl ?_); refine qbe ?hg (N := 2) ?hd (cs := #[.string a0_0, .int .i64 a0_1, .bool a0_2, .bool a0_3]) (t := 118) ?hr ?_; (case hd => rfl); (case hg => rfl); (case hr => first | (go_simp; done) | (go_simp; rfl)); intro g hg w7 hbox hb; have BK := Aside0.mk hbox; have HB := Aside0.mk hb; clear hb hbox hg; have hz0 := qkc BK.out 0; have hz1 := qkc BK.out 1; have hz2 := qkc BK.out 2; have hz3 := qkc BK.out 3; simp only [List.getElem?_toArray, List.getElem?_cons_zero, List.getElem?_cons_succ] at hz0 hz1 hz2 hz3)
   | (go_at_call 40; (with_reducible refine (table_Name.calls k a0_0 true _ (GW_below HG.out HB.out) HT.out).mono ?_); rintro e w2 ⟨rfl, hb⟩; have BK2 := Aside0.mk (qkb BK.out hb); have HB2 := Aside0.mk (below_step HB.out hb); clear hb)
   | (go_at_call 87; (with_reducible refine (C _ _ BK2.out HB2.out).mono ?_); rintro e w3 ⟨rfl, hb⟩; have BK3 := Aside0.mk (qkb BK2.out hb); have HB3 := Aside0.mk (below_step HB2.out hb); clear hb; have hy1 := qkc BK3.out 1; have hy2 := qkc BK3.out 2; have hy3 := qkc BK3.out 3; simp only [List.getElem?_toArray, List.getElem?_cons_zero, List.getElem?_cons_succ] at hy1 hy2 hy3))
  all_goals
   first
   | (exfalso; have k := HK.out; simp_all; done)
   | (go_ret; refine ⟨?_, HB3.out⟩; have h := H.out; (try simp [*] at h); first | (rw [← h]; done) | (rw [← h]; rfl) | (simp [← h, errW_some, errW_none]; done) | (simp_all; done))
   | (go_ret; refine ⟨?_, HB3.out⟩; have h := H.out; have k := HK.out; simp_all [errW_some, errW_none]; done)

end Go.Proofs.YtddkbhglbkfelaaGreatDoor.T
