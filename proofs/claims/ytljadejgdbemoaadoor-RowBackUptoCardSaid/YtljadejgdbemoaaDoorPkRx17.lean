import Derived.Test.YtljadejgdbemoaaDoorPkRx0
import Derived.Test.YtljadejgdbemoaaDoorPkRx4
import Derived.Test.YtljadejgdbemoaaDoorPkRx5
import Derived.Test.YtljadejgdbemoaaDoorPkRx6
import Derived.Test.YtljadejgdbemoaaDoorPkRx12
import Derived.Test.YtljadejgdbemoaaDoorPkRx16
namespace Go.Proofs.YtljadejgdbemoaaDoor.R
open Go.RowKit Go.Proofs.YtljadejgdbemoaaDoorW.PrintWords Go.Proofs.YtljadejgdbemoaaDoorW.PrintLast Go.Proofs.YtljadejgdbemoaaDoorW.PrintMore Go.Proofs.YtljadejgdbemoaaDoorX
attribute [local go_sem] max2_int min2_int max_two min_two max_three min_three max_four min_four
set_option linter.unusedVariables false
set_option linter.unusedSimpArgs false

/-! ### barbicanlaw14_RowBack: function 5 -/
mutual
def barbicanlaw14_RowBack.j0 : Nat → List (S38) → List (S38) → Bool → ByteArray → List (S36) → Option (Bool)
 | 0, _, _, _, _, _ => none
 | k + 1, x1, x2, x47, x495000, x495001 => if x47 = true then (some false) else ((barbicanlaw14_twin.f x1).bind fun t509 => ((row_Key.f k x495000 x495001 t509).bind fun bt512 => ((barbicanlaw14_twin.f x2).bind fun t514 => ((row_Key.f k x495000 x495001 t514).bind fun bt517 => (if bt512.2.isNone = true then (if bt517.2.isNone = true then (barbicanlaw14_RowBack.j1 k x1 x2 bt512.1 bt517.1 false x495000 x495001) else (barbicanlaw14_RowBack.j1 k x1 x2 bt512.1 bt517.1 true x495000 x495001)) else (barbicanlaw14_RowBack.j1 k x1 x2 bt512.1 bt517.1 true x495000 x495001))))))
def barbicanlaw14_RowBack.j1 : Nat → List (S38) → List (S38) → ByteArray → ByteArray → Bool → ByteArray → List (S36) → Option (Bool)
 | 0, _, _, _, _, _, _, _ => none
 | k + 1, x1, x2, x11, x13, x67, x495000, x495001 => if x67 = true then ((barbicanlaw14_sure.f k).bind fun t521 => (some t521)) else (barbicanlaw14_RowBack.l0 k x1 x2 x11 x13 ([] : List (S38)) ([] : List (S38)) 0 x495000 x495001)
def barbicanlaw14_RowBack.l0 : Nat → List (S38) → List (S38) → ByteArray → ByteArray → List (S38) → List (S38) → Int → ByteArray → List (S36) → Option (Bool)
 | 0, _, _, _, _, _, _, _, _, _ => none
 | k + 1, x1, x2, x11, x13, x15, x16, x17, x495000, x495001 => if x17 < (x495001.length : Int) then (if 0 ≤ x17 then (if (rd_T36 x495001 x17).f2 = true then (if x17 < (x1.length : Int) then (if x15.length < 3518437208883 then (if x17 < (x2.length : Int) then (if x16.length < 3518437208883 then (barbicanlaw14_RowBack.l0 k x1 x2 x11 x13 (x15 ++ [(⟨(r8 x1 x17).f0, (r8 x1 x17).f1, (r8 x1 x17).f2, (r8 x1 x17).f3⟩ : S38)]) (x16 ++ [(⟨(r8 x2 x17).f0, (r8 x2 x17).f1, (r8 x2 x17).f2, (r8 x2 x17).f3⟩ : S38)]) (wrap64 (x17 + 1)) x495000 x495001) else (none)) else (none)) else (none)) else (none)) else (barbicanlaw14_RowBack.l0 k x1 x2 x11 x13 x15 x16 (wrap64 (x17 + 1)) x495000 x495001)) else (none)) else (if (Op.bytesLess x11.toList x13.toList) = true then ((order_Compare.f k x15 x16).bind fun t531 => (if (-1) = t531 then ((barbicanlaw14_sure.f k).bind fun t532 => (some t532)) else (some false))) else (if (Op.bytesLess x13.toList x11.toList) = true then ((order_Compare.f k x15 x16).bind fun t533 => (if 1 = t533 then ((barbicanlaw14_sure.f k).bind fun t534 => (some t534)) else (some false))) else ((order_Compare.f k x15 x16).bind fun t535 => (if 0 = t535 then ((barbicanlaw14_sure.f k).bind fun t536 => (some t536)) else (some false)))))
end
def barbicanlaw14_RowBack.f (k : Nat) (a0_0 : ByteArray) (l0_1 : List (S36)) (l1 : List (S38)) (l2 : List (S38)) : Option (Bool) := (barbicanlaw14_twin.f l1).bind fun t495 => ((row_Encode.f k a0_0 l0_1 t495).bind fun bt498 => (if bt498.2.isNone = true then ((row_Decode.f k a0_0 l0_1 bt498.1).bind fun bt503 => (if bt503.2.isNone = true then ((barbicanlaw14_values.f k bt503.1 l1).bind fun t508 => (barbicanlaw14_RowBack.j0 k l1 l2 (!t508) a0_0 l0_1)) else (barbicanlaw14_RowBack.j0 k l1 l2 true a0_0 l0_1))) else (if (bt498.1.length : Int) = 0 then ((barbicanlaw14_sure.f k).bind fun t537 => (some t537)) else (some false))))
theorem barbicanlaw14_RowBack.mono_l : ∀ k, (∀ y0 y1 y2 y3 y4, LeO (barbicanlaw14_RowBack.j0 k y0 y1 y2 y3 y4) (barbicanlaw14_RowBack.j0 (k + 1) y0 y1 y2 y3 y4)) ∧ (∀ y0 y1 y2 y3 y4 y5 y6, LeO (barbicanlaw14_RowBack.j1 k y0 y1 y2 y3 y4 y5 y6) (barbicanlaw14_RowBack.j1 (k + 1) y0 y1 y2 y3 y4 y5 y6)) ∧ (∀ y0 y1 y2 y3 y4 y5 y6 y7 y8, LeO (barbicanlaw14_RowBack.l0 k y0 y1 y2 y3 y4 y5 y6 y7 y8) (barbicanlaw14_RowBack.l0 (k + 1) y0 y1 y2 y3 y4 y5 y6 y7 y8))
 | 0 => ⟨fun _ _ _ _ _ r h => by simp [barbicanlaw14_RowBack.j0] at h, fun _ _ _ _ _ _ _ r h => by simp [barbicanlaw14_RowBack.j1] at h, fun _ _ _ _ _ _ _ _ _ r h => by simp [barbicanlaw14_RowBack.l0] at h⟩
 | k + 1 => by
  obtain ⟨ih0, ih1, ih2⟩ := barbicanlaw14_RowBack.mono_l k
  refine ⟨?_, ?_, ?_⟩
  ·intro y0 y1 y2 y3 y4
   unfold barbicanlaw14_RowBack.j0
   repeat' first
   | (with_reducible exact ih0 _ _ _ _ _)
   | (with_reducible exact ih1 _ _ _ _ _ _ _)
   | (with_reducible exact ih2 _ _ _ _ _ _ _ _ _)
   | (with_reducible exact barbicanlaw14_sure.mono _)
   | (with_reducible exact barbicanlaw14_values.mono _ _ _)
   | (with_reducible exact order_Compare.mono _ _ _)
   | (with_reducible exact row_Decode.mono _ _ _ _)
   | (with_reducible exact row_Encode.mono _ _ _ _)
   | (with_reducible exact row_Key.mono _ _ _ _)
   | (with_reducible exact LeO.refl _)
   | (with_reducible exact LeO.none _)
   | (with_reducible refine LeO.ite ?_ ?_)
   | (with_reducible refine LeO.bind ?_ (fun _ => ?_))
   | exact ih0 _ _ _ _ _
   | exact ih1 _ _ _ _ _ _ _
   | exact ih2 _ _ _ _ _ _ _ _ _
   | exact barbicanlaw14_sure.mono _
   | exact barbicanlaw14_values.mono _ _ _
   | exact order_Compare.mono _ _ _
   | exact row_Decode.mono _ _ _ _
   | exact row_Encode.mono _ _ _ _
   | exact row_Key.mono _ _ _ _
   | exact LeO.none _
   | refine LeO.ite ?_ ?_
   | refine LeO.bind ?_ (fun _ => ?_)
  ·intro y0 y1 y2 y3 y4 y5 y6
   unfold barbicanlaw14_RowBack.j1
   repeat' first
   | (with_reducible exact ih0 _ _ _ _ _)
   | (with_reducible exact ih1 _ _ _ _ _ _ _)
   | (with_reducible exact ih2 _ _ _ _ _ _ _ _ _)
   | (with_reducible exact barbicanlaw14_sure.mono _)
   | (with_reducible exact barbicanlaw14_values.mono _ _ _)
   | (with_reducible exact order_Compare.mono _ _ _)
   | (with_reducible exact row_Decode.mono _ _ _ _)
   | (with_reducible exact row_Encode.mono _ _ _ _)
   | (with_reducible exact row_Key.mono _ _ _ _)
   | (with_reducible exact LeO.refl _)
   | (with_reducible exact LeO.none _)
   | (with_reducible refine LeO.ite ?_ ?_)
   | (with_reducible refine LeO.bind ?_ (fun _ => ?_))
   | exact ih0 _ _ _ _ _
   | exact ih1 _ _ _ _ _ _ _
   | exact ih2 _ _ _ _ _ _ _ _ _
   | exact barbicanlaw14_sure.mono _
   | exact barbicanlaw14_values.mono _ _ _
   | exact order_Compare.mono _ _ _
   | exact row_Decode.mono _ _ _ _
   | exact row_Encode.mono _ _ _ _
   | exact row_Key.mono _ _ _ _
   | exact LeO.none _
   | refine LeO.ite ?_ ?_
   | refine LeO.bind ?_ (fun _ => ?_)
  ·intro y0 y1 y2 y3 y4 y5 y6 y7 y8
   unfold barbicanlaw14_RowBack.l0
   repeat' first
   | (with_reducible exact ih0 _ _ _ _ _)
   | (with_reducible exact ih1 _ _ _ _ _ _ _)
   | (with_reducible exact ih2 _ _ _ _ _ _ _ _ _)
   | (with_reducible exact barbicanlaw14_sure.mono _)
   | (with_reducible exact barbicanlaw14_values.mono _ _ _)
   | (with_reducible exact order_Compare.mono _ _ _)
   | (with_reducible exact row_Decode.mono _ _ _ _)
   | (with_reducible exact row_Encode.mono _ _ _ _)
   | (with_reducible exact row_Key.mono _ _ _ _)
   | (with_reducible exact LeO.refl _)
   | (with_reducible exact LeO.none _)
   | (with_reducible refine LeO.ite ?_ ?_)
   | (with_reducible refine LeO.bind ?_ (fun _ => ?_))
   | exact ih0 _ _ _ _ _
   | exact ih1 _ _ _ _ _ _ _
   | exact ih2 _ _ _ _ _ _ _ _ _
   | exact barbicanlaw14_sure.mono _
   | exact barbicanlaw14_values.mono _ _ _
   | exact order_Compare.mono _ _ _
   | exact row_Decode.mono _ _ _ _
   | exact row_Encode.mono _ _ _ _
   | exact row_Key.mono _ _ _ _
   | exact LeO.none _
   | refine LeO.ite ?_ ?_
   | refine LeO.bind ?_ (fun _ => ?_)
theorem barbicanlaw14_RowBack.mono : ∀ a0 a1 a2 a3 k, LeO (barbicanlaw14_RowBack.f k a0 a1 a2 a3) (barbicanlaw14_RowBack.f (k + 1) a0 a1 a2 a3) := by
 intro a0 a1 a2 a3 k
 obtain ⟨ih0, ih1, ih2⟩ := barbicanlaw14_RowBack.mono_l k
 unfold barbicanlaw14_RowBack.f
 repeat' first
   | (with_reducible exact ih0 _ _ _ _ _)
   | (with_reducible exact ih1 _ _ _ _ _ _ _)
   | (with_reducible exact ih2 _ _ _ _ _ _ _ _ _)
   | (with_reducible exact barbicanlaw14_sure.mono _)
   | (with_reducible exact barbicanlaw14_values.mono _ _ _)
   | (with_reducible exact order_Compare.mono _ _ _)
   | (with_reducible exact row_Decode.mono _ _ _ _)
   | (with_reducible exact row_Encode.mono _ _ _ _)
   | (with_reducible exact row_Key.mono _ _ _ _)
   | (with_reducible exact LeO.refl _)
   | (with_reducible exact LeO.none _)
   | (with_reducible refine LeO.ite ?_ ?_)
   | (with_reducible refine LeO.bind ?_ (fun _ => ?_))
   | exact ih0 _ _ _ _ _
   | exact ih1 _ _ _ _ _ _ _
   | exact ih2 _ _ _ _ _ _ _ _ _
   | exact barbicanlaw14_sure.mono _
   | exact barbicanlaw14_values.mono _ _ _
   | exact order_Compare.mono _ _ _
   | exact row_Decode.mono _ _ _ _
   | exact row_Encode.mono _ _ _ _
   | exact row_Key.mono _ _ _ _
   | exact LeO.none _
   | refine LeO.ite ?_ ?_
   | refine LeO.bind ?_ (fun _ => ?_)
def barbicanlaw14_RowBack.T1 : Bool × List (List Nat × List Nat) := (true, [([], []), ([], []), ([1], [1]), ([0, 2, 2], [0, 2]), ([3], [3]), ([4], [4]), ([4], [4]), ([5, 3, 0, 1, 2, 3, 4, 5], [5]), ([6, 7, 0, 1, 2, 3, 4, 5, 6, 7], [6])])
def barbicanlaw14_RowBack.B1 : List Nat := [0, 0, 2, 7, 15, 31, 31, 63, 255]
theorem barbicanlaw14_RowBack.tab1 : rtab .any (opsOf Tryd.f5 1) = barbicanlaw14_RowBack.T1 := by kernel_rfl
theorem barbicanlaw14_RowBack.bits1 : waitsOk barbicanlaw14_RowBack.T1.2 barbicanlaw14_RowBack.B1 = true := by kernel_rfl
def barbicanlaw14_RowBack.T7 : Bool × List (List Nat × List Nat) := (true, [([], []), ([], []), ([1], [1]), ([0, 2, 2], [0, 2]), ([3], [3]), ([4], [4]), ([4], [4]), ([5, 3, 0, 1, 2, 3, 4, 5], [5]), ([6, 7, 0, 1, 2, 3, 4, 5, 6, 7], [6])])
def barbicanlaw14_RowBack.B7 : List Nat := [0, 0, 2, 7, 15, 31, 31, 63, 255]
theorem barbicanlaw14_RowBack.tab7 : rtab .any (opsOf Tryd.f5 7) = barbicanlaw14_RowBack.T7 := by kernel_rfl
theorem barbicanlaw14_RowBack.bits7 : waitsOk barbicanlaw14_RowBack.T7.2 barbicanlaw14_RowBack.B7 = true := by kernel_rfl
def barbicanlaw14_RowBack.T8 : Bool × List (List Nat × List Nat) := (true, [([], []), ([], []), ([1], [1]), ([0, 2, 2], [0, 2]), ([3], [3]), ([4], [4]), ([4], [4]), ([5, 3, 0, 1, 2, 3, 4, 5], [5]), ([6, 7, 0, 1, 2, 3, 4, 5, 6, 7], [6])])
def barbicanlaw14_RowBack.B8 : List Nat := [0, 0, 2, 7, 15, 31, 31, 63, 255]
theorem barbicanlaw14_RowBack.tab8 : rtab .any (opsOf Tryd.f5 8) = barbicanlaw14_RowBack.T8 := by kernel_rfl
theorem barbicanlaw14_RowBack.bits8 : waitsOk barbicanlaw14_RowBack.T8.2 barbicanlaw14_RowBack.B8 = true := by kernel_rfl
set_option maxHeartbeats 8000000 in
set_option maxRecDepth 100000 in
theorem barbicanlaw14_RowBack.calls (k : Nat) (a0_0 : ByteArray) (A0_1 : Option Addr) (c0_1 : Nat) (l0_1 : List (S36)) (A1 : Option Addr) (c1 : Nat) (l1 : List (S38)) (A2 : Option Addr) (c2 : Nat) (l2 : List (S38)) (r : Bool) (w : World) (hr0_1 : Kd.C k36 w A0_1 l0_1.length l0_1) (hc0_1 : l0_1.length ≤ c0_1) (hr1 : Kd.C k38 w A1 l1.length l1) (hc1 : l1.length ≤ c1) (hr2 : Kd.C k38 w A2 l2.length l2) (hc2 : l2.length ≤ c2) (hG : GW w) (h : barbicanlaw14_RowBack.f k a0_0 l0_1 l1 l2 = some r) :
  Calls Tryd.prog 5 #[.agg #[.string a0_0, .slice A0_1 l0_1.length c0_1], .slice A1 l1.length c1, .slice A2 l2.length c2] w fun e w' => e = .returned (.bool r) ∧ Below w.heap.size w w' := by
 have hu24 := Tryd.underlying24
 have hu38 := Tryd.underlying38
 have hu28 := Tryd.underlying28
 have hu72 := Tryd.underlying72
 have HR0_1 := Aside0.mk hr0_1
 have HC0_1 := Aside0.mk hc0_1
 clear hr0_1 hc0_1
 have HR1 := Aside0.mk hr1
 have HC1 := Aside0.mk hc1
 clear hr1 hc1
 have HR2 := Aside0.mk hr2
 have HC2 := Aside0.mk hc2
 clear hr2 hc2
 have HB := Aside0.mk (Below.refl w.heap.size w)
 have HG := Aside0.mk hG
 clear hG
 have H : ((barbicanlaw14_twin.f l1).bind fun t495 => ((row_Encode.f k a0_0 l0_1 t495).bind fun bt498 => (if bt498.2.isNone = true then ((row_Decode.f k a0_0 l0_1 bt498.1).bind fun bt503 => (if bt503.2.isNone = true then ((barbicanlaw14_values.f k bt503.1 l1).bind fun t508 => (barbicanlaw14_RowBack.j0 k l1 l2 (!t508) a0_0 l0_1)) else (barbicanlaw14_RowBack.j0 k l1 l2 true a0_0 l0_1))) else (if (bt498.1.length : Int) = 0 then ((barbicanlaw14_sure.f k).bind fun t537 => (some t537)) else (some false))))) = some r := h
 clear h
 replace H := Option.bind_eq_some_iff.mp H
 obtain ⟨t495, A40, H⟩ := H
 replace H : ((row_Encode.f k a0_0 l0_1 t495).bind fun bt498 => (if bt498.2.isNone = true then ((row_Decode.f k a0_0 l0_1 bt498.1).bind fun bt503 => (if bt503.2.isNone = true then ((barbicanlaw14_values.f k bt503.1 l1).bind fun t508 => (barbicanlaw14_RowBack.j0 k l1 l2 (!t508) a0_0 l0_1)) else (barbicanlaw14_RowBack.j0 k l1 l2 true a0_0 l0_1))) else (if (bt498.1.length : Int) = 0 then ((barbicanlaw14_sure.f k).bind fun t537 => (some t537)) else (some false)))) = some r := H
 have A4 := Aside0.mk A40
 clear A40
 replace H := Option.bind_eq_some_iff.mp H
 obtain ⟨⟨t498, t501⟩, A50, H⟩ := H
 replace H : (if t501.isNone = true then ((row_Decode.f k a0_0 l0_1 t498).bind fun bt503 => (if bt503.2.isNone = true then ((barbicanlaw14_values.f k bt503.1 l1).bind fun t508 => (barbicanlaw14_RowBack.j0 k l1 l2 (!t508) a0_0 l0_1)) else (barbicanlaw14_RowBack.j0 k l1 l2 true a0_0 l0_1))) else (if (t498.length : Int) = 0 then ((barbicanlaw14_sure.f k).bind fun t537 => (some t537)) else (some false))) = some r := H
 have A5 := Aside0.mk A50
 clear A50
 rcases t501 with _ | q502
 ·have H1 : ((row_Decode.f k a0_0 l0_1 t498).bind fun bt503 => (if bt503.2.isNone = true then ((barbicanlaw14_values.f k bt503.1 l1).bind fun t508 => (barbicanlaw14_RowBack.j0 k l1 l2 (!t508) a0_0 l0_1)) else (barbicanlaw14_RowBack.j0 k l1 l2 true a0_0 l0_1))) = some r := by rw [if_pos (show (none : Option Int).isNone = true by rfl)] at H; exact H
  clear H
  have H := H1
  clear H1
  try simp only [eWn, eWs]
  replace H := Option.bind_eq_some_iff.mp H
  obtain ⟨⟨t503, t506⟩, A60, H⟩ := H
  replace H : (if t506.isNone = true then ((barbicanlaw14_values.f k t503 l1).bind fun t508 => (barbicanlaw14_RowBack.j0 k l1 l2 (!t508) a0_0 l0_1)) else (barbicanlaw14_RowBack.j0 k l1 l2 true a0_0 l0_1)) = some r := H
  have A6 := Aside0.mk A60
  clear A60
  have HC7 := Aside0.mk H
  clear H
  go_enter Tryd.func5, Tryd.ntmps5
  try go_wp2_with (first | ((with_reducible refine qgd (N := 3) rfl ?_); refine qbe ?hg (N := 3) ?hd (cs := #[.string a0_0, .slice A0_1 l0_1.length c0_1]) (t := 24) ?hr ?_; (case hd => rfl); (case hg => rfl); (case hr => first | (go_simp; done) | (go_simp; rfl)); intro gb494 hg w8 hbox hb; have n0_ := Aside0.mk (below_step (by repeat (first | (with_reducible first | exact HB.out | apply below_alloc | apply qbN | apply qb1) | exact HB.out)) hb); have n1_ := Aside0.mk (hbox); have n2_ := Aside0.mk ((by rw [hg]; exact (qbz (by repeat (first | (with_reducible first | exact HB.out | apply below_alloc | apply qbN | apply qb1) | exact HB.out))) : w.heap.size ≤ gb494)); have n3_ := Aside0.mk ((by rw [hg]; exact (qbz (by repeat (first | (with_reducible first | exact HB.out | apply below_alloc | apply qbN | apply qb1) | exact HB.out))) : w.heap.size ≤ gb494)); clear HB; have HB := n0_; have BK494 := n1_; have GW494 := n2_; have GE494 := n3_; clear n0_ n1_ n2_ n3_; clear hb hbox hg))
  have n0_ := Aside0.mk (qkd BK494.out)
  have n1_ := Aside0.mk (qb1 HB.out)
  clear BK494
  clear HB
  have BK494 := n0_
  have HB := n1_
  clear n0_ n1_
  refine start_ (n := 9) (S := fun w' => w'.cell? ⟨gb494, 0, none⟩ = some (.string a0_0) ∧ w'.cell? ⟨gb494, 1, none⟩ = some (.slice A0_1 l0_1.length c0_1)) (ds := []) #[false, false, false, false, false, false, false, false, false] (by kernel_rfl) rfl rfl ⟨(qkc BK494.out 0).trans rfl, (qkc BK494.out 1).trans rfl⟩ (fun hHeld => ?_); refine with_tabW barbicanlaw14_RowBack.tab1 barbicanlaw14_RowBack.bits1 (fun HT_ HW_ => ?_)
  generalize w8.drew = w9 at BK494 HB hHeld ⊢
  refine pure_ (i := 1) (N := some 21) (v := ?_) (a' := ?_) #[false, true, false, false, false, false, false, false, false] rfl rfl (any_of HT_.out (by kernel_rfl)) (fun _ _ _ h => h) (Or.inl ⟨by rfl, ?_⟩) ?_ ?_
  rotate_left
  ·intro w'
   go_simp
   with_reducible rfl
  rotate_left
  ·simp only [Act.put, List.setIfInBounds_toArray, List.set_cons_zero, List.set_cons_succ, i64_w, i32_w]
   rfl
  refine take_ (i := 0) (N := some 20) (v := ?_) (a' := ?_) #[true, true, false, false, false, false, false, false, false] rfl rfl (take_ofW HT_.out HW_.out (by kernel_rfl)) (fun _ _ _ h => h) (Or.inl ⟨by rfl, ?_⟩) hHeld ?_ ?_
  rotate_left
  ·rintro w' ⟨s0, s1⟩
   go_simp
   with_reducible rfl
  rotate_left
  ·simp only [Act.put, List.setIfInBounds_toArray, List.set_cons_zero, List.set_cons_succ, i64_w, i32_w]
   rfl
  refine one_ (i := 2) (N := some 22) #[true, true, true, false, false, false, false, false, false] rfl rfl (one_of HT_.out (by kernel_rfl)) (by decide) (fun K hK => ?_)
  refine goes_ Tryd.func11 (by kernel_rfl) rfl #[.slice A1 l1.length c1] (by rfl) rfl rfl (by (try simp only [List.map_toArray, List.map_cons, List.map_nil]); first | done | rfl | (simp only [List.length_drop, List.length_take]; rfl)) ?_
  with_reducible refine (barbicanlaw14_twin.calls _ _ l1 t495 _ ?side1 ?side2 A4.out).mono ?_
  (case side1 => repeat (first | exact (Kd.C_below HR1.out HB.out) | (with_reducible refine Kd.C_alloc ?_ _) | (with_reducible refine Kd.C_drewN ?_ _) | (with_reducible refine Kd.C_drew ?_)))
  (case side2 => exact HC1.out)
  rintro e w10 ⟨v496, rfl, ho0, hb⟩
  refine ⟨_, rfl, ?_⟩
  have n0_ := Aside0.mk (Kd.R_lower ho0 (qbz (by repeat (first | (with_reducible first | exact HB.out | apply below_alloc | apply qbN | apply qb1 | refine qbs ?_ GE494.out) | exact HB.out))))
  have n1_ := Aside0.mk (qkb (g := gb494) (o := .cells #[.string a0_0, .slice A0_1 l0_1.length c0_1] 24 (0, 0)) (by (with_reducible repeat (first | refine qkN ?_ _ | refine qkd ?_ | refine qka ?_ _)); exact BK494.out) hb)
  have n2_ := Aside0.mk (below_step (by repeat (first | (with_reducible first | exact HB.out | apply below_alloc | apply qbN | apply qb1 | refine qbs ?_ GE494.out) | exact HB.out)) hb)
  clear BK494
  clear HB
  have HO497 := n0_
  have BK494 := n1_
  have HB := n2_
  clear n0_ n1_ n2_
  (try clear hb)
  (try clear hb2)
  (try clear hk)
  (try clear hi)
  (try clear ho0)
  obtain ⟨Ao11, co11, eo11⟩ := Kd.R_slice HO497.out
  (first | subst eo11 | (injection eo11 with f1_ f2_ f3_; have f4_ := f1_.symm; have f5_ := f3_.symm; clear f1_ f2_ f3_; subst f4_; subst f5_))
  refine hK.out _ _ ⟨(qkc BK494.out 0).trans rfl, (qkc BK494.out 1).trans rfl⟩ (fun hHeld => ?_)
  clear hK K
  refine norm_ (a' := ?_) ?_ ?_
  rotate_left
  ·show Act.put _ (some 22) _ = _
   simp only [Act.put, List.setIfInBounds_toArray, List.set_cons_zero, List.set_cons_succ, i64_w, i32_w]
   rfl
  refine one_ (i := 3) (N := some 23) #[true, true, true, true, false, false, false, false, false] rfl rfl (one_of HT_.out (by kernel_rfl)) (by decide) (fun K hK => ?_)
  refine goes_ Tryd.func10 (by kernel_rfl) rfl #[.agg #[.string a0_0, .slice A0_1 l0_1.length c0_1], .slice Ao11 t495.length co11] (by rfl) rfl rfl (by (try simp only [List.map_toArray, List.map_cons, List.map_nil]); first | done | rfl | (simp only [List.length_drop, List.length_take]; rfl)) ?_
  with_reducible refine (row_Encode.calls k a0_0 _ _ l0_1 _ _ t495 t498 none _ ?side1 ?side2 ?side3 ?side4 A5.out).mono ?_
  (case side1 => repeat (first | exact (Kd.C_below HR0_1.out HB.out) | (with_reducible refine Kd.C_alloc ?_ _) | (with_reducible refine Kd.C_drewN ?_ _) | (with_reducible refine Kd.C_drew ?_)))
  (case side2 => exact HC0_1.out)
  (case side3 => repeat (first | exact (Kd.R_reads' HO497.out).2.2 | (with_reducible refine Kd.C_alloc ?_ _) | (with_reducible refine Kd.C_drewN ?_ _) | (with_reducible refine Kd.C_drew ?_)))
  (case side4 => exact (Kd.R_reads' HO497.out).2.1)
  rintro e w12 ⟨v499, rfl, ho0, hb⟩
  refine ⟨_, rfl, ?_⟩
  have n0_ := Aside0.mk (Kd.R_below (by (with_reducible repeat (first | apply Kd.R_alloc | apply Kd.R_drewN | apply Kd.R_drew)); exact HO497.out) hb)
  have n1_ := Aside0.mk (Kd.R_lower ho0 (qbz (by repeat (first | (with_reducible first | exact HB.out | apply below_alloc | apply qbN | apply qb1 | refine qbs ?_ GE494.out) | exact HB.out))))
  have n2_ := Aside0.mk (qkb (g := gb494) (o := .cells #[.string a0_0, .slice A0_1 l0_1.length c0_1] 24 (0, 0)) (by (with_reducible repeat (first | refine qkN ?_ _ | refine qkd ?_ | refine qka ?_ _)); exact BK494.out) hb)
  have n3_ := Aside0.mk (below_step (by repeat (first | (with_reducible first | exact HB.out | apply below_alloc | apply qbN | apply qb1 | refine qbs ?_ GE494.out) | exact HB.out)) hb)
  clear HO497
  clear BK494
  clear HB
  have HO497 := n0_
  have HO500 := n1_
  have BK494 := n2_
  have HB := n3_
  clear n0_ n1_ n2_ n3_
  (try clear hb)
  (try clear hb2)
  (try clear hk)
  (try clear hi)
  (try clear ho0)
  (try simp only [eWn, eWs])
  refine hK.out _ _ ⟨(qkc BK494.out 0).trans rfl, (qkc BK494.out 1).trans rfl⟩ (fun hHeld => ?_)
  clear hK K
  refine norm_ (a' := ?_) ?_ ?_
  rotate_left
  ·show Act.put _ (some 23) _ = _
   simp only [Act.put, List.setIfInBounds_toArray, List.set_cons_zero, List.set_cons_succ, i64_w, i32_w]
   rfl
  refine pure_ (i := 4) (N := some 19) (v := ?_) (a' := ?_) #[true, true, true, true, true, false, false, false, false] rfl rfl (any_of HT_.out (by kernel_rfl)) (fun _ _ _ h => h) (Or.inl ⟨by rfl, ?_⟩) ?_ ?_
  rotate_left
  ·intro w'
   go_simp
   with_reducible rfl
  rotate_left
  ·simp only [Act.put, List.setIfInBounds_toArray, List.set_cons_zero, List.set_cons_succ, i64_w, i32_w]
   rfl
  refine pure_ (i := 5) (N := some 24) (v := ?_) (a' := ?_) #[true, true, true, true, true, true, false, false, false] rfl rfl (any_of HT_.out (by kernel_rfl)) (fun _ _ _ h => h) (Or.inl ⟨by rfl, ?_⟩) ?_ ?_
  rotate_left
  ·intro w'
   go_simp
   with_reducible rfl
  rotate_left
  ·simp only [Act.put, List.setIfInBounds_toArray, List.set_cons_zero, List.set_cons_succ, i64_w, i32_w]
   rfl
  refine pure_ (i := 6) (N := some 25) (v := ?_) (a' := ?_) #[true, true, true, true, true, true, true, false, false] rfl rfl (any_of HT_.out (by kernel_rfl)) (fun _ _ _ h => h) (Or.inl ⟨by rfl, ?_⟩) ?_ ?_
  rotate_left
  ·intro w'
   go_simp
   with_reducible rfl
  rotate_left
  ·simp only [Act.put, List.setIfInBounds_toArray, List.set_cons_zero, List.set_cons_succ, i64_w, i32_w]
   rfl
  refine pure_ (i := 7) (N := some 7) (v := ?_) (a' := ?_) #[true, true, true, true, true, true, true, true, false] rfl rfl (any_of HT_.out (by kernel_rfl)) (fun _ _ _ h => h) (Or.inl ⟨by rfl, ?_⟩) ?_ ?_
  rotate_left
  ·intro w'
   go_simp
   with_reducible rfl
  rotate_left
  ·simp only [Act.put, List.setIfInBounds_toArray, List.set_cons_zero, List.set_cons_succ, i64_w, i32_w]
   rfl
  refine pure_ (i := 8) (N := some 8) (v := ?_) (a' := ?_) #[true, true, true, true, true, true, true, true, true] rfl rfl (any_of HT_.out (by kernel_rfl)) (fun _ _ _ h => h) (Or.inl ⟨by rfl, ?_⟩) ?_ ?_
  rotate_left
  ·intro w'
   go_simp
   with_reducible rfl
  rotate_left
  ·simp only [Act.put, List.setIfInBounds_toArray, List.set_cons_zero, List.set_cons_succ, i64_w, i32_w]
   rfl
  refine done_ (done_of HT_.out (by kernel_rfl)) ?_
  have hcz13_0 : w12.cell? ⟨gb494, 0, none⟩ = some (.string a0_0) := (qkc BK494.out 0).trans rfl
  have hcz13_1 : w12.cell? ⟨gb494, 1, none⟩ = some (.slice A0_1 l0_1.length c0_1) := (qkc BK494.out 1).trans rfl
  have hfz13_0 := qkf BK494.out 0
  have hfz13_1 := qkf BK494.out 1
  obtain ⟨Ao14, co14, eo14⟩ := Kd.R_slice HO500.out
  subst eo14
  go_upto_region 5 with (first | ((with_reducible refine qgc (f := 16) rfl ?_); refine goesL_ (some 37) rfl rfl Tryd.func16 (by kernel_rfl) rfl #[.agg #[.string a0_0, .slice A0_1 l0_1.length c0_1], .slice Ao14 t498.length co14] rfl (by (try simp only [List.map_toArray, List.map_cons, List.map_nil]); first | done | rfl | (simp only [List.length_drop, List.length_take]; rfl)) ?_; (with_reducible refine (row_Decode.calls k a0_0 _ _ l0_1 (fun k_ => some k_ = (.slice Ao14 t498.length co14 : Value).ownBlock) _ _ t498 t503 t506 _ ?side1 ?side2 ?side3 A6.out).mono ?_); (case side1 => repeat (first | exact (Kd.C_below HR0_1.out HB.out) | (with_reducible refine Kd.C_alloc ?_ _) | (with_reducible refine Kd.C_drewN ?_ _) | (with_reducible refine Kd.C_drew ?_))); (case side2 => exact HC0_1.out); (case side3 => exact Kd.R_V (Kd.R_tight rfl (Kd.R_types (Kd.R_apart' (HO500.out) (Kd.R_typed HO497.out) (by decide)) BK494.out (by decide)))); rintro e w15 ⟨v504, rfl, ho0, hb⟩; refine ⟨_, rfl, ?_⟩; have n0_ := Aside0.mk (Kd.R_elder' (by (with_reducible repeat (first | apply Kd.R_alloc | apply Kd.R_drewN | apply Kd.R_drew)); exact HO497.out) (Kd.R_base ho0) hb); have n1_ := Aside0.mk (Kd.R_below (by (with_reducible repeat (first | apply Kd.R_alloc | apply Kd.R_drewN | apply Kd.R_drew)); exact HO500.out) hb); have n2_ := Aside0.mk (Kd.R_lower (Kd.R_new' (Kd.R_mono (ok' := fun k_ => True) ho0 (fun _ hk_ => trivial)) (Kd.R_lt (by (with_reducible repeat (first | apply Kd.R_alloc | apply Kd.R_drewN | apply Kd.R_drew)); exact HO497.out))) (qbz (by repeat (first | (with_reducible first | exact HB.out | apply below_alloc | apply qbN | apply qb1 | refine qbs ?_ GE494.out) | exact HB.out)))); have n3_ := Aside0.mk (qkb (g := gb494) (o := .cells #[.string a0_0, .slice A0_1 l0_1.length c0_1] 24 (0, 0)) (by (with_reducible repeat (first | refine qkN ?_ _ | refine qkd ?_ | refine qka ?_ _)); exact BK494.out) hb); have n4_ := Aside0.mk (below_step (by repeat (first | (with_reducible first | exact HB.out | apply below_alloc | apply qbN | apply qb1 | refine qbs ?_ GE494.out) | exact HB.out)) hb); clear HO497; clear HO500; clear BK494; clear HB; have HO497 := n0_; have HO500 := n1_; have HO505 := n2_; have BK494 := n3_; have HB := n4_; clear n0_ n1_ n2_ n3_ n4_; (try clear hb); (try clear hb2); (try clear hk); (try clear hi); (try clear ho0); (try simp only [eWn, eWs])))
  (try simp only [Act.put, List.setIfInBounds_toArray, List.set_cons_zero, List.set_cons_succ])
  go_cut [47] (fun v47 wc => ∃ (kq : Nat) (x47_6 : Bool), v47 = .bool x47_6 ∧ Aside0 (barbicanlaw14_RowBack.j0 kq l1 l2 x47_6 a0_0 l0_1 = some r) ∧ Aside0 (kq ≤ k) ∧ Aside0 (wc.heap[gb494]? = some (.cells #[.string a0_0, (.slice A0_1 l0_1.length c0_1)] 24 (0, 0))) ∧ Aside0 (Below w.heap.size w wc))
  case first =>
   have H := HC7.out
   clear HC7
   rcases t506 with _ | q507
   ·have H1 : ((barbicanlaw14_values.f k t503 l1).bind fun t508 => (barbicanlaw14_RowBack.j0 k l1 l2 (!t508) a0_0 l0_1)) = some r := by rw [if_pos (show (none : Option Int).isNone = true by rfl)] at H; exact H
    clear H
    have H := H1
    clear H1
    try simp only [eWn, eWs]
    replace H := Option.bind_eq_some_iff.mp H
    obtain ⟨t508, A160, H⟩ := H
    replace H : (barbicanlaw14_RowBack.j0 k l1 l2 (!t508) a0_0 l0_1) = some r := H
    have A16 := Aside0.mk A160
    clear A160
    have H' := Aside0.mk H
    clear H
    obtain ⟨Ao17, co17, eo17⟩ := Kd.R_slice HO505.out
    subst eo17
    go_wp2_with (first | (go_at_call 14; (with_reducible refine (barbicanlaw14_values.calls k _ _ t503 _ _ l1 t508 _ ?side1 ?side2 ?side3 ?side4 A16.out).mono ?_); (case side1 => repeat (first | exact (Kd.R_reads' HO505.out).2.2 | (with_reducible refine Kd.C_alloc ?_ _) | (with_reducible refine Kd.C_drewN ?_ _) | (with_reducible refine Kd.C_drew ?_))); (case side2 => exact (Kd.R_reads' HO505.out).2.1); (case side3 => repeat (first | exact (Kd.C_below HR1.out HB.out) | (with_reducible refine Kd.C_alloc ?_ _) | (with_reducible refine Kd.C_drewN ?_ _) | (with_reducible refine Kd.C_drew ?_))); (case side4 => exact HC1.out); rintro e w' ⟨rfl, ⟨nd, rfl⟩⟩))
    go_meet
    case rel => exact ⟨_, (!t508), (by first | rfl | (simp; done) | (simp [*]; done)), H', ⟨by first | omega | exact Nat.le_refl _⟩, ⟨by (with_reducible repeat (first | refine qkN ?_ _ | refine qkd ?_ | refine qka ?_ _)); exact BK494.out⟩, ⟨by repeat (first | (with_reducible first | exact HB.out | apply below_alloc | apply qbN | apply qb1 | refine qbs ?_ GE494.out) | exact HB.out)⟩⟩
   ·have H1 : (barbicanlaw14_RowBack.j0 k l1 l2 true a0_0 l0_1) = some r := by rw [if_neg (show ¬ (some q507).isNone = true by simp)] at H; exact H
    clear H
    have H := H1
    clear H1
    try simp only [eWn, eWs]
    have H' := Aside0.mk H
    clear H
    go_wp2
    go_meet
    case rel => exact ⟨_, (true), (by first | rfl | (simp; done) | (simp [*]; done)), H', ⟨by first | omega | exact Nat.le_refl _⟩, ⟨by (with_reducible repeat (first | refine qkN ?_ _ | refine qkd ?_ | refine qka ?_ _)); exact BK494.out⟩, ⟨by repeat (first | (with_reducible first | exact HB.out | apply below_alloc | apply qbN | apply qb1 | refine qbs ?_ GE494.out) | exact HB.out)⟩⟩
  case rest =>
   clear HC7
   try clear c1
   try clear c2
   try clear p2
   try clear c5
   try clear q5
   try clear c10
   try clear c11
   try clear c16
   try clear hcz13_0
   try clear hcz13_1
   try clear hfz13_0
   try clear hfz13_1
   try clear q502
   try clear q507
   obtain ⟨kq, x47_6, rfl, HA, HJ6, BK494, HB⟩ := hcut
   cases kq with
   | zero => exact absurd HA.out (by simp [barbicanlaw14_RowBack.j0])
   | succ kj6 =>
    have H := HA.out
    clear HA
    simp only [barbicanlaw14_RowBack.j0] at H
    by_cases c18 : x47_6 = true
    ·subst c18
     have H1 : (some false) = some r := by rw [if_pos rfl] at H; exact H
     clear H
     have H := H1
     clear H1
     obtain rfl := Option.some.inj H
     go_wp2
     go_ret
     exact ⟨by first | rfl | (simp [eWn, eWs] <;> rfl) | (simp [*, eWn, eWs] <;> rfl), by repeat (first | (with_reducible first | exact HB.out | apply below_alloc | apply qbN | apply qb1 | refine qbs ?_ GE494.out) | exact HB.out)⟩
    ·replace c18 := Bool.eq_false_iff.mpr c18
     subst c18
     have H1 : ((barbicanlaw14_twin.f l1).bind fun t509 => ((row_Key.f kj6 a0_0 l0_1 t509).bind fun bt512 => ((barbicanlaw14_twin.f l2).bind fun t514 => ((row_Key.f kj6 a0_0 l0_1 t514).bind fun bt517 => (if bt512.2.isNone = true then (if bt517.2.isNone = true then (barbicanlaw14_RowBack.j1 kj6 l1 l2 bt512.1 bt517.1 false a0_0 l0_1) else (barbicanlaw14_RowBack.j1 kj6 l1 l2 bt512.1 bt517.1 true a0_0 l0_1)) else (barbicanlaw14_RowBack.j1 kj6 l1 l2 bt512.1 bt517.1 true a0_0 l0_1)))))) = some r := by rw [if_neg (show ¬ (false = true) by decide)] at H; exact H
     clear H
     have H := H1
     clear H1
     replace H := Option.bind_eq_some_iff.mp H
     obtain ⟨t509, A190, H⟩ := H
     replace H : ((row_Key.f kj6 a0_0 l0_1 t509).bind fun bt512 => ((barbicanlaw14_twin.f l2).bind fun t514 => ((row_Key.f kj6 a0_0 l0_1 t514).bind fun bt517 => (if bt512.2.isNone = true then (if bt517.2.isNone = true then (barbicanlaw14_RowBack.j1 kj6 l1 l2 bt512.1 bt517.1 false a0_0 l0_1) else (barbicanlaw14_RowBack.j1 kj6 l1 l2 bt512.1 bt517.1 true a0_0 l0_1)) else (barbicanlaw14_RowBack.j1 kj6 l1 l2 bt512.1 bt517.1 true a0_0 l0_1))))) = some r := H
     have A19 := Aside0.mk A190
     clear A190
     replace H := Option.bind_eq_some_iff.mp H
     obtain ⟨⟨t512, t513⟩, A200, H⟩ := H
     replace H : ((barbicanlaw14_twin.f l2).bind fun t514 => ((row_Key.f kj6 a0_0 l0_1 t514).bind fun bt517 => (if t513.isNone = true then (if bt517.2.isNone = true then (barbicanlaw14_RowBack.j1 kj6 l1 l2 t512 bt517.1 false a0_0 l0_1) else (barbicanlaw14_RowBack.j1 kj6 l1 l2 t512 bt517.1 true a0_0 l0_1)) else (barbicanlaw14_RowBack.j1 kj6 l1 l2 t512 bt517.1 true a0_0 l0_1)))) = some r := H
     have A20 := Aside0.mk A200
     clear A200
     replace H := Option.bind_eq_some_iff.mp H
     obtain ⟨t514, A210, H⟩ := H
     replace H : ((row_Key.f kj6 a0_0 l0_1 t514).bind fun bt517 => (if t513.isNone = true then (if bt517.2.isNone = true then (barbicanlaw14_RowBack.j1 kj6 l1 l2 t512 bt517.1 false a0_0 l0_1) else (barbicanlaw14_RowBack.j1 kj6 l1 l2 t512 bt517.1 true a0_0 l0_1)) else (barbicanlaw14_RowBack.j1 kj6 l1 l2 t512 bt517.1 true a0_0 l0_1))) = some r := H
     have A21 := Aside0.mk A210
     clear A210
     replace H := Option.bind_eq_some_iff.mp H
     obtain ⟨⟨t517, t518⟩, A220, H⟩ := H
     replace H : (if t513.isNone = true then (if t518.isNone = true then (barbicanlaw14_RowBack.j1 kj6 l1 l2 t512 t517 false a0_0 l0_1) else (barbicanlaw14_RowBack.j1 kj6 l1 l2 t512 t517 true a0_0 l0_1)) else (barbicanlaw14_RowBack.j1 kj6 l1 l2 t512 t517 true a0_0 l0_1)) = some r := H
     have A22 := Aside0.mk A220
     clear A220
     have HC23 := Aside0.mk H
     clear H
     try go_wp2
     have n0_ := Aside0.mk (qkd BK494.out)
     have n1_ := Aside0.mk (qb1 HB.out)
     clear BK494
     clear HB
     have BK494 := n0_
     have HB := n1_
     clear n0_ n1_
     refine start_ (n := 9) (S := fun w' => w'.cell? ⟨gb494, 0, none⟩ = some (.string a0_0) ∧ w'.cell? ⟨gb494, 1, none⟩ = some (.slice A0_1 l0_1.length c0_1)) (ds := []) #[false, false, false, false, false, false, false, false, false] (by kernel_rfl) rfl rfl ⟨(qkc BK494.out 0).trans rfl, (qkc BK494.out 1).trans rfl⟩ (fun hHeld => ?_); refine with_tabW barbicanlaw14_RowBack.tab7 barbicanlaw14_RowBack.bits7 (fun HT_ HW_ => ?_)
     generalize wc.drew = w24 at BK494 HB hHeld ⊢
     refine pure_ (i := 1) (N := some 50) (v := ?_) (a' := ?_) #[false, true, false, false, false, false, false, false, false] rfl rfl (any_of HT_.out (by kernel_rfl)) (fun _ _ _ h => h) (Or.inl ⟨by rfl, ?_⟩) ?_ ?_
     rotate_left
     ·intro w'
      go_simp
      with_reducible rfl
     rotate_left
     ·simp only [Act.put, List.setIfInBounds_toArray, List.set_cons_zero, List.set_cons_succ, i64_w, i32_w]
      rfl
     refine take_ (i := 0) (N := some 49) (v := ?_) (a' := ?_) #[true, true, false, false, false, false, false, false, false] rfl rfl (take_ofW HT_.out HW_.out (by kernel_rfl)) (fun _ _ _ h => h) (Or.inl ⟨by rfl, ?_⟩) hHeld ?_ ?_
     rotate_left
     ·rintro w' ⟨s0, s1⟩
      go_simp
      with_reducible rfl
     rotate_left
     ·simp only [Act.put, List.setIfInBounds_toArray, List.set_cons_zero, List.set_cons_succ, i64_w, i32_w]
      rfl
     refine one_ (i := 2) (N := some 51) #[true, true, true, false, false, false, false, false, false] rfl rfl (one_of HT_.out (by kernel_rfl)) (by decide) (fun K hK => ?_)
     refine goes_ Tryd.func11 (by kernel_rfl) rfl #[.slice A1 l1.length c1] (by rfl) rfl rfl (by (try simp only [List.map_toArray, List.map_cons, List.map_nil]); first | done | rfl | (simp only [List.length_drop, List.length_take]; rfl)) ?_
     with_reducible refine (barbicanlaw14_twin.calls _ _ l1 t509 _ ?side1 ?side2 A19.out).mono ?_
     (case side1 => repeat (first | exact (Kd.C_below HR1.out HB.out) | (with_reducible refine Kd.C_alloc ?_ _) | (with_reducible refine Kd.C_drewN ?_ _) | (with_reducible refine Kd.C_drew ?_)))
     (case side2 => exact HC1.out)
     rintro e w25 ⟨v510, rfl, ho0, hb⟩
     refine ⟨_, rfl, ?_⟩
     have n0_ := Aside0.mk (Kd.R_lower ho0 (qbz (by repeat (first | (with_reducible first | exact HB.out | apply below_alloc | apply qbN | apply qb1 | refine qbs ?_ GE494.out) | exact HB.out))))
     have n1_ := Aside0.mk (qkb (g := gb494) (o := .cells #[.string a0_0, .slice A0_1 l0_1.length c0_1] 24 (0, 0)) (by (with_reducible repeat (first | refine qkN ?_ _ | refine qkd ?_ | refine qka ?_ _)); exact BK494.out) hb)
     have n2_ := Aside0.mk (below_step (by repeat (first | (with_reducible first | exact HB.out | apply below_alloc | apply qbN | apply qb1 | refine qbs ?_ GE494.out) | exact HB.out)) hb)
     clear BK494
     clear HB
     have HO511 := n0_
     have BK494 := n1_
     have HB := n2_
     clear n0_ n1_ n2_
     (try clear hb)
     (try clear hb2)
     (try clear hk)
     (try clear hi)
     (try clear ho0)
     obtain ⟨Ao26, co26, eo26⟩ := Kd.R_slice HO511.out
     (first | subst eo26 | (injection eo26 with f1_ f2_ f3_; have f4_ := f1_.symm; have f5_ := f3_.symm; clear f1_ f2_ f3_; subst f4_; subst f5_))
     refine hK.out _ _ ⟨(qkc BK494.out 0).trans rfl, (qkc BK494.out 1).trans rfl⟩ (fun hHeld => ?_)
     clear hK K
     refine norm_ (a' := ?_) ?_ ?_
     rotate_left
     ·show Act.put _ (some 51) _ = _
      simp only [Act.put, List.setIfInBounds_toArray, List.set_cons_zero, List.set_cons_succ, i64_w, i32_w]
      rfl
     refine one_ (i := 3) (N := some 52) #[true, true, true, true, false, false, false, false, false] rfl rfl (one_of HT_.out (by kernel_rfl)) (by decide) (fun K hK => ?_)
     refine goes_ Tryd.func12 (by kernel_rfl) rfl #[.agg #[.string a0_0, .slice A0_1 l0_1.length c0_1], .slice Ao26 t509.length co26] (by rfl) rfl rfl (by (try simp only [List.map_toArray, List.map_cons, List.map_nil]); first | done | rfl | (simp only [List.length_drop, List.length_take]; rfl)) ?_
     with_reducible refine (row_Key.calls kj6 a0_0 _ _ l0_1 _ _ t509 t512 t513 _ ?side1 ?side2 ?side3 ?side4 A20.out).mono ?_
     (case side1 => repeat (first | exact (Kd.C_below HR0_1.out HB.out) | (with_reducible refine Kd.C_alloc ?_ _) | (with_reducible refine Kd.C_drewN ?_ _) | (with_reducible refine Kd.C_drew ?_)))
     (case side2 => exact HC0_1.out)
     (case side3 => repeat (first | exact (Kd.R_reads' HO511.out).2.2 | (with_reducible refine Kd.C_alloc ?_ _) | (with_reducible refine Kd.C_drewN ?_ _) | (with_reducible refine Kd.C_drew ?_)))
     (case side4 => exact (Kd.R_reads' HO511.out).2.1)
     rintro e w27 ⟨rfl, hb⟩
     refine ⟨_, rfl, ?_⟩
     have n0_ := Aside0.mk (Kd.R_below (by (with_reducible repeat (first | apply Kd.R_alloc | apply Kd.R_drewN | apply Kd.R_drew)); exact HO511.out) hb)
     have n1_ := Aside0.mk (qkb (g := gb494) (o := .cells #[.string a0_0, .slice A0_1 l0_1.length c0_1] 24 (0, 0)) (by (with_reducible repeat (first | refine qkN ?_ _ | refine qkd ?_ | refine qka ?_ _)); exact BK494.out) hb)
     have n2_ := Aside0.mk (below_step (by repeat (first | (with_reducible first | exact HB.out | apply below_alloc | apply qbN | apply qb1 | refine qbs ?_ GE494.out) | exact HB.out)) hb)
     clear HO511
     clear BK494
     clear HB
     have HO511 := n0_
     have BK494 := n1_
     have HB := n2_
     clear n0_ n1_ n2_
     (try clear hb)
     (try clear hb2)
     (try clear hk)
     (try clear hi)
     (try simp only [eWn, eWs])
     refine hK.out _ _ ⟨(qkc BK494.out 0).trans rfl, (qkc BK494.out 1).trans rfl⟩ (fun hHeld => ?_)
     clear hK K
     refine norm_ (a' := ?_) ?_ ?_
     rotate_left
     ·show Act.put _ (some 52) _ = _
      simp only [Act.put, List.setIfInBounds_toArray, List.set_cons_zero, List.set_cons_succ, i64_w, i32_w]
      rfl
     refine pure_ (i := 4) (N := some 48) (v := ?_) (a' := ?_) #[true, true, true, true, true, false, false, false, false] rfl rfl (any_of HT_.out (by kernel_rfl)) (fun _ _ _ h => h) (Or.inl ⟨by rfl, ?_⟩) ?_ ?_
     rotate_left
     ·intro w'
      go_simp
      with_reducible rfl
     rotate_left
     ·simp only [Act.put, List.setIfInBounds_toArray, List.set_cons_zero, List.set_cons_succ, i64_w, i32_w]
      rfl
     refine pure_ (i := 5) (N := some 53) (v := ?_) (a' := ?_) #[true, true, true, true, true, true, false, false, false] rfl rfl (any_of HT_.out (by kernel_rfl)) (fun _ _ _ h => h) (Or.inl ⟨by rfl, ?_⟩) ?_ ?_
     rotate_left
     ·intro w'
      go_simp
      with_reducible rfl
     rotate_left
     ·simp only [Act.put, List.setIfInBounds_toArray, List.set_cons_zero, List.set_cons_succ, i64_w, i32_w]
      rfl
     refine pure_ (i := 6) (N := some 54) (v := ?_) (a' := ?_) #[true, true, true, true, true, true, true, false, false] rfl rfl (any_of HT_.out (by kernel_rfl)) (fun _ _ _ h => h) (Or.inl ⟨by rfl, ?_⟩) ?_ ?_
     rotate_left
     ·intro w'
      go_simp
      with_reducible rfl
     rotate_left
     ·simp only [Act.put, List.setIfInBounds_toArray, List.set_cons_zero, List.set_cons_succ, i64_w, i32_w]
      rfl
     refine pure_ (i := 7) (N := some 11) (v := ?_) (a' := ?_) #[true, true, true, true, true, true, true, true, false] rfl rfl (any_of HT_.out (by kernel_rfl)) (fun _ _ _ h => h) (Or.inl ⟨by rfl, ?_⟩) ?_ ?_
     rotate_left
     ·intro w'
      go_simp
      with_reducible rfl
     rotate_left
     ·simp only [Act.put, List.setIfInBounds_toArray, List.set_cons_zero, List.set_cons_succ, i64_w, i32_w]
      rfl
     refine pure_ (i := 8) (N := some 12) (v := ?_) (a' := ?_) #[true, true, true, true, true, true, true, true, true] rfl rfl (any_of HT_.out (by kernel_rfl)) (fun _ _ _ h => h) (Or.inl ⟨by rfl, ?_⟩) ?_ ?_
     rotate_left
     ·intro w'
      go_simp
      with_reducible rfl
     rotate_left
     ·simp only [Act.put, List.setIfInBounds_toArray, List.set_cons_zero, List.set_cons_succ, i64_w, i32_w]
      rfl
     refine done_ (done_of HT_.out (by kernel_rfl)) ?_
     try go_wp2
     have n0_ := Aside0.mk (Kd.R_drew HO511.out)
     have n1_ := Aside0.mk (qkd BK494.out)
     have n2_ := Aside0.mk (qb1 HB.out)
     clear HO511
     clear BK494
     clear HB
     have HO511 := n0_
     have BK494 := n1_
     have HB := n2_
     clear n0_ n1_ n2_
     refine start_ (n := 9) (S := fun w' => w'.cell? ⟨gb494, 0, none⟩ = some (.string a0_0) ∧ w'.cell? ⟨gb494, 1, none⟩ = some (.slice A0_1 l0_1.length c0_1)) (ds := []) #[false, false, false, false, false, false, false, false, false] (by kernel_rfl) rfl rfl ⟨(qkc BK494.out 0).trans rfl, (qkc BK494.out 1).trans rfl⟩ (fun hHeld => ?_); refine with_tabW barbicanlaw14_RowBack.tab8 barbicanlaw14_RowBack.bits8 (fun HT_ HW_ => ?_)
     generalize w27.drew = w28 at HO511 BK494 HB hHeld ⊢
     refine pure_ (i := 1) (N := some 57) (v := ?_) (a' := ?_) #[false, true, false, false, false, false, false, false, false] rfl rfl (any_of HT_.out (by kernel_rfl)) (fun _ _ _ h => h) (Or.inl ⟨by rfl, ?_⟩) ?_ ?_
     rotate_left
     ·intro w'
      go_simp
      with_reducible rfl
     rotate_left
     ·simp only [Act.put, List.setIfInBounds_toArray, List.set_cons_zero, List.set_cons_succ, i64_w, i32_w]
      rfl
     refine take_ (i := 0) (N := some 56) (v := ?_) (a' := ?_) #[true, true, false, false, false, false, false, false, false] rfl rfl (take_ofW HT_.out HW_.out (by kernel_rfl)) (fun _ _ _ h => h) (Or.inl ⟨by rfl, ?_⟩) hHeld ?_ ?_
     rotate_left
     ·rintro w' ⟨s0, s1⟩
      go_simp
      with_reducible rfl
     rotate_left
     ·simp only [Act.put, List.setIfInBounds_toArray, List.set_cons_zero, List.set_cons_succ, i64_w, i32_w]
      rfl
     refine one_ (i := 2) (N := some 58) #[true, true, true, false, false, false, false, false, false] rfl rfl (one_of HT_.out (by kernel_rfl)) (by decide) (fun K hK => ?_)
     refine goes_ Tryd.func11 (by kernel_rfl) rfl #[.slice A2 l2.length c2] (by rfl) rfl rfl (by (try simp only [List.map_toArray, List.map_cons, List.map_nil]); first | done | rfl | (simp only [List.length_drop, List.length_take]; rfl)) ?_
     with_reducible refine (barbicanlaw14_twin.calls _ _ l2 t514 _ ?side1 ?side2 A21.out).mono ?_
     (case side1 => repeat (first | exact (Kd.C_below HR2.out HB.out) | (with_reducible refine Kd.C_alloc ?_ _) | (with_reducible refine Kd.C_drewN ?_ _) | (with_reducible refine Kd.C_drew ?_)))
     (case side2 => exact HC2.out)
     rintro e w29 ⟨v515, rfl, ho0, hb⟩
     refine ⟨_, rfl, ?_⟩
     have n0_ := Aside0.mk (Kd.R_elder' (by (with_reducible repeat (first | apply Kd.R_alloc | apply Kd.R_drewN | apply Kd.R_drew)); exact HO511.out) (Kd.R_base ho0) hb)
     have n1_ := Aside0.mk (Kd.R_lower (Kd.R_new' ho0 (Kd.R_lt (by (with_reducible repeat (first | apply Kd.R_alloc | apply Kd.R_drewN | apply Kd.R_drew)); exact HO511.out))) (qbz (by repeat (first | (with_reducible first | exact HB.out | apply below_alloc | apply qbN | apply qb1 | refine qbs ?_ GE494.out) | exact HB.out))))
     have n2_ := Aside0.mk (qkb (g := gb494) (o := .cells #[.string a0_0, .slice A0_1 l0_1.length c0_1] 24 (0, 0)) (by (with_reducible repeat (first | refine qkN ?_ _ | refine qkd ?_ | refine qka ?_ _)); exact BK494.out) hb)
     have n3_ := Aside0.mk (below_step (by repeat (first | (with_reducible first | exact HB.out | apply below_alloc | apply qbN | apply qb1 | refine qbs ?_ GE494.out) | exact HB.out)) hb)
     clear HO511
     clear BK494
     clear HB
     have HO511 := n0_
     have HO516 := n1_
     have BK494 := n2_
     have HB := n3_
     clear n0_ n1_ n2_ n3_
     (try clear hb)
     (try clear hb2)
     (try clear hk)
     (try clear hi)
     (try clear ho0)
     obtain ⟨Ao30, co30, eo30⟩ := Kd.R_slice HO516.out
     (first | subst eo30 | (injection eo30 with f1_ f2_ f3_; have f4_ := f1_.symm; have f5_ := f3_.symm; clear f1_ f2_ f3_; subst f4_; subst f5_))
     refine hK.out _ _ ⟨(qkc BK494.out 0).trans rfl, (qkc BK494.out 1).trans rfl⟩ (fun hHeld => ?_)
     clear hK K
     refine norm_ (a' := ?_) ?_ ?_
     rotate_left
     ·show Act.put _ (some 58) _ = _
      simp only [Act.put, List.setIfInBounds_toArray, List.set_cons_zero, List.set_cons_succ, i64_w, i32_w]
      rfl
     refine one_ (i := 3) (N := some 59) #[true, true, true, true, false, false, false, false, false] rfl rfl (one_of HT_.out (by kernel_rfl)) (by decide) (fun K hK => ?_)
     refine goes_ Tryd.func12 (by kernel_rfl) rfl #[.agg #[.string a0_0, .slice A0_1 l0_1.length c0_1], .slice Ao30 t514.length co30] (by rfl) rfl rfl (by (try simp only [List.map_toArray, List.map_cons, List.map_nil]); first | done | rfl | (simp only [List.length_drop, List.length_take]; rfl)) ?_
     with_reducible refine (row_Key.calls kj6 a0_0 _ _ l0_1 _ _ t514 t517 t518 _ ?side1 ?side2 ?side3 ?side4 A22.out).mono ?_
     (case side1 => repeat (first | exact (Kd.C_below HR0_1.out HB.out) | (with_reducible refine Kd.C_alloc ?_ _) | (with_reducible refine Kd.C_drewN ?_ _) | (with_reducible refine Kd.C_drew ?_)))
     (case side2 => exact HC0_1.out)
     (case side3 => repeat (first | exact (Kd.R_reads' HO516.out).2.2 | (with_reducible refine Kd.C_alloc ?_ _) | (with_reducible refine Kd.C_drewN ?_ _) | (with_reducible refine Kd.C_drew ?_)))
     (case side4 => exact (Kd.R_reads' HO516.out).2.1)
     rintro e w31 ⟨rfl, hb⟩
     refine ⟨_, rfl, ?_⟩
     have n0_ := Aside0.mk (Kd.R_below (by (with_reducible repeat (first | apply Kd.R_alloc | apply Kd.R_drewN | apply Kd.R_drew)); exact HO511.out) hb)
     have n1_ := Aside0.mk (Kd.R_below (by (with_reducible repeat (first | apply Kd.R_alloc | apply Kd.R_drewN | apply Kd.R_drew)); exact HO516.out) hb)
     have n2_ := Aside0.mk (qkb (g := gb494) (o := .cells #[.string a0_0, .slice A0_1 l0_1.length c0_1] 24 (0, 0)) (by (with_reducible repeat (first | refine qkN ?_ _ | refine qkd ?_ | refine qka ?_ _)); exact BK494.out) hb)
     have n3_ := Aside0.mk (below_step (by repeat (first | (with_reducible first | exact HB.out | apply below_alloc | apply qbN | apply qb1 | refine qbs ?_ GE494.out) | exact HB.out)) hb)
     clear HO511
     clear HO516
     clear BK494
     clear HB
     have HO511 := n0_
     have HO516 := n1_
     have BK494 := n2_
     have HB := n3_
     clear n0_ n1_ n2_ n3_
     (try clear hb)
     (try clear hb2)
     (try clear hk)
     (try clear hi)
     (try simp only [eWn, eWs])
     refine hK.out _ _ ⟨(qkc BK494.out 0).trans rfl, (qkc BK494.out 1).trans rfl⟩ (fun hHeld => ?_)
     clear hK K
     refine norm_ (a' := ?_) ?_ ?_
     rotate_left
     ·show Act.put _ (some 59) _ = _
      simp only [Act.put, List.setIfInBounds_toArray, List.set_cons_zero, List.set_cons_succ, i64_w, i32_w]
      rfl
     refine pure_ (i := 4) (N := some 55) (v := ?_) (a' := ?_) #[true, true, true, true, true, false, false, false, false] rfl rfl (any_of HT_.out (by kernel_rfl)) (fun _ _ _ h => h) (Or.inl ⟨by rfl, ?_⟩) ?_ ?_
     rotate_left
     ·intro w'
      go_simp
      with_reducible rfl
     rotate_left
     ·simp only [Act.put, List.setIfInBounds_toArray, List.set_cons_zero, List.set_cons_succ, i64_w, i32_w]
      rfl
     refine pure_ (i := 5) (N := some 60) (v := ?_) (a' := ?_) #[true, true, true, true, true, true, false, false, false] rfl rfl (any_of HT_.out (by kernel_rfl)) (fun _ _ _ h => h) (Or.inl ⟨by rfl, ?_⟩) ?_ ?_
     rotate_left
     ·intro w'
      go_simp
      with_reducible rfl
     rotate_left
     ·simp only [Act.put, List.setIfInBounds_toArray, List.set_cons_zero, List.set_cons_succ, i64_w, i32_w]
      rfl
     refine pure_ (i := 6) (N := some 61) (v := ?_) (a' := ?_) #[true, true, true, true, true, true, true, false, false] rfl rfl (any_of HT_.out (by kernel_rfl)) (fun _ _ _ h => h) (Or.inl ⟨by rfl, ?_⟩) ?_ ?_
     rotate_left
     ·intro w'
      go_simp
      with_reducible rfl
     rotate_left
     ·simp only [Act.put, List.setIfInBounds_toArray, List.set_cons_zero, List.set_cons_succ, i64_w, i32_w]
      rfl
     refine pure_ (i := 7) (N := some 13) (v := ?_) (a' := ?_) #[true, true, true, true, true, true, true, true, false] rfl rfl (any_of HT_.out (by kernel_rfl)) (fun _ _ _ h => h) (Or.inl ⟨by rfl, ?_⟩) ?_ ?_
     rotate_left
     ·intro w'
      go_simp
      with_reducible rfl
     rotate_left
     ·simp only [Act.put, List.setIfInBounds_toArray, List.set_cons_zero, List.set_cons_succ, i64_w, i32_w]
      rfl
     refine pure_ (i := 8) (N := some 14) (v := ?_) (a' := ?_) #[true, true, true, true, true, true, true, true, true] rfl rfl (any_of HT_.out (by kernel_rfl)) (fun _ _ _ h => h) (Or.inl ⟨by rfl, ?_⟩) ?_ ?_
     rotate_left
     ·intro w'
      go_simp
      with_reducible rfl
     rotate_left
     ·simp only [Act.put, List.setIfInBounds_toArray, List.set_cons_zero, List.set_cons_succ, i64_w, i32_w]
      rfl
     refine done_ (done_of HT_.out (by kernel_rfl)) ?_
     go_upto_region 9 with (fail)
     go_cut [67] (fun v67 wc => ∃ (kq : Nat) (x67_22 : Bool), v67 = .bool x67_22 ∧ Aside0 (barbicanlaw14_RowBack.j1 kq l1 l2 t512 t517 x67_22 a0_0 l0_1 = some r) ∧ Aside0 (kq ≤ kj6) ∧ Aside0 (wc.heap[gb494]? = some (.cells #[.string a0_0, (.slice A0_1 l0_1.length c0_1)] 24 (0, 0))) ∧ Aside0 (Below w.heap.size w wc))
     case first =>
      have H := HC23.out
      clear HC23
      rcases t513 with _ | q519
      ·have H1 : (if t518.isNone = true then (barbicanlaw14_RowBack.j1 kj6 l1 l2 t512 t517 false a0_0 l0_1) else (barbicanlaw14_RowBack.j1 kj6 l1 l2 t512 t517 true a0_0 l0_1)) = some r := by rw [if_pos (show (none : Option Int).isNone = true by rfl)] at H; exact H
       clear H
       have H := H1
       clear H1
       try simp only [eWn, eWs]
       rcases t518 with _ | q520
       ·have H1 : (barbicanlaw14_RowBack.j1 kj6 l1 l2 t512 t517 false a0_0 l0_1) = some r := by rw [if_pos (show (none : Option Int).isNone = true by rfl)] at H; exact H
        clear H
        have H := H1
        clear H1
        try simp only [eWn, eWs]
        have H' := Aside0.mk H
        clear H
        go_wp2
        go_meet
        case rel => exact ⟨_, (false), (by first | rfl | (simp; done) | (simp [*]; done)), H', ⟨by have := HJ6.out; first | omega | exact Nat.le_refl _⟩, ⟨by (with_reducible repeat (first | refine qkN ?_ _ | refine qkd ?_ | refine qka ?_ _)); exact BK494.out⟩, ⟨by repeat (first | (with_reducible first | exact HB.out | apply below_alloc | apply qbN | apply qb1 | refine qbs ?_ GE494.out) | exact HB.out)⟩⟩
       ·have H1 : (barbicanlaw14_RowBack.j1 kj6 l1 l2 t512 t517 true a0_0 l0_1) = some r := by rw [if_neg (show ¬ (some q520).isNone = true by simp)] at H; exact H
        clear H
        have H := H1
        clear H1
        try simp only [eWn, eWs]
        have H' := Aside0.mk H
        clear H
        go_wp2
        go_meet
        case rel => exact ⟨_, (true), (by first | rfl | (simp; done) | (simp [*]; done)), H', ⟨by have := HJ6.out; first | omega | exact Nat.le_refl _⟩, ⟨by (with_reducible repeat (first | refine qkN ?_ _ | refine qkd ?_ | refine qka ?_ _)); exact BK494.out⟩, ⟨by repeat (first | (with_reducible first | exact HB.out | apply below_alloc | apply qbN | apply qb1 | refine qbs ?_ GE494.out) | exact HB.out)⟩⟩
      ·have H1 : (barbicanlaw14_RowBack.j1 kj6 l1 l2 t512 t517 true a0_0 l0_1) = some r := by rw [if_neg (show ¬ (some q519).isNone = true by simp)] at H; exact H
       clear H
       have H := H1
       clear H1
       try simp only [eWn, eWs]
       have H' := Aside0.mk H
       clear H
       go_wp2
       go_meet
       case rel => exact ⟨_, (true), (by first | rfl | (simp; done) | (simp [*]; done)), H', ⟨by have := HJ6.out; first | omega | exact Nat.le_refl _⟩, ⟨by (with_reducible repeat (first | refine qkN ?_ _ | refine qkd ?_ | refine qka ?_ _)); exact BK494.out⟩, ⟨by repeat (first | (with_reducible first | exact HB.out | apply below_alloc | apply qbN | apply qb1 | refine qbs ?_ GE494.out) | exact HB.out)⟩⟩
     case rest =>
      clear HC23
      try clear c1
      try clear c2
      try clear p2
      try clear c5
      try clear q5
      try clear c10
      try clear c11
      try clear c12
      try clear c16
      try clear c18
      try clear hcz13_0
      try clear hcz13_1
      try clear hfz13_0
      try clear hfz13_1
      try clear p2
      try clear q5
      try clear q502
      try clear q507
      try clear q519
      try clear q520
      obtain ⟨kq, x67_22, rfl, HA, HJ22, BK494, HB⟩ := hcut
      cases kq with
      | zero => exact absurd HA.out (by simp [barbicanlaw14_RowBack.j1])
      | succ kj22 =>
       have H := HA.out
       clear HA
       simp only [barbicanlaw14_RowBack.j1] at H
       by_cases c32 : x67_22 = true
       ·subst c32
        have H1 : ((barbicanlaw14_sure.f kj22).bind fun t521 => (some t521)) = some r := by rw [if_pos rfl] at H; exact H
        clear H
        have H := H1
        clear H1
        replace H := Option.bind_eq_some_iff.mp H
        obtain ⟨t521, A330, H⟩ := H
        replace H : (some t521) = some r := H
        have A33 := Aside0.mk A330
        clear A330
        obtain rfl := Option.some.inj H
        go_wp2_with (first | ((with_reducible refine qgc (f := 13) rfl ?_); refine goesL_ (some 68) rfl rfl Tryd.func13 (by kernel_rfl) rfl #[] rfl (by (try simp only [List.map_toArray, List.map_cons, List.map_nil]); first | done | rfl | (simp only [List.length_drop, List.length_take]; rfl)) ?_; (with_reducible refine (barbicanlaw14_sure.calls kj22  t521 _ ?side1 A33.out).mono ?_); (case side1 => exact GW_below HG.out (by repeat (first | (with_reducible first | exact HB.out | apply below_alloc | apply qbN | apply qb1 | refine qbs ?_ GE494.out) | exact HB.out))); rintro e w34 ⟨rfl, hb⟩; refine ⟨_, rfl, ?_⟩; have n0_ := Aside0.mk (qkb (g := gb494) (o := .cells #[.string a0_0, .slice A0_1 l0_1.length c0_1] 24 (0, 0)) (by (with_reducible repeat (first | refine qkN ?_ _ | refine qkd ?_ | refine qka ?_ _)); exact BK494.out) hb); have n1_ := Aside0.mk (below_step (by repeat (first | (with_reducible first | exact HB.out | apply below_alloc | apply qbN | apply qb1 | refine qbs ?_ GE494.out) | exact HB.out)) hb); clear BK494; clear HB; have BK494 := n0_; have HB := n1_; clear n0_ n1_; (try clear hb); (try clear hb2); (try clear hk); (try clear hi)))
        go_ret
        exact ⟨by first | rfl | (simp [eWn, eWs] <;> rfl) | (simp [*, eWn, eWs] <;> rfl), by repeat (first | (with_reducible first | exact HB.out | apply below_alloc | apply qbN | apply qb1 | refine qbs ?_ GE494.out) | exact HB.out)⟩
       ·replace c32 := Bool.eq_false_iff.mpr c32
        subst c32
        have H1 : (barbicanlaw14_RowBack.l0 kj22 l1 l2 t512 t517 ([] : List (S38)) ([] : List (S38)) 0 a0_0 l0_1) = some r := by rw [if_neg (show ¬ (false = true) by decide)] at H; exact H
        clear H
        have H := H1
        clear H1
        have H' := Aside0.mk H
        clear H
        go_wp2
        go_loopg [15, 16, 17] kj22 (fun kq v15 v16 v17 w' => ∃ (x15_3 : List (S38)) (x16_3 : List (S38)) (x17_3 : Int), v17 = .int .i64 x17_3 ∧ Aside0 (barbicanlaw14_RowBack.l0 kq l1 l2 t512 t517 x15_3 x16_3 x17_3 a0_0 l0_1 = some r) ∧ Aside0 (kq ≤ kj22) ∧ Aside0 (Kd.R k38 38 w' w.heap.size (fun k_ => some k_ ≠ (v16 : Value).ownBlock) v15 x15_3) ∧ Aside0 (Kd.R k38 38 w' w.heap.size (fun k_ => some k_ ≠ (v15 : Value).ownBlock) v16 x16_3) ∧ Aside0 (w'.heap[gb494]? = some (.cells #[.string a0_0, (.slice A0_1 l0_1.length c0_1)] 24 (0, 0))) ∧ Aside0 (Below w.heap.size w w'))
        case atStart => exact ⟨(([] : List (S38))), (([] : List (S38))), (0), (by first | rfl | (simp; done) | (simp [*]; done)), H', ⟨Nat.le_refl _⟩, ⟨by first | exact Kd.R_nil _ _ _ _ _ | exact Kd.N_nil _ _ _ _ _ | exact Kd.V_nil _ _ _ _ _ | exact Kd.Q_nil _ _ _ _ _ | exact Kd.S_nil _ _ _ _ _⟩, ⟨by first | exact Kd.R_nil _ _ _ _ _ | exact Kd.N_nil _ _ _ _ _ | exact Kd.V_nil _ _ _ _ _ | exact Kd.Q_nil _ _ _ _ _ | exact Kd.S_nil _ _ _ _ _⟩, ⟨by (with_reducible repeat (first | refine qkN ?_ _ | refine qkd ?_ | refine qka ?_ _)); exact BK494.out⟩, ⟨by repeat (first | (with_reducible first | exact HB.out | apply below_alloc | apply qbN | apply qb1 | refine qbs ?_ GE494.out) | exact HB.out)⟩⟩
        case round =>
         clear H'
         try clear c1
         try clear c2
         try clear p2
         try clear c3
         try clear c5
         try clear q5
         try clear c10
         try clear c11
         try clear c12
         try clear c13
         try clear c16
         try clear c18
         try clear c32
         try clear hcz13_0
         try clear hcz13_1
         try clear hfz13_0
         try clear hfz13_1
         try clear p2
         try clear q5
         try clear q502
         try clear q507
         try clear q519
         try clear q520
         obtain ⟨x15_3, x16_3, x17_3, rfl, HA, HK3, HO_15, HO_16, BK494, HB⟩ := hrel
         cases gk with
         | zero => exact absurd HA.out (by simp [barbicanlaw14_RowBack.l0])
         | succ k3 =>
          have H := HA.out
          clear HA
          simp only [barbicanlaw14_RowBack.l0] at H
          by_cases c35 : x17_3 < (l0_1.length : Int)
          ·rw [if_pos c35] at H
           have c35b0 : decide (x17_3 < (l0_1.length : Int)) = true := decide_eq_true c35
           clear c35
           by_cases c36 : 0 ≤ x17_3
           ·rw [if_pos c36] at H
            have c36b0 : decide (0 ≤ x17_3) = true := decide_eq_true c36
            clear c36
            obtain ⟨bq37, hbq37⟩ : ∃ b_ : Bool, b_ = ((rd_T36 l0_1 x17_3).f2) := ⟨_, rfl⟩
            replace H : (if bq37 = true then (if x17_3 < (l1.length : Int) then (if x15_3.length < 3518437208883 then (if x17_3 < (l2.length : Int) then (if x16_3.length < 3518437208883 then (barbicanlaw14_RowBack.l0 k3 l1 l2 t512 t517 (x15_3 ++ [(⟨(r8 l1 x17_3).f0, (r8 l1 x17_3).f1, (r8 l1 x17_3).f2, (r8 l1 x17_3).f3⟩ : S38)]) (x16_3 ++ [(⟨(r8 l2 x17_3).f0, (r8 l2 x17_3).f1, (r8 l2 x17_3).f2, (r8 l2 x17_3).f3⟩ : S38)]) (wrap64 (x17_3 + 1)) a0_0 l0_1) else (none)) else (none)) else (none)) else (none)) else (barbicanlaw14_RowBack.l0 k3 l1 l2 t512 t517 x15_3 x16_3 (wrap64 (x17_3 + 1)) a0_0 l0_1)) = some r := by rw [← hbq37] at H; exact H
            have Nbq37 := Aside0.mk hbq37
            clear hbq37
            by_cases c38 : bq37 = true
            ·subst c38
             have H1 : (if x17_3 < (l1.length : Int) then (if x15_3.length < 3518437208883 then (if x17_3 < (l2.length : Int) then (if x16_3.length < 3518437208883 then (barbicanlaw14_RowBack.l0 k3 l1 l2 t512 t517 (x15_3 ++ [(⟨(r8 l1 x17_3).f0, (r8 l1 x17_3).f1, (r8 l1 x17_3).f2, (r8 l1 x17_3).f3⟩ : S38)]) (x16_3 ++ [(⟨(r8 l2 x17_3).f0, (r8 l2 x17_3).f1, (r8 l2 x17_3).f2, (r8 l2 x17_3).f3⟩ : S38)]) (wrap64 (x17_3 + 1)) a0_0 l0_1) else (none)) else (none)) else (none)) else (none)) = some r := by rw [if_pos rfl] at H; exact H
             clear H
             have H := H1
             clear H1
             by_cases c39 : x17_3 < (l1.length : Int)
             ·rw [if_pos c39] at H
              have c39b0 : decide (x17_3 < (l1.length : Int)) = true := decide_eq_true c39
              clear c39
              by_cases c40 : x15_3.length < 3518437208883
              ·rw [if_pos c40] at H
               have LMc40 := Aside0.mk c40
               clear c40
               obtain ⟨y524, hy524⟩ : ∃ y_ : List (S38), y_ = (x15_3 ++ [(⟨(r8 l1 x17_3).f0, (r8 l1 x17_3).f1, (r8 l1 x17_3).f2, (r8 l1 x17_3).f3⟩ : S38)]) := ⟨_, rfl⟩
               replace H : (if x17_3 < (l2.length : Int) then (if x16_3.length < 3518437208883 then (barbicanlaw14_RowBack.l0 k3 l1 l2 t512 t517 y524 (x16_3 ++ [(⟨(r8 l2 x17_3).f0, (r8 l2 x17_3).f1, (r8 l2 x17_3).f2, (r8 l2 x17_3).f3⟩ : S38)]) (wrap64 (x17_3 + 1)) a0_0 l0_1) else (none)) else (none)) = some r := by first | (rw [hy524]; with_reducible exact H) | (have H2_ := (Option.bind_some _ _).symm.trans H; rw [hy524]; with_reducible exact H2_) | (have H2_ := (Option.bind_some _ _).symm.trans H; with_reducible exact H2_) | with_reducible exact H | (rw [hy524]; exact H) | exact H
               have Ny524 := Aside0.mk hy524
               clear hy524
               by_cases c41 : x17_3 < (l2.length : Int)
               ·rw [if_pos c41] at H
                have c41b0 : decide (x17_3 < (l2.length : Int)) = true := decide_eq_true c41
                clear c41
                by_cases c42 : x16_3.length < 3518437208883
                ·rw [if_pos c42] at H
                 have LMc42 := Aside0.mk c42
                 clear c42
                 obtain ⟨y528, hy528⟩ : ∃ y_ : List (S38), y_ = (x16_3 ++ [(⟨(r8 l2 x17_3).f0, (r8 l2 x17_3).f1, (r8 l2 x17_3).f2, (r8 l2 x17_3).f3⟩ : S38)]) := ⟨_, rfl⟩
                 replace H : (barbicanlaw14_RowBack.l0 k3 l1 l2 t512 t517 y524 y528 (wrap64 (x17_3 + 1)) a0_0 l0_1) = some r := by first | (rw [hy528]; with_reducible exact H) | (have H2_ := (Option.bind_some _ _).symm.trans H; rw [hy528]; with_reducible exact H2_) | (have H2_ := (Option.bind_some _ _).symm.trans H; with_reducible exact H2_) | with_reducible exact H | (rw [hy528]; exact H) | exact H
                 have Ny528 := Aside0.mk hy528
                 clear hy528
                 have H' := Aside0.mk H
                 clear H
                 have hcz43_0 : wr.cell? ⟨gb494, 0, none⟩ = some (.string a0_0) := (qkc BK494.out 0).trans rfl
                 have hcz43_1 : wr.cell? ⟨gb494, 1, none⟩ = some (.slice A0_1 l0_1.length c0_1) := (qkc BK494.out 1).trans rfl
                 have hfz43_0 := qkf BK494.out 0
                 have hfz43_1 := qkf BK494.out 1
                 have p522 : 0 ≤ (x17_3 : Int) := ode_
                 have q522 : x17_3 < (l0_1.length : Int) := ode_
                 obtain ⟨ad522, e522, hx522_0, hx522_1, hx522_2, hx522_3⟩ := at_T36 HR0_1.out x17_3 p522 q522
                 (try rw [← Nbq37.out] at hx522_2)
                 (try rw [← Nbq37.out] at hx522_3)
                 cases e522
                 replace hx522_0 := (HB.out.cell (World.block_lt_of_cell? w _ hx522_0)).trans hx522_0
                 replace hx522_1 := (HB.out.cell (World.block_lt_of_cell? w _ hx522_1)).trans hx522_1
                 replace hx522_2 := (HB.out.cell (World.block_lt_of_cell? w _ hx522_2)).trans hx522_2
                 replace hx522_3 := (HB.out.cell (World.block_lt_of_cell? w _ hx522_3)).trans hx522_3
                 replace p522 := eq_true p522
                 replace q522 := eq_true q522
                 have p523 : 0 ≤ (x17_3 : Int) := ode_
                 have q523 : x17_3 < (l1.length : Int) := ode_
                 obtain ⟨ad523, e523, hx523_0, hx523_1, hx523_2, hx523_3⟩ := at_T38 HR1.out x17_3 p523 q523
                 (try rw [← Nbq37.out] at hx523_3)
                 cases e523
                 replace hx523_0 := (HB.out.cell (World.block_lt_of_cell? w _ hx523_0)).trans hx523_0
                 replace hx523_1 := (HB.out.cell (World.block_lt_of_cell? w _ hx523_1)).trans hx523_1
                 replace hx523_2 := (HB.out.cell (World.block_lt_of_cell? w _ hx523_2)).trans hx523_2
                 replace hx523_3 := (HB.out.cell (World.block_lt_of_cell? w _ hx523_3)).trans hx523_3
                 replace p523 := eq_true p523
                 replace q523 := eq_true q523
                 go_wp2_with (first | ((with_reducible refine gate_builtin (b := .append) (xs := #[.tmp 82, .tmp 87]) rfl ?_); at_builtin; refine Kd.R_append k38 (w0 := w) w.heap.size rfl (.tmp 82) (.tmp 87) 25 38 (.agg #[(.int .i64 0), (.int .i64 0), (.string ⟨#[]⟩), (.bool false)]) 40 rfl Tryd.underlying25 info38 rfl (by decide) (by omega) u15 x15_3 (⟨(r8 l1 x17_3).f0, (r8 l1 x17_3).f1, (r8 l1 x17_3).f2, (r8 l1 x17_3).f3⟩ : S38) [.int .i64 ((r8 l1 x17_3).f0), .int .i64 ((r8 l1 x17_3).f1), .string ((r8 l1 x17_3).f2), .bool ((r8 l1 x17_3).f3)] (fun k_ => some k_ ≠ (u16 : Value).ownBlock) (fun _ => False) rfl rfl ?aP (fun _ hk => hk.elim) ?aF ?aO ?aB ?aS ?aL ?_; (case aP => exact k38_mkM _ _ _ (⟨(r8 l1 x17_3).f0, (r8 l1 x17_3).f1, (r8 l1 x17_3).f2, (r8 l1 x17_3).f3⟩ : S38)); (case aB => exact (by repeat (first | (with_reducible first | exact HB.out | apply below_alloc | apply qbN | apply qb1 | refine qbs ?_ GE494.out) | exact HB.out))); (case aF => exact (fun k_ hk => Kd.fresh' (Kd.R_lt (by (with_reducible repeat (first | apply Kd.R_alloc | apply Kd.R_drewN | apply Kd.R_drew)); exact HO_16.out)) k_ hk)); (case aO => exact (by (with_reducible repeat (first | apply Kd.R_alloc | apply Kd.R_drewN | apply Kd.R_drew)); exact HO_15.out)); (case aS => exact (qbz (by repeat (first | (with_reducible first | exact HB.out | apply below_alloc | apply qbN | apply qb1 | refine qbs ?_ GE494.out) | exact HB.out)))); (case aL => have := LMc40.out; omega); intro v525 w44 ho hb hg hat; rw [← Ny524.out] at ho; have n0_ := Aside0.mk (Kd.R_after (ok := (fun _ => True)) (by (with_reducible repeat (first | apply Kd.R_alloc | apply Kd.R_drewN | apply Kd.R_drew)); exact Kd.R_mono HO_16.out (fun _ hk => ⟨trivial, hk⟩)) hg hat); have n1_ := Aside0.mk (blk_grown (g := gb494) (o := .cells #[.string a0_0, .slice (some ad522) l0_1.length c0_1] 24 (0, 0)) (by (with_reducible repeat (first | refine qkN ?_ _ | refine qkd ?_ | refine qka ?_ _)); exact BK494.out) hg (Kd.R_ne HO_15.out BK494.out (by decide))); have n2_ := Aside0.mk (hb); have n3_ := Aside0.mk (ho); clear HO_16; clear BK494; clear HB; clear HO_15; have HO_16 := n0_; have BK494 := n1_; have HB := n2_; have HO526 := n3_; clear n0_ n1_ n2_ n3_; clear ho hb hg hat; have p527 : 0 ≤ (x17_3 : Int) := ode_; have q527 : x17_3 < (l2.length : Int) := ode_; obtain ⟨ad527, e527, hx527_0, hx527_1, hx527_2, hx527_3⟩ := at_T38 HR2.out x17_3 p527 q527; (try rw [← Nbq37.out] at hx527_3); cases e527; replace hx527_0 := (HB.out.cell (World.block_lt_of_cell? w _ hx527_0)).trans hx527_0; replace hx527_1 := (HB.out.cell (World.block_lt_of_cell? w _ hx527_1)).trans hx527_1; replace hx527_2 := (HB.out.cell (World.block_lt_of_cell? w _ hx527_2)).trans hx527_2; replace hx527_3 := (HB.out.cell (World.block_lt_of_cell? w _ hx527_3)).trans hx527_3; replace p527 := eq_true p527; replace q527 := eq_true q527) | ((with_reducible refine gate_builtin (b := .append) (xs := #[.tmp 89, .tmp 94]) rfl ?_); at_builtin; refine Kd.R_append k38 (w0 := w) w.heap.size rfl (.tmp 89) (.tmp 94) 25 38 (.agg #[(.int .i64 0), (.int .i64 0), (.string ⟨#[]⟩), (.bool false)]) 40 rfl Tryd.underlying25 info38 rfl (by decide) (by omega) u16 x16_3 (⟨(r8 l2 x17_3).f0, (r8 l2 x17_3).f1, (r8 l2 x17_3).f2, (r8 l2 x17_3).f3⟩ : S38) [.int .i64 ((r8 l2 x17_3).f0), .int .i64 ((r8 l2 x17_3).f1), .string ((r8 l2 x17_3).f2), .bool ((r8 l2 x17_3).f3)] (fun k_ => some k_ ≠ (v525 : Value).ownBlock) (fun _ => False) rfl rfl ?aP (fun _ hk => hk.elim) ?aF ?aO ?aB ?aS ?aL ?_; (case aP => exact k38_mkM _ _ _ (⟨(r8 l2 x17_3).f0, (r8 l2 x17_3).f1, (r8 l2 x17_3).f2, (r8 l2 x17_3).f3⟩ : S38)); (case aB => exact (by repeat (first | (with_reducible first | exact HB.out | apply below_alloc | apply qbN | apply qb1 | refine qbs ?_ GE494.out) | exact HB.out))); (case aF => exact (fun k_ hk => Kd.fresh' (Kd.R_lt (by (with_reducible repeat (first | apply Kd.R_alloc | apply Kd.R_drewN | apply Kd.R_drew)); exact HO526.out)) k_ hk)); (case aO => exact (by (with_reducible repeat (first | apply Kd.R_alloc | apply Kd.R_drewN | apply Kd.R_drew)); exact Kd.R_mono HO_16.out (fun _ hk => hk.2))); (case aS => exact (qbz (by repeat (first | (with_reducible first | exact HB.out | apply below_alloc | apply qbN | apply qb1 | refine qbs ?_ GE494.out) | exact HB.out)))); (case aL => have := LMc42.out; omega); intro v529 w45 ho hb hg hat; rw [← Ny528.out] at ho; have n0_ := Aside0.mk (blk_grown (g := gb494) (o := .cells #[.string a0_0, .slice (some ad522) l0_1.length c0_1] 24 (0, 0)) (by (with_reducible repeat (first | refine qkN ?_ _ | refine qkd ?_ | refine qka ?_ _)); exact BK494.out) hg (Kd.R_ne HO_16.out BK494.out (by decide))); have n1_ := Aside0.mk (Kd.R_after (ok := (fun _ => True)) (by (with_reducible repeat (first | apply Kd.R_alloc | apply Kd.R_drewN | apply Kd.R_drew)); exact Kd.R_mono HO526.out (fun _ hk => ⟨trivial, hk⟩)) hg hat); have n2_ := Aside0.mk (hb); have n3_ := Aside0.mk (ho); clear BK494; clear HO526; clear HB; clear HO_16; have BK494 := n0_; have HO526 := n1_; have HB := n2_; have HO530 := n3_; clear n0_ n1_ n2_ n3_; clear ho hb hg hat))
                 go_roundg k3
                 case measure => have := HJ6.out; have := HJ22.out; have := HK3.out; omega
                 case rel => (try rw [← Nbq37.out]); exact ⟨(y524), (y528), (wrap64 (x17_3 + 1)), (by first | rfl | (simp; done) | (simp [*]; done)), H', ⟨by have := HJ6.out; have := HJ22.out; have := HK3.out; omega⟩, ⟨by (with_reducible repeat (first | apply Kd.R_alloc | apply Kd.R_drewN | apply Kd.R_drew)); exact Kd.R_mono HO526.out (fun _ hk => hk.2)⟩, ⟨by (with_reducible repeat (first | apply Kd.R_alloc | apply Kd.R_drewN | apply Kd.R_drew)); exact HO530.out⟩, ⟨by (with_reducible repeat (first | refine qkN ?_ _ | refine qkd ?_ | refine qka ?_ _)); exact BK494.out⟩, ⟨by repeat (first | (with_reducible first | exact HB.out | apply below_alloc | apply qbN | apply qb1 | refine qbs ?_ GE494.out) | exact HB.out)⟩⟩
                ·rw [if_neg c42] at H
                 exact absurd H (by simp)
               ·rw [if_neg c41] at H
                exact absurd H (by simp)
              ·rw [if_neg c40] at H
               exact absurd H (by simp)
             ·rw [if_neg c39] at H
              exact absurd H (by simp)
            ·replace c38 := Bool.eq_false_iff.mpr c38
             subst c38
             have H1 : (barbicanlaw14_RowBack.l0 k3 l1 l2 t512 t517 x15_3 x16_3 (wrap64 (x17_3 + 1)) a0_0 l0_1) = some r := by rw [if_neg (show ¬ (false = true) by decide)] at H; exact H
             clear H
             have H := H1
             clear H1
             have H' := Aside0.mk H
             clear H
             have hcz46_0 : wr.cell? ⟨gb494, 0, none⟩ = some (.string a0_0) := (qkc BK494.out 0).trans rfl
             have hcz46_1 : wr.cell? ⟨gb494, 1, none⟩ = some (.slice A0_1 l0_1.length c0_1) := (qkc BK494.out 1).trans rfl
             have hfz46_0 := qkf BK494.out 0
             have hfz46_1 := qkf BK494.out 1
             have p522 : 0 ≤ (x17_3 : Int) := ode_
             have q522 : x17_3 < (l0_1.length : Int) := ode_
             obtain ⟨ad522, e522, hx522_0, hx522_1, hx522_2, hx522_3⟩ := at_T36 HR0_1.out x17_3 p522 q522
             (try rw [← Nbq37.out] at hx522_2)
             (try rw [← Nbq37.out] at hx522_3)
             cases e522
             replace hx522_0 := (HB.out.cell (World.block_lt_of_cell? w _ hx522_0)).trans hx522_0
             replace hx522_1 := (HB.out.cell (World.block_lt_of_cell? w _ hx522_1)).trans hx522_1
             replace hx522_2 := (HB.out.cell (World.block_lt_of_cell? w _ hx522_2)).trans hx522_2
             replace hx522_3 := (HB.out.cell (World.block_lt_of_cell? w _ hx522_3)).trans hx522_3
             replace p522 := eq_true p522
             replace q522 := eq_true q522
             go_wp2
             go_roundg k3
             case measure => have := HJ6.out; have := HJ22.out; have := HK3.out; omega
             case rel => (try rw [← Nbq37.out]); exact ⟨(x15_3), (x16_3), (wrap64 (x17_3 + 1)), (by first | rfl | (simp; done) | (simp [*]; done)), H', ⟨by have := HJ6.out; have := HJ22.out; have := HK3.out; omega⟩, ⟨by (with_reducible repeat (first | apply Kd.R_alloc | apply Kd.R_drewN | apply Kd.R_drew)); exact HO_15.out⟩, ⟨by (with_reducible repeat (first | apply Kd.R_alloc | apply Kd.R_drewN | apply Kd.R_drew)); exact HO_16.out⟩, ⟨by (with_reducible repeat (first | refine qkN ?_ _ | refine qkd ?_ | refine qka ?_ _)); exact BK494.out⟩, ⟨by repeat (first | (with_reducible first | exact HB.out | apply below_alloc | apply qbN | apply qb1 | refine qbs ?_ GE494.out) | exact HB.out)⟩⟩
           ·rw [if_neg c36] at H
            exact absurd H (by simp)
          ·rw [if_neg c35] at H
           have c35b0 : decide (x17_3 < (l0_1.length : Int)) = false := decide_eq_false c35
           clear c35
           by_cases c47 : (Op.bytesLess t512.toList t517.toList) = true
           ·rw [if_pos c47] at H
            have c47b0 : (Op.bytesLess t512.toList t517.toList) = true := c47
            clear c47
            replace H := Option.bind_eq_some_iff.mp H
            obtain ⟨t531, A480, H⟩ := H
            replace H : (if (-1) = t531 then ((barbicanlaw14_sure.f k3).bind fun t532 => (some t532)) else (some false)) = some r := H
            have A48 := Aside0.mk A480
            clear A480
            by_cases c49 : (-1) = t531
            ·rw [if_pos c49] at H
             have c49b0 : ((-1) == t531) = true := beq_iff_eq.mpr c49
             have c49b1 : ((-1) != t531) = false := bne_eq_false_iff_eq.mpr c49
             clear c49
             replace H := Option.bind_eq_some_iff.mp H
             obtain ⟨t532, A500, H⟩ := H
             replace H : (some t532) = some r := H
             have A50 := Aside0.mk A500
             clear A500
             obtain rfl := Option.some.inj H
             have hcz51_0 : wr.cell? ⟨gb494, 0, none⟩ = some (.string a0_0) := (qkc BK494.out 0).trans rfl
             have hcz51_1 : wr.cell? ⟨gb494, 1, none⟩ = some (.slice A0_1 l0_1.length c0_1) := (qkc BK494.out 1).trans rfl
             have hfz51_0 := qkf BK494.out 0
             have hfz51_1 := qkf BK494.out 1
             obtain ⟨Ao52, co52, eo52⟩ := Kd.R_slice HO_15.out
             subst eo52
             obtain ⟨Ao53, co53, eo53⟩ := Kd.R_slice HO_16.out
             subst eo53
             go_wp2_with (first | ((with_reducible refine qgc (f := 19) rfl ?_); refine goesL_ (some 107) rfl rfl Tryd.func19 (by kernel_rfl) rfl #[.slice Ao52 x15_3.length co52, .slice Ao53 x16_3.length co53] rfl (by (try simp only [List.map_toArray, List.map_cons, List.map_nil]); first | done | rfl | (simp only [List.length_drop, List.length_take]; rfl)) ?_; (with_reducible refine (order_Compare.calls k3 _ _ x15_3 _ _ x16_3 t531 _ ?side1 ?side2 ?side3 ?side4 A48.out).mono ?_); (case side1 => repeat (first | exact (Kd.R_reads' HO_15.out).2.2 | (with_reducible refine Kd.C_alloc ?_ _) | (with_reducible refine Kd.C_drewN ?_ _) | (with_reducible refine Kd.C_drew ?_))); (case side2 => exact (Kd.R_reads' HO_15.out).2.1); (case side3 => repeat (first | exact (Kd.R_reads' HO_16.out).2.2 | (with_reducible refine Kd.C_alloc ?_ _) | (with_reducible refine Kd.C_drewN ?_ _) | (with_reducible refine Kd.C_drew ?_))); (case side4 => exact (Kd.R_reads' HO_16.out).2.1); rintro e w54 ⟨rfl, hb⟩; refine ⟨_, rfl, ?_⟩; have n0_ := Aside0.mk (Kd.R_below (by (with_reducible repeat (first | apply Kd.R_alloc | apply Kd.R_drewN | apply Kd.R_drew)); exact HO_15.out) hb); have n1_ := Aside0.mk (Kd.R_below (by (with_reducible repeat (first | apply Kd.R_alloc | apply Kd.R_drewN | apply Kd.R_drew)); exact HO_16.out) hb); have n2_ := Aside0.mk (qkb (g := gb494) (o := .cells #[.string a0_0, .slice A0_1 l0_1.length c0_1] 24 (0, 0)) (by (with_reducible repeat (first | refine qkN ?_ _ | refine qkd ?_ | refine qka ?_ _)); exact BK494.out) hb); have n3_ := Aside0.mk (below_step (by repeat (first | (with_reducible first | exact HB.out | apply below_alloc | apply qbN | apply qb1 | refine qbs ?_ GE494.out) | exact HB.out)) hb); clear HO_15; clear HO_16; clear BK494; clear HB; have HO_15 := n0_; have HO_16 := n1_; have BK494 := n2_; have HB := n3_; clear n0_ n1_ n2_ n3_; (try clear hb); (try clear hb2); (try clear hk); (try clear hi)) | (go_at_call 13; (with_reducible refine (barbicanlaw14_sure.calls k3  t532 _ ?side1 A50.out).mono ?_); (case side1 => exact GW_below HG.out (by repeat (first | (with_reducible first | exact HB.out | apply below_alloc | apply qbN | apply qb1 | refine qbs ?_ GE494.out) | exact HB.out))); rintro e w55 ⟨rfl, hb⟩; have n0_ := Aside0.mk (Kd.R_below (by (with_reducible repeat (first | apply Kd.R_alloc | apply Kd.R_drewN | apply Kd.R_drew)); exact HO_15.out) hb); have n1_ := Aside0.mk (Kd.R_below (by (with_reducible repeat (first | apply Kd.R_alloc | apply Kd.R_drewN | apply Kd.R_drew)); exact HO_16.out) hb); have n2_ := Aside0.mk (qkb (g := gb494) (o := .cells #[.string a0_0, .slice A0_1 l0_1.length c0_1] 24 (0, 0)) (by (with_reducible repeat (first | refine qkN ?_ _ | refine qkd ?_ | refine qka ?_ _)); exact BK494.out) hb); have n3_ := Aside0.mk (below_step (by repeat (first | (with_reducible first | exact HB.out | apply below_alloc | apply qbN | apply qb1 | refine qbs ?_ GE494.out) | exact HB.out)) hb); clear HO_15; clear HO_16; clear BK494; clear HB; have HO_15 := n0_; have HO_16 := n1_; have BK494 := n2_; have HB := n3_; clear n0_ n1_ n2_ n3_; (try clear hb); (try clear hb2); (try clear hk); (try clear hi)))
             go_ret
             exact ⟨by first | rfl | (simp [eWn, eWs] <;> rfl) | (simp [*, eWn, eWs] <;> rfl), by repeat (first | (with_reducible first | exact HB.out | apply below_alloc | apply qbN | apply qb1 | refine qbs ?_ GE494.out) | exact HB.out)⟩
            ·rw [if_neg c49] at H
             have c49b0 : ((-1) == t531) = false := beq_eq_false_iff_ne.mpr c49
             have c49b1 : ((-1) != t531) = true := bne_iff_ne.mpr c49
             obtain rfl := Option.some.inj H
             have hcz56_0 : wr.cell? ⟨gb494, 0, none⟩ = some (.string a0_0) := (qkc BK494.out 0).trans rfl
             have hcz56_1 : wr.cell? ⟨gb494, 1, none⟩ = some (.slice A0_1 l0_1.length c0_1) := (qkc BK494.out 1).trans rfl
             have hfz56_0 := qkf BK494.out 0
             have hfz56_1 := qkf BK494.out 1
             obtain ⟨Ao57, co57, eo57⟩ := Kd.R_slice HO_15.out
             subst eo57
             obtain ⟨Ao58, co58, eo58⟩ := Kd.R_slice HO_16.out
             subst eo58
             go_wp2_with (first | ((with_reducible refine qgc (f := 19) rfl ?_); refine goesL_ (some 107) rfl rfl Tryd.func19 (by kernel_rfl) rfl #[.slice Ao57 x15_3.length co57, .slice Ao58 x16_3.length co58] rfl (by (try simp only [List.map_toArray, List.map_cons, List.map_nil]); first | done | rfl | (simp only [List.length_drop, List.length_take]; rfl)) ?_; (with_reducible refine (order_Compare.calls k3 _ _ x15_3 _ _ x16_3 t531 _ ?side1 ?side2 ?side3 ?side4 A48.out).mono ?_); (case side1 => repeat (first | exact (Kd.R_reads' HO_15.out).2.2 | (with_reducible refine Kd.C_alloc ?_ _) | (with_reducible refine Kd.C_drewN ?_ _) | (with_reducible refine Kd.C_drew ?_))); (case side2 => exact (Kd.R_reads' HO_15.out).2.1); (case side3 => repeat (first | exact (Kd.R_reads' HO_16.out).2.2 | (with_reducible refine Kd.C_alloc ?_ _) | (with_reducible refine Kd.C_drewN ?_ _) | (with_reducible refine Kd.C_drew ?_))); (case side4 => exact (Kd.R_reads' HO_16.out).2.1); rintro e w59 ⟨rfl, hb⟩; refine ⟨_, rfl, ?_⟩; have n0_ := Aside0.mk (Kd.R_below (by (with_reducible repeat (first | apply Kd.R_alloc | apply Kd.R_drewN | apply Kd.R_drew)); exact HO_15.out) hb); have n1_ := Aside0.mk (Kd.R_below (by (with_reducible repeat (first | apply Kd.R_alloc | apply Kd.R_drewN | apply Kd.R_drew)); exact HO_16.out) hb); have n2_ := Aside0.mk (qkb (g := gb494) (o := .cells #[.string a0_0, .slice A0_1 l0_1.length c0_1] 24 (0, 0)) (by (with_reducible repeat (first | refine qkN ?_ _ | refine qkd ?_ | refine qka ?_ _)); exact BK494.out) hb); have n3_ := Aside0.mk (below_step (by repeat (first | (with_reducible first | exact HB.out | apply below_alloc | apply qbN | apply qb1 | refine qbs ?_ GE494.out) | exact HB.out)) hb); clear HO_15; clear HO_16; clear BK494; clear HB; have HO_15 := n0_; have HO_16 := n1_; have BK494 := n2_; have HB := n3_; clear n0_ n1_ n2_ n3_; (try clear hb); (try clear hb2); (try clear hk); (try clear hi)))
             go_ret
             exact ⟨by first | rfl | (simp [eWn, eWs] <;> rfl) | (simp [*, eWn, eWs] <;> rfl), by repeat (first | (with_reducible first | exact HB.out | apply below_alloc | apply qbN | apply qb1 | refine qbs ?_ GE494.out) | exact HB.out)⟩
           ·rw [if_neg c47] at H
            have c47b0 : (Op.bytesLess t512.toList t517.toList) = false := by simpa using c47
            clear c47
            by_cases c60 : (Op.bytesLess t517.toList t512.toList) = true
            ·rw [if_pos c60] at H
             have c60b0 : (Op.bytesLess t517.toList t512.toList) = true := c60
             clear c60
             replace H := Option.bind_eq_some_iff.mp H
             obtain ⟨t533, A610, H⟩ := H
             replace H : (if 1 = t533 then ((barbicanlaw14_sure.f k3).bind fun t534 => (some t534)) else (some false)) = some r := H
             have A61 := Aside0.mk A610
             clear A610
             by_cases c62 : 1 = t533
             ·rw [if_pos c62] at H
              have c62b0 : (1 == t533) = true := beq_iff_eq.mpr c62
              have c62b1 : (1 != t533) = false := bne_eq_false_iff_eq.mpr c62
              clear c62
              replace H := Option.bind_eq_some_iff.mp H
              obtain ⟨t534, A630, H⟩ := H
              replace H : (some t534) = some r := H
              have A63 := Aside0.mk A630
              clear A630
              obtain rfl := Option.some.inj H
              have hcz64_0 : wr.cell? ⟨gb494, 0, none⟩ = some (.string a0_0) := (qkc BK494.out 0).trans rfl
              have hcz64_1 : wr.cell? ⟨gb494, 1, none⟩ = some (.slice A0_1 l0_1.length c0_1) := (qkc BK494.out 1).trans rfl
              have hfz64_0 := qkf BK494.out 0
              have hfz64_1 := qkf BK494.out 1
              obtain ⟨Ao65, co65, eo65⟩ := Kd.R_slice HO_15.out
              subst eo65
              obtain ⟨Ao66, co66, eo66⟩ := Kd.R_slice HO_16.out
              subst eo66
              go_wp2_with (first | ((with_reducible refine qgc (f := 19) rfl ?_); refine goesL_ (some 107) rfl rfl Tryd.func19 (by kernel_rfl) rfl #[.slice Ao65 x15_3.length co65, .slice Ao66 x16_3.length co66] rfl (by (try simp only [List.map_toArray, List.map_cons, List.map_nil]); first | done | rfl | (simp only [List.length_drop, List.length_take]; rfl)) ?_; (with_reducible refine (order_Compare.calls k3 _ _ x15_3 _ _ x16_3 t533 _ ?side1 ?side2 ?side3 ?side4 A61.out).mono ?_); (case side1 => repeat (first | exact (Kd.R_reads' HO_15.out).2.2 | (with_reducible refine Kd.C_alloc ?_ _) | (with_reducible refine Kd.C_drewN ?_ _) | (with_reducible refine Kd.C_drew ?_))); (case side2 => exact (Kd.R_reads' HO_15.out).2.1); (case side3 => repeat (first | exact (Kd.R_reads' HO_16.out).2.2 | (with_reducible refine Kd.C_alloc ?_ _) | (with_reducible refine Kd.C_drewN ?_ _) | (with_reducible refine Kd.C_drew ?_))); (case side4 => exact (Kd.R_reads' HO_16.out).2.1); rintro e w67 ⟨rfl, hb⟩; refine ⟨_, rfl, ?_⟩; have n0_ := Aside0.mk (Kd.R_below (by (with_reducible repeat (first | apply Kd.R_alloc | apply Kd.R_drewN | apply Kd.R_drew)); exact HO_15.out) hb); have n1_ := Aside0.mk (Kd.R_below (by (with_reducible repeat (first | apply Kd.R_alloc | apply Kd.R_drewN | apply Kd.R_drew)); exact HO_16.out) hb); have n2_ := Aside0.mk (qkb (g := gb494) (o := .cells #[.string a0_0, .slice A0_1 l0_1.length c0_1] 24 (0, 0)) (by (with_reducible repeat (first | refine qkN ?_ _ | refine qkd ?_ | refine qka ?_ _)); exact BK494.out) hb); have n3_ := Aside0.mk (below_step (by repeat (first | (with_reducible first | exact HB.out | apply below_alloc | apply qbN | apply qb1 | refine qbs ?_ GE494.out) | exact HB.out)) hb); clear HO_15; clear HO_16; clear BK494; clear HB; have HO_15 := n0_; have HO_16 := n1_; have BK494 := n2_; have HB := n3_; clear n0_ n1_ n2_ n3_; (try clear hb); (try clear hb2); (try clear hk); (try clear hi)) | (go_at_call 13; (with_reducible refine (barbicanlaw14_sure.calls k3  t534 _ ?side1 A63.out).mono ?_); (case side1 => exact GW_below HG.out (by repeat (first | (with_reducible first | exact HB.out | apply below_alloc | apply qbN | apply qb1 | refine qbs ?_ GE494.out) | exact HB.out))); rintro e w68 ⟨rfl, hb⟩; have n0_ := Aside0.mk (Kd.R_below (by (with_reducible repeat (first | apply Kd.R_alloc | apply Kd.R_drewN | apply Kd.R_drew)); exact HO_15.out) hb); have n1_ := Aside0.mk (Kd.R_below (by (with_reducible repeat (first | apply Kd.R_alloc | apply Kd.R_drewN | apply Kd.R_drew)); exact HO_16.out) hb); have n2_ := Aside0.mk (qkb (g := gb494) (o := .cells #[.string a0_0, .slice A0_1 l0_1.length c0_1] 24 (0, 0)) (by (with_reducible repeat (first | refine qkN ?_ _ | refine qkd ?_ | refine qka ?_ _)); exact BK494.out) hb); have n3_ := Aside0.mk (below_step (by repeat (first | (with_reducible first | exact HB.out | apply below_alloc | apply qbN | apply qb1 | refine qbs ?_ GE494.out) | exact HB.out)) hb); clear HO_15; clear HO_16; clear BK494; clear HB; have HO_15 := n0_; have HO_16 := n1_; have BK494 := n2_; have HB := n3_; clear n0_ n1_ n2_ n3_; (try clear hb); (try clear hb2); (try clear hk); (try clear hi)))
              go_ret
              exact ⟨by first | rfl | (simp [eWn, eWs] <;> rfl) | (simp [*, eWn, eWs] <;> rfl), by repeat (first | (with_reducible first | exact HB.out | apply below_alloc | apply qbN | apply qb1 | refine qbs ?_ GE494.out) | exact HB.out)⟩
             ·rw [if_neg c62] at H
              have c62b0 : (1 == t533) = false := beq_eq_false_iff_ne.mpr c62
              have c62b1 : (1 != t533) = true := bne_iff_ne.mpr c62
              obtain rfl := Option.some.inj H
              have hcz69_0 : wr.cell? ⟨gb494, 0, none⟩ = some (.string a0_0) := (qkc BK494.out 0).trans rfl
              have hcz69_1 : wr.cell? ⟨gb494, 1, none⟩ = some (.slice A0_1 l0_1.length c0_1) := (qkc BK494.out 1).trans rfl
              have hfz69_0 := qkf BK494.out 0
              have hfz69_1 := qkf BK494.out 1
              obtain ⟨Ao70, co70, eo70⟩ := Kd.R_slice HO_15.out
              subst eo70
              obtain ⟨Ao71, co71, eo71⟩ := Kd.R_slice HO_16.out
              subst eo71
              go_wp2_with (first | ((with_reducible refine qgc (f := 19) rfl ?_); refine goesL_ (some 107) rfl rfl Tryd.func19 (by kernel_rfl) rfl #[.slice Ao70 x15_3.length co70, .slice Ao71 x16_3.length co71] rfl (by (try simp only [List.map_toArray, List.map_cons, List.map_nil]); first | done | rfl | (simp only [List.length_drop, List.length_take]; rfl)) ?_; (with_reducible refine (order_Compare.calls k3 _ _ x15_3 _ _ x16_3 t533 _ ?side1 ?side2 ?side3 ?side4 A61.out).mono ?_); (case side1 => repeat (first | exact (Kd.R_reads' HO_15.out).2.2 | (with_reducible refine Kd.C_alloc ?_ _) | (with_reducible refine Kd.C_drewN ?_ _) | (with_reducible refine Kd.C_drew ?_))); (case side2 => exact (Kd.R_reads' HO_15.out).2.1); (case side3 => repeat (first | exact (Kd.R_reads' HO_16.out).2.2 | (with_reducible refine Kd.C_alloc ?_ _) | (with_reducible refine Kd.C_drewN ?_ _) | (with_reducible refine Kd.C_drew ?_))); (case side4 => exact (Kd.R_reads' HO_16.out).2.1); rintro e w72 ⟨rfl, hb⟩; refine ⟨_, rfl, ?_⟩; have n0_ := Aside0.mk (Kd.R_below (by (with_reducible repeat (first | apply Kd.R_alloc | apply Kd.R_drewN | apply Kd.R_drew)); exact HO_15.out) hb); have n1_ := Aside0.mk (Kd.R_below (by (with_reducible repeat (first | apply Kd.R_alloc | apply Kd.R_drewN | apply Kd.R_drew)); exact HO_16.out) hb); have n2_ := Aside0.mk (qkb (g := gb494) (o := .cells #[.string a0_0, .slice A0_1 l0_1.length c0_1] 24 (0, 0)) (by (with_reducible repeat (first | refine qkN ?_ _ | refine qkd ?_ | refine qka ?_ _)); exact BK494.out) hb); have n3_ := Aside0.mk (below_step (by repeat (first | (with_reducible first | exact HB.out | apply below_alloc | apply qbN | apply qb1 | refine qbs ?_ GE494.out) | exact HB.out)) hb); clear HO_15; clear HO_16; clear BK494; clear HB; have HO_15 := n0_; have HO_16 := n1_; have BK494 := n2_; have HB := n3_; clear n0_ n1_ n2_ n3_; (try clear hb); (try clear hb2); (try clear hk); (try clear hi)))
              go_ret
              exact ⟨by first | rfl | (simp [eWn, eWs] <;> rfl) | (simp [*, eWn, eWs] <;> rfl), by repeat (first | (with_reducible first | exact HB.out | apply below_alloc | apply qbN | apply qb1 | refine qbs ?_ GE494.out) | exact HB.out)⟩
            ·rw [if_neg c60] at H
             have c60b0 : (Op.bytesLess t517.toList t512.toList) = false := by simpa using c60
             clear c60
             replace H := Option.bind_eq_some_iff.mp H
             obtain ⟨t535, A730, H⟩ := H
             replace H : (if 0 = t535 then ((barbicanlaw14_sure.f k3).bind fun t536 => (some t536)) else (some false)) = some r := H
             have A73 := Aside0.mk A730
             clear A730
             by_cases c74 : 0 = t535
             ·rw [if_pos c74] at H
              have c74b0 : (0 == t535) = true := beq_iff_eq.mpr c74
              have c74b1 : (0 != t535) = false := bne_eq_false_iff_eq.mpr c74
              clear c74
              replace H := Option.bind_eq_some_iff.mp H
              obtain ⟨t536, A750, H⟩ := H
              replace H : (some t536) = some r := H
              have A75 := Aside0.mk A750
              clear A750
              obtain rfl := Option.some.inj H
              have hcz76_0 : wr.cell? ⟨gb494, 0, none⟩ = some (.string a0_0) := (qkc BK494.out 0).trans rfl
              have hcz76_1 : wr.cell? ⟨gb494, 1, none⟩ = some (.slice A0_1 l0_1.length c0_1) := (qkc BK494.out 1).trans rfl
              have hfz76_0 := qkf BK494.out 0
              have hfz76_1 := qkf BK494.out 1
              obtain ⟨Ao77, co77, eo77⟩ := Kd.R_slice HO_15.out
              subst eo77
              obtain ⟨Ao78, co78, eo78⟩ := Kd.R_slice HO_16.out
              subst eo78
              go_wp2_with (first | ((with_reducible refine qgc (f := 19) rfl ?_); refine goesL_ (some 107) rfl rfl Tryd.func19 (by kernel_rfl) rfl #[.slice Ao77 x15_3.length co77, .slice Ao78 x16_3.length co78] rfl (by (try simp only [List.map_toArray, List.map_cons, List.map_nil]); first | done | rfl | (simp only [List.length_drop, List.length_take]; rfl)) ?_; (with_reducible refine (order_Compare.calls k3 _ _ x15_3 _ _ x16_3 t535 _ ?side1 ?side2 ?side3 ?side4 A73.out).mono ?_); (case side1 => repeat (first | exact (Kd.R_reads' HO_15.out).2.2 | (with_reducible refine Kd.C_alloc ?_ _) | (with_reducible refine Kd.C_drewN ?_ _) | (with_reducible refine Kd.C_drew ?_))); (case side2 => exact (Kd.R_reads' HO_15.out).2.1); (case side3 => repeat (first | exact (Kd.R_reads' HO_16.out).2.2 | (with_reducible refine Kd.C_alloc ?_ _) | (with_reducible refine Kd.C_drewN ?_ _) | (with_reducible refine Kd.C_drew ?_))); (case side4 => exact (Kd.R_reads' HO_16.out).2.1); rintro e w79 ⟨rfl, hb⟩; refine ⟨_, rfl, ?_⟩; have n0_ := Aside0.mk (Kd.R_below (by (with_reducible repeat (first | apply Kd.R_alloc | apply Kd.R_drewN | apply Kd.R_drew)); exact HO_15.out) hb); have n1_ := Aside0.mk (Kd.R_below (by (with_reducible repeat (first | apply Kd.R_alloc | apply Kd.R_drewN | apply Kd.R_drew)); exact HO_16.out) hb); have n2_ := Aside0.mk (qkb (g := gb494) (o := .cells #[.string a0_0, .slice A0_1 l0_1.length c0_1] 24 (0, 0)) (by (with_reducible repeat (first | refine qkN ?_ _ | refine qkd ?_ | refine qka ?_ _)); exact BK494.out) hb); have n3_ := Aside0.mk (below_step (by repeat (first | (with_reducible first | exact HB.out | apply below_alloc | apply qbN | apply qb1 | refine qbs ?_ GE494.out) | exact HB.out)) hb); clear HO_15; clear HO_16; clear BK494; clear HB; have HO_15 := n0_; have HO_16 := n1_; have BK494 := n2_; have HB := n3_; clear n0_ n1_ n2_ n3_; (try clear hb); (try clear hb2); (try clear hk); (try clear hi)) | (go_at_call 13; (with_reducible refine (barbicanlaw14_sure.calls k3  t536 _ ?side1 A75.out).mono ?_); (case side1 => exact GW_below HG.out (by repeat (first | (with_reducible first | exact HB.out | apply below_alloc | apply qbN | apply qb1 | refine qbs ?_ GE494.out) | exact HB.out))); rintro e w80 ⟨rfl, hb⟩; have n0_ := Aside0.mk (Kd.R_below (by (with_reducible repeat (first | apply Kd.R_alloc | apply Kd.R_drewN | apply Kd.R_drew)); exact HO_15.out) hb); have n1_ := Aside0.mk (Kd.R_below (by (with_reducible repeat (first | apply Kd.R_alloc | apply Kd.R_drewN | apply Kd.R_drew)); exact HO_16.out) hb); have n2_ := Aside0.mk (qkb (g := gb494) (o := .cells #[.string a0_0, .slice A0_1 l0_1.length c0_1] 24 (0, 0)) (by (with_reducible repeat (first | refine qkN ?_ _ | refine qkd ?_ | refine qka ?_ _)); exact BK494.out) hb); have n3_ := Aside0.mk (below_step (by repeat (first | (with_reducible first | exact HB.out | apply below_alloc | apply qbN | apply qb1 | refine qbs ?_ GE494.out) | exact HB.out)) hb); clear HO_15; clear HO_16; clear BK494; clear HB; have HO_15 := n0_; have HO_16 := n1_; have BK494 := n2_; have HB := n3_; clear n0_ n1_ n2_ n3_; (try clear hb); (try clear hb2); (try clear hk); (try clear hi)))
              go_ret
              exact ⟨by first | rfl | (simp [eWn, eWs] <;> rfl) | (simp [*, eWn, eWs] <;> rfl), by repeat (first | (with_reducible first | exact HB.out | apply below_alloc | apply qbN | apply qb1 | refine qbs ?_ GE494.out) | exact HB.out)⟩
             ·rw [if_neg c74] at H
              have c74b0 : (0 == t535) = false := beq_eq_false_iff_ne.mpr c74
              have c74b1 : (0 != t535) = true := bne_iff_ne.mpr c74
              obtain rfl := Option.some.inj H
              have hcz81_0 : wr.cell? ⟨gb494, 0, none⟩ = some (.string a0_0) := (qkc BK494.out 0).trans rfl
              have hcz81_1 : wr.cell? ⟨gb494, 1, none⟩ = some (.slice A0_1 l0_1.length c0_1) := (qkc BK494.out 1).trans rfl
              have hfz81_0 := qkf BK494.out 0
              have hfz81_1 := qkf BK494.out 1
              obtain ⟨Ao82, co82, eo82⟩ := Kd.R_slice HO_15.out
              subst eo82
              obtain ⟨Ao83, co83, eo83⟩ := Kd.R_slice HO_16.out
              subst eo83
              go_wp2_with (first | ((with_reducible refine qgc (f := 19) rfl ?_); refine goesL_ (some 107) rfl rfl Tryd.func19 (by kernel_rfl) rfl #[.slice Ao82 x15_3.length co82, .slice Ao83 x16_3.length co83] rfl (by (try simp only [List.map_toArray, List.map_cons, List.map_nil]); first | done | rfl | (simp only [List.length_drop, List.length_take]; rfl)) ?_; (with_reducible refine (order_Compare.calls k3 _ _ x15_3 _ _ x16_3 t535 _ ?side1 ?side2 ?side3 ?side4 A73.out).mono ?_); (case side1 => repeat (first | exact (Kd.R_reads' HO_15.out).2.2 | (with_reducible refine Kd.C_alloc ?_ _) | (with_reducible refine Kd.C_drewN ?_ _) | (with_reducible refine Kd.C_drew ?_))); (case side2 => exact (Kd.R_reads' HO_15.out).2.1); (case side3 => repeat (first | exact (Kd.R_reads' HO_16.out).2.2 | (with_reducible refine Kd.C_alloc ?_ _) | (with_reducible refine Kd.C_drewN ?_ _) | (with_reducible refine Kd.C_drew ?_))); (case side4 => exact (Kd.R_reads' HO_16.out).2.1); rintro e w84 ⟨rfl, hb⟩; refine ⟨_, rfl, ?_⟩; have n0_ := Aside0.mk (Kd.R_below (by (with_reducible repeat (first | apply Kd.R_alloc | apply Kd.R_drewN | apply Kd.R_drew)); exact HO_15.out) hb); have n1_ := Aside0.mk (Kd.R_below (by (with_reducible repeat (first | apply Kd.R_alloc | apply Kd.R_drewN | apply Kd.R_drew)); exact HO_16.out) hb); have n2_ := Aside0.mk (qkb (g := gb494) (o := .cells #[.string a0_0, .slice A0_1 l0_1.length c0_1] 24 (0, 0)) (by (with_reducible repeat (first | refine qkN ?_ _ | refine qkd ?_ | refine qka ?_ _)); exact BK494.out) hb); have n3_ := Aside0.mk (below_step (by repeat (first | (with_reducible first | exact HB.out | apply below_alloc | apply qbN | apply qb1 | refine qbs ?_ GE494.out) | exact HB.out)) hb); clear HO_15; clear HO_16; clear BK494; clear HB; have HO_15 := n0_; have HO_16 := n1_; have BK494 := n2_; have HB := n3_; clear n0_ n1_ n2_ n3_; (try clear hb); (try clear hb2); (try clear hk); (try clear hi)))
              go_ret
              exact ⟨by first | rfl | (simp [eWn, eWs] <;> rfl) | (simp [*, eWn, eWs] <;> rfl), by repeat (first | (with_reducible first | exact HB.out | apply below_alloc | apply qbN | apply qb1 | refine qbs ?_ GE494.out) | exact HB.out)⟩
 ·have H1 : (if (t498.length : Int) = 0 then ((barbicanlaw14_sure.f k).bind fun t537 => (some t537)) else (some false)) = some r := by rw [if_neg (show ¬ (some q502).isNone = true by simp)] at H; exact H
  clear H
  have H := H1
  clear H1
  try simp only [eWn, eWs]
  by_cases c85 : (t498.length : Int) = 0
  ·rw [if_pos c85] at H
   have c85b0 : ((t498.length : Int) == 0) = true := beq_iff_eq.mpr c85
   have c85b1 : ((t498.length : Int) != 0) = false := bne_eq_false_iff_eq.mpr c85
   clear c85
   replace H := Option.bind_eq_some_iff.mp H
   obtain ⟨t537, A860, H⟩ := H
   replace H : (some t537) = some r := H
   have A86 := Aside0.mk A860
   clear A860
   obtain rfl := Option.some.inj H
   go_enter Tryd.func5, Tryd.ntmps5
   try go_wp2_with (first | ((with_reducible refine qgd (N := 3) rfl ?_); refine qbe ?hg (N := 3) ?hd (cs := #[.string a0_0, .slice A0_1 l0_1.length c0_1]) (t := 24) ?hr ?_; (case hd => rfl); (case hg => rfl); (case hr => first | (go_simp; done) | (go_simp; rfl)); intro gb494 hg w87 hbox hb; have n0_ := Aside0.mk (below_step (by repeat (first | (with_reducible first | exact HB.out | apply below_alloc | apply qbN | apply qb1) | exact HB.out)) hb); have n1_ := Aside0.mk (hbox); have n2_ := Aside0.mk ((by rw [hg]; exact (qbz (by repeat (first | (with_reducible first | exact HB.out | apply below_alloc | apply qbN | apply qb1) | exact HB.out))) : w.heap.size ≤ gb494)); have n3_ := Aside0.mk ((by rw [hg]; exact (qbz (by repeat (first | (with_reducible first | exact HB.out | apply below_alloc | apply qbN | apply qb1) | exact HB.out))) : w.heap.size ≤ gb494)); clear HB; have HB := n0_; have BK494 := n1_; have GW494 := n2_; have GE494 := n3_; clear n0_ n1_ n2_ n3_; clear hb hbox hg))
   have n0_ := Aside0.mk (qkd BK494.out)
   have n1_ := Aside0.mk (qb1 HB.out)
   clear BK494
   clear HB
   have BK494 := n0_
   have HB := n1_
   clear n0_ n1_
   refine start_ (n := 9) (S := fun w' => w'.cell? ⟨gb494, 0, none⟩ = some (.string a0_0) ∧ w'.cell? ⟨gb494, 1, none⟩ = some (.slice A0_1 l0_1.length c0_1)) (ds := []) #[false, false, false, false, false, false, false, false, false] (by kernel_rfl) rfl rfl ⟨(qkc BK494.out 0).trans rfl, (qkc BK494.out 1).trans rfl⟩ (fun hHeld => ?_); refine with_tabW barbicanlaw14_RowBack.tab1 barbicanlaw14_RowBack.bits1 (fun HT_ HW_ => ?_)
   generalize w87.drew = w88 at BK494 HB hHeld ⊢
   refine pure_ (i := 1) (N := some 21) (v := ?_) (a' := ?_) #[false, true, false, false, false, false, false, false, false] rfl rfl (any_of HT_.out (by kernel_rfl)) (fun _ _ _ h => h) (Or.inl ⟨by rfl, ?_⟩) ?_ ?_
   rotate_left
   ·intro w'
    go_simp
    with_reducible rfl
   rotate_left
   ·simp only [Act.put, List.setIfInBounds_toArray, List.set_cons_zero, List.set_cons_succ, i64_w, i32_w]
    rfl
   refine take_ (i := 0) (N := some 20) (v := ?_) (a' := ?_) #[true, true, false, false, false, false, false, false, false] rfl rfl (take_ofW HT_.out HW_.out (by kernel_rfl)) (fun _ _ _ h => h) (Or.inl ⟨by rfl, ?_⟩) hHeld ?_ ?_
   rotate_left
   ·rintro w' ⟨s0, s1⟩
    go_simp
    with_reducible rfl
   rotate_left
   ·simp only [Act.put, List.setIfInBounds_toArray, List.set_cons_zero, List.set_cons_succ, i64_w, i32_w]
    rfl
   refine one_ (i := 2) (N := some 22) #[true, true, true, false, false, false, false, false, false] rfl rfl (one_of HT_.out (by kernel_rfl)) (by decide) (fun K hK => ?_)
   refine goes_ Tryd.func11 (by kernel_rfl) rfl #[.slice A1 l1.length c1] (by rfl) rfl rfl (by (try simp only [List.map_toArray, List.map_cons, List.map_nil]); first | done | rfl | (simp only [List.length_drop, List.length_take]; rfl)) ?_
   with_reducible refine (barbicanlaw14_twin.calls _ _ l1 t495 _ ?side1 ?side2 A4.out).mono ?_
   (case side1 => repeat (first | exact (Kd.C_below HR1.out HB.out) | (with_reducible refine Kd.C_alloc ?_ _) | (with_reducible refine Kd.C_drewN ?_ _) | (with_reducible refine Kd.C_drew ?_)))
   (case side2 => exact HC1.out)
   rintro e w89 ⟨v496, rfl, ho0, hb⟩
   refine ⟨_, rfl, ?_⟩
   have n0_ := Aside0.mk (Kd.R_lower ho0 (qbz (by repeat (first | (with_reducible first | exact HB.out | apply below_alloc | apply qbN | apply qb1 | refine qbs ?_ GE494.out) | exact HB.out))))
   have n1_ := Aside0.mk (qkb (g := gb494) (o := .cells #[.string a0_0, .slice A0_1 l0_1.length c0_1] 24 (0, 0)) (by (with_reducible repeat (first | refine qkN ?_ _ | refine qkd ?_ | refine qka ?_ _)); exact BK494.out) hb)
   have n2_ := Aside0.mk (below_step (by repeat (first | (with_reducible first | exact HB.out | apply below_alloc | apply qbN | apply qb1 | refine qbs ?_ GE494.out) | exact HB.out)) hb)
   clear BK494
   clear HB
   have HO497 := n0_
   have BK494 := n1_
   have HB := n2_
   clear n0_ n1_ n2_
   (try clear hb)
   (try clear hb2)
   (try clear hk)
   (try clear hi)
   (try clear ho0)
   obtain ⟨Ao90, co90, eo90⟩ := Kd.R_slice HO497.out
   (first | subst eo90 | (injection eo90 with f1_ f2_ f3_; have f4_ := f1_.symm; have f5_ := f3_.symm; clear f1_ f2_ f3_; subst f4_; subst f5_))
   refine hK.out _ _ ⟨(qkc BK494.out 0).trans rfl, (qkc BK494.out 1).trans rfl⟩ (fun hHeld => ?_)
   clear hK K
   refine norm_ (a' := ?_) ?_ ?_
   rotate_left
   ·show Act.put _ (some 22) _ = _
    simp only [Act.put, List.setIfInBounds_toArray, List.set_cons_zero, List.set_cons_succ, i64_w, i32_w]
    rfl
   refine one_ (i := 3) (N := some 23) #[true, true, true, true, false, false, false, false, false] rfl rfl (one_of HT_.out (by kernel_rfl)) (by decide) (fun K hK => ?_)
   refine goes_ Tryd.func10 (by kernel_rfl) rfl #[.agg #[.string a0_0, .slice A0_1 l0_1.length c0_1], .slice Ao90 t495.length co90] (by rfl) rfl rfl (by (try simp only [List.map_toArray, List.map_cons, List.map_nil]); first | done | rfl | (simp only [List.length_drop, List.length_take]; rfl)) ?_
   with_reducible refine (row_Encode.calls k a0_0 _ _ l0_1 _ _ t495 t498 (some q502) _ ?side1 ?side2 ?side3 ?side4 A5.out).mono ?_
   (case side1 => repeat (first | exact (Kd.C_below HR0_1.out HB.out) | (with_reducible refine Kd.C_alloc ?_ _) | (with_reducible refine Kd.C_drewN ?_ _) | (with_reducible refine Kd.C_drew ?_)))
   (case side2 => exact HC0_1.out)
   (case side3 => repeat (first | exact (Kd.R_reads' HO497.out).2.2 | (with_reducible refine Kd.C_alloc ?_ _) | (with_reducible refine Kd.C_drewN ?_ _) | (with_reducible refine Kd.C_drew ?_)))
   (case side4 => exact (Kd.R_reads' HO497.out).2.1)
   rintro e w91 ⟨v499, rfl, ho0, hb⟩
   refine ⟨_, rfl, ?_⟩
   have n0_ := Aside0.mk (Kd.R_below (by (with_reducible repeat (first | apply Kd.R_alloc | apply Kd.R_drewN | apply Kd.R_drew)); exact HO497.out) hb)
   have n1_ := Aside0.mk (Kd.R_lower ho0 (qbz (by repeat (first | (with_reducible first | exact HB.out | apply below_alloc | apply qbN | apply qb1 | refine qbs ?_ GE494.out) | exact HB.out))))
   have n2_ := Aside0.mk (qkb (g := gb494) (o := .cells #[.string a0_0, .slice A0_1 l0_1.length c0_1] 24 (0, 0)) (by (with_reducible repeat (first | refine qkN ?_ _ | refine qkd ?_ | refine qka ?_ _)); exact BK494.out) hb)
   have n3_ := Aside0.mk (below_step (by repeat (first | (with_reducible first | exact HB.out | apply below_alloc | apply qbN | apply qb1 | refine qbs ?_ GE494.out) | exact HB.out)) hb)
   clear HO497
   clear BK494
   clear HB
   have HO497 := n0_
   have HO500 := n1_
   have BK494 := n2_
   have HB := n3_
   clear n0_ n1_ n2_ n3_
   (try clear hb)
   (try clear hb2)
   (try clear hk)
   (try clear hi)
   (try clear ho0)
   (try simp only [eWn, eWs])
   refine hK.out _ _ ⟨(qkc BK494.out 0).trans rfl, (qkc BK494.out 1).trans rfl⟩ (fun hHeld => ?_)
   clear hK K
   refine norm_ (a' := ?_) ?_ ?_
   rotate_left
   ·show Act.put _ (some 23) _ = _
    simp only [Act.put, List.setIfInBounds_toArray, List.set_cons_zero, List.set_cons_succ, i64_w, i32_w]
    rfl
   refine pure_ (i := 4) (N := some 19) (v := ?_) (a' := ?_) #[true, true, true, true, true, false, false, false, false] rfl rfl (any_of HT_.out (by kernel_rfl)) (fun _ _ _ h => h) (Or.inl ⟨by rfl, ?_⟩) ?_ ?_
   rotate_left
   ·intro w'
    go_simp
    with_reducible rfl
   rotate_left
   ·simp only [Act.put, List.setIfInBounds_toArray, List.set_cons_zero, List.set_cons_succ, i64_w, i32_w]
    rfl
   refine pure_ (i := 5) (N := some 24) (v := ?_) (a' := ?_) #[true, true, true, true, true, true, false, false, false] rfl rfl (any_of HT_.out (by kernel_rfl)) (fun _ _ _ h => h) (Or.inl ⟨by rfl, ?_⟩) ?_ ?_
   rotate_left
   ·intro w'
    go_simp
    with_reducible rfl
   rotate_left
   ·simp only [Act.put, List.setIfInBounds_toArray, List.set_cons_zero, List.set_cons_succ, i64_w, i32_w]
    rfl
   refine pure_ (i := 6) (N := some 25) (v := ?_) (a' := ?_) #[true, true, true, true, true, true, true, false, false] rfl rfl (any_of HT_.out (by kernel_rfl)) (fun _ _ _ h => h) (Or.inl ⟨by rfl, ?_⟩) ?_ ?_
   rotate_left
   ·intro w'
    go_simp
    with_reducible rfl
   rotate_left
   ·simp only [Act.put, List.setIfInBounds_toArray, List.set_cons_zero, List.set_cons_succ, i64_w, i32_w]
    rfl
   refine pure_ (i := 7) (N := some 7) (v := ?_) (a' := ?_) #[true, true, true, true, true, true, true, true, false] rfl rfl (any_of HT_.out (by kernel_rfl)) (fun _ _ _ h => h) (Or.inl ⟨by rfl, ?_⟩) ?_ ?_
   rotate_left
   ·intro w'
    go_simp
    with_reducible rfl
   rotate_left
   ·simp only [Act.put, List.setIfInBounds_toArray, List.set_cons_zero, List.set_cons_succ, i64_w, i32_w]
    rfl
   refine pure_ (i := 8) (N := some 8) (v := ?_) (a' := ?_) #[true, true, true, true, true, true, true, true, true] rfl rfl (any_of HT_.out (by kernel_rfl)) (fun _ _ _ h => h) (Or.inl ⟨by rfl, ?_⟩) ?_ ?_
   rotate_left
   ·intro w'
    go_simp
    with_reducible rfl
   rotate_left
   ·simp only [Act.put, List.setIfInBounds_toArray, List.set_cons_zero, List.set_cons_succ, i64_w, i32_w]
    rfl
   refine done_ (done_of HT_.out (by kernel_rfl)) ?_
   obtain ⟨Ao92, co92, eo92⟩ := Kd.R_slice HO500.out
   subst eo92
   try go_wp2_with (first | (go_at_call 13; (with_reducible refine (barbicanlaw14_sure.calls k  t537 _ ?side1 A86.out).mono ?_); (case side1 => exact GW_below HG.out (by repeat (first | (with_reducible first | exact HB.out | apply below_alloc | apply qbN | apply qb1 | refine qbs ?_ GE494.out) | exact HB.out))); rintro e w93 ⟨rfl, hb⟩; have n0_ := Aside0.mk (Kd.R_below (by (with_reducible repeat (first | apply Kd.R_alloc | apply Kd.R_drewN | apply Kd.R_drew)); exact HO497.out) hb); have n1_ := Aside0.mk (Kd.R_below (by (with_reducible repeat (first | apply Kd.R_alloc | apply Kd.R_drewN | apply Kd.R_drew)); exact HO500.out) hb); have n2_ := Aside0.mk (qkb (g := gb494) (o := .cells #[.string a0_0, .slice A0_1 l0_1.length c0_1] 24 (0, 0)) (by (with_reducible repeat (first | refine qkN ?_ _ | refine qkd ?_ | refine qka ?_ _)); exact BK494.out) hb); have n3_ := Aside0.mk (below_step (by repeat (first | (with_reducible first | exact HB.out | apply below_alloc | apply qbN | apply qb1 | refine qbs ?_ GE494.out) | exact HB.out)) hb); clear HO497; clear HO500; clear BK494; clear HB; have HO497 := n0_; have HO500 := n1_; have BK494 := n2_; have HB := n3_; clear n0_ n1_ n2_ n3_; (try clear hb); (try clear hb2); (try clear hk); (try clear hi)))
   go_ret
   exact ⟨by first | rfl | (simp [eWn, eWs] <;> rfl) | (simp [*, eWn, eWs] <;> rfl), by repeat (first | (with_reducible first | exact HB.out | apply below_alloc | apply qbN | apply qb1 | refine qbs ?_ GE494.out) | exact HB.out)⟩
  ·rw [if_neg c85] at H
   have c85b0 : ((t498.length : Int) == 0) = false := beq_eq_false_iff_ne.mpr c85
   have c85b1 : ((t498.length : Int) != 0) = true := bne_iff_ne.mpr c85
   have c85b2 : ¬ (t498 = []) := fun h_ => c85 (by rw [h_]; rfl)
   obtain rfl := Option.some.inj H
   go_enter Tryd.func5, Tryd.ntmps5
   try go_wp2_with (first | ((with_reducible refine qgd (N := 3) rfl ?_); refine qbe ?hg (N := 3) ?hd (cs := #[.string a0_0, .slice A0_1 l0_1.length c0_1]) (t := 24) ?hr ?_; (case hd => rfl); (case hg => rfl); (case hr => first | (go_simp; done) | (go_simp; rfl)); intro gb494 hg w94 hbox hb; have n0_ := Aside0.mk (below_step (by repeat (first | (with_reducible first | exact HB.out | apply below_alloc | apply qbN | apply qb1) | exact HB.out)) hb); have n1_ := Aside0.mk (hbox); have n2_ := Aside0.mk ((by rw [hg]; exact (qbz (by repeat (first | (with_reducible first | exact HB.out | apply below_alloc | apply qbN | apply qb1) | exact HB.out))) : w.heap.size ≤ gb494)); have n3_ := Aside0.mk ((by rw [hg]; exact (qbz (by repeat (first | (with_reducible first | exact HB.out | apply below_alloc | apply qbN | apply qb1) | exact HB.out))) : w.heap.size ≤ gb494)); clear HB; have HB := n0_; have BK494 := n1_; have GW494 := n2_; have GE494 := n3_; clear n0_ n1_ n2_ n3_; clear hb hbox hg))
   have n0_ := Aside0.mk (qkd BK494.out)
   have n1_ := Aside0.mk (qb1 HB.out)
   clear BK494
   clear HB
   have BK494 := n0_
   have HB := n1_
   clear n0_ n1_
   refine start_ (n := 9) (S := fun w' => w'.cell? ⟨gb494, 0, none⟩ = some (.string a0_0) ∧ w'.cell? ⟨gb494, 1, none⟩ = some (.slice A0_1 l0_1.length c0_1)) (ds := []) #[false, false, false, false, false, false, false, false, false] (by kernel_rfl) rfl rfl ⟨(qkc BK494.out 0).trans rfl, (qkc BK494.out 1).trans rfl⟩ (fun hHeld => ?_); refine with_tabW barbicanlaw14_RowBack.tab1 barbicanlaw14_RowBack.bits1 (fun HT_ HW_ => ?_)
   generalize w94.drew = w95 at BK494 HB hHeld ⊢
   refine pure_ (i := 1) (N := some 21) (v := ?_) (a' := ?_) #[false, true, false, false, false, false, false, false, false] rfl rfl (any_of HT_.out (by kernel_rfl)) (fun _ _ _ h => h) (Or.inl ⟨by rfl, ?_⟩) ?_ ?_
   rotate_left
   ·intro w'
    go_simp
    with_reducible rfl
   rotate_left
   ·simp only [Act.put, List.setIfInBounds_toArray, List.set_cons_zero, List.set_cons_succ, i64_w, i32_w]
    rfl
   refine take_ (i := 0) (N := some 20) (v := ?_) (a' := ?_) #[true, true, false, false, false, false, false, false, false] rfl rfl (take_ofW HT_.out HW_.out (by kernel_rfl)) (fun _ _ _ h => h) (Or.inl ⟨by rfl, ?_⟩) hHeld ?_ ?_
   rotate_left
   ·rintro w' ⟨s0, s1⟩
    go_simp
    with_reducible rfl
   rotate_left
   ·simp only [Act.put, List.setIfInBounds_toArray, List.set_cons_zero, List.set_cons_succ, i64_w, i32_w]
    rfl
   refine one_ (i := 2) (N := some 22) #[true, true, true, false, false, false, false, false, false] rfl rfl (one_of HT_.out (by kernel_rfl)) (by decide) (fun K hK => ?_)
   refine goes_ Tryd.func11 (by kernel_rfl) rfl #[.slice A1 l1.length c1] (by rfl) rfl rfl (by (try simp only [List.map_toArray, List.map_cons, List.map_nil]); first | done | rfl | (simp only [List.length_drop, List.length_take]; rfl)) ?_
   with_reducible refine (barbicanlaw14_twin.calls _ _ l1 t495 _ ?side1 ?side2 A4.out).mono ?_
   (case side1 => repeat (first | exact (Kd.C_below HR1.out HB.out) | (with_reducible refine Kd.C_alloc ?_ _) | (with_reducible refine Kd.C_drewN ?_ _) | (with_reducible refine Kd.C_drew ?_)))
   (case side2 => exact HC1.out)
   rintro e w96 ⟨v496, rfl, ho0, hb⟩
   refine ⟨_, rfl, ?_⟩
   have n0_ := Aside0.mk (Kd.R_lower ho0 (qbz (by repeat (first | (with_reducible first | exact HB.out | apply below_alloc | apply qbN | apply qb1 | refine qbs ?_ GE494.out) | exact HB.out))))
   have n1_ := Aside0.mk (qkb (g := gb494) (o := .cells #[.string a0_0, .slice A0_1 l0_1.length c0_1] 24 (0, 0)) (by (with_reducible repeat (first | refine qkN ?_ _ | refine qkd ?_ | refine qka ?_ _)); exact BK494.out) hb)
   have n2_ := Aside0.mk (below_step (by repeat (first | (with_reducible first | exact HB.out | apply below_alloc | apply qbN | apply qb1 | refine qbs ?_ GE494.out) | exact HB.out)) hb)
   clear BK494
   clear HB
   have HO497 := n0_
   have BK494 := n1_
   have HB := n2_
   clear n0_ n1_ n2_
   (try clear hb)
   (try clear hb2)
   (try clear hk)
   (try clear hi)
   (try clear ho0)
   obtain ⟨Ao97, co97, eo97⟩ := Kd.R_slice HO497.out
   (first | subst eo97 | (injection eo97 with f1_ f2_ f3_; have f4_ := f1_.symm; have f5_ := f3_.symm; clear f1_ f2_ f3_; subst f4_; subst f5_))
   refine hK.out _ _ ⟨(qkc BK494.out 0).trans rfl, (qkc BK494.out 1).trans rfl⟩ (fun hHeld => ?_)
   clear hK K
   refine norm_ (a' := ?_) ?_ ?_
   rotate_left
   ·show Act.put _ (some 22) _ = _
    simp only [Act.put, List.setIfInBounds_toArray, List.set_cons_zero, List.set_cons_succ, i64_w, i32_w]
    rfl
   refine one_ (i := 3) (N := some 23) #[true, true, true, true, false, false, false, false, false] rfl rfl (one_of HT_.out (by kernel_rfl)) (by decide) (fun K hK => ?_)
   refine goes_ Tryd.func10 (by kernel_rfl) rfl #[.agg #[.string a0_0, .slice A0_1 l0_1.length c0_1], .slice Ao97 t495.length co97] (by rfl) rfl rfl (by (try simp only [List.map_toArray, List.map_cons, List.map_nil]); first | done | rfl | (simp only [List.length_drop, List.length_take]; rfl)) ?_
   with_reducible refine (row_Encode.calls k a0_0 _ _ l0_1 _ _ t495 t498 (some q502) _ ?side1 ?side2 ?side3 ?side4 A5.out).mono ?_
   (case side1 => repeat (first | exact (Kd.C_below HR0_1.out HB.out) | (with_reducible refine Kd.C_alloc ?_ _) | (with_reducible refine Kd.C_drewN ?_ _) | (with_reducible refine Kd.C_drew ?_)))
   (case side2 => exact HC0_1.out)
   (case side3 => repeat (first | exact (Kd.R_reads' HO497.out).2.2 | (with_reducible refine Kd.C_alloc ?_ _) | (with_reducible refine Kd.C_drewN ?_ _) | (with_reducible refine Kd.C_drew ?_)))
   (case side4 => exact (Kd.R_reads' HO497.out).2.1)
   rintro e w98 ⟨v499, rfl, ho0, hb⟩
   refine ⟨_, rfl, ?_⟩
   have n0_ := Aside0.mk (Kd.R_below (by (with_reducible repeat (first | apply Kd.R_alloc | apply Kd.R_drewN | apply Kd.R_drew)); exact HO497.out) hb)
   have n1_ := Aside0.mk (Kd.R_lower ho0 (qbz (by repeat (first | (with_reducible first | exact HB.out | apply below_alloc | apply qbN | apply qb1 | refine qbs ?_ GE494.out) | exact HB.out))))
   have n2_ := Aside0.mk (qkb (g := gb494) (o := .cells #[.string a0_0, .slice A0_1 l0_1.length c0_1] 24 (0, 0)) (by (with_reducible repeat (first | refine qkN ?_ _ | refine qkd ?_ | refine qka ?_ _)); exact BK494.out) hb)
   have n3_ := Aside0.mk (below_step (by repeat (first | (with_reducible first | exact HB.out | apply below_alloc | apply qbN | apply qb1 | refine qbs ?_ GE494.out) | exact HB.out)) hb)
   clear HO497
   clear BK494
   clear HB
   have HO497 := n0_
   have HO500 := n1_
   have BK494 := n2_
   have HB := n3_
   clear n0_ n1_ n2_ n3_
   (try clear hb)
   (try clear hb2)
   (try clear hk)
   (try clear hi)
   (try clear ho0)
   (try simp only [eWn, eWs])
   refine hK.out _ _ ⟨(qkc BK494.out 0).trans rfl, (qkc BK494.out 1).trans rfl⟩ (fun hHeld => ?_)
   clear hK K
   refine norm_ (a' := ?_) ?_ ?_
   rotate_left
   ·show Act.put _ (some 23) _ = _
    simp only [Act.put, List.setIfInBounds_toArray, List.set_cons_zero, List.set_cons_succ, i64_w, i32_w]
    rfl
   refine pure_ (i := 4) (N := some 19) (v := ?_) (a' := ?_) #[true, true, true, true, true, false, false, false, false] rfl rfl (any_of HT_.out (by kernel_rfl)) (fun _ _ _ h => h) (Or.inl ⟨by rfl, ?_⟩) ?_ ?_
   rotate_left
   ·intro w'
    go_simp
    with_reducible rfl
   rotate_left
   ·simp only [Act.put, List.setIfInBounds_toArray, List.set_cons_zero, List.set_cons_succ, i64_w, i32_w]
    rfl
   refine pure_ (i := 5) (N := some 24) (v := ?_) (a' := ?_) #[true, true, true, true, true, true, false, false, false] rfl rfl (any_of HT_.out (by kernel_rfl)) (fun _ _ _ h => h) (Or.inl ⟨by rfl, ?_⟩) ?_ ?_
   rotate_left
   ·intro w'
    go_simp
    with_reducible rfl
   rotate_left
   ·simp only [Act.put, List.setIfInBounds_toArray, List.set_cons_zero, List.set_cons_succ, i64_w, i32_w]
    rfl
   refine pure_ (i := 6) (N := some 25) (v := ?_) (a' := ?_) #[true, true, true, true, true, true, true, false, false] rfl rfl (any_of HT_.out (by kernel_rfl)) (fun _ _ _ h => h) (Or.inl ⟨by rfl, ?_⟩) ?_ ?_
   rotate_left
   ·intro w'
    go_simp
    with_reducible rfl
   rotate_left
   ·simp only [Act.put, List.setIfInBounds_toArray, List.set_cons_zero, List.set_cons_succ, i64_w, i32_w]
    rfl
   refine pure_ (i := 7) (N := some 7) (v := ?_) (a' := ?_) #[true, true, true, true, true, true, true, true, false] rfl rfl (any_of HT_.out (by kernel_rfl)) (fun _ _ _ h => h) (Or.inl ⟨by rfl, ?_⟩) ?_ ?_
   rotate_left
   ·intro w'
    go_simp
    with_reducible rfl
   rotate_left
   ·simp only [Act.put, List.setIfInBounds_toArray, List.set_cons_zero, List.set_cons_succ, i64_w, i32_w]
    rfl
   refine pure_ (i := 8) (N := some 8) (v := ?_) (a' := ?_) #[true, true, true, true, true, true, true, true, true] rfl rfl (any_of HT_.out (by kernel_rfl)) (fun _ _ _ h => h) (Or.inl ⟨by rfl, ?_⟩) ?_ ?_
   rotate_left
   ·intro w'
    go_simp
    with_reducible rfl
   rotate_left
   ·simp only [Act.put, List.setIfInBounds_toArray, List.set_cons_zero, List.set_cons_succ, i64_w, i32_w]
    rfl
   refine done_ (done_of HT_.out (by kernel_rfl)) ?_
   obtain ⟨Ao99, co99, eo99⟩ := Kd.R_slice HO500.out
   subst eo99
   try go_wp2
   go_ret
   exact ⟨by first | rfl | (simp [eWn, eWs] <;> rfl) | (simp [*, eWn, eWs] <;> rfl), by repeat (first | (with_reducible first | exact HB.out | apply below_alloc | apply qbN | apply qb1 | refine qbs ?_ GE494.out) | exact HB.out)⟩

end Go.Proofs.YtljadejgdbemoaaDoor.R
