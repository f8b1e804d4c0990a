import Derived.Test.YtddkbhglbkfelaaPnPx0
import Derived.Test.YtddkbhglbkfelaaPnPx2
import Derived.Test.YtddkbhglbkfelaaPnPx4
namespace Go.Proofs.Ytddkbhglbkfelaa.P
open Go.RowKit Go.Proofs.YtddkbhglbkfelaaW.PrintWords Go.Proofs.YtddkbhglbkfelaaW.PrintLast Go.Proofs.YtddkbhglbkfelaaW.PrintMore Go.Proofs.YtddkbhglbkfelaaX
attribute [local go_sem] max2_int min2_int max_two min_two max_three min_three max_four min_four
set_option linter.unusedVariables false
set_option linter.unusedSimpArgs false

/-! ### plan_bound: function 12 -/
mutual
def plan_bound.j0 : Nat → Int → Int → Bool → ByteArray → Int → Int → Int → Int → ByteArray → Bool → List (S43) → Option (ByteArray × ByteArray × Bool × Bool × Bool × Bool × Bool)
  | 0, _, _, _, _, _, _, _, _, _, _, _ => none
  | k + 1, x1, x2, x25, x161000, x161001, x161002, x161003, x161004, x161005, x161006, x161007 => if x25 = true then (some ((⟨#[]⟩ : ByteArray), (⟨#[]⟩ : ByteArray), false, false, false, false, false)) else (if 0 < (x161007.length : Int) then (if 1 < (x161007.length : Int) then (if ((rd_T43 x161007 1).f0).toList = ([99, 111, 108] : List UInt8) then ((plan_turned.f x161000).bind fun t167 => (plan_bound.j1 k x1 x2 t167 ((rd_T43 x161007 1).f0) ((rd_T43 x161007 1).f1) ((rd_T43 x161007 1).f2) ((rd_T43 x161007 1).f3.f0) ((rd_T43 x161007 1).f3.f1) ((rd_T43 x161007 1).f3.f2) ((rd_T43 x161007 1).f3.f3) ((rd_T43 x161007 1).f4) ((rd_T43 x161007 0).f0) ((rd_T43 x161007 0).f1) ((rd_T43 x161007 0).f2) ((rd_T43 x161007 0).f3.f0) ((rd_T43 x161007 0).f3.f1) ((rd_T43 x161007 0).f3.f2) ((rd_T43 x161007 0).f3.f3) ((rd_T43 x161007 0).f4))) else (plan_bound.j1 k x1 x2 x161000 ((rd_T43 x161007 0).f0) ((rd_T43 x161007 0).f1) ((rd_T43 x161007 0).f2) ((rd_T43 x161007 0).f3.f0) ((rd_T43 x161007 0).f3.f1) ((rd_T43 x161007 0).f3.f2) ((rd_T43 x161007 0).f3.f3) ((rd_T43 x161007 0).f4) ((rd_T43 x161007 1).f0) ((rd_T43 x161007 1).f1) ((rd_T43 x161007 1).f2) ((rd_T43 x161007 1).f3.f0) ((rd_T43 x161007 1).f3.f1) ((rd_T43 x161007 1).f3.f2) ((rd_T43 x161007 1).f3.f3) ((rd_T43 x161007 1).f4))) else (none)) else (none))
def plan_bound.j1 : Nat → Int → Int → ByteArray → ByteArray → Int → Int → Int → Int → ByteArray → Bool → List (S43) → ByteArray → Int → Int → Int → Int → ByteArray → Bool → List (S43) → Option (ByteArray × ByteArray × Bool × Bool × Bool × Bool × Bool)
  | 0, _, _, _, _, _, _, _, _, _, _, _, _, _, _, _, _, _, _, _ => none
  | k + 1, x1, x2, x10, x166000, x166001, x166002, x166003, x166004, x166005, x166006, x166007, x167000, x167001, x167002, x167003, x167004, x167005, x167006, x167007 => if x166000.toList = ([99, 111, 108] : List UInt8) then (if x167000.toList = ([108, 105, 116] : List UInt8) then (plan_bound.j2 k x2 x10 (x166002 != x1) x167000 x167001 x167002 x167003 x167004 x167005 x167006 x167007) else (plan_bound.j2 k x2 x10 true x167000 x167001 x167002 x167003 x167004 x167005 x167006 x167007)) else (plan_bound.j2 k x2 x10 true x167000 x167001 x167002 x167003 x167004 x167005 x167006 x167007)
def plan_bound.j2 : Nat → Int → ByteArray → Bool → ByteArray → Int → Int → Int → Int → ByteArray → Bool → List (S43) → Option (ByteArray × ByteArray × Bool × Bool × Bool × Bool × Bool)
  | 0, _, _, _, _, _, _, _, _, _, _, _ => none
  | k + 1, x2, x10, x57, x167000, x167001, x167002, x167003, x167004, x167005, x167006, x167007 => if x57 = true then (some ((⟨#[]⟩ : ByteArray), (⟨#[]⟩ : ByteArray), false, false, false, false, false)) else ((order_Encode.f k (([(⟨x167003, x167004, x167005, x167006⟩ : S24)] : List (S24)))).bind fun bt171 => (if bt171.2.isNone = true then (plan_bound.j3 k x10 bt171.1 (x167003 != x2)) else (plan_bound.j3 k x10 bt171.1 true)))
def plan_bound.j3 : Nat → ByteArray → ByteArray → Bool → Option (ByteArray × ByteArray × Bool × Bool × Bool × Bool × Bool)
  | 0, _, _, _ => none
  | k + 1, x10, x11, x74 => if x74 = true then ((plan_nowhere.f).bind fun bt174 => (some (bt174.1, bt174.2.1, bt174.2.2.1, bt174.2.2.2.1, bt174.2.2.2.2.1, bt174.2.2.2.2.2, true))) else ((cursor_Prefix.f x11).bind fun bt180 => (if x10.toList = ([60] : List UInt8) then (some ((⟨#[]⟩ : ByteArray), x11, false, true, false, true, true)) else (if x10.toList = ([60, 61] : List UInt8) then (some ((⟨#[]⟩ : ByteArray), bt180.2.1, false, bt180.2.2.2.1, false, bt180.2.2.2.2.2, true)) else (if x10.toList = ([62, 61] : List UInt8) then (some (x11, (⟨#[]⟩ : ByteArray), true, false, false, false, true)) else (if x10.toList = ([62] : List UInt8) then (some (bt180.2.1, (⟨#[]⟩ : ByteArray), bt180.2.2.2.1, false, false, false, true)) else (some (bt180.1, bt180.2.1, bt180.2.2.1, bt180.2.2.2.1, bt180.2.2.2.2.1, bt180.2.2.2.2.2, true)))))))
end
def plan_bound.f (k : Nat) (a0_0 : ByteArray) (a0_1 : Int) (a0_2 : Int) (a0_3 : Int) (a0_4 : Int) (a0_5 : ByteArray) (a0_6 : Bool) (l0_7 : List (S43)) (a1 : Int) (a2 : Int) : Option (ByteArray × ByteArray × Bool × Bool × Bool × Bool × Bool) := if (l0_7.length : Int) = 2 then (if 1 + a0_0.size ≤ 9223372036854775807 then (if ((⟨#[32]⟩ : ByteArray) ++ a0_0).size + 1 ≤ 9223372036854775807 then ((strings_Contains.f (⟨#[32, 61, 32, 60, 32, 60, 61, 32, 62, 32, 62, 61, 32]⟩ : ByteArray) (((⟨#[32]⟩ : ByteArray) ++ a0_0) ++ (⟨#[32]⟩ : ByteArray))).bind fun t162 => (plan_bound.j0 k a1 a2 (!t162) a0_0 a0_1 a0_2 a0_3 a0_4 a0_5 a0_6 l0_7)) else (none)) else (none)) else (plan_bound.j0 k a1 a2 true a0_0 a0_1 a0_2 a0_3 a0_4 a0_5 a0_6 l0_7)
theorem plan_bound.mono_l : ∀ k, (∀ y0 y1 y2 y3 y4 y5 y6 y7 y8 y9 y10, LeO (plan_bound.j0 k y0 y1 y2 y3 y4 y5 y6 y7 y8 y9 y10) (plan_bound.j0 (k + 1) y0 y1 y2 y3 y4 y5 y6 y7 y8 y9 y10)) ∧ (∀ y0 y1 y2 y3 y4 y5 y6 y7 y8 y9 y10 y11 y12 y13 y14 y15 y16 y17 y18, LeO (plan_bound.j1 k y0 y1 y2 y3 y4 y5 y6 y7 y8 y9 y10 y11 y12 y13 y14 y15 y16 y17 y18) (plan_bound.j1 (k + 1) y0 y1 y2 y3 y4 y5 y6 y7 y8 y9 y10 y11 y12 y13 y14 y15 y16 y17 y18)) ∧ (∀ y0 y1 y2 y3 y4 y5 y6 y7 y8 y9 y10, LeO (plan_bound.j2 k y0 y1 y2 y3 y4 y5 y6 y7 y8 y9 y10) (plan_bound.j2 (k + 1) y0 y1 y2 y3 y4 y5 y6 y7 y8 y9 y10)) ∧ (∀ y0 y1 y2, LeO (plan_bound.j3 k y0 y1 y2) (plan_bound.j3 (k + 1) y0 y1 y2))
  | 0 => ⟨fun _ _ _ _ _ _ _ _ _ _ _ r h => by simp [plan_bound.j0] at h, fun _ _ _ _ _ _ _ _ _ _ _ _ _ _ _ _ _ _ _ r h => by simp [plan_bound.j1] at h, fun _ _ _ _ _ _ _ _ _ _ _ r h => by simp [plan_bound.j2] at h, fun _ _ _ r h => by simp [plan_bound.j3] at h⟩
  | k + 1 => by
    obtain ⟨ih0, ih1, ih2, ih3⟩ := plan_bound.mono_l k
    refine ⟨?_, ?_, ?_, ?_⟩
    · intro y0 y1 y2 y3 y4 y5 y6 y7 y8 y9 y10
      unfold plan_bound.j0
      repeat' first
      | (with_reducible exact ih0 _ _ _ _ _ _ _ _ _ _ _)
      | (with_reducible exact ih1 _ _ _ _ _ _ _ _ _ _ _ _ _ _ _ _ _ _ _)
      | (with_reducible exact ih2 _ _ _ _ _ _ _ _ _ _ _)
      | (with_reducible exact ih3 _ _ _)
      | (with_reducible exact order_Encode.mono _ _)
      | (with_reducible exact LeO.refl _)
      | (with_reducible exact LeO.none _)
      | (with_reducible refine LeO.ite ?_ ?_)
      | (with_reducible refine LeO.bind ?_ (fun _ => ?_))
      | exact ih0 _ _ _ _ _ _ _ _ _ _ _
      | exact ih1 _ _ _ _ _ _ _ _ _ _ _ _ _ _ _ _ _ _ _
      | exact ih2 _ _ _ _ _ _ _ _ _ _ _
      | exact ih3 _ _ _
      | exact order_Encode.mono _ _
      | exact LeO.none _
      | refine LeO.ite ?_ ?_
      | refine LeO.bind ?_ (fun _ => ?_)
    · intro y0 y1 y2 y3 y4 y5 y6 y7 y8 y9 y10 y11 y12 y13 y14 y15 y16 y17 y18
      unfold plan_bound.j1
      repeat' first
      | (with_reducible exact ih0 _ _ _ _ _ _ _ _ _ _ _)
      | (with_reducible exact ih1 _ _ _ _ _ _ _ _ _ _ _ _ _ _ _ _ _ _ _)
      | (with_reducible exact ih2 _ _ _ _ _ _ _ _ _ _ _)
      | (with_reducible exact ih3 _ _ _)
      | (with_reducible exact order_Encode.mono _ _)
      | (with_reducible exact LeO.refl _)
      | (with_reducible exact LeO.none _)
      | (with_reducible refine LeO.ite ?_ ?_)
      | (with_reducible refine LeO.bind ?_ (fun _ => ?_))
      | exact ih0 _ _ _ _ _ _ _ _ _ _ _
      | exact ih1 _ _ _ _ _ _ _ _ _ _ _ _ _ _ _ _ _ _ _
      | exact ih2 _ _ _ _ _ _ _ _ _ _ _
      | exact ih3 _ _ _
      | exact order_Encode.mono _ _
      | exact LeO.none _
      | refine LeO.ite ?_ ?_
      | refine LeO.bind ?_ (fun _ => ?_)
    · intro y0 y1 y2 y3 y4 y5 y6 y7 y8 y9 y10
      unfold plan_bound.j2
      repeat' first
      | (with_reducible exact ih0 _ _ _ _ _ _ _ _ _ _ _)
      | (with_reducible exact ih1 _ _ _ _ _ _ _ _ _ _ _ _ _ _ _ _ _ _ _)
      | (with_reducible exact ih2 _ _ _ _ _ _ _ _ _ _ _)
      | (with_reducible exact ih3 _ _ _)
      | (with_reducible exact order_Encode.mono _ _)
      | (with_reducible exact LeO.refl _)
      | (with_reducible exact LeO.none _)
      | (with_reducible refine LeO.ite ?_ ?_)
      | (with_reducible refine LeO.bind ?_ (fun _ => ?_))
      | exact ih0 _ _ _ _ _ _ _ _ _ _ _
      | exact ih1 _ _ _ _ _ _ _ _ _ _ _ _ _ _ _ _ _ _ _
      | exact ih2 _ _ _ _ _ _ _ _ _ _ _
      | exact ih3 _ _ _
      | exact order_Encode.mono _ _
      | exact LeO.none _
      | refine LeO.ite ?_ ?_
      | refine LeO.bind ?_ (fun _ => ?_)
    intro y0 y1 y2
    unfold plan_bound.j3
    repeat' first
    | (with_reducible exact ih0 _ _ _ _ _ _ _ _ _ _ _)
    | (with_reducible exact ih1 _ _ _ _ _ _ _ _ _ _ _ _ _ _ _ _ _ _ _)
    | (with_reducible exact ih2 _ _ _ _ _ _ _ _ _ _ _)
    | (with_reducible exact ih3 _ _ _)
    | (with_reducible exact order_Encode.mono _ _)
    | (with_reducible exact LeO.refl _)
    | (with_reducible exact LeO.none _)
    | (with_reducible refine LeO.ite ?_ ?_)
    | (with_reducible refine LeO.bind ?_ (fun _ => ?_))
    | exact ih0 _ _ _ _ _ _ _ _ _ _ _
    | exact ih1 _ _ _ _ _ _ _ _ _ _ _ _ _ _ _ _ _ _ _
    | exact ih2 _ _ _ _ _ _ _ _ _ _ _
    | exact ih3 _ _ _
    | exact order_Encode.mono _ _
    | exact LeO.none _
    | refine LeO.ite ?_ ?_
    | refine LeO.bind ?_ (fun _ => ?_)
theorem plan_bound.mono : ∀ a0 a1 a2 a3 a4 a5 a6 a7 a8 a9 k, LeO (plan_bound.f k a0 a1 a2 a3 a4 a5 a6 a7 a8 a9) (plan_bound.f (k + 1) a0 a1 a2 a3 a4 a5 a6 a7 a8 a9) := by
  intro a0 a1 a2 a3 a4 a5 a6 a7 a8 a9 k
  obtain ⟨ih0, ih1, ih2, ih3⟩ := plan_bound.mono_l k
  unfold plan_bound.f
  repeat' first
      | (with_reducible exact ih0 _ _ _ _ _ _ _ _ _ _ _)
      | (with_reducible exact ih1 _ _ _ _ _ _ _ _ _ _ _ _ _ _ _ _ _ _ _)
      | (with_reducible exact ih2 _ _ _ _ _ _ _ _ _ _ _)
      | (with_reducible exact ih3 _ _ _)
      | (with_reducible exact order_Encode.mono _ _)
      | (with_reducible exact LeO.refl _)
      | (with_reducible exact LeO.none _)
      | (with_reducible refine LeO.ite ?_ ?_)
      | (with_reducible refine LeO.bind ?_ (fun _ => ?_))
      | exact ih0 _ _ _ _ _ _ _ _ _ _ _
      | exact ih1 _ _ _ _ _ _ _ _ _ _ _ _ _ _ _ _ _ _ _
      | exact ih2 _ _ _ _ _ _ _ _ _ _ _
      | exact ih3 _ _ _
      | exact order_Encode.mono _ _
      | exact LeO.none _
      | refine LeO.ite ?_ ?_
      | refine LeO.bind ?_ (fun _ => ?_)
def plan_bound.T3 : Bool × List (List Nat × List Nat) := (true, [([], []), ([0], [0]), ([1], [1]), ([2], [2]), ([], []), ([4], [4]), ([5], [5]), ([6], [6]), ([], []), ([8], [8]), ([], []), ([], []), ([10, 3, 0, 1, 2, 3, 10, 11], [3, 10]), ([11, 7, 12, 0, 1, 2, 3, 4, 5, 6, 7, 10, 11, 12], [7, 11]), ([9, 13, 0, 1, 2, 3, 4, 5, 6, 7, 8, 9, 10, 11, 12, 13], [9])])
def plan_bound.B3 : List Nat := [0, 1, 3, 7, 0, 16, 48, 112, 0, 256, 0, 0, 3087, 7423, 16383]
theorem plan_bound.tab3 : rtab .any (opsOf Try.f12 3) = plan_bound.T3 := by kernel_rfl
theorem plan_bound.bits3 : waitsOk plan_bound.T3.2 plan_bound.B3 = true := by kernel_rfl
set_option maxHeartbeats 8000000 in
set_option maxRecDepth 100000 in
theorem plan_bound.calls (k : Nat) (a0_0 : ByteArray) (a0_1 : Int) (a0_2 : Int) (a0_3 : Int) (a0_4 : Int) (a0_5 : ByteArray) (a0_6 : Bool) (A0_7 : Option Addr) (c0_7 : Nat) (l0_7 : List (S43)) (a1 : Int) (a2 : Int) (r1 : ByteArray) (r2 : ByteArray) (r3 : Bool) (r4 : Bool) (r5 : Bool) (r6 : Bool) (r7 : Bool) (w : World) (hr0_7 : Kd.C k43 w A0_7 l0_7.length l0_7) (hc0_7 : l0_7.length ≤ c0_7) (hG : GW w) (h : plan_bound.f k a0_0 a0_1 a0_2 a0_3 a0_4 a0_5 a0_6 l0_7 a1 a2 = some (r1, r2, r3, r4, r5, r6, r7)) :
    Calls Try.prog 12 #[.agg #[.string a0_0, .int .i64 a0_1, .int .i64 a0_2, .int .i64 a0_3, .int .i64 a0_4, .string a0_5, .bool a0_6, .slice A0_7 l0_7.length c0_7], .int .i64 a1, .int .i64 a2] w fun e w' => e = .returned (.tuple #[.agg #[.string r1, .string r2, .bool r3, .bool r4, .bool r5, .bool r6], .bool r7]) ∧ Below w.heap.size w w' := by
  have hu43 := Try.underlying43
  have hu35 := Try.underlying35
  have hu24 := Try.underlying24
  have hu54 := Try.underlying54
  have hu65 := Try.underlying65
  have HR0_7 := Aside0.mk hr0_7
  have HC0_7 := Aside0.mk hc0_7
  clear hr0_7 hc0_7
  have HB := Aside0.mk (Below.refl w.heap.size w)
  have HG := Aside0.mk hG
  clear hG
  have H : (if (l0_7.length : Int) = 2 then (if 1 + a0_0.size ≤ 9223372036854775807 then (if ((⟨#[32]⟩ : ByteArray) ++ a0_0).size + 1 ≤ 9223372036854775807 then ((strings_Contains.f (⟨#[32, 61, 32, 60, 32, 60, 61, 32, 62, 32, 62, 61, 32]⟩ : ByteArray) (((⟨#[32]⟩ : ByteArray) ++ a0_0) ++ (⟨#[32]⟩ : ByteArray))).bind fun t162 => (plan_bound.j0 k a1 a2 (!t162) a0_0 a0_1 a0_2 a0_3 a0_4 a0_5 a0_6 l0_7)) else (none)) else (none)) else (plan_bound.j0 k a1 a2 true a0_0 a0_1 a0_2 a0_3 a0_4 a0_5 a0_6 l0_7)) = some (r1, r2, r3, r4, r5, r6, r7) := h
  clear h
  have HC4 := Aside0.mk H
  clear H
  go_enter Try.func12, Try.ntmps12
  go_upto_region 1 with (first | ((with_reducible refine gate_dst (N := 3) rfl ?_); refine box_event ?hg (N := 3) ?hd (cs := #[.string a0_0, .int .i64 a0_1, .int .i64 a0_2, .int .i64 a0_3, .int .i64 a0_4, .string a0_5, .bool a0_6, .slice A0_7 l0_7.length c0_7]) (t := 43) ?hr ?_; (case hd => rfl); (case hg => rfl); (case hr => first | (go_simp; done) | (go_simp; rfl)); intro gb160 hg w5 hbox hb; have n0_ := Aside0.mk (below_step (bw_ HB.out) hb); have n1_ := Aside0.mk (hbox); have n2_ := Aside0.mk ((by rw [hg]; exact (below_size (bw_ HB.out)) : w.heap.size ≤ gb160)); have n3_ := Aside0.mk ((by rw [hg]; exact (below_size (bw_ HB.out)) : w.heap.size ≤ gb160)); clear HB; have HB := n0_; have BK160 := n1_; have GW160 := n2_; have GE160 := n3_; clear n0_ n1_ n2_ n3_; clear hb hbox hg) | ((with_reducible refine gate_dst (N := 6) rfl ?_); refine box_event ?hg (N := 6) ?hd (cs := #[.string (⟨#[]⟩ : ByteArray), .string (⟨#[]⟩ : ByteArray), .bool false, .bool false, .bool false, .bool false]) (t := 35) ?hr ?_; (case hd => rfl); (case hg => rfl); (case hr => first | (go_simp; done) | (go_simp; rfl)); intro gb161 hg w6 hbox hb; have n0_ := Aside0.mk (blk_below (g := gb160) (o := .cells #[.string a0_0, .int .i64 a0_1, .int .i64 a0_2, .int .i64 a0_3, .int .i64 a0_4, .string a0_5, .bool a0_6, .slice A0_7 l0_7.length c0_7] 43 (0, 0)) (bl_ BK160.out) hb); have n1_ := Aside0.mk (below_step (bw_ HB.out) hb); have n2_ := Aside0.mk (hbox); have n3_ := Aside0.mk ((by rw [hg]; exact (below_size (bw_ HB.out)) : w.heap.size ≤ gb161)); have n4_ := Aside0.mk ((by rw [hg]; exact (below_size (bw_ HB.out)) : w.heap.size ≤ gb161)); have n5_ := Aside0.mk ((by rw [hg]; exact Nat.ne_of_lt (blk_lt (g := gb160) (o := .cells #[.string a0_0, .int .i64 a0_1, .int .i64 a0_2, .int .i64 a0_3, .int .i64 a0_4, .string a0_5, .bool a0_6, .slice A0_7 l0_7.length c0_7] 43 (0, 0)) (bl_ BK160.out)) : gb160 ≠ gb161)); have n6_ := Aside0.mk ((by rw [hg]; exact Nat.ne_of_gt (blk_lt (g := gb160) (o := .cells #[.string a0_0, .int .i64 a0_1, .int .i64 a0_2, .int .i64 a0_3, .int .i64 a0_4, .string a0_5, .bool a0_6, .slice A0_7 l0_7.length c0_7] 43 (0, 0)) (bl_ BK160.out)) : gb161 ≠ gb160)); clear BK160; clear HB; have BK160 := n0_; have HB := n1_; have BK161 := n2_; have GW161 := n3_; have GE161 := n4_; have NB160_161 := n5_; have NB161_160 := n6_; clear n0_ n1_ n2_ n3_ n4_ n5_ n6_; clear hb hbox hg))
  (try simp only [Act.put, List.setIfInBounds_toArray, List.set_cons_zero, List.set_cons_succ])
  go_cut [25] (fun v25 wc => ∃ (kq : Nat) (x25_3 : Bool), v25 = .bool x25_3 ∧ Aside0 (plan_bound.j0 kq a1 a2 x25_3 a0_0 a0_1 a0_2 a0_3 a0_4 a0_5 a0_6 l0_7 = some (r1, r2, r3, r4, r5, r6, r7)) ∧ Aside0 (kq ≤ k) ∧ Aside0 (wc.heap[gb160]? = some (.cells #[.string a0_0, .int .i64 a0_1, .int .i64 a0_2, .int .i64 a0_3, .int .i64 a0_4, .string a0_5, .bool a0_6, (.slice A0_7 l0_7.length c0_7)] 43 (0, 0))) ∧ Aside0 (wc.heap[gb161]? = some (.cells #[.string (⟨#[]⟩ : ByteArray), .string (⟨#[]⟩ : ByteArray), .bool false, .bool false, .bool false, .bool false] 35 (0, 0))) ∧ Aside0 (Below w.heap.size w wc))
  case first =>
    have H := HC4.out
    clear HC4
    by_cases c7 : (l0_7.length : Int) = 2
    · rw [if_pos c7] at H
      have c7b0 : ((l0_7.length : Int) == 2) = true := beq_iff_eq.mpr c7
      have c7b1 : ((l0_7.length : Int) != 2) = false := bne_eq_false_iff_eq.mpr c7
      clear c7
      (first | rw [c7b0] | (simp only [i64_w, i32_w]; rw [c7b0]) | skip)
      have c8 : 1 + a0_0.size ≤ 9223372036854775807 := Classical.byContradiction fun c8 => by rw [if_neg c8] at H; exact absurd H (by simp)
      rw [if_pos c8] at H
      have c8b0 := eq_true c8
      have c8b1 : decide (1 + a0_0.size ≤ 9223372036854775807) = true := decide_eq_true c8
      try have c8b2 : (9223372036854775807 < 1 + a0_0.size) = False := eq_false (Nat.not_lt.2 c8)
      have c9 : ((⟨#[32]⟩ : ByteArray) ++ a0_0).size + 1 ≤ 9223372036854775807 := Classical.byContradiction fun c9 => by rw [if_neg c9] at H; exact absurd H (by simp)
      rw [if_pos c9] at H
      have c9b0 := eq_true c9
      have c9b1 : decide (((⟨#[32]⟩ : ByteArray) ++ a0_0).size + 1 ≤ 9223372036854775807) = true := decide_eq_true c9
      try have c9b2 : (9223372036854775807 < ((⟨#[32]⟩ : ByteArray) ++ a0_0).size + 1) = False := eq_false (Nat.not_lt.2 c9)
      try have c9b3 : (9223372036854775807 < 1 + a0_0.size + 1) = False := (by have h_ := c9b2; (try simp only [ByteArray.size_append] at h_); exact h_)
      replace H := Option.bind_eq_some_iff.mp H
      obtain ⟨t162, A100, H⟩ := H
      (try dsimp only at H)
      have A10 := Aside0.mk A100
      clear A100
      have H' := Aside0.mk H
      clear H
      have hnb11 := NB160_161.out
      have hnc11 := NB161_160.out
      have hcz12_0 : w6.cell? ⟨gb160, 0, none⟩ = some (.string a0_0) := (blk_cell BK160.out 0).trans rfl
      have hcz12_1 : w6.cell? ⟨gb160, 1, none⟩ = some (.int .i64 a0_1) := (blk_cell BK160.out 1).trans rfl
      have hcz12_2 : w6.cell? ⟨gb160, 2, none⟩ = some (.int .i64 a0_2) := (blk_cell BK160.out 2).trans rfl
      have hcz12_3 : w6.cell? ⟨gb160, 3, none⟩ = some (.int .i64 a0_3) := (blk_cell BK160.out 3).trans rfl
      have hcz12_4 : w6.cell? ⟨gb160, 4, none⟩ = some (.int .i64 a0_4) := (blk_cell BK160.out 4).trans rfl
      have hcz12_5 : w6.cell? ⟨gb160, 5, none⟩ = some (.string a0_5) := (blk_cell BK160.out 5).trans rfl
      have hcz12_6 : w6.cell? ⟨gb160, 6, none⟩ = some (.bool a0_6) := (blk_cell BK160.out 6).trans rfl
      have hcz12_7 : w6.cell? ⟨gb160, 7, none⟩ = some (.slice A0_7 l0_7.length c0_7) := (blk_cell BK160.out 7).trans rfl
      have hfz12_0 := blk_frozen BK160.out 0
      have hfz12_1 := blk_frozen BK160.out 1
      have hfz12_2 := blk_frozen BK160.out 2
      have hfz12_3 := blk_frozen BK160.out 3
      have hfz12_4 := blk_frozen BK160.out 4
      have hfz12_5 := blk_frozen BK160.out 5
      have hfz12_6 := blk_frozen BK160.out 6
      have hfz12_7 := blk_frozen BK160.out 7
      go_wp2_with (first | (go_at_call 15; (with_reducible refine (strings_Contains.calls (⟨#[32, 61, 32, 60, 32, 60, 61, 32, 62, 32, 62, 61, 32]⟩ : ByteArray) (((⟨#[32]⟩ : ByteArray) ++ a0_0) ++ (⟨#[32]⟩ : ByteArray)) t162 _ ?side1 A10.out).mono ?_); (case side1 => exact GW_below HG.out (bw_ HB.out)); rintro e w13 ⟨rfl, hb⟩; have n0_ := Aside0.mk (blk_below (g := gb160) (o := .cells #[.string a0_0, .int .i64 a0_1, .int .i64 a0_2, .int .i64 a0_3, .int .i64 a0_4, .string a0_5, .bool a0_6, .slice A0_7 l0_7.length c0_7] 43 (0, 0)) (bl_ BK160.out) hb); have n1_ := Aside0.mk (blk_below (g := gb161) (o := .cells #[.string (⟨#[]⟩ : ByteArray), .string (⟨#[]⟩ : ByteArray), .bool false, .bool false, .bool false, .bool false] 35 (0, 0)) (bl_ BK161.out) hb); have n2_ := Aside0.mk (below_step (bw_ HB.out) hb); clear BK160; clear BK161; clear HB; have BK160 := n0_; have BK161 := n1_; have HB := n2_; clear n0_ n1_ n2_; (try clear hb); (try clear hb2); (try clear hk); (try clear hi)))
      refine Met.intro ?_
      go_step
      (repeat apply Exists.intro)
      refine ⟨?rel, ?frm⟩
      case frm => first | rfl | (simp only [c7b0, c7b1]; rfl) | (simp only [c7b0, c7b1]; first | done | rfl)
      case rel => exact ⟨_, (!t162), (by first | rfl | (simp; done) | (simp [*]; done) | (simp [bne]; done)), H', ⟨by first | omega | exact Nat.le_refl _⟩, ⟨by (with_reducible repeat (first | refine blk_drewN ?_ _ | refine blk_drew ?_ | refine blk_alloc ?_ _)); exact BK160.out⟩, ⟨by (with_reducible repeat (first | refine blk_drewN ?_ _ | refine blk_drew ?_ | refine blk_alloc ?_ _)); exact BK161.out⟩, ⟨bw_ HB.out⟩⟩
    rw [if_neg c7] at H
    have c7b0 : ((l0_7.length : Int) == 2) = false := beq_eq_false_iff_ne.mpr c7
    have c7b1 : ((l0_7.length : Int) != 2) = true := bne_iff_ne.mpr c7
    (first | rw [c7b0] | (simp only [i64_w, i32_w]; rw [c7b0]) | skip)
    have H' := Aside0.mk H
    clear H
    have hnb14 := NB160_161.out
    have hnc14 := NB161_160.out
    have hcz15_0 : w6.cell? ⟨gb160, 0, none⟩ = some (.string a0_0) := (blk_cell BK160.out 0).trans rfl
    have hcz15_1 : w6.cell? ⟨gb160, 1, none⟩ = some (.int .i64 a0_1) := (blk_cell BK160.out 1).trans rfl
    have hcz15_2 : w6.cell? ⟨gb160, 2, none⟩ = some (.int .i64 a0_2) := (blk_cell BK160.out 2).trans rfl
    have hcz15_3 : w6.cell? ⟨gb160, 3, none⟩ = some (.int .i64 a0_3) := (blk_cell BK160.out 3).trans rfl
    have hcz15_4 : w6.cell? ⟨gb160, 4, none⟩ = some (.int .i64 a0_4) := (blk_cell BK160.out 4).trans rfl
    have hcz15_5 : w6.cell? ⟨gb160, 5, none⟩ = some (.string a0_5) := (blk_cell BK160.out 5).trans rfl
    have hcz15_6 : w6.cell? ⟨gb160, 6, none⟩ = some (.bool a0_6) := (blk_cell BK160.out 6).trans rfl
    have hcz15_7 : w6.cell? ⟨gb160, 7, none⟩ = some (.slice A0_7 l0_7.length c0_7) := (blk_cell BK160.out 7).trans rfl
    have hfz15_0 := blk_frozen BK160.out 0
    have hfz15_1 := blk_frozen BK160.out 1
    have hfz15_2 := blk_frozen BK160.out 2
    have hfz15_3 := blk_frozen BK160.out 3
    have hfz15_4 := blk_frozen BK160.out 4
    have hfz15_5 := blk_frozen BK160.out 5
    have hfz15_6 := blk_frozen BK160.out 6
    have hfz15_7 := blk_frozen BK160.out 7
    go_wp2
    refine Met.intro ?_
    go_step
    (repeat apply Exists.intro)
    refine ⟨?rel, ?frm⟩
    case frm => first | rfl | (simp only [c7b0, c7b1]; rfl) | (simp only [c7b0, c7b1]; first | done | rfl)
    case rel => exact ⟨_, (true), (by first | rfl | (simp; done) | (simp [*]; done) | (simp [bne]; done)), H', ⟨by first | omega | exact Nat.le_refl _⟩, ⟨by (with_reducible repeat (first | refine blk_drewN ?_ _ | refine blk_drew ?_ | refine blk_alloc ?_ _)); exact BK160.out⟩, ⟨by (with_reducible repeat (first | refine blk_drewN ?_ _ | refine blk_drew ?_ | refine blk_alloc ?_ _)); exact BK161.out⟩, ⟨bw_ HB.out⟩⟩
  clear HC4
  (try clear c1); (try clear p2); (try clear c7); (try clear c7b0); (try clear c7b1); (try clear c8); (try clear c8b0); (try clear c8b1); (try clear c8b2); (try clear c9); (try clear c9b0); (try clear c9b1)
  (try clear c9b2); (try clear c11); (try clear c12); (try clear c14); (try clear hcz12_0); (try clear hcz12_1); (try clear hcz12_2); (try clear hcz12_3); (try clear hcz12_4); (try clear hcz12_5); (try clear hcz12_6); (try clear hcz12_7)
  (try clear hcz15_0); (try clear hcz15_1); (try clear hcz15_2); (try clear hcz15_3); (try clear hcz15_4); (try clear hcz15_5); (try clear hcz15_6); (try clear hcz15_7); (try clear hfz12_0); (try clear hfz12_1); (try clear hfz12_2); (try clear hfz12_3)
  (try clear hfz12_4); (try clear hfz12_5); (try clear hfz12_6); (try clear hfz12_7); (try clear hfz15_0); (try clear hfz15_1); (try clear hfz15_2); (try clear hfz15_3); (try clear hfz15_4); (try clear hfz15_5); (try clear hfz15_6); (try clear hfz15_7)
  obtain ⟨kq, x25_3, rfl, HA, HJ3, BK160, BK161, HB⟩ := hcut
  cases kq with
  | zero => exact absurd HA.out (by simp [plan_bound.j0])
  | succ kj3 =>
    have H := HA.out
    clear HA
    simp only [plan_bound.j0] at H
    by_cases c16 : x25_3 = true
    · subst c16
      rw [if_pos rfl] at H
      simp only [Option.some.injEq, Prod.mk.injEq] at H
      obtain ⟨rfl, rfl, rfl, rfl, rfl, rfl, rfl⟩ := H
      have hnb17 := NB161_160.out
      have hnc17 := NB160_161.out
      have hcz18_0 : wc.cell? ⟨gb161, 0, none⟩ = some (.string (⟨#[]⟩ : ByteArray)) := (blk_cell BK161.out 0).trans rfl
      have hcz18_1 : wc.cell? ⟨gb161, 1, none⟩ = some (.string (⟨#[]⟩ : ByteArray)) := (blk_cell BK161.out 1).trans rfl
      have hcz18_2 : wc.cell? ⟨gb161, 2, none⟩ = some (.bool false) := (blk_cell BK161.out 2).trans rfl
      have hcz18_3 : wc.cell? ⟨gb161, 3, none⟩ = some (.bool false) := (blk_cell BK161.out 3).trans rfl
      have hcz18_4 : wc.cell? ⟨gb161, 4, none⟩ = some (.bool false) := (blk_cell BK161.out 4).trans rfl
      have hcz18_5 : wc.cell? ⟨gb161, 5, none⟩ = some (.bool false) := (blk_cell BK161.out 5).trans rfl
      have hfz18_0 := blk_frozen BK161.out 0
      have hfz18_1 := blk_frozen BK161.out 1
      have hfz18_2 := blk_frozen BK161.out 2
      have hfz18_3 := blk_frozen BK161.out 3
      have hfz18_4 := blk_frozen BK161.out 4
      have hfz18_5 := blk_frozen BK161.out 5
      go_wp2
      refine bodyPost_ret (results_ct rfl _ _ gb161 35 #[.string (⟨#[]⟩ : ByteArray), .string (⟨#[]⟩ : ByteArray), .bool false, .bool false, .bool false, .bool false] (0, 0) _ rfl (by (with_reducible repeat (first | refine blk_drewN ?_ _ | refine blk_drew ?_ | refine blk_alloc ?_ _)); refine blk_put (cs := #[.string (⟨#[]⟩ : ByteArray), .string (⟨#[]⟩ : ByteArray), .bool false, .bool false, .bool false, .bool false]) ?_ 5 _ rfl; (with_reducible repeat (first | refine blk_drewN ?_ _ | refine blk_drew ?_ | refine blk_alloc ?_ _)); refine blk_put (cs := #[.string (⟨#[]⟩ : ByteArray), .string (⟨#[]⟩ : ByteArray), .bool false, .bool false, .bool false, .bool false]) ?_ 4 _ rfl; (with_reducible repeat (first | refine blk_drewN ?_ _ | refine blk_drew ?_ | refine blk_alloc ?_ _)); refine blk_put (cs := #[.string (⟨#[]⟩ : ByteArray), .string (⟨#[]⟩ : ByteArray), .bool false, .bool false, .bool false, .bool false]) ?_ 3 _ rfl; (with_reducible repeat (first | refine blk_drewN ?_ _ | refine blk_drew ?_ | refine blk_alloc ?_ _)); refine blk_put (cs := #[.string (⟨#[]⟩ : ByteArray), .string (⟨#[]⟩ : ByteArray), .bool false, .bool false, .bool false, .bool false]) ?_ 2 _ rfl; (with_reducible repeat (first | refine blk_drewN ?_ _ | refine blk_drew ?_ | refine blk_alloc ?_ _)); refine blk_put (cs := #[.string (⟨#[]⟩ : ByteArray), .string (⟨#[]⟩ : ByteArray), .bool false, .bool false, .bool false, .bool false]) ?_ 1 _ rfl; (with_reducible repeat (first | refine blk_drewN ?_ _ | refine blk_drew ?_ | refine blk_alloc ?_ _)); refine blk_put (cs := #[.string (⟨#[]⟩ : ByteArray), .string (⟨#[]⟩ : ByteArray), .bool false, .bool false, .bool false, .bool false]) ?_ 0 _ rfl; (with_reducible repeat (first | refine blk_drewN ?_ _ | refine blk_drew ?_ | refine blk_alloc ?_ _)); exact BK161.out) Try.underlying35 rfl (by kernel_rfl)) rfl ?_
      exact ⟨by first | rfl | (simp [errW_none, errW_some] <;> rfl) | (simp [*, errW_none, errW_some] <;> rfl), bw_ HB.out⟩
    replace c16 := Bool.eq_false_iff.mpr c16
    subst c16
    rw [if_neg (show ¬ (false = true) by decide)] at H
    have c19 : 0 < (l0_7.length : Int) := Classical.byContradiction fun c19 => by rw [if_neg c19] at H; exact absurd H (by simp)
    rw [if_pos c19] at H
    have c19b0 : decide (0 < (l0_7.length : Int)) = true := decide_eq_true c19
    have c19b1 : decide (0 < l0_7.length) = true := decide_eq_true (by omega)
    clear c19
    have c20 : 1 < (l0_7.length : Int) := Classical.byContradiction fun c20 => by rw [if_neg c20] at H; exact absurd H (by simp)
    rw [if_pos c20] at H
    have c20b0 : decide (1 < (l0_7.length : Int)) = true := decide_eq_true c20
    have c20b1 : decide (1 < l0_7.length) = true := decide_eq_true (by omega)
    clear c20
    have HC21 := Aside0.mk H
    clear H
    try go_wp2
    have n0_ := Aside0.mk (blk_drew BK160.out)
    have n1_ := Aside0.mk (blk_drew BK161.out)
    have n2_ := Aside0.mk (below_drew1 HB.out)
    clear BK160
    clear BK161
    clear HB
    have BK160 := n0_
    have BK161 := n1_
    have HB := n2_
    clear n0_ n1_ n2_
    have p163 : 0 ≤ (0 : Int) := (by omega)
    have q163 : 0 < (l0_7.length : Int) := of_decide_eq_true (by first | (with_reducible assumption) | assumption)
    obtain ⟨ad163, A163_7, c163_7, e163, hx163_0, hx163_1, hx163_2, hx163_3, hx163_4, hx163_5, hx163_6, hx163_7, hl163_7, hi163_7⟩ := at_T43 HR0_7.out 0 p163 q163
    have hw163_7 := hx163_7
    (try rw [show ((0 : Int)).toNat = 0 from rfl] at hw163_7)
    (try rw [show 0 * 8 = 0 from rfl] at hw163_7)
    (try rw [Addr.add_zero'] at hw163_7)
    have hw163_6 := hx163_6
    (try rw [show ((0 : Int)).toNat = 0 from rfl] at hw163_6)
    (try rw [show 0 * 8 = 0 from rfl] at hw163_6)
    (try rw [Addr.add_zero'] at hw163_6)
    have hw163_5 := hx163_5
    (try rw [show ((0 : Int)).toNat = 0 from rfl] at hw163_5)
    (try rw [show 0 * 8 = 0 from rfl] at hw163_5)
    (try rw [Addr.add_zero'] at hw163_5)
    have hw163_4 := hx163_4
    (try rw [show ((0 : Int)).toNat = 0 from rfl] at hw163_4)
    (try rw [show 0 * 8 = 0 from rfl] at hw163_4)
    (try rw [Addr.add_zero'] at hw163_4)
    have hw163_3 := hx163_3
    (try rw [show ((0 : Int)).toNat = 0 from rfl] at hw163_3)
    (try rw [show 0 * 8 = 0 from rfl] at hw163_3)
    (try rw [Addr.add_zero'] at hw163_3)
    have hw163_2 := hx163_2
    (try rw [show ((0 : Int)).toNat = 0 from rfl] at hw163_2)
    (try rw [show 0 * 8 = 0 from rfl] at hw163_2)
    (try rw [Addr.add_zero'] at hw163_2)
    have hw163_1 := hx163_1
    (try rw [show ((0 : Int)).toNat = 0 from rfl] at hw163_1)
    (try rw [show 0 * 8 = 0 from rfl] at hw163_1)
    (try rw [Addr.add_zero'] at hw163_1)
    have hw163_0 := hx163_0
    (try rw [show ((0 : Int)).toNat = 0 from rfl] at hw163_0)
    (try rw [show 0 * 8 = 0 from rfl] at hw163_0)
    (try rw [Addr.add_zero'] at hw163_0)
    cases e163
    have qi163 : (0 < l0_7.length) = True := eq_true (by omega)
    (try rw [show ((0 : Int)).toNat = 0 from rfl] at hx163_0)
    (try rw [show 0 * 8 = 0 from rfl] at hx163_0)
    (try rw [Addr.add_zero'] at hx163_0)
    (try rw [show ((0 : Int)).toNat = 0 from rfl] at hx163_1)
    (try rw [show 0 * 8 = 0 from rfl] at hx163_1)
    (try rw [Addr.add_zero'] at hx163_1)
    (try rw [show ((0 : Int)).toNat = 0 from rfl] at hx163_2)
    (try rw [show 0 * 8 = 0 from rfl] at hx163_2)
    (try rw [Addr.add_zero'] at hx163_2)
    (try rw [show ((0 : Int)).toNat = 0 from rfl] at hx163_3)
    (try rw [show 0 * 8 = 0 from rfl] at hx163_3)
    (try rw [Addr.add_zero'] at hx163_3)
    (try rw [show ((0 : Int)).toNat = 0 from rfl] at hx163_4)
    (try rw [show 0 * 8 = 0 from rfl] at hx163_4)
    (try rw [Addr.add_zero'] at hx163_4)
    (try rw [show ((0 : Int)).toNat = 0 from rfl] at hx163_5)
    (try rw [show 0 * 8 = 0 from rfl] at hx163_5)
    (try rw [Addr.add_zero'] at hx163_5)
    (try rw [show ((0 : Int)).toNat = 0 from rfl] at hx163_6)
    (try rw [show 0 * 8 = 0 from rfl] at hx163_6)
    (try rw [Addr.add_zero'] at hx163_6)
    (try rw [show ((0 : Int)).toNat = 0 from rfl] at hx163_7)
    (try rw [show 0 * 8 = 0 from rfl] at hx163_7)
    (try rw [Addr.add_zero'] at hx163_7)
    replace hx163_0 := (HB.out.cell (World.block_lt_of_cell? w _ hx163_0)).trans hx163_0
    replace hx163_1 := (HB.out.cell (World.block_lt_of_cell? w _ hx163_1)).trans hx163_1
    replace hx163_2 := (HB.out.cell (World.block_lt_of_cell? w _ hx163_2)).trans hx163_2
    replace hx163_3 := (HB.out.cell (World.block_lt_of_cell? w _ hx163_3)).trans hx163_3
    replace hx163_4 := (HB.out.cell (World.block_lt_of_cell? w _ hx163_4)).trans hx163_4
    replace hx163_5 := (HB.out.cell (World.block_lt_of_cell? w _ hx163_5)).trans hx163_5
    replace hx163_6 := (HB.out.cell (World.block_lt_of_cell? w _ hx163_6)).trans hx163_6
    replace hx163_7 := (HB.out.cell (World.block_lt_of_cell? w _ hx163_7)).trans hx163_7
    have HR163_7 := Aside0.mk hi163_7
    have HC163_7 := Aside0.mk hl163_7
    clear hi163_7 hl163_7
    replace p163 := eq_true p163
    replace q163 := eq_true q163
    have p164 : 0 ≤ (1 : Int) := (by omega)
    have q164 : 1 < (l0_7.length : Int) := of_decide_eq_true (by first | (with_reducible assumption) | assumption)
    obtain ⟨ad164, A164_7, c164_7, e164, hx164_0, hx164_1, hx164_2, hx164_3, hx164_4, hx164_5, hx164_6, hx164_7, hl164_7, hi164_7⟩ := at_T43 HR0_7.out 1 p164 q164
    have hw164_7 := hx164_7
    (try rw [show ((1 : Int)).toNat = 1 from rfl] at hw164_7)
    (try rw [show 1 * 8 = 8 from rfl] at hw164_7)
    (try simp only [Nat.reduceMul, Nat.reduceEqDiff, Go.Addr.add, ↓reduceIte] at hw164_7)
    have hw164_6 := hx164_6
    (try rw [show ((1 : Int)).toNat = 1 from rfl] at hw164_6)
    (try rw [show 1 * 8 = 8 from rfl] at hw164_6)
    (try simp only [Nat.reduceMul, Nat.reduceEqDiff, Go.Addr.add, ↓reduceIte] at hw164_6)
    have hw164_5 := hx164_5
    (try rw [show ((1 : Int)).toNat = 1 from rfl] at hw164_5)
    (try rw [show 1 * 8 = 8 from rfl] at hw164_5)
    (try simp only [Nat.reduceMul, Nat.reduceEqDiff, Go.Addr.add, ↓reduceIte] at hw164_5)
    have hw164_4 := hx164_4
    (try rw [show ((1 : Int)).toNat = 1 from rfl] at hw164_4)
    (try rw [show 1 * 8 = 8 from rfl] at hw164_4)
    (try simp only [Nat.reduceMul, Nat.reduceEqDiff, Go.Addr.add, ↓reduceIte] at hw164_4)
    have hw164_3 := hx164_3
    (try rw [show ((1 : Int)).toNat = 1 from rfl] at hw164_3)
    (try rw [show 1 * 8 = 8 from rfl] at hw164_3)
    (try simp only [Nat.reduceMul, Nat.reduceEqDiff, Go.Addr.add, ↓reduceIte] at hw164_3)
    have hw164_2 := hx164_2
    (try rw [show ((1 : Int)).toNat = 1 from rfl] at hw164_2)
    (try rw [show 1 * 8 = 8 from rfl] at hw164_2)
    (try simp only [Nat.reduceMul, Nat.reduceEqDiff, Go.Addr.add, ↓reduceIte] at hw164_2)
    have hw164_1 := hx164_1
    (try rw [show ((1 : Int)).toNat = 1 from rfl] at hw164_1)
    (try rw [show 1 * 8 = 8 from rfl] at hw164_1)
    (try simp only [Nat.reduceMul, Nat.reduceEqDiff, Go.Addr.add, ↓reduceIte] at hw164_1)
    have hw164_0 := hx164_0
    (try rw [show ((1 : Int)).toNat = 1 from rfl] at hw164_0)
    (try rw [show 1 * 8 = 8 from rfl] at hw164_0)
    (try simp only [Nat.reduceMul, Nat.reduceEqDiff, Go.Addr.add, ↓reduceIte] at hw164_0)
    obtain rfl : ad163 = ad164 := (by injection e164)
    (try simp only [show (1 : Int).toNat = 1 from rfl, Nat.reduceMul, Nat.reduceEqDiff, Go.Addr.add, ↓reduceIte] at hx164_0)
    (try simp only [show (1 : Int).toNat = 1 from rfl, Nat.reduceMul, Nat.reduceEqDiff, Go.Addr.add, ↓reduceIte] at hx164_1)
    (try simp only [show (1 : Int).toNat = 1 from rfl, Nat.reduceMul, Nat.reduceEqDiff, Go.Addr.add, ↓reduceIte] at hx164_2)
    (try simp only [show (1 : Int).toNat = 1 from rfl, Nat.reduceMul, Nat.reduceEqDiff, Go.Addr.add, ↓reduceIte] at hx164_3)
    (try simp only [show (1 : Int).toNat = 1 from rfl, Nat.reduceMul, Nat.reduceEqDiff, Go.Addr.add, ↓reduceIte] at hx164_4)
    (try simp only [show (1 : Int).toNat = 1 from rfl, Nat.reduceMul, Nat.reduceEqDiff, Go.Addr.add, ↓reduceIte] at hx164_5)
    (try simp only [show (1 : Int).toNat = 1 from rfl, Nat.reduceMul, Nat.reduceEqDiff, Go.Addr.add, ↓reduceIte] at hx164_6)
    (try simp only [show (1 : Int).toNat = 1 from rfl, Nat.reduceMul, Nat.reduceEqDiff, Go.Addr.add, ↓reduceIte] at hx164_7)
    have qi164 : (1 < l0_7.length) = True := eq_true (by omega)
    (try rw [show ((1 : Int)).toNat = 1 from rfl] at hx164_0)
    (try rw [show 1 * 8 = 8 from rfl] at hx164_0)
    (try rw [show ((1 : Int)).toNat = 1 from rfl] at hx164_1)
    (try rw [show 1 * 8 = 8 from rfl] at hx164_1)
    (try rw [show ((1 : Int)).toNat = 1 from rfl] at hx164_2)
    (try rw [show 1 * 8 = 8 from rfl] at hx164_2)
    (try rw [show ((1 : Int)).toNat = 1 from rfl] at hx164_3)
    (try rw [show 1 * 8 = 8 from rfl] at hx164_3)
    (try rw [show ((1 : Int)).toNat = 1 from rfl] at hx164_4)
    (try rw [show 1 * 8 = 8 from rfl] at hx164_4)
    (try rw [show ((1 : Int)).toNat = 1 from rfl] at hx164_5)
    (try rw [show 1 * 8 = 8 from rfl] at hx164_5)
    (try rw [show ((1 : Int)).toNat = 1 from rfl] at hx164_6)
    (try rw [show 1 * 8 = 8 from rfl] at hx164_6)
    (try rw [show ((1 : Int)).toNat = 1 from rfl] at hx164_7)
    (try rw [show 1 * 8 = 8 from rfl] at hx164_7)
    replace hx164_0 := (HB.out.cell (World.block_lt_of_cell? w _ hx164_0)).trans hx164_0
    replace hx164_1 := (HB.out.cell (World.block_lt_of_cell? w _ hx164_1)).trans hx164_1
    replace hx164_2 := (HB.out.cell (World.block_lt_of_cell? w _ hx164_2)).trans hx164_2
    replace hx164_3 := (HB.out.cell (World.block_lt_of_cell? w _ hx164_3)).trans hx164_3
    replace hx164_4 := (HB.out.cell (World.block_lt_of_cell? w _ hx164_4)).trans hx164_4
    replace hx164_5 := (HB.out.cell (World.block_lt_of_cell? w _ hx164_5)).trans hx164_5
    replace hx164_6 := (HB.out.cell (World.block_lt_of_cell? w _ hx164_6)).trans hx164_6
    replace hx164_7 := (HB.out.cell (World.block_lt_of_cell? w _ hx164_7)).trans hx164_7
    have HR164_7 := Aside0.mk hi164_7
    have HC164_7 := Aside0.mk hl164_7
    clear hi164_7 hl164_7
    replace p164 := eq_true p164
    replace q164 := eq_true q164
    refine start_ (n := 15) (S := fun w' => True) (ds := []) #[false, false, false, false, false, false, false, false, false, false, false, false, false, false, false] (by kernel_rfl) rfl rfl trivial (fun hHeld => ?_); refine with_tabW plan_bound.tab3 plan_bound.bits3 (fun HT_ HW_ => ?_)
    generalize wc.drew = w22 at BK160 BK161 HB HR163_7 HR164_7 hx163_0 hx163_1 hx163_2 hx163_3 hx163_4 hx163_5 hx163_6 hx163_7 hx164_0 hx164_1 hx164_2 hx164_3 hx164_4 hx164_5 hx164_6 hx164_7 hHeld ⊢
    refine pure_ (i := 0) (N := some 27) (v := ?_) (a' := ?_) #[true, false, false, false, false, false, false, false, false, false, false, false, false, false, false] rfl rfl (any_of HT_.out (by kernel_rfl)) (fun _ _ _ h => h) (Or.inl ⟨by rfl, ?_⟩) ?_ ?_
    rotate_left
    · intro w'
      go_simp
      with_reducible rfl
    rotate_left
    · simp only [Act.put, List.setIfInBounds_toArray, List.set_cons_zero, List.set_cons_succ, i64_w, i32_w]
      rfl
    refine pure_ (i := 4) (N := some 31) (v := ?_) (a' := ?_) #[true, false, false, false, true, false, false, false, false, false, false, false, false, false, false] rfl rfl (any_of HT_.out (by kernel_rfl)) (fun _ _ _ h => h) (Or.inl ⟨by rfl, ?_⟩) ?_ ?_
    rotate_left
    · intro w'
      go_simp
      with_reducible rfl
    rotate_left
    · simp only [Act.put, List.setIfInBounds_toArray, List.set_cons_zero, List.set_cons_succ, i64_w, i32_w]
      rfl
    refine pure_ (i := 8) (N := some 35) (v := ?_) (a' := ?_) #[true, false, false, false, true, false, false, false, true, false, false, false, false, false, false] rfl rfl (any_of HT_.out (by kernel_rfl)) (fun _ _ _ h => h) (Or.inl ⟨by rfl, ?_⟩) ?_ ?_
    rotate_left
    · intro w'
      go_simp
      with_reducible rfl
    rotate_left
    · simp only [Act.put, List.setIfInBounds_toArray, List.set_cons_zero, List.set_cons_succ, i64_w, i32_w]
      rfl
    refine inv_at [1, 2, 3, 5, 6, 7, 9, 10, 11, 12, 13, 14] (fun a0_ b a w' => ∃ (gb165 : Nat) (gb166 : Nat) (m10_ : Value) (m11_ : Value), a = putSel a0_ b [(1, 28, .slice (some ad163) l0_7.length c0_7), (2, 29, .pointer (some ad163)), (3, 30, .agg #[.string ((rd_T43 l0_7 0).f0), .int .i64 ((rd_T43 l0_7 0).f1), .int .i64 ((rd_T43 l0_7 0).f2), .int .i64 ((rd_T43 l0_7 0).f3.f0), .int .i64 ((rd_T43 l0_7 0).f3.f1), .string ((rd_T43 l0_7 0).f3.f2), .bool ((rd_T43 l0_7 0).f3.f3), .slice A163_7 ((rd_T43 l0_7 0).f4).length c163_7]), (5, 32, .slice (some ad163) l0_7.length c0_7), (6, 33, .pointer (some (ad163.add 8))), (7, 34, .agg #[.string ((rd_T43 l0_7 1).f0), .int .i64 ((rd_T43 l0_7 1).f1), .int .i64 ((rd_T43 l0_7 1).f2), .int .i64 ((rd_T43 l0_7 1).f3.f0), .int .i64 ((rd_T43 l0_7 1).f3.f1), .string ((rd_T43 l0_7 1).f3.f2), .bool ((rd_T43 l0_7 1).f3.f3), .slice A164_7 ((rd_T43 l0_7 1).f4).length c164_7]), (9, 36, .string a0_0), (10, 8, m10_), (11, 9, m11_), (14, 10, .string a0_0)] ∧ (w'.heap[gb160]? = some (.cells #[.string a0_0, .int .i64 a0_1, .int .i64 a0_2, .int .i64 a0_3, .int .i64 a0_4, .string a0_5, .bool a0_6, .slice (some ad163) l0_7.length c0_7] 43 (0, 0))) ∧ (w'.heap[gb161]? = some (.cells #[.string (⟨#[]⟩ : ByteArray), .string (⟨#[]⟩ : ByteArray), .bool false, .bool false, .bool false, .bool false] 35 (0, 0))) ∧ (Below w.heap.size w w') ∧ (b 10 = true → b 11 = true → gb166 ≠ gb165) ∧ (b 10 = true → b 11 = true → gb165 ≠ gb166) ∧ (b 10 = true → b 12 = false → w'.heap[gb165]? = some (.cells #[.string (⟨#[]⟩ : ByteArray), .int .i64 0, .int .i64 0, .int .i64 0, .int .i64 0, .string (⟨#[]⟩ : ByteArray), .bool false, .slice none 0 0] 43 (0, 0))) ∧ (b 10 = true → w.heap.size ≤ gb165) ∧ (b 10 = true → w.heap.size ≤ gb165) ∧ (b 10 = true → gb160 ≠ gb165) ∧ (b 10 = true → gb165 ≠ gb160) ∧ (b 10 = true → gb161 ≠ gb165) ∧ (b 10 = true → gb165 ≠ gb161) ∧ (b 11 = true → b 13 = false → w'.heap[gb166]? = some (.cells #[.string (⟨#[]⟩ : ByteArray), .int .i64 0, .int .i64 0, .int .i64 0, .int .i64 0, .string (⟨#[]⟩ : ByteArray), .bool false, .slice none 0 0] 43 (0, 0))) ∧ (b 11 = true → w.heap.size ≤ gb166) ∧ (b 11 = true → w.heap.size ≤ gb166) ∧ (b 11 = true → gb160 ≠ gb166) ∧ (b 11 = true → gb166 ≠ gb160) ∧ (b 11 = true → gb161 ≠ gb166) ∧ (b 11 = true → gb166 ≠ gb161) ∧ (b 12 = true → w'.heap[gb165]? = some (.cells #[.string ((rd_T43 l0_7 0).f0), .int .i64 ((rd_T43 l0_7 0).f1), .int .i64 ((rd_T43 l0_7 0).f2), .int .i64 ((rd_T43 l0_7 0).f3.f0), .int .i64 ((rd_T43 l0_7 0).f3.f1), .string ((rd_T43 l0_7 0).f3.f2), .bool ((rd_T43 l0_7 0).f3.f3), .slice A163_7 ((rd_T43 l0_7 0).f4).length c163_7] 43 (0, 0))) ∧ (b 13 = true → w'.heap[gb166]? = some (.cells #[.string ((rd_T43 l0_7 1).f0), .int .i64 ((rd_T43 l0_7 1).f1), .int .i64 ((rd_T43 l0_7 1).f2), .int .i64 ((rd_T43 l0_7 1).f3.f0), .int .i64 ((rd_T43 l0_7 1).f3.f1), .string ((rd_T43 l0_7 1).f3.f2), .bool ((rd_T43 l0_7 1).f3.f3), .slice A164_7 ((rd_T43 l0_7 1).f4).length c164_7] 43 (0, 0))) ∧ (b 10 = true → (m10_ : Value) = .pointer (some ⟨gb165, 0, none⟩)) ∧ (b 11 = true → (m11_ : Value) = .pointer (some ⟨gb166, 0, none⟩))) HT_.out HW_.out (by kernel_rfl) (by kernel_rfl) ?_ ?_ ?_
    · exact ⟨0, 0, .bool false, .bool false, by simp only [putSel, Bool.false_eq_true, if_false], BK160.out, BK161.out, HB.out, fun h_ => absurd h_ (by decide), fun h_ => absurd h_ (by decide), fun h_ => absurd h_ (by decide), fun h_ => absurd h_ (by decide), fun h_ => absurd h_ (by decide), fun h_ => absurd h_ (by decide), fun h_ => absurd h_ (by decide), fun h_ => absurd h_ (by decide), fun h_ => absurd h_ (by decide), fun h_ => absurd h_ (by decide), fun h_ => absurd h_ (by decide), fun h_ => absurd h_ (by decide), fun h_ => absurd h_ (by decide), fun h_ => absurd h_ (by decide), fun h_ => absurd h_ (by decide), fun h_ => absurd h_ (by decide), fun h_ => absurd h_ (by decide), fun h_ => absurd h_ (by decide), fun h_ => absurd h_ (by decide), fun h_ => absurd h_ (by decide)⟩
    · skip
      clear BK160 BK161 HB
      refine steps_cons ?_ ?_
      · rintro b a w' ⟨gb165, gb166, m10_, m11_, ha, Q_BK160, Q_BK161, Q_HB, Q_NB166_165, Q_NB165_166, Q_BK165, Q_GW165, Q_GE165, Q_NB160_165, Q_NB165_160, Q_NB161_165, Q_NB165_161, Q_BK166, Q_GW166, Q_GE166, Q_NB160_166, Q_NB166_160, Q_NB161_166, Q_NB166_161, Q_BK165_e12, Q_BK166_e13, Q_X10_, Q_X11_⟩ hb_ hon hoff
        refine ⟨_, rfl, fun K hK => ?_⟩
        have e27 : a.tmps[27]? = some (.pointer (some ⟨gb160, 7, none⟩)) := by rw [ha]; exact (putSel_off rfl).trans rfl
        replace ha := Aside0.mk ha
        have BK160 := Aside0.mk Q_BK160
        have BK161 := Aside0.mk Q_BK161
        have HB := Aside0.mk Q_HB
        have hc0_ : w'.cell? ⟨gb160, 0, none⟩ = some (.string a0_0) := (blk_cell BK160.out 0).trans rfl
        have hc1_ : w'.cell? ⟨gb160, 1, none⟩ = some (.int .i64 a0_1) := (blk_cell BK160.out 1).trans rfl
        have hc2_ : w'.cell? ⟨gb160, 2, none⟩ = some (.int .i64 a0_2) := (blk_cell BK160.out 2).trans rfl
        have hc3_ : w'.cell? ⟨gb160, 3, none⟩ = some (.int .i64 a0_3) := (blk_cell BK160.out 3).trans rfl
        have hc4_ : w'.cell? ⟨gb160, 4, none⟩ = some (.int .i64 a0_4) := (blk_cell BK160.out 4).trans rfl
        have hc5_ : w'.cell? ⟨gb160, 5, none⟩ = some (.string a0_5) := (blk_cell BK160.out 5).trans rfl
        have hc6_ : w'.cell? ⟨gb160, 6, none⟩ = some (.bool a0_6) := (blk_cell BK160.out 6).trans rfl
        have hc7_ : w'.cell? ⟨gb160, 7, none⟩ = some (.slice (some ad163) l0_7.length c0_7) := (blk_cell BK160.out 7).trans rfl
        refine value_ (w1 := w') (v := .slice (some ad163) l0_7.length c0_7) (by rfl) rfl ?_ ?_
        · go_simp
          (try simp only [i64_w])
          try rfl
        refine hK.out _ _ ⟨gb165, gb166, m10_, m11_, (by rw [ha.out]; exact putSel_upk 0 hb_ rfl rfl rfl), Q_BK160, Q_BK161, Q_HB, Q_NB166_165, Q_NB165_166, Q_BK165, Q_GW165, Q_GE165, Q_NB160_165, Q_NB165_160, Q_NB161_165, Q_NB165_161, Q_BK166, Q_GW166, Q_GE166, Q_NB160_166, Q_NB166_160, Q_NB161_166, Q_NB166_161, fun h0_ => absurd ((hoff 12 (by kernel_rfl)).symm.trans h0_) (by decide), fun h0_ => absurd ((hoff 13 (by kernel_rfl)).symm.trans h0_) (by decide), Q_X10_, Q_X11_⟩
      refine steps_cons ?_ ?_
      · rintro b a w' ⟨gb165, gb166, m10_, m11_, ha, Q_BK160, Q_BK161, Q_HB, Q_NB166_165, Q_NB165_166, Q_BK165, Q_GW165, Q_GE165, Q_NB160_165, Q_NB165_160, Q_NB161_165, Q_NB165_161, Q_BK166, Q_GW166, Q_GE166, Q_NB160_166, Q_NB166_160, Q_NB161_166, Q_NB166_161, Q_BK165_e12, Q_BK166_e13, Q_X10_, Q_X11_⟩ hb_ hon hoff
        refine ⟨_, rfl, fun K hK => ?_⟩
        have e28 : a.tmps[28]? = some (.slice (some ad163) l0_7.length c0_7) := by rw [ha]; exact putSel_on (e := (1, 28, .slice (some ad163) l0_7.length c0_7)) 0 rfl rfl (hon 1 (by kernel_rfl)) rfl
        replace ha := Aside0.mk ha
        have BK160 := Aside0.mk Q_BK160
        have BK161 := Aside0.mk Q_BK161
        have HB := Aside0.mk Q_HB
        have hs0_ : w'.cell? ad163 = some (.string ((rd_T43 l0_7 0).f0)) := ((HB.out.cell (World.block_lt_of_cell? w _ hw163_0)).trans hw163_0)
        have hs1_ : w'.cell? ⟨ad163.block, ad163.off + 1, none⟩ = some (.int .i64 ((rd_T43 l0_7 0).f1)) := ((HB.out.cell (World.block_lt_of_cell? w _ hw163_1)).trans hw163_1)
        have hs2_ : w'.cell? ⟨ad163.block, ad163.off + 2, none⟩ = some (.int .i64 ((rd_T43 l0_7 0).f2)) := ((HB.out.cell (World.block_lt_of_cell? w _ hw163_2)).trans hw163_2)
        have hs3_ : w'.cell? ⟨ad163.block, ad163.off + 3, none⟩ = some (.int .i64 ((rd_T43 l0_7 0).f3.f0)) := ((HB.out.cell (World.block_lt_of_cell? w _ hw163_3)).trans hw163_3)
        have hs4_ : w'.cell? ⟨ad163.block, ad163.off + 4, none⟩ = some (.int .i64 ((rd_T43 l0_7 0).f3.f1)) := ((HB.out.cell (World.block_lt_of_cell? w _ hw163_4)).trans hw163_4)
        have hs5_ : w'.cell? ⟨ad163.block, ad163.off + 5, none⟩ = some (.string ((rd_T43 l0_7 0).f3.f2)) := ((HB.out.cell (World.block_lt_of_cell? w _ hw163_5)).trans hw163_5)
        have hs6_ : w'.cell? ⟨ad163.block, ad163.off + 6, none⟩ = some (.bool ((rd_T43 l0_7 0).f3.f3)) := ((HB.out.cell (World.block_lt_of_cell? w _ hw163_6)).trans hw163_6)
        have hs7_ : w'.cell? ⟨ad163.block, ad163.off + 7, none⟩ = some (.slice A163_7 ((rd_T43 l0_7 0).f4).length c163_7) := ((HB.out.cell (World.block_lt_of_cell? w _ hw163_7)).trans hw163_7)
        refine value_ (w1 := w') (v := .pointer (some ad163)) (by rfl) rfl ?_ ?_
        · go_simp
          (try simp only [i64_w])
          try rfl
        refine hK.out _ _ ⟨gb165, gb166, m10_, m11_, (by rw [ha.out]; exact putSel_upk 1 hb_ rfl rfl rfl), Q_BK160, Q_BK161, Q_HB, Q_NB166_165, Q_NB165_166, Q_BK165, Q_GW165, Q_GE165, Q_NB160_165, Q_NB165_160, Q_NB161_165, Q_NB165_161, Q_BK166, Q_GW166, Q_GE166, Q_NB160_166, Q_NB166_160, Q_NB161_166, Q_NB166_161, fun h0_ => absurd ((hoff 12 (by kernel_rfl)).symm.trans h0_) (by decide), fun h0_ => absurd ((hoff 13 (by kernel_rfl)).symm.trans h0_) (by decide), Q_X10_, Q_X11_⟩
      refine steps_cons ?_ ?_
      · rintro b a w' ⟨gb165, gb166, m10_, m11_, ha, Q_BK160, Q_BK161, Q_HB, Q_NB166_165, Q_NB165_166, Q_BK165, Q_GW165, Q_GE165, Q_NB160_165, Q_NB165_160, Q_NB161_165, Q_NB165_161, Q_BK166, Q_GW166, Q_GE166, Q_NB160_166, Q_NB166_160, Q_NB161_166, Q_NB166_161, Q_BK165_e12, Q_BK166_e13, Q_X10_, Q_X11_⟩ hb_ hon hoff
        refine ⟨_, rfl, fun K hK => ?_⟩
        have e29 : a.tmps[29]? = some (.pointer (some ad163)) := by rw [ha]; exact putSel_on (e := (2, 29, .pointer (some ad163))) 1 rfl rfl (hon 2 (by kernel_rfl)) rfl
        replace ha := Aside0.mk ha
        have BK160 := Aside0.mk Q_BK160
        have BK161 := Aside0.mk Q_BK161
        have HB := Aside0.mk Q_HB
        have hs0_ : w'.cell? ad163 = some (.string ((rd_T43 l0_7 0).f0)) := ((HB.out.cell (World.block_lt_of_cell? w _ hw163_0)).trans hw163_0)
        have hs1_ : w'.cell? ⟨ad163.block, ad163.off + 1, none⟩ = some (.int .i64 ((rd_T43 l0_7 0).f1)) := ((HB.out.cell (World.block_lt_of_cell? w _ hw163_1)).trans hw163_1)
        have hs2_ : w'.cell? ⟨ad163.block, ad163.off + 2, none⟩ = some (.int .i64 ((rd_T43 l0_7 0).f2)) := ((HB.out.cell (World.block_lt_of_cell? w _ hw163_2)).trans hw163_2)
        have hs3_ : w'.cell? ⟨ad163.block, ad163.off + 3, none⟩ = some (.int .i64 ((rd_T43 l0_7 0).f3.f0)) := ((HB.out.cell (World.block_lt_of_cell? w _ hw163_3)).trans hw163_3)
        have hs4_ : w'.cell? ⟨ad163.block, ad163.off + 4, none⟩ = some (.int .i64 ((rd_T43 l0_7 0).f3.f1)) := ((HB.out.cell (World.block_lt_of_cell? w _ hw163_4)).trans hw163_4)
        have hs5_ : w'.cell? ⟨ad163.block, ad163.off + 5, none⟩ = some (.string ((rd_T43 l0_7 0).f3.f2)) := ((HB.out.cell (World.block_lt_of_cell? w _ hw163_5)).trans hw163_5)
        have hs6_ : w'.cell? ⟨ad163.block, ad163.off + 6, none⟩ = some (.bool ((rd_T43 l0_7 0).f3.f3)) := ((HB.out.cell (World.block_lt_of_cell? w _ hw163_6)).trans hw163_6)
        have hs7_ : w'.cell? ⟨ad163.block, ad163.off + 7, none⟩ = some (.slice A163_7 ((rd_T43 l0_7 0).f4).length c163_7) := ((HB.out.cell (World.block_lt_of_cell? w _ hw163_7)).trans hw163_7)
        refine value_ (w1 := w') (v := .agg #[.string ((rd_T43 l0_7 0).f0), .int .i64 ((rd_T43 l0_7 0).f1), .int .i64 ((rd_T43 l0_7 0).f2), .int .i64 ((rd_T43 l0_7 0).f3.f0), .int .i64 ((rd_T43 l0_7 0).f3.f1), .string ((rd_T43 l0_7 0).f3.f2), .bool ((rd_T43 l0_7 0).f3.f3), .slice A163_7 ((rd_T43 l0_7 0).f4).length c163_7]) (by rfl) rfl ?_ ?_
        · go_simp
          (try simp only [i64_w])
          try rfl
        refine hK.out _ _ ⟨gb165, gb166, m10_, m11_, (by rw [ha.out]; exact putSel_upk 2 hb_ rfl rfl rfl), Q_BK160, Q_BK161, Q_HB, Q_NB166_165, Q_NB165_166, Q_BK165, Q_GW165, Q_GE165, Q_NB160_165, Q_NB165_160, Q_NB161_165, Q_NB165_161, Q_BK166, Q_GW166, Q_GE166, Q_NB160_166, Q_NB166_160, Q_NB161_166, Q_NB166_161, fun h0_ => absurd ((hoff 12 (by kernel_rfl)).symm.trans h0_) (by decide), fun h0_ => absurd ((hoff 13 (by kernel_rfl)).symm.trans h0_) (by decide), Q_X10_, Q_X11_⟩
      refine steps_cons ?_ ?_
      · rintro b a w' ⟨gb165, gb166, m10_, m11_, ha, Q_BK160, Q_BK161, Q_HB, Q_NB166_165, Q_NB165_166, Q_BK165, Q_GW165, Q_GE165, Q_NB160_165, Q_NB165_160, Q_NB161_165, Q_NB165_161, Q_BK166, Q_GW166, Q_GE166, Q_NB160_166, Q_NB166_160, Q_NB161_166, Q_NB166_161, Q_BK165_e12, Q_BK166_e13, Q_X10_, Q_X11_⟩ hb_ hon hoff
        refine ⟨_, rfl, fun K hK => ?_⟩
        have e31 : a.tmps[31]? = some (.pointer (some ⟨gb160, 7, none⟩)) := by rw [ha]; exact (putSel_off rfl).trans rfl
        replace ha := Aside0.mk ha
        have BK160 := Aside0.mk Q_BK160
        have BK161 := Aside0.mk Q_BK161
        have HB := Aside0.mk Q_HB
        have hc0_ : w'.cell? ⟨gb160, 0, none⟩ = some (.string a0_0) := (blk_cell BK160.out 0).trans rfl
        have hc1_ : w'.cell? ⟨gb160, 1, none⟩ = some (.int .i64 a0_1) := (blk_cell BK160.out 1).trans rfl
        have hc2_ : w'.cell? ⟨gb160, 2, none⟩ = some (.int .i64 a0_2) := (blk_cell BK160.out 2).trans rfl
        have hc3_ : w'.cell? ⟨gb160, 3, none⟩ = some (.int .i64 a0_3) := (blk_cell BK160.out 3).trans rfl
        have hc4_ : w'.cell? ⟨gb160, 4, none⟩ = some (.int .i64 a0_4) := (blk_cell BK160.out 4).trans rfl
        have hc5_ : w'.cell? ⟨gb160, 5, none⟩ = some (.string a0_5) := (blk_cell BK160.out 5).trans rfl
        have hc6_ : w'.cell? ⟨gb160, 6, none⟩ = some (.bool a0_6) := (blk_cell BK160.out 6).trans rfl
        have hc7_ : w'.cell? ⟨gb160, 7, none⟩ = some (.slice (some ad163) l0_7.length c0_7) := (blk_cell BK160.out 7).trans rfl
        refine value_ (w1 := w') (v := .slice (some ad163) l0_7.length c0_7) (by rfl) rfl ?_ ?_
        · go_simp
          (try simp only [i64_w])
          try rfl
        refine hK.out _ _ ⟨gb165, gb166, m10_, m11_, (by rw [ha.out]; exact putSel_upk 3 hb_ rfl rfl rfl), Q_BK160, Q_BK161, Q_HB, Q_NB166_165, Q_NB165_166, Q_BK165, Q_GW165, Q_GE165, Q_NB160_165, Q_NB165_160, Q_NB161_165, Q_NB165_161, Q_BK166, Q_GW166, Q_GE166, Q_NB160_166, Q_NB166_160, Q_NB161_166, Q_NB166_161, Q_BK165_e12, fun h0_ => absurd ((hoff 13 (by kernel_rfl)).symm.trans h0_) (by decide), Q_X10_, Q_X11_⟩
      refine steps_cons ?_ ?_
      · rintro b a w' ⟨gb165, gb166, m10_, m11_, ha, Q_BK160, Q_BK161, Q_HB, Q_NB166_165, Q_NB165_166, Q_BK165, Q_GW165, Q_GE165, Q_NB160_165, Q_NB165_160, Q_NB161_165, Q_NB165_161, Q_BK166, Q_GW166, Q_GE166, Q_NB160_166, Q_NB166_160, Q_NB161_166, Q_NB166_161, Q_BK165_e12, Q_BK166_e13, Q_X10_, Q_X11_⟩ hb_ hon hoff
        refine ⟨_, rfl, fun K hK => ?_⟩
        have e32 : a.tmps[32]? = some (.slice (some ad163) l0_7.length c0_7) := by rw [ha]; exact putSel_on (e := (5, 32, .slice (some ad163) l0_7.length c0_7)) 3 rfl rfl (hon 5 (by kernel_rfl)) rfl
        replace ha := Aside0.mk ha
        have BK160 := Aside0.mk Q_BK160
        have BK161 := Aside0.mk Q_BK161
        have HB := Aside0.mk Q_HB
        have hs8_ : w'.cell? ⟨ad163.block, ad163.off + 8, none⟩ = some (.string ((rd_T43 l0_7 1).f0)) := ((HB.out.cell (World.block_lt_of_cell? w _ hw164_0)).trans hw164_0)
        have hs9_ : w'.cell? ⟨ad163.block, ad163.off + 8 + 1, none⟩ = some (.int .i64 ((rd_T43 l0_7 1).f1)) := ((HB.out.cell (World.block_lt_of_cell? w _ hw164_1)).trans hw164_1)
        have hs10_ : w'.cell? ⟨ad163.block, ad163.off + 8 + 2, none⟩ = some (.int .i64 ((rd_T43 l0_7 1).f2)) := ((HB.out.cell (World.block_lt_of_cell? w _ hw164_2)).trans hw164_2)
        have hs11_ : w'.cell? ⟨ad163.block, ad163.off + 8 + 3, none⟩ = some (.int .i64 ((rd_T43 l0_7 1).f3.f0)) := ((HB.out.cell (World.block_lt_of_cell? w _ hw164_3)).trans hw164_3)
        have hs12_ : w'.cell? ⟨ad163.block, ad163.off + 8 + 4, none⟩ = some (.int .i64 ((rd_T43 l0_7 1).f3.f1)) := ((HB.out.cell (World.block_lt_of_cell? w _ hw164_4)).trans hw164_4)
        have hs13_ : w'.cell? ⟨ad163.block, ad163.off + 8 + 5, none⟩ = some (.string ((rd_T43 l0_7 1).f3.f2)) := ((HB.out.cell (World.block_lt_of_cell? w _ hw164_5)).trans hw164_5)
        have hs14_ : w'.cell? ⟨ad163.block, ad163.off + 8 + 6, none⟩ = some (.bool ((rd_T43 l0_7 1).f3.f3)) := ((HB.out.cell (World.block_lt_of_cell? w _ hw164_6)).trans hw164_6)
        have hs15_ : w'.cell? ⟨ad163.block, ad163.off + 8 + 7, none⟩ = some (.slice A164_7 ((rd_T43 l0_7 1).f4).length c164_7) := ((HB.out.cell (World.block_lt_of_cell? w _ hw164_7)).trans hw164_7)
        refine value_ (w1 := w') (v := .pointer (some (ad163.add 8))) (by rfl) rfl ?_ ?_
        · go_simp
          (try simp only [i64_w])
          try rfl
        refine hK.out _ _ ⟨gb165, gb166, m10_, m11_, (by rw [ha.out]; exact putSel_upk 4 hb_ rfl rfl rfl), Q_BK160, Q_BK161, Q_HB, Q_NB166_165, Q_NB165_166, Q_BK165, Q_GW165, Q_GE165, Q_NB160_165, Q_NB165_160, Q_NB161_165, Q_NB165_161, Q_BK166, Q_GW166, Q_GE166, Q_NB160_166, Q_NB166_160, Q_NB161_166, Q_NB166_161, Q_BK165_e12, fun h0_ => absurd ((hoff 13 (by kernel_rfl)).symm.trans h0_) (by decide), Q_X10_, Q_X11_⟩
      refine steps_cons ?_ ?_
      · rintro b a w' ⟨gb165, gb166, m10_, m11_, ha, Q_BK160, Q_BK161, Q_HB, Q_NB166_165, Q_NB165_166, Q_BK165, Q_GW165, Q_GE165, Q_NB160_165, Q_NB165_160, Q_NB161_165, Q_NB165_161, Q_BK166, Q_GW166, Q_GE166, Q_NB160_166, Q_NB166_160, Q_NB161_166, Q_NB166_161, Q_BK165_e12, Q_BK166_e13, Q_X10_, Q_X11_⟩ hb_ hon hoff
        refine ⟨_, rfl, fun K hK => ?_⟩
        have e33 : a.tmps[33]? = some (.pointer (some (ad163.add 8))) := by rw [ha]; exact putSel_on (e := (6, 33, .pointer (some (ad163.add 8)))) 4 rfl rfl (hon 6 (by kernel_rfl)) rfl
        replace ha := Aside0.mk ha
        have BK160 := Aside0.mk Q_BK160
        have BK161 := Aside0.mk Q_BK161
        have HB := Aside0.mk Q_HB
        have hs8_ : w'.cell? ⟨ad163.block, ad163.off + 8, none⟩ = some (.string ((rd_T43 l0_7 1).f0)) := ((HB.out.cell (World.block_lt_of_cell? w _ hw164_0)).trans hw164_0)
        have hs9_ : w'.cell? ⟨ad163.block, ad163.off + 8 + 1, none⟩ = some (.int .i64 ((rd_T43 l0_7 1).f1)) := ((HB.out.cell (World.block_lt_of_cell? w _ hw164_1)).trans hw164_1)
        have hs10_ : w'.cell? ⟨ad163.block, ad163.off + 8 + 2, none⟩ = some (.int .i64 ((rd_T43 l0_7 1).f2)) := ((HB.out.cell (World.block_lt_of_cell? w _ hw164_2)).trans hw164_2)
        have hs11_ : w'.cell? ⟨ad163.block, ad163.off + 8 + 3, none⟩ = some (.int .i64 ((rd_T43 l0_7 1).f3.f0)) := ((HB.out.cell (World.block_lt_of_cell? w _ hw164_3)).trans hw164_3)
        have hs12_ : w'.cell? ⟨ad163.block, ad163.off + 8 + 4, none⟩ = some (.int .i64 ((rd_T43 l0_7 1).f3.f1)) := ((HB.out.cell (World.block_lt_of_cell? w _ hw164_4)).trans hw164_4)
        have hs13_ : w'.cell? ⟨ad163.block, ad163.off + 8 + 5, none⟩ = some (.string ((rd_T43 l0_7 1).f3.f2)) := ((HB.out.cell (World.block_lt_of_cell? w _ hw164_5)).trans hw164_5)
        have hs14_ : w'.cell? ⟨ad163.block, ad163.off + 8 + 6, none⟩ = some (.bool ((rd_T43 l0_7 1).f3.f3)) := ((HB.out.cell (World.block_lt_of_cell? w _ hw164_6)).trans hw164_6)
        have hs15_ : w'.cell? ⟨ad163.block, ad163.off + 8 + 7, none⟩ = some (.slice A164_7 ((rd_T43 l0_7 1).f4).length c164_7) := ((HB.out.cell (World.block_lt_of_cell? w _ hw164_7)).trans hw164_7)
        refine value_ (w1 := w') (v := .agg #[.string ((rd_T43 l0_7 1).f0), .int .i64 ((rd_T43 l0_7 1).f1), .int .i64 ((rd_T43 l0_7 1).f2), .int .i64 ((rd_T43 l0_7 1).f3.f0), .int .i64 ((rd_T43 l0_7 1).f3.f1), .string ((rd_T43 l0_7 1).f3.f2), .bool ((rd_T43 l0_7 1).f3.f3), .slice A164_7 ((rd_T43 l0_7 1).f4).length c164_7]) (by rfl) rfl ?_ ?_
        · go_simp
          (try simp only [i64_w])
          try rfl
        refine hK.out _ _ ⟨gb165, gb166, m10_, m11_, (by rw [ha.out]; exact putSel_upk 5 hb_ rfl rfl rfl), Q_BK160, Q_BK161, Q_HB, Q_NB166_165, Q_NB165_166, Q_BK165, Q_GW165, Q_GE165, Q_NB160_165, Q_NB165_160, Q_NB161_165, Q_NB165_161, Q_BK166, Q_GW166, Q_GE166, Q_NB160_166, Q_NB166_160, Q_NB161_166, Q_NB166_161, Q_BK165_e12, fun h0_ => absurd ((hoff 13 (by kernel_rfl)).symm.trans h0_) (by decide), Q_X10_, Q_X11_⟩
      refine steps_cons ?_ ?_
      · rintro b a w' ⟨gb165, gb166, m10_, m11_, ha, Q_BK160, Q_BK161, Q_HB, Q_NB166_165, Q_NB165_166, Q_BK165, Q_GW165, Q_GE165, Q_NB160_165, Q_NB165_160, Q_NB161_165, Q_NB165_161, Q_BK166, Q_GW166, Q_GE166, Q_NB160_166, Q_NB166_160, Q_NB161_166, Q_NB166_161, Q_BK165_e12, Q_BK166_e13, Q_X10_, Q_X11_⟩ hb_ hon hoff
        refine ⟨_, rfl, fun K hK => ?_⟩
        have e35 : a.tmps[35]? = some (.pointer (some ⟨gb160, 0, none⟩)) := by rw [ha]; exact (putSel_off rfl).trans rfl
        replace ha := Aside0.mk ha
        have BK160 := Aside0.mk Q_BK160
        have BK161 := Aside0.mk Q_BK161
        have HB := Aside0.mk Q_HB
        have hc0_ : w'.cell? ⟨gb160, 0, none⟩ = some (.string a0_0) := (blk_cell BK160.out 0).trans rfl
        have hc1_ : w'.cell? ⟨gb160, 1, none⟩ = some (.int .i64 a0_1) := (blk_cell BK160.out 1).trans rfl
        have hc2_ : w'.cell? ⟨gb160, 2, none⟩ = some (.int .i64 a0_2) := (blk_cell BK160.out 2).trans rfl
        have hc3_ : w'.cell? ⟨gb160, 3, none⟩ = some (.int .i64 a0_3) := (blk_cell BK160.out 3).trans rfl
        have hc4_ : w'.cell? ⟨gb160, 4, none⟩ = some (.int .i64 a0_4) := (blk_cell BK160.out 4).trans rfl
        have hc5_ : w'.cell? ⟨gb160, 5, none⟩ = some (.string a0_5) := (blk_cell BK160.out 5).trans rfl
        have hc6_ : w'.cell? ⟨gb160, 6, none⟩ = some (.bool a0_6) := (blk_cell BK160.out 6).trans rfl
        have hc7_ : w'.cell? ⟨gb160, 7, none⟩ = some (.slice (some ad163) l0_7.length c0_7) := (blk_cell BK160.out 7).trans rfl
        refine value_ (w1 := w') (v := .string a0_0) (by rfl) rfl ?_ ?_
        · go_simp
          (try simp only [i64_w])
          try rfl
        refine hK.out _ _ ⟨gb165, gb166, m10_, m11_, (by rw [ha.out]; exact putSel_upk 6 hb_ rfl rfl rfl), Q_BK160, Q_BK161, Q_HB, Q_NB166_165, Q_NB165_166, Q_BK165, Q_GW165, Q_GE165, Q_NB160_165, Q_NB165_160, Q_NB161_165, Q_NB165_161, Q_BK166, Q_GW166, Q_GE166, Q_NB160_166, Q_NB166_160, Q_NB161_166, Q_NB166_161, Q_BK165_e12, Q_BK166_e13, Q_X10_, Q_X11_⟩
      refine steps_cons ?_ ?_
      · rintro b a w' ⟨gb165, gb166, m10_, m11_, ha, Q_BK160, Q_BK161, Q_HB, Q_NB166_165, Q_NB165_166, Q_BK165, Q_GW165, Q_GE165, Q_NB160_165, Q_NB165_160, Q_NB161_165, Q_NB165_161, Q_BK166, Q_GW166, Q_GE166, Q_NB160_166, Q_NB166_160, Q_NB161_166, Q_NB166_161, Q_BK165_e12, Q_BK166_e13, Q_X10_, Q_X11_⟩ hb_ hon hoff
        refine ⟨_, rfl, fun K hK => ?_⟩
        replace ha := Aside0.mk ha
        have BK160 := Aside0.mk Q_BK160
        have BK161 := Aside0.mk Q_BK161
        have HB := Aside0.mk Q_HB
        refine box_step ?hg (N := 8) ?hd (cs := #[.string (⟨#[]⟩ : ByteArray), .int .i64 0, .int .i64 0, .int .i64 0, .int .i64 0, .string (⟨#[]⟩ : ByteArray), .bool false, .slice none 0 0]) (t := 43) ?hr ?_; (case hd => rfl); (case hg => rfl); (case hr => first | (go_simp; done) | (go_simp; rfl))
        intro gb165 hg w23 hbox hb
        have n0_ := Aside0.mk (blk_below (g := gb160) (o := .cells #[.string a0_0, .int .i64 a0_1, .int .i64 a0_2, .int .i64 a0_3, .int .i64 a0_4, .string a0_5, .bool a0_6, .slice (some ad163) l0_7.length c0_7] 43 (0, 0)) (bl_ BK160.out) hb)
        have n1_ := Aside0.mk (blk_below (g := gb161) (o := .cells #[.string (⟨#[]⟩ : ByteArray), .string (⟨#[]⟩ : ByteArray), .bool false, .bool false, .bool false, .bool false] 35 (0, 0)) (bl_ BK161.out) hb)
        have n2_ := Aside0.mk (below_step (bw_ HB.out) hb)
        have n3_ := Aside0.mk (hbox)
        have n4_ := Aside0.mk ((by rw [hg]; exact (below_size (bw_ HB.out)) : w.heap.size ≤ gb165))
        have n5_ := Aside0.mk ((by rw [hg]; exact (below_size (bw_ HB.out)) : w.heap.size ≤ gb165))
        have n6_ := Aside0.mk ((by rw [hg]; exact Nat.ne_of_lt (blk_lt (g := gb160) (o := .cells #[.string a0_0, .int .i64 a0_1, .int .i64 a0_2, .int .i64 a0_3, .int .i64 a0_4, .string a0_5, .bool a0_6, .slice (some ad163) l0_7.length c0_7] 43 (0, 0)) (bl_ BK160.out)) : gb160 ≠ gb165))
        have n7_ := Aside0.mk ((by rw [hg]; exact Nat.ne_of_gt (blk_lt (g := gb160) (o := .cells #[.string a0_0, .int .i64 a0_1, .int .i64 a0_2, .int .i64 a0_3, .int .i64 a0_4, .string a0_5, .bool a0_6, .slice (some ad163) l0_7.length c0_7] 43 (0, 0)) (bl_ BK160.out)) : gb165 ≠ gb160))
        have n8_ := Aside0.mk ((by rw [hg]; exact Nat.ne_of_lt (blk_lt (g := gb161) (o := .cells #[.string (⟨#[]⟩ : ByteArray), .string (⟨#[]⟩ : ByteArray), .bool false, .bool false, .bool false, .bool false] 35 (0, 0)) (bl_ BK161.out)) : gb161 ≠ gb165))
        have n9_ := Aside0.mk ((by rw [hg]; exact Nat.ne_of_gt (blk_lt (g := gb161) (o := .cells #[.string (⟨#[]⟩ : ByteArray), .string (⟨#[]⟩ : ByteArray), .bool false, .bool false, .bool false, .bool false] 35 (0, 0)) (bl_ BK161.out)) : gb165 ≠ gb161))
        have z_NB166_165 := fun (h0_ : up b 10 10 = true) (h1_ : up b 10 11 = true) => (show gb166 ≠ gb165 from ((by rw [hg]; exact Nat.ne_of_lt (by rcases hq_ : b 13 with _ | _; exact blk_lt (Q_BK166 h1_ hq_); exact blk_lt (Q_BK166_e13 hq_)) : gb166 ≠ gb165)))
        have z_NB165_166 := fun (h0_ : up b 10 10 = true) (h1_ : up b 10 11 = true) => (show gb165 ≠ gb166 from ((by rw [hg]; exact Nat.ne_of_gt (by rcases hq_ : b 13 with _ | _; exact blk_lt (Q_BK166 h1_ hq_); exact blk_lt (Q_BK166_e13 hq_)) : gb165 ≠ gb166)))
        have z_BK166 := fun (h0_ : b 11 = true) (h1_ : b 13 = false) => (show w23.heap[gb166]? = some (.cells #[.string (⟨#[]⟩ : ByteArray), .int .i64 0, .int .i64 0, .int .i64 0, .int .i64 0, .string (⟨#[]⟩ : ByteArray), .bool false, .slice none 0 0] 43 (0, 0)) from by first | exact (blk_below (g := gb166) (o := .cells #[.string (⟨#[]⟩ : ByteArray), .int .i64 0, .int .i64 0, .int .i64 0, .int .i64 0, .string (⟨#[]⟩ : ByteArray), .bool false, .slice none 0 0] 43 (0, 0)) (by (with_reducible repeat (first | refine blk_drewN ?_ _ | refine blk_drew ?_ | refine blk_alloc ?_ _)); exact (Q_BK166 h0_ h1_)) hb))
        clear BK160
        clear BK161
        clear HB
        have BK160 := n0_
        have BK161 := n1_
        have HB := n2_
        have BK165 := n3_
        have GW165 := n4_
        have GE165 := n5_
        have NB160_165 := n6_
        have NB165_160 := n7_
        have NB161_165 := n8_
        have NB165_161 := n9_
        clear n0_ n1_ n2_ n3_ n4_ n5_ n6_ n7_ n8_ n9_
        clear hb hbox hg
        refine hK.out _ _ ⟨gb165, gb166, (.pointer (some ⟨gb165, 0, none⟩)), m11_, (by rw [ha.out]; exact putSel_upk 7 hb_ rfl rfl rfl), (bl_ BK160.out), (bl_ BK161.out), (bw_ HB.out), z_NB166_165, z_NB165_166, fun _ _ => (bl_ BK165.out), fun _ => GW165.out, fun _ => GE165.out, fun _ => NB160_165.out, fun _ => NB165_160.out, fun _ => NB161_165.out, fun _ => NB165_161.out, z_BK166, Q_GW166, Q_GE166, Q_NB160_166, Q_NB166_160, Q_NB161_166, Q_NB166_161, fun h0_ => absurd ((hoff 12 (by kernel_rfl)).symm.trans h0_) (by decide), fun h0_ => absurd ((hoff 13 (by kernel_rfl)).symm.trans h0_) (by decide), fun _ => rfl, Q_X11_⟩
      refine steps_cons ?_ ?_
      · rintro b a w' ⟨gb165, gb166, m10_, m11_, ha, Q_BK160, Q_BK161, Q_HB, Q_NB166_165, Q_NB165_166, Q_BK165, Q_GW165, Q_GE165, Q_NB160_165, Q_NB165_160, Q_NB161_165, Q_NB165_161, Q_BK166, Q_GW166, Q_GE166, Q_NB160_166, Q_NB166_160, Q_NB161_166, Q_NB166_161, Q_BK165_e12, Q_BK166_e13, Q_X10_, Q_X11_⟩ hb_ hon hoff
        refine ⟨_, rfl, fun K hK => ?_⟩
        replace ha := Aside0.mk ha
        have BK160 := Aside0.mk Q_BK160
        have BK161 := Aside0.mk Q_BK161
        have HB := Aside0.mk Q_HB
        refine box_step ?hg (N := 9) ?hd (cs := #[.string (⟨#[]⟩ : ByteArray), .int .i64 0, .int .i64 0, .int .i64 0, .int .i64 0, .string (⟨#[]⟩ : ByteArray), .bool false, .slice none 0 0]) (t := 43) ?hr ?_; (case hd => rfl); (case hg => rfl); (case hr => first | (go_simp; done) | (go_simp; rfl))
        intro gb166 hg w23 hbox hb
        have n0_ := Aside0.mk (blk_below (g := gb160) (o := .cells #[.string a0_0, .int .i64 a0_1, .int .i64 a0_2, .int .i64 a0_3, .int .i64 a0_4, .string a0_5, .bool a0_6, .slice (some ad163) l0_7.length c0_7] 43 (0, 0)) (bl_ BK160.out) hb)
        have n1_ := Aside0.mk (blk_below (g := gb161) (o := .cells #[.string (⟨#[]⟩ : ByteArray), .string (⟨#[]⟩ : ByteArray), .bool false, .bool false, .bool false, .bool false] 35 (0, 0)) (bl_ BK161.out) hb)
        have n2_ := Aside0.mk (below_step (bw_ HB.out) hb)
        have n3_ := Aside0.mk (hbox)
        have n4_ := Aside0.mk ((by rw [hg]; exact (below_size (bw_ HB.out)) : w.heap.size ≤ gb166))
        have n5_ := Aside0.mk ((by rw [hg]; exact (below_size (bw_ HB.out)) : w.heap.size ≤ gb166))
        have n6_ := Aside0.mk ((by rw [hg]; exact Nat.ne_of_lt (blk_lt (g := gb160) (o := .cells #[.string a0_0, .int .i64 a0_1, .int .i64 a0_2, .int .i64 a0_3, .int .i64 a0_4, .string a0_5, .bool a0_6, .slice (some ad163) l0_7.length c0_7] 43 (0, 0)) (bl_ BK160.out)) : gb160 ≠ gb166))
        have n7_ := Aside0.mk ((by rw [hg]; exact Nat.ne_of_gt (blk_lt (g := gb160) (o := .cells #[.string a0_0, .int .i64 a0_1, .int .i64 a0_2, .int .i64 a0_3, .int .i64 a0_4, .string a0_5, .bool a0_6, .slice (some ad163) l0_7.length c0_7] 43 (0, 0)) (bl_ BK160.out)) : gb166 ≠ gb160))
        have n8_ := Aside0.mk ((by rw [hg]; exact Nat.ne_of_lt (blk_lt (g := gb161) (o := .cells #[.string (⟨#[]⟩ : ByteArray), .string (⟨#[]⟩ : ByteArray), .bool false, .bool false, .bool false, .bool false] 35 (0, 0)) (bl_ BK161.out)) : gb161 ≠ gb166))
        have n9_ := Aside0.mk ((by rw [hg]; exact Nat.ne_of_gt (blk_lt (g := gb161) (o := .cells #[.string (⟨#[]⟩ : ByteArray), .string (⟨#[]⟩ : ByteArray), .bool false, .bool false, .bool false, .bool false] 35 (0, 0)) (bl_ BK161.out)) : gb166 ≠ gb161))
        have z_NB166_165 := fun (h0_ : up b 11 10 = true) (h1_ : up b 11 11 = true) => (show gb166 ≠ gb165 from ((by rw [hg]; exact Nat.ne_of_gt (by rcases hq_ : b 12 with _ | _; exact blk_lt (Q_BK165 h0_ hq_); exact blk_lt (Q_BK165_e12 hq_)) : gb166 ≠ gb165)))
        have z_NB165_166 := fun (h0_ : up b 11 10 = true) (h1_ : up b 11 11 = true) => (show gb165 ≠ gb166 from ((by rw [hg]; exact Nat.ne_of_lt (by rcases hq_ : b 12 with _ | _; exact blk_lt (Q_BK165 h0_ hq_); exact blk_lt (Q_BK165_e12 hq_)) : gb165 ≠ gb166)))
        have z_BK165 := fun (h0_ : b 10 = true) (h1_ : b 12 = false) => (show w23.heap[gb165]? = some (.cells #[.string (⟨#[]⟩ : ByteArray), .int .i64 0, .int .i64 0, .int .i64 0, .int .i64 0, .string (⟨#[]⟩ : ByteArray), .bool false, .slice none 0 0] 43 (0, 0)) from by first | exact (blk_below (g := gb165) (o := .cells #[.string (⟨#[]⟩ : ByteArray), .int .i64 0, .int .i64 0, .int .i64 0, .int .i64 0, .string (⟨#[]⟩ : ByteArray), .bool false, .slice none 0 0] 43 (0, 0)) (by (with_reducible repeat (first | refine blk_drewN ?_ _ | refine blk_drew ?_ | refine blk_alloc ?_ _)); exact (Q_BK165 h0_ h1_)) hb))
        clear BK160
        clear BK161
        clear HB
        have BK160 := n0_
        have BK161 := n1_
        have HB := n2_
        have BK166 := n3_
        have GW166 := n4_
        have GE166 := n5_
        have NB160_166 := n6_
        have NB166_160 := n7_
        have NB161_166 := n8_
        have NB166_161 := n9_
        clear n0_ n1_ n2_ n3_ n4_ n5_ n6_ n7_ n8_ n9_
        clear hb hbox hg
        refine hK.out _ _ ⟨gb165, gb166, m10_, (.pointer (some ⟨gb166, 0, none⟩)), (by rw [ha.out]; exact putSel_upk 8 hb_ rfl rfl rfl), (bl_ BK160.out), (bl_ BK161.out), (bw_ HB.out), z_NB166_165, z_NB165_166, z_BK165, Q_GW165, Q_GE165, Q_NB160_165, Q_NB165_160, Q_NB161_165, Q_NB165_161, fun _ _ => (bl_ BK166.out), fun _ => GW166.out, fun _ => GE166.out, fun _ => NB160_166.out, fun _ => NB166_160.out, fun _ => NB161_166.out, fun _ => NB166_161.out, fun h0_ => absurd ((hoff 12 (by kernel_rfl)).symm.trans h0_) (by decide), fun h0_ => absurd ((hoff 13 (by kernel_rfl)).symm.trans h0_) (by decide), Q_X10_, fun _ => rfl⟩
      refine steps_cons ?_ ?_
      · rintro b a w' ⟨gb165, gb166, m10_, m11_, ha, Q_BK160, Q_BK161, Q_HB, Q_NB166_165, Q_NB165_166, Q_BK165, Q_GW165, Q_GE165, Q_NB160_165, Q_NB165_160, Q_NB161_165, Q_NB165_161, Q_BK166, Q_GW166, Q_GE166, Q_NB160_166, Q_NB166_160, Q_NB161_166, Q_NB166_161, Q_BK165_e12, Q_BK166_e13, Q_X10_, Q_X11_⟩ hb_ hon hoff
        refine ⟨_, rfl, fun K hK => ?_⟩
        have e8 : a.tmps[8]? = some (m10_) := by rw [ha]; exact putSel_on (e := (10, 8, m10_)) 7 rfl rfl (hon 10 (by kernel_rfl)) rfl
        rw [Q_X10_ (hon 10 (by kernel_rfl))] at e8
        have e30 : a.tmps[30]? = some (.agg #[.string ((rd_T43 l0_7 0).f0), .int .i64 ((rd_T43 l0_7 0).f1), .int .i64 ((rd_T43 l0_7 0).f2), .int .i64 ((rd_T43 l0_7 0).f3.f0), .int .i64 ((rd_T43 l0_7 0).f3.f1), .string ((rd_T43 l0_7 0).f3.f2), .bool ((rd_T43 l0_7 0).f3.f3), .slice A163_7 ((rd_T43 l0_7 0).f4).length c163_7]) := by rw [ha]; exact putSel_on (e := (3, 30, .agg #[.string ((rd_T43 l0_7 0).f0), .int .i64 ((rd_T43 l0_7 0).f1), .int .i64 ((rd_T43 l0_7 0).f2), .int .i64 ((rd_T43 l0_7 0).f3.f0), .int .i64 ((rd_T43 l0_7 0).f3.f1), .string ((rd_T43 l0_7 0).f3.f2), .bool ((rd_T43 l0_7 0).f3.f3), .slice A163_7 ((rd_T43 l0_7 0).f4).length c163_7])) 2 rfl rfl (hon 3 (by kernel_rfl)) rfl
        replace ha := Aside0.mk ha
        have BK160 := Aside0.mk Q_BK160
        have BK161 := Aside0.mk Q_BK161
        have HB := Aside0.mk Q_HB
        have NB166_165 := Aside0.mk (Q_NB166_165 (hon 10 (by kernel_rfl)) (hon 11 (by kernel_rfl)))
        have NB165_166 := Aside0.mk (Q_NB165_166 (hon 10 (by kernel_rfl)) (hon 11 (by kernel_rfl)))
        have BK165 := Aside0.mk (Q_BK165 (hon 10 (by kernel_rfl)) hb_)
        have GW165 := Aside0.mk (Q_GW165 (hon 10 (by kernel_rfl)))
        have GE165 := Aside0.mk (Q_GE165 (hon 10 (by kernel_rfl)))
        have NB160_165 := Aside0.mk (Q_NB160_165 (hon 10 (by kernel_rfl)))
        have NB165_160 := Aside0.mk (Q_NB165_160 (hon 10 (by kernel_rfl)))
        have NB161_165 := Aside0.mk (Q_NB161_165 (hon 10 (by kernel_rfl)))
        have NB165_161 := Aside0.mk (Q_NB165_161 (hon 10 (by kernel_rfl)))
        have BK166 := Aside0.mk (Q_BK166 (hon 11 (by kernel_rfl)) (hoff 13 (by kernel_rfl)))
        have GW166 := Aside0.mk (Q_GW166 (hon 11 (by kernel_rfl)))
        have GE166 := Aside0.mk (Q_GE166 (hon 11 (by kernel_rfl)))
        have NB160_166 := Aside0.mk (Q_NB160_166 (hon 11 (by kernel_rfl)))
        have NB166_160 := Aside0.mk (Q_NB166_160 (hon 11 (by kernel_rfl)))
        have NB161_166 := Aside0.mk (Q_NB161_166 (hon 11 (by kernel_rfl)))
        have NB166_161 := Aside0.mk (Q_NB166_161 (hon 11 (by kernel_rfl)))
        have hs26 : w'.cell? ⟨gb165, 0, none⟩ = some (.string (⟨#[]⟩ : ByteArray)) := (blk_cell BK165.out 0).trans rfl
        have hfs26 := blk_frozen BK165.out 0
        have hns26_0 := NB160_165.out
        have hns26_1 := NB161_165.out
        have hns26_3 := NB166_165.out
        have hms26_0 := NB165_160.out
        have hms26_1 := NB165_161.out
        have hms26_3 := NB165_166.out
        have hs27 : w'.cell? ⟨gb165, 1, none⟩ = some (.int .i64 0) := (blk_cell BK165.out 1).trans rfl
        have hfs27 := blk_frozen BK165.out 1
        have hs28 : w'.cell? ⟨gb165, 2, none⟩ = some (.int .i64 0) := (blk_cell BK165.out 2).trans rfl
        have hfs28 := blk_frozen BK165.out 2
        have hs29 : w'.cell? ⟨gb165, 3, none⟩ = some (.int .i64 0) := (blk_cell BK165.out 3).trans rfl
        have hfs29 := blk_frozen BK165.out 3
        have hs30 : w'.cell? ⟨gb165, 4, none⟩ = some (.int .i64 0) := (blk_cell BK165.out 4).trans rfl
        have hfs30 := blk_frozen BK165.out 4
        have hs31 : w'.cell? ⟨gb165, 5, none⟩ = some (.string (⟨#[]⟩ : ByteArray)) := (blk_cell BK165.out 5).trans rfl
        have hfs31 := blk_frozen BK165.out 5
        have hs32 : w'.cell? ⟨gb165, 6, none⟩ = some (.bool false) := (blk_cell BK165.out 6).trans rfl
        have hfs32 := blk_frozen BK165.out 6
        have hs33 : w'.cell? ⟨gb165, 7, none⟩ = some (.slice none 0 0) := (blk_cell BK165.out 7).trans rfl
        have hfs33 := blk_frozen BK165.out 7
        refine skip_ (w1 := ?_) ?sh1 ?sh2 ?_ ?_
        case sh1 => rfl
        case sh2 => rfl
        rotate_left
        · go_simp
          rfl
        refine hK.out _ _ ⟨gb165, gb166, m10_, m11_, (by rw [ha.out]; exact putSel_none (v := undef) rfl), (by (with_reducible repeat (first | refine blk_drewN ?_ _ | refine blk_drew ?_ | refine blk_alloc ?_ _)); refine blk_far ?_ NB160_165.out _; (with_reducible repeat (first | refine blk_drewN ?_ _ | refine blk_drew ?_ | refine blk_alloc ?_ _)); refine blk_far ?_ NB160_165.out _; (with_reducible repeat (first | refine blk_drewN ?_ _ | refine blk_drew ?_ | refine blk_alloc ?_ _)); refine blk_far ?_ NB160_165.out _; (with_reducible repeat (first | refine blk_drewN ?_ _ | refine blk_drew ?_ | refine blk_alloc ?_ _)); refine blk_far ?_ NB160_165.out _; (with_reducible repeat (first | refine blk_drewN ?_ _ | refine blk_drew ?_ | refine blk_alloc ?_ _)); refine blk_far ?_ NB160_165.out _; (with_reducible repeat (first | refine blk_drewN ?_ _ | refine blk_drew ?_ | refine blk_alloc ?_ _)); refine blk_far ?_ NB160_165.out _; (with_reducible repeat (first | refine blk_drewN ?_ _ | refine blk_drew ?_ | refine blk_alloc ?_ _)); refine blk_far ?_ NB160_165.out _; (with_reducible repeat (first | refine blk_drewN ?_ _ | refine blk_drew ?_ | refine blk_alloc ?_ _)); refine blk_far ?_ NB160_165.out _; (with_reducible repeat (first | refine blk_drewN ?_ _ | refine blk_drew ?_ | refine blk_alloc ?_ _)); exact BK160.out), (by (with_reducible repeat (first | refine blk_drewN ?_ _ | refine blk_drew ?_ | refine blk_alloc ?_ _)); refine blk_far ?_ NB161_165.out _; (with_reducible repeat (first | refine blk_drewN ?_ _ | refine blk_drew ?_ | refine blk_alloc ?_ _)); refine blk_far ?_ NB161_165.out _; (with_reducible repeat (first | refine blk_drewN ?_ _ | refine blk_drew ?_ | refine blk_alloc ?_ _)); refine blk_far ?_ NB161_165.out _; (with_reducible repeat (first | refine blk_drewN ?_ _ | refine blk_drew ?_ | refine blk_alloc ?_ _)); refine blk_far ?_ NB161_165.out _; (with_reducible repeat (first | refine blk_drewN ?_ _ | refine blk_drew ?_ | refine blk_alloc ?_ _)); refine blk_far ?_ NB161_165.out _; (with_reducible repeat (first | refine blk_drewN ?_ _ | refine blk_drew ?_ | refine blk_alloc ?_ _)); refine blk_far ?_ NB161_165.out _; (with_reducible repeat (first | refine blk_drewN ?_ _ | refine blk_drew ?_ | refine blk_alloc ?_ _)); refine blk_far ?_ NB161_165.out _; (with_reducible repeat (first | refine blk_drewN ?_ _ | refine blk_drew ?_ | refine blk_alloc ?_ _)); refine blk_far ?_ NB161_165.out _; (with_reducible repeat (first | refine blk_drewN ?_ _ | refine blk_drew ?_ | refine blk_alloc ?_ _)); exact BK161.out), (bw_ HB.out), fun _ _ => NB166_165.out, fun _ _ => NB165_166.out, fun _ h1_ => absurd ((up_self b 12).symm.trans h1_) (by decide), fun _ => GW165.out, fun _ => GE165.out, fun _ => NB160_165.out, fun _ => NB165_160.out, fun _ => NB161_165.out, fun _ => NB165_161.out, fun _ _ => (by (with_reducible repeat (first | refine blk_drewN ?_ _ | refine blk_drew ?_ | refine blk_alloc ?_ _)); refine blk_far ?_ NB166_165.out _; (with_reducible repeat (first | refine blk_drewN ?_ _ | refine blk_drew ?_ | refine blk_alloc ?_ _)); refine blk_far ?_ NB166_165.out _; (with_reducible repeat (first | refine blk_drewN ?_ _ | refine blk_drew ?_ | refine blk_alloc ?_ _)); refine blk_far ?_ NB166_165.out _; (with_reducible repeat (first | refine blk_drewN ?_ _ | refine blk_drew ?_ | refine blk_alloc ?_ _)); refine blk_far ?_ NB166_165.out _; (with_reducible repeat (first | refine blk_drewN ?_ _ | refine blk_drew ?_ | refine blk_alloc ?_ _)); refine blk_far ?_ NB166_165.out _; (with_reducible repeat (first | refine blk_drewN ?_ _ | refine blk_drew ?_ | refine blk_alloc ?_ _)); refine blk_far ?_ NB166_165.out _; (with_reducible repeat (first | refine blk_drewN ?_ _ | refine blk_drew ?_ | refine blk_alloc ?_ _)); refine blk_far ?_ NB166_165.out _; (with_reducible repeat (first | refine blk_drewN ?_ _ | refine blk_drew ?_ | refine blk_alloc ?_ _)); refine blk_far ?_ NB166_165.out _; (with_reducible repeat (first | refine blk_drewN ?_ _ | refine blk_drew ?_ | refine blk_alloc ?_ _)); exact BK166.out), fun _ => GW166.out, fun _ => GE166.out, fun _ => NB160_166.out, fun _ => NB166_160.out, fun _ => NB161_166.out, fun _ => NB166_161.out, fun _ => (by (with_reducible repeat (first | refine blk_drewN ?_ _ | refine blk_drew ?_ | refine blk_alloc ?_ _)); refine blk_put (cs := #[.string ((rd_T43 l0_7 0).f0), .int .i64 ((rd_T43 l0_7 0).f1), .int .i64 ((rd_T43 l0_7 0).f2), .int .i64 ((rd_T43 l0_7 0).f3.f0), .int .i64 ((rd_T43 l0_7 0).f3.f1), .string ((rd_T43 l0_7 0).f3.f2), .bool ((rd_T43 l0_7 0).f3.f3), .slice none 0 0]) ?_ 7 _ rfl; (with_reducible repeat (first | refine blk_drewN ?_ _ | refine blk_drew ?_ | refine blk_alloc ?_ _)); refine blk_put (cs := #[.string ((rd_T43 l0_7 0).f0), .int .i64 ((rd_T43 l0_7 0).f1), .int .i64 ((rd_T43 l0_7 0).f2), .int .i64 ((rd_T43 l0_7 0).f3.f0), .int .i64 ((rd_T43 l0_7 0).f3.f1), .string ((rd_T43 l0_7 0).f3.f2), .bool false, .slice none 0 0]) ?_ 6 _ rfl; (with_reducible repeat (first | refine blk_drewN ?_ _ | refine blk_drew ?_ | refine blk_alloc ?_ _)); refine blk_put (cs := #[.string ((rd_T43 l0_7 0).f0), .int .i64 ((rd_T43 l0_7 0).f1), .int .i64 ((rd_T43 l0_7 0).f2), .int .i64 ((rd_T43 l0_7 0).f3.f0), .int .i64 ((rd_T43 l0_7 0).f3.f1), .string (⟨#[]⟩ : ByteArray), .bool false, .slice none 0 0]) ?_ 5 _ rfl; (with_reducible repeat (first | refine blk_drewN ?_ _ | refine blk_drew ?_ | refine blk_alloc ?_ _)); refine blk_put (cs := #[.string ((rd_T43 l0_7 0).f0), .int .i64 ((rd_T43 l0_7 0).f1), .int .i64 ((rd_T43 l0_7 0).f2), .int .i64 ((rd_T43 l0_7 0).f3.f0), .int .i64 0, .string (⟨#[]⟩ : ByteArray), .bool false, .slice none 0 0]) ?_ 4 _ rfl; (with_reducible repeat (first | refine blk_drewN ?_ _ | refine blk_drew ?_ | refine blk_alloc ?_ _)); refine blk_put (cs := #[.string ((rd_T43 l0_7 0).f0), .int .i64 ((rd_T43 l0_7 0).f1), .int .i64 ((rd_T43 l0_7 0).f2), .int .i64 0, .int .i64 0, .string (⟨#[]⟩ : ByteArray), .bool false, .slice none 0 0]) ?_ 3 _ rfl; (with_reducible repeat (first | refine blk_drewN ?_ _ | refine blk_drew ?_ | refine blk_alloc ?_ _)); refine blk_put (cs := #[.string ((rd_T43 l0_7 0).f0), .int .i64 ((rd_T43 l0_7 0).f1), .int .i64 0, .int .i64 0, .int .i64 0, .string (⟨#[]⟩ : ByteArray), .bool false, .slice none 0 0]) ?_ 2 _ rfl; (with_reducible repeat (first | refine blk_drewN ?_ _ | refine blk_drew ?_ | refine blk_alloc ?_ _)); refine blk_put (cs := #[.string ((rd_T43 l0_7 0).f0), .int .i64 0, .int .i64 0, .int .i64 0, .int .i64 0, .string (⟨#[]⟩ : ByteArray), .bool false, .slice none 0 0]) ?_ 1 _ rfl; (with_reducible repeat (first | refine blk_drewN ?_ _ | refine blk_drew ?_ | refine blk_alloc ?_ _)); refine blk_put (cs := #[.string (⟨#[]⟩ : ByteArray), .int .i64 0, .int .i64 0, .int .i64 0, .int .i64 0, .string (⟨#[]⟩ : ByteArray), .bool false, .slice none 0 0]) ?_ 0 _ rfl; (with_reducible repeat (first | refine blk_drewN ?_ _ | refine blk_drew ?_ | refine blk_alloc ?_ _)); exact BK165.out), fun h0_ => absurd ((hoff 13 (by kernel_rfl)).symm.trans h0_) (by decide), Q_X10_, Q_X11_⟩
      refine steps_cons ?_ ?_
      · rintro b a w' ⟨gb165, gb166, m10_, m11_, ha, Q_BK160, Q_BK161, Q_HB, Q_NB166_165, Q_NB165_166, Q_BK165, Q_GW165, Q_GE165, Q_NB160_165, Q_NB165_160, Q_NB161_165, Q_NB165_161, Q_BK166, Q_GW166, Q_GE166, Q_NB160_166, Q_NB166_160, Q_NB161_166, Q_NB166_161, Q_BK165_e12, Q_BK166_e13, Q_X10_, Q_X11_⟩ hb_ hon hoff
        refine ⟨_, rfl, fun K hK => ?_⟩
        have e9 : a.tmps[9]? = some (m11_) := by rw [ha]; exact putSel_on (e := (11, 9, m11_)) 8 rfl rfl (hon 11 (by kernel_rfl)) rfl
        rw [Q_X11_ (hon 11 (by kernel_rfl))] at e9
        have e34 : a.tmps[34]? = some (.agg #[.string ((rd_T43 l0_7 1).f0), .int .i64 ((rd_T43 l0_7 1).f1), .int .i64 ((rd_T43 l0_7 1).f2), .int .i64 ((rd_T43 l0_7 1).f3.f0), .int .i64 ((rd_T43 l0_7 1).f3.f1), .string ((rd_T43 l0_7 1).f3.f2), .bool ((rd_T43 l0_7 1).f3.f3), .slice A164_7 ((rd_T43 l0_7 1).f4).length c164_7]) := by rw [ha]; exact putSel_on (e := (7, 34, .agg #[.string ((rd_T43 l0_7 1).f0), .int .i64 ((rd_T43 l0_7 1).f1), .int .i64 ((rd_T43 l0_7 1).f2), .int .i64 ((rd_T43 l0_7 1).f3.f0), .int .i64 ((rd_T43 l0_7 1).f3.f1), .string ((rd_T43 l0_7 1).f3.f2), .bool ((rd_T43 l0_7 1).f3.f3), .slice A164_7 ((rd_T43 l0_7 1).f4).length c164_7])) 5 rfl rfl (hon 7 (by kernel_rfl)) rfl
        replace ha := Aside0.mk ha
        have BK160 := Aside0.mk Q_BK160
        have BK161 := Aside0.mk Q_BK161
        have HB := Aside0.mk Q_HB
        have NB166_165 := Aside0.mk (Q_NB166_165 (hon 10 (by kernel_rfl)) (hon 11 (by kernel_rfl)))
        have NB165_166 := Aside0.mk (Q_NB165_166 (hon 10 (by kernel_rfl)) (hon 11 (by kernel_rfl)))
        have GW165 := Aside0.mk (Q_GW165 (hon 10 (by kernel_rfl)))
        have GE165 := Aside0.mk (Q_GE165 (hon 10 (by kernel_rfl)))
        have NB160_165 := Aside0.mk (Q_NB160_165 (hon 10 (by kernel_rfl)))
        have NB165_160 := Aside0.mk (Q_NB165_160 (hon 10 (by kernel_rfl)))
        have NB161_165 := Aside0.mk (Q_NB161_165 (hon 10 (by kernel_rfl)))
        have NB165_161 := Aside0.mk (Q_NB165_161 (hon 10 (by kernel_rfl)))
        have BK166 := Aside0.mk (Q_BK166 (hon 11 (by kernel_rfl)) hb_)
        have GW166 := Aside0.mk (Q_GW166 (hon 11 (by kernel_rfl)))
        have GE166 := Aside0.mk (Q_GE166 (hon 11 (by kernel_rfl)))
        have NB160_166 := Aside0.mk (Q_NB160_166 (hon 11 (by kernel_rfl)))
        have NB166_160 := Aside0.mk (Q_NB166_160 (hon 11 (by kernel_rfl)))
        have NB161_166 := Aside0.mk (Q_NB161_166 (hon 11 (by kernel_rfl)))
        have NB166_161 := Aside0.mk (Q_NB166_161 (hon 11 (by kernel_rfl)))
        have BK165 := Aside0.mk (Q_BK165_e12 (hon 12 (by kernel_rfl)))
        have hs34 : w'.cell? ⟨gb166, 0, none⟩ = some (.string (⟨#[]⟩ : ByteArray)) := (blk_cell BK166.out 0).trans rfl
        have hfs34 := blk_frozen BK166.out 0
        have hns34_0 := NB160_166.out
        have hns34_1 := NB161_166.out
        have hns34_2 := NB165_166.out
        have hms34_0 := NB166_160.out
        have hms34_1 := NB166_161.out
        have hms34_2 := NB166_165.out
        have hs35 : w'.cell? ⟨gb166, 1, none⟩ = some (.int .i64 0) := (blk_cell BK166.out 1).trans rfl
        have hfs35 := blk_frozen BK166.out 1
        have hs36 : w'.cell? ⟨gb166, 2, none⟩ = some (.int .i64 0) := (blk_cell BK166.out 2).trans rfl
        have hfs36 := blk_frozen BK166.out 2
        have hs37 : w'.cell? ⟨gb166, 3, none⟩ = some (.int .i64 0) := (blk_cell BK166.out 3).trans rfl
        have hfs37 := blk_frozen BK166.out 3
        have hs38 : w'.cell? ⟨gb166, 4, none⟩ = some (.int .i64 0) := (blk_cell BK166.out 4).trans rfl
        have hfs38 := blk_frozen BK166.out 4
        have hs39 : w'.cell? ⟨gb166, 5, none⟩ = some (.string (⟨#[]⟩ : ByteArray)) := (blk_cell BK166.out 5).trans rfl
        have hfs39 := blk_frozen BK166.out 5
        have hs40 : w'.cell? ⟨gb166, 6, none⟩ = some (.bool false) := (blk_cell BK166.out 6).trans rfl
        have hfs40 := blk_frozen BK166.out 6
        have hs41 : w'.cell? ⟨gb166, 7, none⟩ = some (.slice none 0 0) := (blk_cell BK166.out 7).trans rfl
        have hfs41 := blk_frozen BK166.out 7
        refine skip_ (w1 := ?_) ?sh1 ?sh2 ?_ ?_
        case sh1 => rfl
        case sh2 => rfl
        rotate_left
        · go_simp
          rfl
        refine hK.out _ _ ⟨gb165, gb166, m10_, m11_, (by rw [ha.out]; exact putSel_none (v := undef) rfl), (by (with_reducible repeat (first | refine blk_drewN ?_ _ | refine blk_drew ?_ | refine blk_alloc ?_ _)); refine blk_far ?_ NB160_166.out _; (with_reducible repeat (first | refine blk_drewN ?_ _ | refine blk_drew ?_ | refine blk_alloc ?_ _)); refine blk_far ?_ NB160_166.out _; (with_reducible repeat (first | refine blk_drewN ?_ _ | refine blk_drew ?_ | refine blk_alloc ?_ _)); refine blk_far ?_ NB160_166.out _; (with_reducible repeat (first | refine blk_drewN ?_ _ | refine blk_drew ?_ | refine blk_alloc ?_ _)); refine blk_far ?_ NB160_166.out _; (with_reducible repeat (first | refine blk_drewN ?_ _ | refine blk_drew ?_ | refine blk_alloc ?_ _)); refine blk_far ?_ NB160_166.out _; (with_reducible repeat (first | refine blk_drewN ?_ _ | refine blk_drew ?_ | refine blk_alloc ?_ _)); refine blk_far ?_ NB160_166.out _; (with_reducible repeat (first | refine blk_drewN ?_ _ | refine blk_drew ?_ | refine blk_alloc ?_ _)); refine blk_far ?_ NB160_166.out _; (with_reducible repeat (first | refine blk_drewN ?_ _ | refine blk_drew ?_ | refine blk_alloc ?_ _)); refine blk_far ?_ NB160_166.out _; (with_reducible repeat (first | refine blk_drewN ?_ _ | refine blk_drew ?_ | refine blk_alloc ?_ _)); exact BK160.out), (by (with_reducible repeat (first | refine blk_drewN ?_ _ | refine blk_drew ?_ | refine blk_alloc ?_ _)); refine blk_far ?_ NB161_166.out _; (with_reducible repeat (first | refine blk_drewN ?_ _ | refine blk_drew ?_ | refine blk_alloc ?_ _)); refine blk_far ?_ NB161_166.out _; (with_reducible repeat (first | refine blk_drewN ?_ _ | refine blk_drew ?_ | refine blk_alloc ?_ _)); refine blk_far ?_ NB161_166.out _; (with_reducible repeat (first | refine blk_drewN ?_ _ | refine blk_drew ?_ | refine blk_alloc ?_ _)); refine blk_far ?_ NB161_166.out _; (with_reducible repeat (first | refine blk_drewN ?_ _ | refine blk_drew ?_ | refine blk_alloc ?_ _)); refine blk_far ?_ NB161_166.out _; (with_reducible repeat (first | refine blk_drewN ?_ _ | refine blk_drew ?_ | refine blk_alloc ?_ _)); refine blk_far ?_ NB161_166.out _; (with_reducible repeat (first | refine blk_drewN ?_ _ | refine blk_drew ?_ | refine blk_alloc ?_ _)); refine blk_far ?_ NB161_166.out _; (with_reducible repeat (first | refine blk_drewN ?_ _ | refine blk_drew ?_ | refine blk_alloc ?_ _)); refine blk_far ?_ NB161_166.out _; (with_reducible repeat (first | refine blk_drewN ?_ _ | refine blk_drew ?_ | refine blk_alloc ?_ _)); exact BK161.out), (bw_ HB.out), fun _ _ => NB166_165.out, fun _ _ => NB165_166.out, fun _ h1_ => absurd ((hon 12 (by kernel_rfl)).symm.trans h1_) (by decide), fun _ => GW165.out, fun _ => GE165.out, fun _ => NB160_165.out, fun _ => NB165_160.out, fun _ => NB161_165.out, fun _ => NB165_161.out, fun _ h1_ => absurd ((up_self b 13).symm.trans h1_) (by decide), fun _ => GW166.out, fun _ => GE166.out, fun _ => NB160_166.out, fun _ => NB166_160.out, fun _ => NB161_166.out, fun _ => NB166_161.out, fun _ => (by (with_reducible repeat (first | refine blk_drewN ?_ _ | refine blk_drew ?_ | refine blk_alloc ?_ _)); refine blk_far ?_ NB165_166.out _; (with_reducible repeat (first | refine blk_drewN ?_ _ | refine blk_drew ?_ | refine blk_alloc ?_ _)); refine blk_far ?_ NB165_166.out _; (with_reducible repeat (first | refine blk_drewN ?_ _ | refine blk_drew ?_ | refine blk_alloc ?_ _)); refine blk_far ?_ NB165_166.out _; (with_reducible repeat (first | refine blk_drewN ?_ _ | refine blk_drew ?_ | refine blk_alloc ?_ _)); refine blk_far ?_ NB165_166.out _; (with_reducible repeat (first | refine blk_drewN ?_ _ | refine blk_drew ?_ | refine blk_alloc ?_ _)); refine blk_far ?_ NB165_166.out _; (with_reducible repeat (first | refine blk_drewN ?_ _ | refine blk_drew ?_ | refine blk_alloc ?_ _)); refine blk_far ?_ NB165_166.out _; (with_reducible repeat (first | refine blk_drewN ?_ _ | refine blk_drew ?_ | refine blk_alloc ?_ _)); refine blk_far ?_ NB165_166.out _; (with_reducible repeat (first | refine blk_drewN ?_ _ | refine blk_drew ?_ | refine blk_alloc ?_ _)); refine blk_far ?_ NB165_166.out _; (with_reducible repeat (first | refine blk_drewN ?_ _ | refine blk_drew ?_ | refine blk_alloc ?_ _)); exact BK165.out), fun _ => (by (with_reducible repeat (first | refine blk_drewN ?_ _ | refine blk_drew ?_ | refine blk_alloc ?_ _)); refine blk_put (cs := #[.string ((rd_T43 l0_7 1).f0), .int .i64 ((rd_T43 l0_7 1).f1), .int .i64 ((rd_T43 l0_7 1).f2), .int .i64 ((rd_T43 l0_7 1).f3.f0), .int .i64 ((rd_T43 l0_7 1).f3.f1), .string ((rd_T43 l0_7 1).f3.f2), .bool ((rd_T43 l0_7 1).f3.f3), .slice none 0 0]) ?_ 7 _ rfl; (with_reducible repeat (first | refine blk_drewN ?_ _ | refine blk_drew ?_ | refine blk_alloc ?_ _)); refine blk_put (cs := #[.string ((rd_T43 l0_7 1).f0), .int .i64 ((rd_T43 l0_7 1).f1), .int .i64 ((rd_T43 l0_7 1).f2), .int .i64 ((rd_T43 l0_7 1).f3.f0), .int .i64 ((rd_T43 l0_7 1).f3.f1), .string ((rd_T43 l0_7 1).f3.f2), .bool false, .slice none 0 0]) ?_ 6 _ rfl; (with_reducible repeat (first | refine blk_drewN ?_ _ | refine blk_drew ?_ | refine blk_alloc ?_ _)); refine blk_put (cs := #[.string ((rd_T43 l0_7 1).f0), .int .i64 ((rd_T43 l0_7 1).f1), .int .i64 ((rd_T43 l0_7 1).f2), .int .i64 ((rd_T43 l0_7 1).f3.f0), .int .i64 ((rd_T43 l0_7 1).f3.f1), .string (⟨#[]⟩ : ByteArray), .bool false, .slice none 0 0]) ?_ 5 _ rfl; (with_reducible repeat (first | refine blk_drewN ?_ _ | refine blk_drew ?_ | refine blk_alloc ?_ _)); refine blk_put (cs := #[.string ((rd_T43 l0_7 1).f0), .int .i64 ((rd_T43 l0_7 1).f1), .int .i64 ((rd_T43 l0_7 1).f2), .int .i64 ((rd_T43 l0_7 1).f3.f0), .int .i64 0, .string (⟨#[]⟩ : ByteArray), .bool false, .slice none 0 0]) ?_ 4 _ rfl; (with_reducible repeat (first | refine blk_drewN ?_ _ | refine blk_drew ?_ | refine blk_alloc ?_ _)); refine blk_put (cs := #[.string ((rd_T43 l0_7 1).f0), .int .i64 ((rd_T43 l0_7 1).f1), .int .i64 ((rd_T43 l0_7 1).f2), .int .i64 0, .int .i64 0, .string (⟨#[]⟩ : ByteArray), .bool false, .slice none 0 0]) ?_ 3 _ rfl; (with_reducible repeat (first | refine blk_drewN ?_ _ | refine blk_drew ?_ | refine blk_alloc ?_ _)); refine blk_put (cs := #[.string ((rd_T43 l0_7 1).f0), .int .i64 ((rd_T43 l0_7 1).f1), .int .i64 0, .int .i64 0, .int .i64 0, .string (⟨#[]⟩ : ByteArray), .bool false, .slice none 0 0]) ?_ 2 _ rfl; (with_reducible repeat (first | refine blk_drewN ?_ _ | refine blk_drew ?_ | refine blk_alloc ?_ _)); refine blk_put (cs := #[.string ((rd_T43 l0_7 1).f0), .int .i64 0, .int .i64 0, .int .i64 0, .int .i64 0, .string (⟨#[]⟩ : ByteArray), .bool false, .slice none 0 0]) ?_ 1 _ rfl; (with_reducible repeat (first | refine blk_drewN ?_ _ | refine blk_drew ?_ | refine blk_alloc ?_ _)); refine blk_put (cs := #[.string (⟨#[]⟩ : ByteArray), .int .i64 0, .int .i64 0, .int .i64 0, .int .i64 0, .string (⟨#[]⟩ : ByteArray), .bool false, .slice none 0 0]) ?_ 0 _ rfl; (with_reducible repeat (first | refine blk_drewN ?_ _ | refine blk_drew ?_ | refine blk_alloc ?_ _)); exact BK166.out), Q_X10_, Q_X11_⟩
      refine steps_cons ?_ ?_
      · rintro b a w' ⟨gb165, gb166, m10_, m11_, ha, Q_BK160, Q_BK161, Q_HB, Q_NB166_165, Q_NB165_166, Q_BK165, Q_GW165, Q_GE165, Q_NB160_165, Q_NB165_160, Q_NB161_165, Q_NB165_161, Q_BK166, Q_GW166, Q_GE166, Q_NB160_166, Q_NB166_160, Q_NB161_166, Q_NB166_161, Q_BK165_e12, Q_BK166_e13, Q_X10_, Q_X11_⟩ hb_ hon hoff
        refine ⟨_, rfl, fun K hK => ?_⟩
        have e36 : a.tmps[36]? = some (.string a0_0) := by rw [ha]; exact putSel_on (e := (9, 36, .string a0_0)) 6 rfl rfl (hon 9 (by kernel_rfl)) rfl
        replace ha := Aside0.mk ha
        have BK160 := Aside0.mk Q_BK160
        have BK161 := Aside0.mk Q_BK161
        have HB := Aside0.mk Q_HB
        have NB166_165 := Aside0.mk (Q_NB166_165 (hon 10 (by kernel_rfl)) (hon 11 (by kernel_rfl)))
        have NB165_166 := Aside0.mk (Q_NB165_166 (hon 10 (by kernel_rfl)) (hon 11 (by kernel_rfl)))
        have GW165 := Aside0.mk (Q_GW165 (hon 10 (by kernel_rfl)))
        have GE165 := Aside0.mk (Q_GE165 (hon 10 (by kernel_rfl)))
        have NB160_165 := Aside0.mk (Q_NB160_165 (hon 10 (by kernel_rfl)))
        have NB165_160 := Aside0.mk (Q_NB165_160 (hon 10 (by kernel_rfl)))
        have NB161_165 := Aside0.mk (Q_NB161_165 (hon 10 (by kernel_rfl)))
        have NB165_161 := Aside0.mk (Q_NB165_161 (hon 10 (by kernel_rfl)))
        have GW166 := Aside0.mk (Q_GW166 (hon 11 (by kernel_rfl)))
        have GE166 := Aside0.mk (Q_GE166 (hon 11 (by kernel_rfl)))
        have NB160_166 := Aside0.mk (Q_NB160_166 (hon 11 (by kernel_rfl)))
        have NB166_160 := Aside0.mk (Q_NB166_160 (hon 11 (by kernel_rfl)))
        have NB161_166 := Aside0.mk (Q_NB161_166 (hon 11 (by kernel_rfl)))
        have NB166_161 := Aside0.mk (Q_NB166_161 (hon 11 (by kernel_rfl)))
        have BK165 := Aside0.mk (Q_BK165_e12 (hon 12 (by kernel_rfl)))
        have BK166 := Aside0.mk (Q_BK166_e13 (hon 13 (by kernel_rfl)))
        refine value_ (w1 := w') (v := .string a0_0) (by rfl) rfl ?_ ?_
        · go_simp
          (try simp only [i64_w])
          try rfl
        refine hK.out _ _ ⟨gb165, gb166, m10_, m11_, (by rw [ha.out]; exact putSel_upk 9 hb_ rfl rfl rfl), Q_BK160, Q_BK161, Q_HB, Q_NB166_165, Q_NB165_166, fun _ h1_ => absurd ((hon 12 (by kernel_rfl)).symm.trans h1_) (by decide), Q_GW165, Q_GE165, Q_NB160_165, Q_NB165_160, Q_NB161_165, Q_NB165_161, fun _ h1_ => absurd ((hon 13 (by kernel_rfl)).symm.trans h1_) (by decide), Q_GW166, Q_GE166, Q_NB160_166, Q_NB166_160, Q_NB161_166, Q_NB166_161, Q_BK165_e12, Q_BK166_e13, Q_X10_, Q_X11_⟩
      exact steps_nil
    rintro b a w41 hall ⟨gb165, gb166, m10_, m11_, ha, Q_BK160, Q_BK161, Q_HB, Q_NB166_165, Q_NB165_166, Q_BK165, Q_GW165, Q_GE165, Q_NB160_165, Q_NB165_160, Q_NB161_165, Q_NB165_161, Q_BK166, Q_GW166, Q_GE166, Q_NB160_166, Q_NB166_160, Q_NB161_166, Q_NB166_161, Q_BK165_e12, Q_BK166_e13, Q_X10_, Q_X11_⟩
    clear BK160 BK161 HB
    have hb1_ := hall 1 (by kernel_rfl)
    have hb2_ := hall 2 (by kernel_rfl)
    have hb3_ := hall 3 (by kernel_rfl)
    have hb5_ := hall 5 (by kernel_rfl)
    have hb6_ := hall 6 (by kernel_rfl)
    have hb7_ := hall 7 (by kernel_rfl)
    have hb9_ := hall 9 (by kernel_rfl)
    have hb10_ := hall 10 (by kernel_rfl)
    have hb11_ := hall 11 (by kernel_rfl)
    have hb12_ := hall 12 (by kernel_rfl)
    have hb13_ := hall 13 (by kernel_rfl)
    have hb14_ := hall 14 (by kernel_rfl)
    subst ha
    obtain rfl := Q_X10_ hb10_
    obtain rfl := Q_X11_ hb11_
    simp only [putSel, hb1_, hb2_, hb3_, hb5_, hb6_, hb7_, hb9_, hb10_, hb11_, hb12_, hb13_, hb14_, if_true, Act.put, List.setIfInBounds_toArray, List.set_cons_zero, List.set_cons_succ]
    have BK160 := Aside0.mk Q_BK160
    clear Q_BK160
    have BK161 := Aside0.mk Q_BK161
    clear Q_BK161
    have HB := Aside0.mk Q_HB
    clear Q_HB
    have NB166_165 := Aside0.mk (Q_NB166_165 hb10_ hb11_)
    clear Q_NB166_165
    have NB165_166 := Aside0.mk (Q_NB165_166 hb10_ hb11_)
    clear Q_NB165_166
    clear Q_BK165
    have GW165 := Aside0.mk (Q_GW165 hb10_)
    clear Q_GW165
    have GE165 := Aside0.mk (Q_GE165 hb10_)
    clear Q_GE165
    have NB160_165 := Aside0.mk (Q_NB160_165 hb10_)
    clear Q_NB160_165
    have NB165_160 := Aside0.mk (Q_NB165_160 hb10_)
    clear Q_NB165_160
    have NB161_165 := Aside0.mk (Q_NB161_165 hb10_)
    clear Q_NB161_165
    have NB165_161 := Aside0.mk (Q_NB165_161 hb10_)
    clear Q_NB165_161
    clear Q_BK166
    have GW166 := Aside0.mk (Q_GW166 hb11_)
    clear Q_GW166
    have GE166 := Aside0.mk (Q_GE166 hb11_)
    clear Q_GE166
    have NB160_166 := Aside0.mk (Q_NB160_166 hb11_)
    clear Q_NB160_166
    have NB166_160 := Aside0.mk (Q_NB166_160 hb11_)
    clear Q_NB166_160
    have NB161_166 := Aside0.mk (Q_NB161_166 hb11_)
    clear Q_NB161_166
    have NB166_161 := Aside0.mk (Q_NB166_161 hb11_)
    clear Q_NB166_161
    have BK165 := Aside0.mk (Q_BK165_e12 hb12_)
    clear Q_BK165_e12
    have BK166 := Aside0.mk (Q_BK166_e13 hb13_)
    clear Q_BK166_e13
    clear hall hb1_ hb2_ hb3_ hb5_ hb6_ hb7_ hb9_ hb10_ hb11_ hb12_ hb13_ hb14_
    have hnb42 := NB166_160.out
    have hnc42 := NB160_166.out
    have hnb43 := NB166_161.out
    have hnc43 := NB161_166.out
    have hnb44 := NB166_165.out
    have hnc44 := NB165_166.out
    have hcz45_0 : w41.cell? ⟨gb166, 0, none⟩ = some (.string ((rd_T43 l0_7 1).f0)) := (blk_cell BK166.out 0).trans rfl
    have hcz45_1 : w41.cell? ⟨gb166, 1, none⟩ = some (.int .i64 ((rd_T43 l0_7 1).f1)) := (blk_cell BK166.out 1).trans rfl
    have hcz45_2 : w41.cell? ⟨gb166, 2, none⟩ = some (.int .i64 ((rd_T43 l0_7 1).f2)) := (blk_cell BK166.out 2).trans rfl
    have hcz45_3 : w41.cell? ⟨gb166, 3, none⟩ = some (.int .i64 ((rd_T43 l0_7 1).f3.f0)) := (blk_cell BK166.out 3).trans rfl
    have hcz45_4 : w41.cell? ⟨gb166, 4, none⟩ = some (.int .i64 ((rd_T43 l0_7 1).f3.f1)) := (blk_cell BK166.out 4).trans rfl
    have hcz45_5 : w41.cell? ⟨gb166, 5, none⟩ = some (.string ((rd_T43 l0_7 1).f3.f2)) := (blk_cell BK166.out 5).trans rfl
    have hcz45_6 : w41.cell? ⟨gb166, 6, none⟩ = some (.bool ((rd_T43 l0_7 1).f3.f3)) := (blk_cell BK166.out 6).trans rfl
    have hcz45_7 : w41.cell? ⟨gb166, 7, none⟩ = some (.slice A164_7 ((rd_T43 l0_7 1).f4).length c164_7) := (blk_cell BK166.out 7).trans rfl
    have hfz45_0 := blk_frozen BK166.out 0
    have hfz45_1 := blk_frozen BK166.out 1
    have hfz45_2 := blk_frozen BK166.out 2
    have hfz45_3 := blk_frozen BK166.out 3
    have hfz45_4 := blk_frozen BK166.out 4
    have hfz45_5 := blk_frozen BK166.out 5
    have hfz45_6 := blk_frozen BK166.out 6
    have hfz45_7 := blk_frozen BK166.out 7
    go_upto_if 39 with (fail)
    go_cut [10] (fun v10 wc => ∃ (kq : Nat) (x10_20 : ByteArray) (x166000_20 : ByteArray) (x166001_20 : Int) (x166002_20 : Int) (x166003_20 : Int) (x166004_20 : Int) (x166005_20 : ByteArray) (x166006_20 : Bool) (x166007_20 : List (S43)) (x167000_20 : ByteArray) (x167001_20 : Int) (x167002_20 : Int) (x167003_20 : Int) (x167004_20 : Int) (x167005_20 : ByteArray) (x167006_20 : Bool) (x167007_20 : List (S43)) (u166007 : Value) (u167007 : Value), v10 = .string x10_20 ∧ Aside0 (plan_bound.j1 kq a1 a2 x10_20 x166000_20 x166001_20 x166002_20 x166003_20 x166004_20 x166005_20 x166006_20 x166007_20 x167000_20 x167001_20 x167002_20 x167003_20 x167004_20 x167005_20 x167006_20 x167007_20 = some (r1, r2, r3, r4, r5, r6, r7)) ∧ Aside0 (kq ≤ kj3) ∧ Aside0 (wc.heap[gb160]? = some (.cells #[.string a0_0, .int .i64 a0_1, .int .i64 a0_2, .int .i64 a0_3, .int .i64 a0_4, .string a0_5, .bool a0_6, (.slice (some ad163) l0_7.length c0_7)] 43 (0, 0))) ∧ Aside0 (wc.heap[gb161]? = some (.cells #[.string (⟨#[]⟩ : ByteArray), .string (⟨#[]⟩ : ByteArray), .bool false, .bool false, .bool false, .bool false] 35 (0, 0))) ∧ Aside0 (wc.heap[gb165]? = some (.cells #[.string x166000_20, .int .i64 x166001_20, .int .i64 x166002_20, .int .i64 x166003_20, .int .i64 x166004_20, .string x166005_20, .bool x166006_20, u166007] 43 (0, 0))) ∧ Aside0 (wc.heap[gb166]? = some (.cells #[.string x167000_20, .int .i64 x167001_20, .int .i64 x167002_20, .int .i64 x167003_20, .int .i64 x167004_20, .string x167005_20, .bool x167006_20, u167007] 43 (0, 0))) ∧ Aside0 (Below w.heap.size w wc))
    case first =>
      have H := HC21.out
      clear HC21
      by_cases c46 : ((rd_T43 l0_7 1).f0).toList = ([99, 111, 108] : List UInt8)
      · rw [if_pos c46] at H
        have c46b0 : (((rd_T43 l0_7 1).f0).toList == ([99, 111, 108] : List UInt8)) = true := beq_iff_eq.mpr c46
        have c46b1 : (((rd_T43 l0_7 1).f0).toList != ([99, 111, 108] : List UInt8)) = false := bne_eq_false_iff_eq.mpr c46
        clear c46
        (first | rw [c46b0] | (simp only [i64_w, i32_w]; rw [c46b0]) | skip)
        replace H := Option.bind_eq_some_iff.mp H
        obtain ⟨t167, A470, H⟩ := H
        (try dsimp only at H)
        have A47 := Aside0.mk A470
        clear A470
        have H' := Aside0.mk H
        clear H
        try go_wp2
        have n0_ := Aside0.mk (blk_drew BK160.out)
        have n1_ := Aside0.mk (blk_drew BK161.out)
        have n2_ := Aside0.mk (blk_drew BK165.out)
        have n3_ := Aside0.mk (blk_drew BK166.out)
        have n4_ := Aside0.mk (below_drew1 HB.out)
        clear BK160
        clear BK161
        clear BK165
        clear BK166
        clear HB
        have BK160 := n0_
        have BK161 := n1_
        have BK165 := n2_
        have BK166 := n3_
        have HB := n4_
        clear n0_ n1_ n2_ n3_ n4_
        refine start_ (n := 7) (S := fun w' => w'.cell? ⟨gb166, 0, none⟩ = some (.string ((rd_T43 l0_7 1).f0)) ∧ w'.cell? ⟨gb166, 1, none⟩ = some (.int .i64 ((rd_T43 l0_7 1).f1)) ∧ w'.cell? ⟨gb166, 2, none⟩ = some (.int .i64 ((rd_T43 l0_7 1).f2)) ∧ w'.cell? ⟨gb166, 3, none⟩ = some (.int .i64 ((rd_T43 l0_7 1).f3.f0)) ∧ w'.cell? ⟨gb166, 4, none⟩ = some (.int .i64 ((rd_T43 l0_7 1).f3.f1)) ∧ w'.cell? ⟨gb166, 5, none⟩ = some (.string ((rd_T43 l0_7 1).f3.f2)) ∧ w'.cell? ⟨gb166, 6, none⟩ = some (.bool ((rd_T43 l0_7 1).f3.f3)) ∧ w'.cell? ⟨gb166, 7, none⟩ = some (.slice A164_7 ((rd_T43 l0_7 1).f4).length c164_7) ∧ w'.cell? ⟨gb165, 0, none⟩ = some (.string ((rd_T43 l0_7 0).f0)) ∧ w'.cell? ⟨gb165, 1, none⟩ = some (.int .i64 ((rd_T43 l0_7 0).f1)) ∧ w'.cell? ⟨gb165, 2, none⟩ = some (.int .i64 ((rd_T43 l0_7 0).f2)) ∧ w'.cell? ⟨gb165, 3, none⟩ = some (.int .i64 ((rd_T43 l0_7 0).f3.f0)) ∧ w'.cell? ⟨gb165, 4, none⟩ = some (.int .i64 ((rd_T43 l0_7 0).f3.f1)) ∧ w'.cell? ⟨gb165, 5, none⟩ = some (.string ((rd_T43 l0_7 0).f3.f2)) ∧ w'.cell? ⟨gb165, 6, none⟩ = some (.bool ((rd_T43 l0_7 0).f3.f3)) ∧ w'.cell? ⟨gb165, 7, none⟩ = some (.slice A163_7 ((rd_T43 l0_7 0).f4).length c163_7)) (ds := [4, 5]) #[false, false, false, false, false, false, false] (by kernel_rfl) rfl rfl ⟨(blk_cell BK166.out 0).trans rfl, (blk_cell BK166.out 1).trans rfl, (blk_cell BK166.out 2).trans rfl, (blk_cell BK166.out 3).trans rfl, (blk_cell BK166.out 4).trans rfl, (blk_cell BK166.out 5).trans rfl, (blk_cell BK166.out 6).trans rfl, (blk_cell BK166.out 7).trans rfl, (blk_cell BK165.out 0).trans rfl, (blk_cell BK165.out 1).trans rfl, (blk_cell BK165.out 2).trans rfl, (blk_cell BK165.out 3).trans rfl, (blk_cell BK165.out 4).trans rfl, (blk_cell BK165.out 5).trans rfl, (blk_cell BK165.out 6).trans rfl, (blk_cell BK165.out 7).trans rfl⟩ (fun hHeld => ?_)
        generalize w41.drew = w48 at BK160 BK161 BK165 BK166 HB hHeld ⊢
        refine pure_ (i := 2) (N := some 42) (v := ?_) (a' := ?_) #[false, false, true, false, false, false, false] rfl rfl (by kernel_rfl) (fun _ _ _ h => h) (Or.inl ⟨by rfl, ?_⟩) ?_ ?_
        rotate_left
        · intro w'
          go_simp
          with_reducible rfl
        rotate_left
        · simp only [Act.put, List.setIfInBounds_toArray, List.set_cons_zero, List.set_cons_succ, i64_w, i32_w]
          rfl
        refine take_ (i := 0) (N := some 40) (v := ?_) (a' := ?_) #[true, false, true, false, false, false, false] rfl rfl (by kernel_rfl) (fun _ _ _ h => h) (Or.inl ⟨by rfl, ?_⟩) hHeld ?_ ?_
        rotate_left
        · rintro w' ⟨s0, s1, s2, s3, s4, s5, s6, s7, s8, s9, s10, s11, s12, s13, s14, s15⟩
          go_simp
          with_reducible rfl
        rotate_left
        · simp only [Act.put, List.setIfInBounds_toArray, List.set_cons_zero, List.set_cons_succ, i64_w, i32_w]
          rfl
        refine take_ (i := 1) (N := some 41) (v := ?_) (a' := ?_) #[true, true, true, false, false, false, false] rfl rfl (by kernel_rfl) (fun _ _ _ h => h) (Or.inl ⟨by rfl, ?_⟩) hHeld ?_ ?_
        rotate_left
        · rintro w' ⟨s0, s1, s2, s3, s4, s5, s6, s7, s8, s9, s10, s11, s12, s13, s14, s15⟩
          go_simp
          with_reducible rfl
        rotate_left
        · simp only [Act.put, List.setIfInBounds_toArray, List.set_cons_zero, List.set_cons_succ, i64_w, i32_w]
          rfl
        refine one_ (i := 3) (N := some 43) #[true, true, true, true, false, false, false] rfl rfl (by kernel_rfl) (by decide) (fun K hK => ?_)
        refine goes_ Try.func16 (by kernel_rfl) rfl #[.string a0_0] (by rfl) rfl rfl (by (try simp only [List.map_toArray, List.map_cons, List.map_nil]); first | done | rfl | (simp only [List.length_drop, List.length_take]; rfl)) ?_
        with_reducible refine (plan_turned.calls a0_0 t167 _ A47.out).mono ?_
        rintro e w' ⟨rfl, ⟨nd, rfl⟩⟩
        refine ⟨_, rfl, ?_⟩
        refine hK.out _ _ ⟨(blk_cell BK166.out 0).trans rfl, (blk_cell BK166.out 1).trans rfl, (blk_cell BK166.out 2).trans rfl, (blk_cell BK166.out 3).trans rfl, (blk_cell BK166.out 4).trans rfl, (blk_cell BK166.out 5).trans rfl, (blk_cell BK166.out 6).trans rfl, (blk_cell BK166.out 7).trans rfl, (blk_cell BK165.out 0).trans rfl, (blk_cell BK165.out 1).trans rfl, (blk_cell BK165.out 2).trans rfl, (blk_cell BK165.out 3).trans rfl, (blk_cell BK165.out 4).trans rfl, (blk_cell BK165.out 5).trans rfl, (blk_cell BK165.out 6).trans rfl, (blk_cell BK165.out 7).trans rfl⟩ (fun hHeld => ?_)
        clear hK K
        refine norm_ (a' := ?_) ?_ ?_
        rotate_left
        · show Act.put _ (some 43) _ = _
          simp only [Act.put, List.setIfInBounds_toArray, List.set_cons_zero, List.set_cons_succ, i64_w, i32_w]
          rfl
        refine last_ (i := 4) (N := none) #[true, true, true, true, true, false, false] rfl rfl (by kernel_rfl) (by decide) (fun K hK => ?_)
        have hs49 : w48.cell? ⟨gb165, 0, none⟩ = some (.string ((rd_T43 l0_7 0).f0)) := (blk_cell BK165.out 0).trans rfl
        have hfs49 := blk_frozen BK165.out 0
        have hns49_0 := NB160_165.out
        have hns49_1 := NB161_165.out
        have hns49_3 := NB166_165.out
        have hms49_0 := NB165_160.out
        have hms49_1 := NB165_161.out
        have hms49_3 := NB165_166.out
        have hs50 : w48.cell? ⟨gb165, 1, none⟩ = some (.int .i64 ((rd_T43 l0_7 0).f1)) := (blk_cell BK165.out 1).trans rfl
        have hfs50 := blk_frozen BK165.out 1
        have hs51 : w48.cell? ⟨gb165, 2, none⟩ = some (.int .i64 ((rd_T43 l0_7 0).f2)) := (blk_cell BK165.out 2).trans rfl
        have hfs51 := blk_frozen BK165.out 2
        have hs52 : w48.cell? ⟨gb165, 3, none⟩ = some (.int .i64 ((rd_T43 l0_7 0).f3.f0)) := (blk_cell BK165.out 3).trans rfl
        have hfs52 := blk_frozen BK165.out 3
        have hs53 : w48.cell? ⟨gb165, 4, none⟩ = some (.int .i64 ((rd_T43 l0_7 0).f3.f1)) := (blk_cell BK165.out 4).trans rfl
        have hfs53 := blk_frozen BK165.out 4
        have hs54 : w48.cell? ⟨gb165, 5, none⟩ = some (.string ((rd_T43 l0_7 0).f3.f2)) := (blk_cell BK165.out 5).trans rfl
        have hfs54 := blk_frozen BK165.out 5
        have hs55 : w48.cell? ⟨gb165, 6, none⟩ = some (.bool ((rd_T43 l0_7 0).f3.f3)) := (blk_cell BK165.out 6).trans rfl
        have hfs55 := blk_frozen BK165.out 6
        have hs56 : w48.cell? ⟨gb165, 7, none⟩ = some (.slice A163_7 ((rd_T43 l0_7 0).f4).length c163_7) := (blk_cell BK165.out 7).trans rfl
        have hfs56 := blk_frozen BK165.out 7
        refine skip_ (w1 := ?_) ?sh1 ?sh2 ?_ ?_
        case sh1 => rfl
        case sh2 => rfl
        rotate_left
        · go_simp
          rfl
        refine hK.out _ _ ?_
        clear hK K
        refine last_ (i := 5) (N := none) #[true, true, true, true, true, true, false] rfl rfl (by kernel_rfl) (by decide) (fun K hK => ?_)
        have hs57 : w48.cell? ⟨gb166, 0, none⟩ = some (.string ((rd_T43 l0_7 1).f0)) := (blk_cell BK166.out 0).trans rfl
        have hfs57 := blk_frozen BK166.out 0
        have hns57_0 := NB160_166.out
        have hns57_1 := NB161_166.out
        have hns57_2 := NB165_166.out
        have hms57_0 := NB166_160.out
        have hms57_1 := NB166_161.out
        have hms57_2 := NB166_165.out
        have hs58 : w48.cell? ⟨gb166, 1, none⟩ = some (.int .i64 ((rd_T43 l0_7 1).f1)) := (blk_cell BK166.out 1).trans rfl
        have hfs58 := blk_frozen BK166.out 1
        have hs59 : w48.cell? ⟨gb166, 2, none⟩ = some (.int .i64 ((rd_T43 l0_7 1).f2)) := (blk_cell BK166.out 2).trans rfl
        have hfs59 := blk_frozen BK166.out 2
        have hs60 : w48.cell? ⟨gb166, 3, none⟩ = some (.int .i64 ((rd_T43 l0_7 1).f3.f0)) := (blk_cell BK166.out 3).trans rfl
        have hfs60 := blk_frozen BK166.out 3
        have hs61 : w48.cell? ⟨gb166, 4, none⟩ = some (.int .i64 ((rd_T43 l0_7 1).f3.f1)) := (blk_cell BK166.out 4).trans rfl
        have hfs61 := blk_frozen BK166.out 4
        have hs62 : w48.cell? ⟨gb166, 5, none⟩ = some (.string ((rd_T43 l0_7 1).f3.f2)) := (blk_cell BK166.out 5).trans rfl
        have hfs62 := blk_frozen BK166.out 5
        have hs63 : w48.cell? ⟨gb166, 6, none⟩ = some (.bool ((rd_T43 l0_7 1).f3.f3)) := (blk_cell BK166.out 6).trans rfl
        have hfs63 := blk_frozen BK166.out 6
        have hs64 : w48.cell? ⟨gb166, 7, none⟩ = some (.slice A164_7 ((rd_T43 l0_7 1).f4).length c164_7) := (blk_cell BK166.out 7).trans rfl
        have hfs64 := blk_frozen BK166.out 7
        refine skip_ (w1 := ?_) ?sh1 ?sh2 ?_ ?_
        case sh1 => rfl
        case sh2 => rfl
        rotate_left
        · go_simp
          rfl
        refine hK.out _ _ ?_
        clear hK K
        refine pure_ (i := 6) (N := some 10) (v := ?_) (a' := ?_) #[true, true, true, true, true, true, true] rfl rfl (by kernel_rfl) (fun _ _ _ h => h) (Or.inl ⟨by rfl, ?_⟩) ?_ ?_
        rotate_left
        · intro w'
          go_simp
          with_reducible rfl
        rotate_left
        · simp only [Act.put, List.setIfInBounds_toArray, List.set_cons_zero, List.set_cons_succ, i64_w, i32_w]
          rfl
        refine done_ (by kernel_rfl) ?_
        try go_wp2
        refine Met.intro ?_
        go_step
        (repeat apply Exists.intro)
        refine ⟨?rel, ?frm⟩
        case frm => first | rfl | (simp only [c19b0, c19b1, c20b0, c20b1, c46b0, c46b1]; rfl) | (simp only [c19b0, c19b1, c20b0, c20b1, c46b0, c46b1]; first | done | rfl)
        case rel => exact ⟨_, (t167), ((rd_T43 l0_7 1).f0), ((rd_T43 l0_7 1).f1), ((rd_T43 l0_7 1).f2), ((rd_T43 l0_7 1).f3.f0), ((rd_T43 l0_7 1).f3.f1), ((rd_T43 l0_7 1).f3.f2), ((rd_T43 l0_7 1).f3.f3), ((rd_T43 l0_7 1).f4), ((rd_T43 l0_7 0).f0), ((rd_T43 l0_7 0).f1), ((rd_T43 l0_7 0).f2), ((rd_T43 l0_7 0).f3.f0), ((rd_T43 l0_7 0).f3.f1), ((rd_T43 l0_7 0).f3.f2), ((rd_T43 l0_7 0).f3.f3), ((rd_T43 l0_7 0).f4), (.slice A164_7 ((rd_T43 l0_7 1).f4).length c164_7), (.slice A163_7 ((rd_T43 l0_7 0).f4).length c163_7), (by first | rfl | (simp; done) | (simp [*]; done) | (simp [bne]; done)), H', ⟨by have := HJ3.out; first | omega | exact Nat.le_refl _⟩, ⟨by (with_reducible repeat (first | refine blk_drewN ?_ _ | refine blk_drew ?_ | refine blk_alloc ?_ _)); refine blk_far ?_ NB160_166.out _; (with_reducible repeat (first | refine blk_drewN ?_ _ | refine blk_drew ?_ | refine blk_alloc ?_ _)); refine blk_far ?_ NB160_166.out _; (with_reducible repeat (first | refine blk_drewN ?_ _ | refine blk_drew ?_ | refine blk_alloc ?_ _)); refine blk_far ?_ NB160_166.out _; (with_reducible repeat (first | refine blk_drewN ?_ _ | refine blk_drew ?_ | refine blk_alloc ?_ _)); refine blk_far ?_ NB160_166.out _; (with_reducible repeat (first | refine blk_drewN ?_ _ | refine blk_drew ?_ | refine blk_alloc ?_ _)); refine blk_far ?_ NB160_166.out _; (with_reducible repeat (first | refine blk_drewN ?_ _ | refine blk_drew ?_ | refine blk_alloc ?_ _)); refine blk_far ?_ NB160_166.out _; (with_reducible repeat (first | refine blk_drewN ?_ _ | refine blk_drew ?_ | refine blk_alloc ?_ _)); refine blk_far ?_ NB160_166.out _; (with_reducible repeat (first | refine blk_drewN ?_ _ | refine blk_drew ?_ | refine blk_alloc ?_ _)); refine blk_far ?_ NB160_166.out _; (with_reducible repeat (first | refine blk_drewN ?_ _ | refine blk_drew ?_ | refine blk_alloc ?_ _)); refine blk_far ?_ NB160_165.out _; (with_reducible repeat (first | refine blk_drewN ?_ _ | refine blk_drew ?_ | refine blk_alloc ?_ _)); refine blk_far ?_ NB160_165.out _; (with_reducible repeat (first | refine blk_drewN ?_ _ | refine blk_drew ?_ | refine blk_alloc ?_ _)); refine blk_far ?_ NB160_165.out _; (with_reducible repeat (first | refine blk_drewN ?_ _ | refine blk_drew ?_ | refine blk_alloc ?_ _)); refine blk_far ?_ NB160_165.out _; (with_reducible repeat (first | refine blk_drewN ?_ _ | refine blk_drew ?_ | refine blk_alloc ?_ _)); refine blk_far ?_ NB160_165.out _; (with_reducible repeat (first | refine blk_drewN ?_ _ | refine blk_drew ?_ | refine blk_alloc ?_ _)); refine blk_far ?_ NB160_165.out _; (with_reducible repeat (first | refine blk_drewN ?_ _ | refine blk_drew ?_ | refine blk_alloc ?_ _)); refine blk_far ?_ NB160_165.out _; (with_reducible repeat (first | refine blk_drewN ?_ _ | refine blk_drew ?_ | refine blk_alloc ?_ _)); refine blk_far ?_ NB160_165.out _; (with_reducible repeat (first | refine blk_drewN ?_ _ | refine blk_drew ?_ | refine blk_alloc ?_ _)); exact BK160.out⟩, ⟨by (with_reducible repeat (first | refine blk_drewN ?_ _ | refine blk_drew ?_ | refine blk_alloc ?_ _)); refine blk_far ?_ NB161_166.out _; (with_reducible repeat (first | refine blk_drewN ?_ _ | refine blk_drew ?_ | refine blk_alloc ?_ _)); refine blk_far ?_ NB161_166.out _; (with_reducible repeat (first | refine blk_drewN ?_ _ | refine blk_drew ?_ | refine blk_alloc ?_ _)); refine blk_far ?_ NB161_166.out _; (with_reducible repeat (first | refine blk_drewN ?_ _ | refine blk_drew ?_ | refine blk_alloc ?_ _)); refine blk_far ?_ NB161_166.out _; (with_reducible repeat (first | refine blk_drewN ?_ _ | refine blk_drew ?_ | refine blk_alloc ?_ _)); refine blk_far ?_ NB161_166.out _; (with_reducible repeat (first | refine blk_drewN ?_ _ | refine blk_drew ?_ | refine blk_alloc ?_ _)); refine blk_far ?_ NB161_166.out _; (with_reducible repeat (first | refine blk_drewN ?_ _ | refine blk_drew ?_ | refine blk_alloc ?_ _)); refine blk_far ?_ NB161_166.out _; (with_reducible repeat (first | refine blk_drewN ?_ _ | refine blk_drew ?_ | refine blk_alloc ?_ _)); refine blk_far ?_ NB161_166.out _; (with_reducible repeat (first | refine blk_drewN ?_ _ | refine blk_drew ?_ | refine blk_alloc ?_ _)); refine blk_far ?_ NB161_165.out _; (with_reducible repeat (first | refine blk_drewN ?_ _ | refine blk_drew ?_ | refine blk_alloc ?_ _)); refine blk_far ?_ NB161_165.out _; (with_reducible repeat (first | refine blk_drewN ?_ _ | refine blk_drew ?_ | refine blk_alloc ?_ _)); refine blk_far ?_ NB161_165.out _; (with_reducible repeat (first | refine blk_drewN ?_ _ | refine blk_drew ?_ | refine blk_alloc ?_ _)); refine blk_far ?_ NB161_165.out _; (with_reducible repeat (first | refine blk_drewN ?_ _ | refine blk_drew ?_ | refine blk_alloc ?_ _)); refine blk_far ?_ NB161_165.out _; (with_reducible repeat (first | refine blk_drewN ?_ _ | refine blk_drew ?_ | refine blk_alloc ?_ _)); refine blk_far ?_ NB161_165.out _; (with_reducible repeat (first | refine blk_drewN ?_ _ | refine blk_drew ?_ | refine blk_alloc ?_ _)); refine blk_far ?_ NB161_165.out _; (with_reducible repeat (first | refine blk_drewN ?_ _ | refine blk_drew ?_ | refine blk_alloc ?_ _)); refine blk_far ?_ NB161_165.out _; (with_reducible repeat (first | refine blk_drewN ?_ _ | refine blk_drew ?_ | refine blk_alloc ?_ _)); exact BK161.out⟩, ⟨by (with_reducible repeat (first | refine blk_drewN ?_ _ | refine blk_drew ?_ | refine blk_alloc ?_ _)); refine blk_far ?_ NB165_166.out _; (with_reducible repeat (first | refine blk_drewN ?_ _ | refine blk_drew ?_ | refine blk_alloc ?_ _)); refine blk_far ?_ NB165_166.out _; (with_reducible repeat (first | refine blk_drewN ?_ _ | refine blk_drew ?_ | refine blk_alloc ?_ _)); refine blk_far ?_ NB165_166.out _; (with_reducible repeat (first | refine blk_drewN ?_ _ | refine blk_drew ?_ | refine blk_alloc ?_ _)); refine blk_far ?_ NB165_166.out _; (with_reducible repeat (first | refine blk_drewN ?_ _ | refine blk_drew ?_ | refine blk_alloc ?_ _)); refine blk_far ?_ NB165_166.out _; (with_reducible repeat (first | refine blk_drewN ?_ _ | refine blk_drew ?_ | refine blk_alloc ?_ _)); refine blk_far ?_ NB165_166.out _; (with_reducible repeat (first | refine blk_drewN ?_ _ | refine blk_drew ?_ | refine blk_alloc ?_ _)); refine blk_far ?_ NB165_166.out _; (with_reducible repeat (first | refine blk_drewN ?_ _ | refine blk_drew ?_ | refine blk_alloc ?_ _)); refine blk_far ?_ NB165_166.out _; (with_reducible repeat (first | refine blk_drewN ?_ _ | refine blk_drew ?_ | refine blk_alloc ?_ _)); refine blk_put (cs := #[.string ((rd_T43 l0_7 1).f0), .int .i64 ((rd_T43 l0_7 1).f1), .int .i64 ((rd_T43 l0_7 1).f2), .int .i64 ((rd_T43 l0_7 1).f3.f0), .int .i64 ((rd_T43 l0_7 1).f3.f1), .string ((rd_T43 l0_7 1).f3.f2), .bool ((rd_T43 l0_7 1).f3.f3), .slice A163_7 ((rd_T43 l0_7 0).f4).length c163_7]) ?_ 7 _ rfl; (with_reducible repeat (first | refine blk_drewN ?_ _ | refine blk_drew ?_ | refine blk_alloc ?_ _)); refine blk_put (cs := #[.string ((rd_T43 l0_7 1).f0), .int .i64 ((rd_T43 l0_7 1).f1), .int .i64 ((rd_T43 l0_7 1).f2), .int .i64 ((rd_T43 l0_7 1).f3.f0), .int .i64 ((rd_T43 l0_7 1).f3.f1), .string ((rd_T43 l0_7 1).f3.f2), .bool ((rd_T43 l0_7 0).f3.f3), .slice A163_7 ((rd_T43 l0_7 0).f4).length c163_7]) ?_ 6 _ rfl; (with_reducible repeat (first | refine blk_drewN ?_ _ | refine blk_drew ?_ | refine blk_alloc ?_ _)); refine blk_put (cs := #[.string ((rd_T43 l0_7 1).f0), .int .i64 ((rd_T43 l0_7 1).f1), .int .i64 ((rd_T43 l0_7 1).f2), .int .i64 ((rd_T43 l0_7 1).f3.f0), .int .i64 ((rd_T43 l0_7 1).f3.f1), .string ((rd_T43 l0_7 0).f3.f2), .bool ((rd_T43 l0_7 0).f3.f3), .slice A163_7 ((rd_T43 l0_7 0).f4).length c163_7]) ?_ 5 _ rfl; (with_reducible repeat (first | refine blk_drewN ?_ _ | refine blk_drew ?_ | refine blk_alloc ?_ _)); refine blk_put (cs := #[.string ((rd_T43 l0_7 1).f0), .int .i64 ((rd_T43 l0_7 1).f1), .int .i64 ((rd_T43 l0_7 1).f2), .int .i64 ((rd_T43 l0_7 1).f3.f0), .int .i64 ((rd_T43 l0_7 0).f3.f1), .string ((rd_T43 l0_7 0).f3.f2), .bool ((rd_T43 l0_7 0).f3.f3), .slice A163_7 ((rd_T43 l0_7 0).f4).length c163_7]) ?_ 4 _ rfl; (with_reducible repeat (first | refine blk_drewN ?_ _ | refine blk_drew ?_ | refine blk_alloc ?_ _)); refine blk_put (cs := #[.string ((rd_T43 l0_7 1).f0), .int .i64 ((rd_T43 l0_7 1).f1), .int .i64 ((rd_T43 l0_7 1).f2), .int .i64 ((rd_T43 l0_7 0).f3.f0), .int .i64 ((rd_T43 l0_7 0).f3.f1), .string ((rd_T43 l0_7 0).f3.f2), .bool ((rd_T43 l0_7 0).f3.f3), .slice A163_7 ((rd_T43 l0_7 0).f4).length c163_7]) ?_ 3 _ rfl; (with_reducible repeat (first | refine blk_drewN ?_ _ | refine blk_drew ?_ | refine blk_alloc ?_ _)); refine blk_put (cs := #[.string ((rd_T43 l0_7 1).f0), .int .i64 ((rd_T43 l0_7 1).f1), .int .i64 ((rd_T43 l0_7 0).f2), .int .i64 ((rd_T43 l0_7 0).f3.f0), .int .i64 ((rd_T43 l0_7 0).f3.f1), .string ((rd_T43 l0_7 0).f3.f2), .bool ((rd_T43 l0_7 0).f3.f3), .slice A163_7 ((rd_T43 l0_7 0).f4).length c163_7]) ?_ 2 _ rfl; (with_reducible repeat (first | refine blk_drewN ?_ _ | refine blk_drew ?_ | refine blk_alloc ?_ _)); refine blk_put (cs := #[.string ((rd_T43 l0_7 1).f0), .int .i64 ((rd_T43 l0_7 0).f1), .int .i64 ((rd_T43 l0_7 0).f2), .int .i64 ((rd_T43 l0_7 0).f3.f0), .int .i64 ((rd_T43 l0_7 0).f3.f1), .string ((rd_T43 l0_7 0).f3.f2), .bool ((rd_T43 l0_7 0).f3.f3), .slice A163_7 ((rd_T43 l0_7 0).f4).length c163_7]) ?_ 1 _ rfl; (with_reducible repeat (first | refine blk_drewN ?_ _ | refine blk_drew ?_ | refine blk_alloc ?_ _)); refine blk_put (cs := #[.string ((rd_T43 l0_7 0).f0), .int .i64 ((rd_T43 l0_7 0).f1), .int .i64 ((rd_T43 l0_7 0).f2), .int .i64 ((rd_T43 l0_7 0).f3.f0), .int .i64 ((rd_T43 l0_7 0).f3.f1), .string ((rd_T43 l0_7 0).f3.f2), .bool ((rd_T43 l0_7 0).f3.f3), .slice A163_7 ((rd_T43 l0_7 0).f4).length c163_7]) ?_ 0 _ rfl; (with_reducible repeat (first | refine blk_drewN ?_ _ | refine blk_drew ?_ | refine blk_alloc ?_ _)); exact BK165.out⟩, ⟨by (with_reducible repeat (first | refine blk_drewN ?_ _ | refine blk_drew ?_ | refine blk_alloc ?_ _)); refine blk_put (cs := #[.string ((rd_T43 l0_7 0).f0), .int .i64 ((rd_T43 l0_7 0).f1), .int .i64 ((rd_T43 l0_7 0).f2), .int .i64 ((rd_T43 l0_7 0).f3.f0), .int .i64 ((rd_T43 l0_7 0).f3.f1), .string ((rd_T43 l0_7 0).f3.f2), .bool ((rd_T43 l0_7 0).f3.f3), .slice A164_7 ((rd_T43 l0_7 1).f4).length c164_7]) ?_ 7 _ rfl; (with_reducible repeat (first | refine blk_drewN ?_ _ | refine blk_drew ?_ | refine blk_alloc ?_ _)); refine blk_put (cs := #[.string ((rd_T43 l0_7 0).f0), .int .i64 ((rd_T43 l0_7 0).f1), .int .i64 ((rd_T43 l0_7 0).f2), .int .i64 ((rd_T43 l0_7 0).f3.f0), .int .i64 ((rd_T43 l0_7 0).f3.f1), .string ((rd_T43 l0_7 0).f3.f2), .bool ((rd_T43 l0_7 1).f3.f3), .slice A164_7 ((rd_T43 l0_7 1).f4).length c164_7]) ?_ 6 _ rfl; (with_reducible repeat (first | refine blk_drewN ?_ _ | refine blk_drew ?_ | refine blk_alloc ?_ _)); refine blk_put (cs := #[.string ((rd_T43 l0_7 0).f0), .int .i64 ((rd_T43 l0_7 0).f1), .int .i64 ((rd_T43 l0_7 0).f2), .int .i64 ((rd_T43 l0_7 0).f3.f0), .int .i64 ((rd_T43 l0_7 0).f3.f1), .string ((rd_T43 l0_7 1).f3.f2), .bool ((rd_T43 l0_7 1).f3.f3), .slice A164_7 ((rd_T43 l0_7 1).f4).length c164_7]) ?_ 5 _ rfl; (with_reducible repeat (first | refine blk_drewN ?_ _ | refine blk_drew ?_ | refine blk_alloc ?_ _)); refine blk_put (cs := #[.string ((rd_T43 l0_7 0).f0), .int .i64 ((rd_T43 l0_7 0).f1), .int .i64 ((rd_T43 l0_7 0).f2), .int .i64 ((rd_T43 l0_7 0).f3.f0), .int .i64 ((rd_T43 l0_7 1).f3.f1), .string ((rd_T43 l0_7 1).f3.f2), .bool ((rd_T43 l0_7 1).f3.f3), .slice A164_7 ((rd_T43 l0_7 1).f4).length c164_7]) ?_ 4 _ rfl; (with_reducible repeat (first | refine blk_drewN ?_ _ | refine blk_drew ?_ | refine blk_alloc ?_ _)); refine blk_put (cs := #[.string ((rd_T43 l0_7 0).f0), .int .i64 ((rd_T43 l0_7 0).f1), .int .i64 ((rd_T43 l0_7 0).f2), .int .i64 ((rd_T43 l0_7 1).f3.f0), .int .i64 ((rd_T43 l0_7 1).f3.f1), .string ((rd_T43 l0_7 1).f3.f2), .bool ((rd_T43 l0_7 1).f3.f3), .slice A164_7 ((rd_T43 l0_7 1).f4).length c164_7]) ?_ 3 _ rfl; (with_reducible repeat (first | refine blk_drewN ?_ _ | refine blk_drew ?_ | refine blk_alloc ?_ _)); refine blk_put (cs := #[.string ((rd_T43 l0_7 0).f0), .int .i64 ((rd_T43 l0_7 0).f1), .int .i64 ((rd_T43 l0_7 1).f2), .int .i64 ((rd_T43 l0_7 1).f3.f0), .int .i64 ((rd_T43 l0_7 1).f3.f1), .string ((rd_T43 l0_7 1).f3.f2), .bool ((rd_T43 l0_7 1).f3.f3), .slice A164_7 ((rd_T43 l0_7 1).f4).length c164_7]) ?_ 2 _ rfl; (with_reducible repeat (first | refine blk_drewN ?_ _ | refine blk_drew ?_ | refine blk_alloc ?_ _)); refine blk_put (cs := #[.string ((rd_T43 l0_7 0).f0), .int .i64 ((rd_T43 l0_7 1).f1), .int .i64 ((rd_T43 l0_7 1).f2), .int .i64 ((rd_T43 l0_7 1).f3.f0), .int .i64 ((rd_T43 l0_7 1).f3.f1), .string ((rd_T43 l0_7 1).f3.f2), .bool ((rd_T43 l0_7 1).f3.f3), .slice A164_7 ((rd_T43 l0_7 1).f4).length c164_7]) ?_ 1 _ rfl; (with_reducible repeat (first | refine blk_drewN ?_ _ | refine blk_drew ?_ | refine blk_alloc ?_ _)); refine blk_put (cs := #[.string ((rd_T43 l0_7 1).f0), .int .i64 ((rd_T43 l0_7 1).f1), .int .i64 ((rd_T43 l0_7 1).f2), .int .i64 ((rd_T43 l0_7 1).f3.f0), .int .i64 ((rd_T43 l0_7 1).f3.f1), .string ((rd_T43 l0_7 1).f3.f2), .bool ((rd_T43 l0_7 1).f3.f3), .slice A164_7 ((rd_T43 l0_7 1).f4).length c164_7]) ?_ 0 _ rfl; (with_reducible repeat (first | refine blk_drewN ?_ _ | refine blk_drew ?_ | refine blk_alloc ?_ _)); refine blk_far ?_ NB166_165.out _; (with_reducible repeat (first | refine blk_drewN ?_ _ | refine blk_drew ?_ | refine blk_alloc ?_ _)); refine blk_far ?_ NB166_165.out _; (with_reducible repeat (first | refine blk_drewN ?_ _ | refine blk_drew ?_ | refine blk_alloc ?_ _)); refine blk_far ?_ NB166_165.out _; (with_reducible repeat (first | refine blk_drewN ?_ _ | refine blk_drew ?_ | refine blk_alloc ?_ _)); refine blk_far ?_ NB166_165.out _; (with_reducible repeat (first | refine blk_drewN ?_ _ | refine blk_drew ?_ | refine blk_alloc ?_ _)); refine blk_far ?_ NB166_165.out _; (with_reducible repeat (first | refine blk_drewN ?_ _ | refine blk_drew ?_ | refine blk_alloc ?_ _)); refine blk_far ?_ NB166_165.out _; (with_reducible repeat (first | refine blk_drewN ?_ _ | refine blk_drew ?_ | refine blk_alloc ?_ _)); refine blk_far ?_ NB166_165.out _; (with_reducible repeat (first | refine blk_drewN ?_ _ | refine blk_drew ?_ | refine blk_alloc ?_ _)); refine blk_far ?_ NB166_165.out _; (with_reducible repeat (first | refine blk_drewN ?_ _ | refine blk_drew ?_ | refine blk_alloc ?_ _)); exact BK166.out⟩, ⟨bw_ HB.out⟩⟩
      rw [if_neg c46] at H
      have c46b0 : (((rd_T43 l0_7 1).f0).toList == ([99, 111, 108] : List UInt8)) = false := beq_eq_false_iff_ne.mpr c46
      have c46b1 : (((rd_T43 l0_7 1).f0).toList != ([99, 111, 108] : List UInt8)) = true := bne_iff_ne.mpr c46
      (first | rw [c46b0] | (simp only [i64_w, i32_w]; rw [c46b0]) | skip)
      have H' := Aside0.mk H
      clear H
      go_wp2
      refine Met.intro ?_
      go_step
      (repeat apply Exists.intro)
      refine ⟨?rel, ?frm⟩
      case frm => first | rfl | (simp only [c19b0, c19b1, c20b0, c20b1, c46b0, c46b1]; rfl) | (simp only [c19b0, c19b1, c20b0, c20b1, c46b0, c46b1]; first | done | rfl)
      case rel => exact ⟨_, (a0_0), ((rd_T43 l0_7 0).f0), ((rd_T43 l0_7 0).f1), ((rd_T43 l0_7 0).f2), ((rd_T43 l0_7 0).f3.f0), ((rd_T43 l0_7 0).f3.f1), ((rd_T43 l0_7 0).f3.f2), ((rd_T43 l0_7 0).f3.f3), ((rd_T43 l0_7 0).f4), ((rd_T43 l0_7 1).f0), ((rd_T43 l0_7 1).f1), ((rd_T43 l0_7 1).f2), ((rd_T43 l0_7 1).f3.f0), ((rd_T43 l0_7 1).f3.f1), ((rd_T43 l0_7 1).f3.f2), ((rd_T43 l0_7 1).f3.f3), ((rd_T43 l0_7 1).f4), (.slice A163_7 ((rd_T43 l0_7 0).f4).length c163_7), (.slice A164_7 ((rd_T43 l0_7 1).f4).length c164_7), (by first | rfl | (simp; done) | (simp [*]; done) | (simp [bne]; done)), H', ⟨by have := HJ3.out; first | omega | exact Nat.le_refl _⟩, ⟨by (with_reducible repeat (first | refine blk_drewN ?_ _ | refine blk_drew ?_ | refine blk_alloc ?_ _)); exact BK160.out⟩, ⟨by (with_reducible repeat (first | refine blk_drewN ?_ _ | refine blk_drew ?_ | refine blk_alloc ?_ _)); exact BK161.out⟩, ⟨by (with_reducible repeat (first | refine blk_drewN ?_ _ | refine blk_drew ?_ | refine blk_alloc ?_ _)); exact BK165.out⟩, ⟨by (with_reducible repeat (first | refine blk_drewN ?_ _ | refine blk_drew ?_ | refine blk_alloc ?_ _)); exact BK166.out⟩, ⟨bw_ HB.out⟩⟩
    clear HC21
    (try clear c1); (try clear c2); (try clear p2); (try clear c4); (try clear c16); (try clear c19); (try clear c19b0); (try clear c19b1); (try clear c20); (try clear c20b0); (try clear c20b1); (try clear c42)
    (try clear c43); (try clear c44); (try clear c46); (try clear c46b0); (try clear c46b1); (try clear hcz45_0); (try clear hcz45_1); (try clear hcz45_2); (try clear hcz45_3); (try clear hcz45_4); (try clear hcz45_5); (try clear hcz45_6)
    (try clear hcz45_7); (try clear hfz45_0); (try clear hfz45_1); (try clear hfz45_2); (try clear hfz45_3); (try clear hfz45_4); (try clear hfz45_5); (try clear hfz45_6); (try clear hfz45_7)
    obtain ⟨kq, x10_20, x166000_20, x166001_20, x166002_20, x166003_20, x166004_20, x166005_20, x166006_20, x166007_20, x167000_20, x167001_20, x167002_20, x167003_20, x167004_20, x167005_20, x167006_20, x167007_20, u166007, u167007, rfl, HA, HJ20, BK160, BK161, BK165, BK166, HB⟩ := hcut
    cases kq with
    | zero => exact absurd HA.out (by simp [plan_bound.j1])
    | succ kj20 =>
      have H := HA.out
      clear HA
      simp only [plan_bound.j1] at H
      have HC65 := Aside0.mk H
      clear H
      go_upto_region 6 with (fail)
      go_cut [57] (fun v57 wc => ∃ (kq : Nat) (x57_64 : Bool) (x166007_64 : List (S43)) (x167007_64 : List (S43)) (u166007 : Value) (u167007 : Value), v57 = .bool x57_64 ∧ Aside0 (plan_bound.j2 kq a2 x10_20 x57_64 x167000_20 x167001_20 x167002_20 x167003_20 x167004_20 x167005_20 x167006_20 x167007_64 = some (r1, r2, r3, r4, r5, r6, r7)) ∧ Aside0 (kq ≤ kj20) ∧ Aside0 (wc.heap[gb160]? = some (.cells #[.string a0_0, .int .i64 a0_1, .int .i64 a0_2, .int .i64 a0_3, .int .i64 a0_4, .string a0_5, .bool a0_6, (.slice (some ad163) l0_7.length c0_7)] 43 (0, 0))) ∧ Aside0 (wc.heap[gb161]? = some (.cells #[.string (⟨#[]⟩ : ByteArray), .string (⟨#[]⟩ : ByteArray), .bool false, .bool false, .bool false, .bool false] 35 (0, 0))) ∧ Aside0 (wc.heap[gb165]? = some (.cells #[.string x166000_20, .int .i64 x166001_20, .int .i64 x166002_20, .int .i64 x166003_20, .int .i64 x166004_20, .string x166005_20, .bool x166006_20, u166007] 43 (0, 0))) ∧ Aside0 (wc.heap[gb166]? = some (.cells #[.string x167000_20, .int .i64 x167001_20, .int .i64 x167002_20, .int .i64 x167003_20, .int .i64 x167004_20, .string x167005_20, .bool x167006_20, u167007] 43 (0, 0))) ∧ Aside0 (Below w.heap.size w wc))
      case first =>
        have H := HC65.out
        clear HC65
        by_cases c66 : x166000_20.toList = ([99, 111, 108] : List UInt8)
        · rw [if_pos c66] at H
          have c66b0 : (x166000_20.toList == ([99, 111, 108] : List UInt8)) = true := beq_iff_eq.mpr c66
          have c66b1 : (x166000_20.toList != ([99, 111, 108] : List UInt8)) = false := bne_eq_false_iff_eq.mpr c66
          clear c66
          (first | rw [c66b0] | (simp only [i64_w, i32_w]; rw [c66b0]) | skip)
          by_cases c67 : x167000_20.toList = ([108, 105, 116] : List UInt8)
          · rw [if_pos c67] at H
            have c67b0 : (x167000_20.toList == ([108, 105, 116] : List UInt8)) = true := beq_iff_eq.mpr c67
            have c67b1 : (x167000_20.toList != ([108, 105, 116] : List UInt8)) = false := bne_eq_false_iff_eq.mpr c67
            clear c67
            have H' := Aside0.mk H
            clear H
            have hnb68 := NB165_160.out
            have hnc68 := NB160_165.out
            have hnb69 := NB165_161.out
            have hnc69 := NB161_165.out
            have hnb70 := NB165_166.out
            have hnc70 := NB166_165.out
            have hcz71_0 : wc.cell? ⟨gb165, 0, none⟩ = some (.string x166000_20) := (blk_cell BK165.out 0).trans rfl
            have hcz71_1 : wc.cell? ⟨gb165, 1, none⟩ = some (.int .i64 x166001_20) := (blk_cell BK165.out 1).trans rfl
            have hcz71_2 : wc.cell? ⟨gb165, 2, none⟩ = some (.int .i64 x166002_20) := (blk_cell BK165.out 2).trans rfl
            have hcz71_3 : wc.cell? ⟨gb165, 3, none⟩ = some (.int .i64 x166003_20) := (blk_cell BK165.out 3).trans rfl
            have hcz71_4 : wc.cell? ⟨gb165, 4, none⟩ = some (.int .i64 x166004_20) := (blk_cell BK165.out 4).trans rfl
            have hcz71_5 : wc.cell? ⟨gb165, 5, none⟩ = some (.string x166005_20) := (blk_cell BK165.out 5).trans rfl
            have hcz71_6 : wc.cell? ⟨gb165, 6, none⟩ = some (.bool x166006_20) := (blk_cell BK165.out 6).trans rfl
            have hcz71_7 : wc.cell? ⟨gb165, 7, none⟩ = some (u166007) := (blk_cell BK165.out 7).trans rfl
            have hfz71_0 := blk_frozen BK165.out 0
            have hfz71_1 := blk_frozen BK165.out 1
            have hfz71_2 := blk_frozen BK165.out 2
            have hfz71_3 := blk_frozen BK165.out 3
            have hfz71_4 := blk_frozen BK165.out 4
            have hfz71_5 := blk_frozen BK165.out 5
            have hfz71_6 := blk_frozen BK165.out 6
            have hfz71_7 := blk_frozen BK165.out 7
            have hnb72 := NB166_160.out
            have hnc72 := NB160_166.out
            have hnb73 := NB166_161.out
            have hnc73 := NB161_166.out
            have hcz74_0 : wc.cell? ⟨gb166, 0, none⟩ = some (.string x167000_20) := (blk_cell BK166.out 0).trans rfl
            have hcz74_1 : wc.cell? ⟨gb166, 1, none⟩ = some (.int .i64 x167001_20) := (blk_cell BK166.out 1).trans rfl
            have hcz74_2 : wc.cell? ⟨gb166, 2, none⟩ = some (.int .i64 x167002_20) := (blk_cell BK166.out 2).trans rfl
            have hcz74_3 : wc.cell? ⟨gb166, 3, none⟩ = some (.int .i64 x167003_20) := (blk_cell BK166.out 3).trans rfl
            have hcz74_4 : wc.cell? ⟨gb166, 4, none⟩ = some (.int .i64 x167004_20) := (blk_cell BK166.out 4).trans rfl
            have hcz74_5 : wc.cell? ⟨gb166, 5, none⟩ = some (.string x167005_20) := (blk_cell BK166.out 5).trans rfl
            have hcz74_6 : wc.cell? ⟨gb166, 6, none⟩ = some (.bool x167006_20) := (blk_cell BK166.out 6).trans rfl
            have hcz74_7 : wc.cell? ⟨gb166, 7, none⟩ = some (u167007) := (blk_cell BK166.out 7).trans rfl
            have hfz74_0 := blk_frozen BK166.out 0
            have hfz74_1 := blk_frozen BK166.out 1
            have hfz74_2 := blk_frozen BK166.out 2
            have hfz74_3 := blk_frozen BK166.out 3
            have hfz74_4 := blk_frozen BK166.out 4
            have hfz74_5 := blk_frozen BK166.out 5
            have hfz74_6 := blk_frozen BK166.out 6
            have hfz74_7 := blk_frozen BK166.out 7
            go_wp2
            refine Met.intro ?_
            go_step
            (repeat apply Exists.intro)
            refine ⟨?rel, ?frm⟩
            case frm => first | rfl | (simp only [c19b0, c19b1, c20b0, c20b1, c66b0, c66b1, c67b0, c67b1]; rfl) | (simp only [c19b0, c19b1, c20b0, c20b1, c66b0, c66b1, c67b0, c67b1]; first | done | rfl)
            case rel => exact ⟨_, ((x166002_20 != a1)), (x166007_20), (x167007_20), (u166007), (u167007), (by first | rfl | (simp; done) | (simp [*]; done) | (simp [bne]; done)), H', ⟨by have := HJ3.out; have := HJ20.out; first | omega | exact Nat.le_refl _⟩, ⟨by (with_reducible repeat (first | refine blk_drewN ?_ _ | refine blk_drew ?_ | refine blk_alloc ?_ _)); exact BK160.out⟩, ⟨by (with_reducible repeat (first | refine blk_drewN ?_ _ | refine blk_drew ?_ | refine blk_alloc ?_ _)); exact BK161.out⟩, ⟨by (with_reducible repeat (first | refine blk_drewN ?_ _ | refine blk_drew ?_ | refine blk_alloc ?_ _)); exact BK165.out⟩, ⟨by (with_reducible repeat (first | refine blk_drewN ?_ _ | refine blk_drew ?_ | refine blk_alloc ?_ _)); exact BK166.out⟩, ⟨bw_ HB.out⟩⟩
          rw [if_neg c67] at H
          have c67b0 : (x167000_20.toList == ([108, 105, 116] : List UInt8)) = false := beq_eq_false_iff_ne.mpr c67
          have c67b1 : (x167000_20.toList != ([108, 105, 116] : List UInt8)) = true := bne_iff_ne.mpr c67
          have H' := Aside0.mk H
          clear H
          have hnb75 := NB165_160.out
          have hnc75 := NB160_165.out
          have hnb76 := NB165_161.out
          have hnc76 := NB161_165.out
          have hnb77 := NB165_166.out
          have hnc77 := NB166_165.out
          have hcz78_0 : wc.cell? ⟨gb165, 0, none⟩ = some (.string x166000_20) := (blk_cell BK165.out 0).trans rfl
          have hcz78_1 : wc.cell? ⟨gb165, 1, none⟩ = some (.int .i64 x166001_20) := (blk_cell BK165.out 1).trans rfl
          have hcz78_2 : wc.cell? ⟨gb165, 2, none⟩ = some (.int .i64 x166002_20) := (blk_cell BK165.out 2).trans rfl
          have hcz78_3 : wc.cell? ⟨gb165, 3, none⟩ = some (.int .i64 x166003_20) := (blk_cell BK165.out 3).trans rfl
          have hcz78_4 : wc.cell? ⟨gb165, 4, none⟩ = some (.int .i64 x166004_20) := (blk_cell BK165.out 4).trans rfl
          have hcz78_5 : wc.cell? ⟨gb165, 5, none⟩ = some (.string x166005_20) := (blk_cell BK165.out 5).trans rfl
          have hcz78_6 : wc.cell? ⟨gb165, 6, none⟩ = some (.bool x166006_20) := (blk_cell BK165.out 6).trans rfl
          have hcz78_7 : wc.cell? ⟨gb165, 7, none⟩ = some (u166007) := (blk_cell BK165.out 7).trans rfl
          have hfz78_0 := blk_frozen BK165.out 0
          have hfz78_1 := blk_frozen BK165.out 1
          have hfz78_2 := blk_frozen BK165.out 2
          have hfz78_3 := blk_frozen BK165.out 3
          have hfz78_4 := blk_frozen BK165.out 4
          have hfz78_5 := blk_frozen BK165.out 5
          have hfz78_6 := blk_frozen BK165.out 6
          have hfz78_7 := blk_frozen BK165.out 7
          have hnb79 := NB166_160.out
          have hnc79 := NB160_166.out
          have hnb80 := NB166_161.out
          have hnc80 := NB161_166.out
          have hcz81_0 : wc.cell? ⟨gb166, 0, none⟩ = some (.string x167000_20) := (blk_cell BK166.out 0).trans rfl
          have hcz81_1 : wc.cell? ⟨gb166, 1, none⟩ = some (.int .i64 x167001_20) := (blk_cell BK166.out 1).trans rfl
          have hcz81_2 : wc.cell? ⟨gb166, 2, none⟩ = some (.int .i64 x167002_20) := (blk_cell BK166.out 2).trans rfl
          have hcz81_3 : wc.cell? ⟨gb166, 3, none⟩ = some (.int .i64 x167003_20) := (blk_cell BK166.out 3).trans rfl
          have hcz81_4 : wc.cell? ⟨gb166, 4, none⟩ = some (.int .i64 x167004_20) := (blk_cell BK166.out 4).trans rfl
          have hcz81_5 : wc.cell? ⟨gb166, 5, none⟩ = some (.string x167005_20) := (blk_cell BK166.out 5).trans rfl
          have hcz81_6 : wc.cell? ⟨gb166, 6, none⟩ = some (.bool x167006_20) := (blk_cell BK166.out 6).trans rfl
          have hcz81_7 : wc.cell? ⟨gb166, 7, none⟩ = some (u167007) := (blk_cell BK166.out 7).trans rfl
          have hfz81_0 := blk_frozen BK166.out 0
          have hfz81_1 := blk_frozen BK166.out 1
          have hfz81_2 := blk_frozen BK166.out 2
          have hfz81_3 := blk_frozen BK166.out 3
          have hfz81_4 := blk_frozen BK166.out 4
          have hfz81_5 := blk_frozen BK166.out 5
          have hfz81_6 := blk_frozen BK166.out 6
          have hfz81_7 := blk_frozen BK166.out 7
          go_wp2
          refine Met.intro ?_
          go_step
          (repeat apply Exists.intro)
          refine ⟨?rel, ?frm⟩
          case frm => first | rfl | (simp only [c19b0, c19b1, c20b0, c20b1, c66b0, c66b1, c67b0, c67b1]; rfl) | (simp only [c19b0, c19b1, c20b0, c20b1, c66b0, c66b1, c67b0, c67b1]; first | done | rfl)
          case rel => exact ⟨_, (true), (x166007_20), (x167007_20), (u166007), (u167007), (by first | rfl | (simp; done) | (simp [*]; done) | (simp [bne]; done)), H', ⟨by have := HJ3.out; have := HJ20.out; first | omega | exact Nat.le_refl _⟩, ⟨by (with_reducible repeat (first | refine blk_drewN ?_ _ | refine blk_drew ?_ | refine blk_alloc ?_ _)); exact BK160.out⟩, ⟨by (with_reducible repeat (first | refine blk_drewN ?_ _ | refine blk_drew ?_ | refine blk_alloc ?_ _)); exact BK161.out⟩, ⟨by (with_reducible repeat (first | refine blk_drewN ?_ _ | refine blk_drew ?_ | refine blk_alloc ?_ _)); exact BK165.out⟩, ⟨by (with_reducible repeat (first | refine blk_drewN ?_ _ | refine blk_drew ?_ | refine blk_alloc ?_ _)); exact BK166.out⟩, ⟨bw_ HB.out⟩⟩
        rw [if_neg c66] at H
        have c66b0 : (x166000_20.toList == ([99, 111, 108] : List UInt8)) = false := beq_eq_false_iff_ne.mpr c66
        have c66b1 : (x166000_20.toList != ([99, 111, 108] : List UInt8)) = true := bne_iff_ne.mpr c66
        (first | rw [c66b0] | (simp only [i64_w, i32_w]; rw [c66b0]) | skip)
        have H' := Aside0.mk H
        clear H
        have hnb82 := NB165_160.out
        have hnc82 := NB160_165.out
        have hnb83 := NB165_161.out
        have hnc83 := NB161_165.out
        have hnb84 := NB165_166.out
        have hnc84 := NB166_165.out
        have hcz85_0 : wc.cell? ⟨gb165, 0, none⟩ = some (.string x166000_20) := (blk_cell BK165.out 0).trans rfl
        have hcz85_1 : wc.cell? ⟨gb165, 1, none⟩ = some (.int .i64 x166001_20) := (blk_cell BK165.out 1).trans rfl
        have hcz85_2 : wc.cell? ⟨gb165, 2, none⟩ = some (.int .i64 x166002_20) := (blk_cell BK165.out 2).trans rfl
        have hcz85_3 : wc.cell? ⟨gb165, 3, none⟩ = some (.int .i64 x166003_20) := (blk_cell BK165.out 3).trans rfl
        have hcz85_4 : wc.cell? ⟨gb165, 4, none⟩ = some (.int .i64 x166004_20) := (blk_cell BK165.out 4).trans rfl
        have hcz85_5 : wc.cell? ⟨gb165, 5, none⟩ = some (.string x166005_20) := (blk_cell BK165.out 5).trans rfl
        have hcz85_6 : wc.cell? ⟨gb165, 6, none⟩ = some (.bool x166006_20) := (blk_cell BK165.out 6).trans rfl
        have hcz85_7 : wc.cell? ⟨gb165, 7, none⟩ = some (u166007) := (blk_cell BK165.out 7).trans rfl
        have hfz85_0 := blk_frozen BK165.out 0
        have hfz85_1 := blk_frozen BK165.out 1
        have hfz85_2 := blk_frozen BK165.out 2
        have hfz85_3 := blk_frozen BK165.out 3
        have hfz85_4 := blk_frozen BK165.out 4
        have hfz85_5 := blk_frozen BK165.out 5
        have hfz85_6 := blk_frozen BK165.out 6
        have hfz85_7 := blk_frozen BK165.out 7
        go_wp2
        refine Met.intro ?_
        go_step
        (repeat apply Exists.intro)
        refine ⟨?rel, ?frm⟩
        case frm => first | rfl | (simp only [c19b0, c19b1, c20b0, c20b1, c66b0, c66b1]; rfl) | (simp only [c19b0, c19b1, c20b0, c20b1, c66b0, c66b1]; first | done | rfl)
        case rel => exact ⟨_, (true), (x166007_20), (x167007_20), (u166007), (u167007), (by first | rfl | (simp; done) | (simp [*]; done) | (simp [bne]; done)), H', ⟨by have := HJ3.out; have := HJ20.out; first | omega | exact Nat.le_refl _⟩, ⟨by (with_reducible repeat (first | refine blk_drewN ?_ _ | refine blk_drew ?_ | refine blk_alloc ?_ _)); exact BK160.out⟩, ⟨by (with_reducible repeat (first | refine blk_drewN ?_ _ | refine blk_drew ?_ | refine blk_alloc ?_ _)); exact BK161.out⟩, ⟨by (with_reducible repeat (first | refine blk_drewN ?_ _ | refine blk_drew ?_ | refine blk_alloc ?_ _)); exact BK165.out⟩, ⟨by (with_reducible repeat (first | refine blk_drewN ?_ _ | refine blk_drew ?_ | refine blk_alloc ?_ _)); exact BK166.out⟩, ⟨bw_ HB.out⟩⟩
      clear HC65
      (try clear c1); (try clear c2); (try clear p2); (try clear c4); (try clear c6); (try clear c7); (try clear c8); (try clear c16); (try clear c19); (try clear c19b0); (try clear c19b1); (try clear c20)
      (try clear c20b0); (try clear c20b1); (try clear c42); (try clear c43); (try clear c44); (try clear c46); (try clear c46b0); (try clear c46b1); (try clear c66); (try clear c66b0); (try clear c66b1); (try clear c67)
      (try clear c67b0); (try clear c67b1); (try clear c68); (try clear c69); (try clear c70); (try clear c72); (try clear c73); (try clear c75); (try clear c76); (try clear c77); (try clear c79); (try clear c80)
      (try clear c82); (try clear c83); (try clear c84); (try clear hcz45_0); (try clear hcz45_1); (try clear hcz45_2); (try clear hcz45_3); (try clear hcz45_4); (try clear hcz45_5); (try clear hcz45_6); (try clear hcz45_7); (try clear hcz71_0)
      (try clear hcz71_1); (try clear hcz71_2); (try clear hcz71_3); (try clear hcz71_4); (try clear hcz71_5); (try clear hcz71_6); (try clear hcz71_7); (try clear hcz74_0); (try clear hcz74_1); (try clear hcz74_2); (try clear hcz74_3); (try clear hcz74_4)
      (try clear hcz74_5); (try clear hcz74_6); (try clear hcz74_7); (try clear hcz78_0); (try clear hcz78_1); (try clear hcz78_2); (try clear hcz78_3); (try clear hcz78_4); (try clear hcz78_5); (try clear hcz78_6); (try clear hcz78_7); (try clear hcz81_0)
      (try clear hcz81_1); (try clear hcz81_2); (try clear hcz81_3); (try clear hcz81_4); (try clear hcz81_5); (try clear hcz81_6); (try clear hcz81_7); (try clear hcz85_0); (try clear hcz85_1); (try clear hcz85_2); (try clear hcz85_3); (try clear hcz85_4)
      (try clear hcz85_5); (try clear hcz85_6); (try clear hcz85_7); (try clear hfz45_0); (try clear hfz45_1); (try clear hfz45_2); (try clear hfz45_3); (try clear hfz45_4); (try clear hfz45_5); (try clear hfz45_6); (try clear hfz45_7); (try clear hfz71_0)
      (try clear hfz71_1); (try clear hfz71_2); (try clear hfz71_3); (try clear hfz71_4); (try clear hfz71_5); (try clear hfz71_6); (try clear hfz71_7); (try clear hfz74_0); (try clear hfz74_1); (try clear hfz74_2); (try clear hfz74_3); (try clear hfz74_4)
      (try clear hfz74_5); (try clear hfz74_6); (try clear hfz74_7); (try clear hfz78_0); (try clear hfz78_1); (try clear hfz78_2); (try clear hfz78_3); (try clear hfz78_4); (try clear hfz78_5); (try clear hfz78_6); (try clear hfz78_7); (try clear hfz81_0)
      (try clear hfz81_1); (try clear hfz81_2); (try clear hfz81_3); (try clear hfz81_4); (try clear hfz81_5); (try clear hfz81_6); (try clear hfz81_7); (try clear hfz85_0); (try clear hfz85_1); (try clear hfz85_2); (try clear hfz85_3); (try clear hfz85_4)
      (try clear hfz85_5); (try clear hfz85_6); (try clear hfz85_7); (try clear p2)
      obtain ⟨kq, x57_64, x166007_64, x167007_64, u166007, u167007, rfl, HA, HJ64, BK160, BK161, BK165, BK166, HB⟩ := hcut
      cases kq with
      | zero => exact absurd HA.out (by simp [plan_bound.j2])
      | succ kj64 =>
        have H := HA.out
        clear HA
        simp only [plan_bound.j2] at H
        by_cases c86 : x57_64 = true
        · subst c86
          rw [if_pos rfl] at H
          simp only [Option.some.injEq, Prod.mk.injEq] at H
          obtain ⟨rfl, rfl, rfl, rfl, rfl, rfl, rfl⟩ := H
          have hnb87 := NB161_160.out
          have hnc87 := NB160_161.out
          have hnb88 := NB161_165.out
          have hnc88 := NB165_161.out
          have hnb89 := NB161_166.out
          have hnc89 := NB166_161.out
          have hcz90_0 : wc.cell? ⟨gb161, 0, none⟩ = some (.string (⟨#[]⟩ : ByteArray)) := (blk_cell BK161.out 0).trans rfl
          have hcz90_1 : wc.cell? ⟨gb161, 1, none⟩ = some (.string (⟨#[]⟩ : ByteArray)) := (blk_cell BK161.out 1).trans rfl
          have hcz90_2 : wc.cell? ⟨gb161, 2, none⟩ = some (.bool false) := (blk_cell BK161.out 2).trans rfl
          have hcz90_3 : wc.cell? ⟨gb161, 3, none⟩ = some (.bool false) := (blk_cell BK161.out 3).trans rfl
          have hcz90_4 : wc.cell? ⟨gb161, 4, none⟩ = some (.bool false) := (blk_cell BK161.out 4).trans rfl
          have hcz90_5 : wc.cell? ⟨gb161, 5, none⟩ = some (.bool false) := (blk_cell BK161.out 5).trans rfl
          have hfz90_0 := blk_frozen BK161.out 0
          have hfz90_1 := blk_frozen BK161.out 1
          have hfz90_2 := blk_frozen BK161.out 2
          have hfz90_3 := blk_frozen BK161.out 3
          have hfz90_4 := blk_frozen BK161.out 4
          have hfz90_5 := blk_frozen BK161.out 5
          go_wp2
          refine bodyPost_ret (results_ct rfl _ _ gb161 35 #[.string (⟨#[]⟩ : ByteArray), .string (⟨#[]⟩ : ByteArray), .bool false, .bool false, .bool false, .bool false] (0, 0) _ rfl (by (with_reducible repeat (first | refine blk_drewN ?_ _ | refine blk_drew ?_ | refine blk_alloc ?_ _)); refine blk_put (cs := #[.string (⟨#[]⟩ : ByteArray), .string (⟨#[]⟩ : ByteArray), .bool false, .bool false, .bool false, .bool false]) ?_ 5 _ rfl; (with_reducible repeat (first | refine blk_drewN ?_ _ | refine blk_drew ?_ | refine blk_alloc ?_ _)); refine blk_put (cs := #[.string (⟨#[]⟩ : ByteArray), .string (⟨#[]⟩ : ByteArray), .bool false, .bool false, .bool false, .bool false]) ?_ 4 _ rfl; (with_reducible repeat (first | refine blk_drewN ?_ _ | refine blk_drew ?_ | refine blk_alloc ?_ _)); refine blk_put (cs := #[.string (⟨#[]⟩ : ByteArray), .string (⟨#[]⟩ : ByteArray), .bool false, .bool false, .bool false, .bool false]) ?_ 3 _ rfl; (with_reducible repeat (first | refine blk_drewN ?_ _ | refine blk_drew ?_ | refine blk_alloc ?_ _)); refine blk_put (cs := #[.string (⟨#[]⟩ : ByteArray), .string (⟨#[]⟩ : ByteArray), .bool false, .bool false, .bool false, .bool false]) ?_ 2 _ rfl; (with_reducible repeat (first | refine blk_drewN ?_ _ | refine blk_drew ?_ | refine blk_alloc ?_ _)); refine blk_put (cs := #[.string (⟨#[]⟩ : ByteArray), .string (⟨#[]⟩ : ByteArray), .bool false, .bool false, .bool false, .bool false]) ?_ 1 _ rfl; (with_reducible repeat (first | refine blk_drewN ?_ _ | refine blk_drew ?_ | refine blk_alloc ?_ _)); refine blk_put (cs := #[.string (⟨#[]⟩ : ByteArray), .string (⟨#[]⟩ : ByteArray), .bool false, .bool false, .bool false, .bool false]) ?_ 0 _ rfl; (with_reducible repeat (first | refine blk_drewN ?_ _ | refine blk_drew ?_ | refine blk_alloc ?_ _)); exact BK161.out) Try.underlying35 rfl (by kernel_rfl)) rfl ?_
          exact ⟨by first | rfl | (simp [errW_none, errW_some] <;> rfl) | (simp [*, errW_none, errW_some] <;> rfl), bw_ HB.out⟩
        replace c86 := Bool.eq_false_iff.mpr c86
        subst c86
        rw [if_neg (show ¬ (false = true) by decide)] at H
        obtain ⟨y168, hy168⟩ : ∃ y_ : List (S24), y_ = (([(⟨x167003_20, x167004_20, x167005_20, x167006_20⟩ : S24)] : List (S24))) := ⟨_, rfl⟩
        replace H : ((order_Encode.f kj64 y168).bind fun bt171 => (if bt171.2.isNone = true then (plan_bound.j3 kj64 x10_20 bt171.1 (x167003_20 != a2)) else (plan_bound.j3 kj64 x10_20 bt171.1 true))) = some (r1, r2, r3, r4, r5, r6, r7) := by first | (rw [hy168]; with_reducible exact H) | (have H2_ := (Option.bind_some _ _).symm.trans H; rw [hy168]; with_reducible exact H2_) | (have H2_ := (Option.bind_some _ _).symm.trans H; with_reducible exact H2_) | with_reducible exact H | (rw [hy168]; exact H) | exact H
        have Ny168 := Aside0.mk hy168
        clear hy168
        replace H := Option.bind_eq_some_iff.mp H
        obtain ⟨⟨t171, t172⟩, A910, H⟩ := H
        (try dsimp only at H)
        have A91 := Aside0.mk A910
        clear A910
        have HC92 := Aside0.mk H
        clear H
        have hnb93 := NB166_160.out
        have hnc93 := NB160_166.out
        have hnb94 := NB166_161.out
        have hnc94 := NB161_166.out
        have hnb95 := NB166_165.out
        have hnc95 := NB165_166.out
        have hcz96_0 : wc.cell? ⟨gb166, 0, none⟩ = some (.string x167000_20) := (blk_cell BK166.out 0).trans rfl
        have hcz96_1 : wc.cell? ⟨gb166, 1, none⟩ = some (.int .i64 x167001_20) := (blk_cell BK166.out 1).trans rfl
        have hcz96_2 : wc.cell? ⟨gb166, 2, none⟩ = some (.int .i64 x167002_20) := (blk_cell BK166.out 2).trans rfl
        have hcz96_3 : wc.cell? ⟨gb166, 3, none⟩ = some (.int .i64 x167003_20) := (blk_cell BK166.out 3).trans rfl
        have hcz96_4 : wc.cell? ⟨gb166, 4, none⟩ = some (.int .i64 x167004_20) := (blk_cell BK166.out 4).trans rfl
        have hcz96_5 : wc.cell? ⟨gb166, 5, none⟩ = some (.string x167005_20) := (blk_cell BK166.out 5).trans rfl
        have hcz96_6 : wc.cell? ⟨gb166, 6, none⟩ = some (.bool x167006_20) := (blk_cell BK166.out 6).trans rfl
        have hcz96_7 : wc.cell? ⟨gb166, 7, none⟩ = some (u167007) := (blk_cell BK166.out 7).trans rfl
        have hfz96_0 := blk_frozen BK166.out 0
        have hfz96_1 := blk_frozen BK166.out 1
        have hfz96_2 := blk_frozen BK166.out 2
        have hfz96_3 := blk_frozen BK166.out 3
        have hfz96_4 := blk_frozen BK166.out 4
        have hfz96_5 := blk_frozen BK166.out 5
        have hfz96_6 := blk_frozen BK166.out 6
        have hfz96_7 := blk_frozen BK166.out 7
        go_upto_region 9 with (first | ((with_reducible refine gate_dst (N := 62) rfl ?_); refine Kd.R_lit k24 _ 24 ?hg (N := 62) ?hd (xs := ([(⟨x167003_20, x167004_20, x167005_20, x167006_20⟩ : S24)] : List (S24))) (inner := [.int .i64 x167003_20, .int .i64 x167004_20, .string x167005_20, .bool x167006_20]) (ok := fun _ => True) (okp := fun _ => True) ?hr ?hp (fun _ hk => hk) trivial (Below.refl _ _) (Nat.le_refl _) (by simp) ?_; (case hd => rfl); (case hg => rfl); (case hr => first | (go_simp; done) | (go_simp; rfl)); (case hp => exact (Reps.c4 (show Kd.M k24 _ _ _ (⟨x167003_20, x167004_20, x167005_20, x167006_20⟩ : S24) [.int .i64 x167003_20, .int .i64 x167004_20, .string x167005_20, .bool x167006_20] from (k24_mkM _ _ _ (⟨x167003_20, x167004_20, x167005_20, x167006_20⟩ : S24) )) (Reps.none _ _))); intro v169 w97 ho98 hb hg_ hnew_; clear hg_ hnew_; (first | rw [← Ny168.out] at ho98 | (simp only [Int.reduceToNat] at ho98; rw [← Ny168.out] at ho98)); have n0_ := Aside0.mk (Kd.R_lower ho98 (below_size (bw_ HB.out))); have n1_ := Aside0.mk (blk_below (g := gb160) (o := .cells #[.string a0_0, .int .i64 a0_1, .int .i64 a0_2, .int .i64 a0_3, .int .i64 a0_4, .string a0_5, .bool a0_6, .slice (some ad163) l0_7.length c0_7] 43 (0, 0)) (bl_ BK160.out) hb); have n2_ := Aside0.mk (blk_below (g := gb161) (o := .cells #[.string (⟨#[]⟩ : ByteArray), .string (⟨#[]⟩ : ByteArray), .bool false, .bool false, .bool false, .bool false] 35 (0, 0)) (bl_ BK161.out) hb); have n3_ := Aside0.mk (blk_below (g := gb165) (o := .cells #[.string x166000_20, .int .i64 x166001_20, .int .i64 x166002_20, .int .i64 x166003_20, .int .i64 x166004_20, .string x166005_20, .bool x166006_20, u166007] 43 (0, 0)) (bl_ BK165.out) hb); have n4_ := Aside0.mk (blk_below (g := gb166) (o := .cells #[.string x167000_20, .int .i64 x167001_20, .int .i64 x167002_20, .int .i64 x167003_20, .int .i64 x167004_20, .string x167005_20, .bool x167006_20, u167007] 43 (0, 0)) (bl_ BK166.out) hb); have n5_ := Aside0.mk (below_step (bw_ HB.out) hb); clear BK160; clear BK161; clear BK165; clear BK166; clear HB; have HO170 := n0_; have BK160 := n1_; have BK161 := n2_; have BK165 := n3_; have BK166 := n4_; have HB := n5_; clear n0_ n1_ n2_ n3_ n4_ n5_; clear hb ho98; obtain ⟨Ao99, co99, eo99⟩ := Kd.R_slice HO170.out; subst eo99) | ((with_reducible refine gate_callee (f := 17) rfl ?_); refine goesL_ (some 63) rfl rfl Try.func17 (by kernel_rfl) rfl #[.slice Ao99 y168.length co99] rfl (by (try simp only [List.map_toArray, List.map_cons, List.map_nil]); first | done | rfl | (simp only [List.length_drop, List.length_take]; rfl)) ?_; (with_reducible refine (order_Encode.calls kj64 _ _ y168 t171 t172 _ ?side1 ?side2 A91.out).mono ?_); (case side1 => repeat (first | exact (Kd.R_reads' HO170.out).2.2 | (with_reducible refine Kd.C_alloc ?_ _) | (with_reducible refine Kd.C_drewN ?_ _) | (with_reducible refine Kd.C_drew ?_))); (case side2 => exact (Kd.R_reads' HO170.out).2.1); rintro e w100 ⟨rfl, hb⟩; refine ⟨_, rfl, ?_⟩; have n0_ := Aside0.mk (Kd.R_below (kR_ HO170.out) hb); have n1_ := Aside0.mk (blk_below (g := gb160) (o := .cells #[.string a0_0, .int .i64 a0_1, .int .i64 a0_2, .int .i64 a0_3, .int .i64 a0_4, .string a0_5, .bool a0_6, .slice (some ad163) l0_7.length c0_7] 43 (0, 0)) (bl_ BK160.out) hb); have n2_ := Aside0.mk (blk_below (g := gb161) (o := .cells #[.string (⟨#[]⟩ : ByteArray), .string (⟨#[]⟩ : ByteArray), .bool false, .bool false, .bool false, .bool false] 35 (0, 0)) (bl_ BK161.out) hb); have n3_ := Aside0.mk (blk_below (g := gb165) (o := .cells #[.string x166000_20, .int .i64 x166001_20, .int .i64 x166002_20, .int .i64 x166003_20, .int .i64 x166004_20, .string x166005_20, .bool x166006_20, u166007] 43 (0, 0)) (bl_ BK165.out) hb); have n4_ := Aside0.mk (blk_below (g := gb166) (o := .cells #[.string x167000_20, .int .i64 x167001_20, .int .i64 x167002_20, .int .i64 x167003_20, .int .i64 x167004_20, .string x167005_20, .bool x167006_20, u167007] 43 (0, 0)) (bl_ BK166.out) hb); have n5_ := Aside0.mk (below_step (bw_ HB.out) hb); clear HO170; clear BK160; clear BK161; clear BK165; clear BK166; clear HB; have HO170 := n0_; have BK160 := n1_; have BK161 := n2_; have BK165 := n3_; have BK166 := n4_; have HB := n5_; clear n0_ n1_ n2_ n3_ n4_ n5_; (try clear hb); (try clear hb2); (try clear hk); (try clear hi); (try simp only [errW_none, errW_some])))
        (try simp only [Act.put, List.setIfInBounds_toArray, List.set_cons_zero, List.set_cons_succ])
        go_cut [74] (fun v74 wc => ∃ (kq : Nat) (x74_91 : Bool) (x166007_91 : List (S43)) (x167007_91 : List (S43)) (u166007 : Value) (u167007 : Value), v74 = .bool x74_91 ∧ Aside0 (plan_bound.j3 kq x10_20 t171 x74_91 = some (r1, r2, r3, r4, r5, r6, r7)) ∧ Aside0 (kq ≤ kj64) ∧ Aside0 (wc.heap[gb160]? = some (.cells #[.string a0_0, .int .i64 a0_1, .int .i64 a0_2, .int .i64 a0_3, .int .i64 a0_4, .string a0_5, .bool a0_6, (.slice (some ad163) l0_7.length c0_7)] 43 (0, 0))) ∧ Aside0 (wc.heap[gb161]? = some (.cells #[.string (⟨#[]⟩ : ByteArray), .string (⟨#[]⟩ : ByteArray), .bool false, .bool false, .bool false, .bool false] 35 (0, 0))) ∧ Aside0 (wc.heap[gb165]? = some (.cells #[.string x166000_20, .int .i64 x166001_20, .int .i64 x166002_20, .int .i64 x166003_20, .int .i64 x166004_20, .string x166005_20, .bool x166006_20, u166007] 43 (0, 0))) ∧ Aside0 (wc.heap[gb166]? = some (.cells #[.string x167000_20, .int .i64 x167001_20, .int .i64 x167002_20, .int .i64 x167003_20, .int .i64 x167004_20, .string x167005_20, .bool x167006_20, u167007] 43 (0, 0))) ∧ Aside0 (Below w.heap.size w wc))
        case first =>
          have H := HC92.out
          clear HC92
          rcases t172 with _ | q173
          · have H1 : (plan_bound.j3 kj64 x10_20 t171 (x167003_20 != a2)) = some (r1, r2, r3, r4, r5, r6, r7) := by rw [if_pos (show (none : Option Int).isNone = true by rfl)] at H; exact H
            clear H
            have H := H1
            clear H1
            try simp only [errW_none, errW_some]
            have H' := Aside0.mk H
            clear H
            have hnb101 := NB166_160.out
            have hnc101 := NB160_166.out
            have hnb102 := NB166_161.out
            have hnc102 := NB161_166.out
            have hnb103 := NB166_165.out
            have hnc103 := NB165_166.out
            have hcz104_0 : w100.cell? ⟨gb166, 0, none⟩ = some (.string x167000_20) := (blk_cell BK166.out 0).trans rfl
            have hcz104_1 : w100.cell? ⟨gb166, 1, none⟩ = some (.int .i64 x167001_20) := (blk_cell BK166.out 1).trans rfl
            have hcz104_2 : w100.cell? ⟨gb166, 2, none⟩ = some (.int .i64 x167002_20) := (blk_cell BK166.out 2).trans rfl
            have hcz104_3 : w100.cell? ⟨gb166, 3, none⟩ = some (.int .i64 x167003_20) := (blk_cell BK166.out 3).trans rfl
            have hcz104_4 : w100.cell? ⟨gb166, 4, none⟩ = some (.int .i64 x167004_20) := (blk_cell BK166.out 4).trans rfl
            have hcz104_5 : w100.cell? ⟨gb166, 5, none⟩ = some (.string x167005_20) := (blk_cell BK166.out 5).trans rfl
            have hcz104_6 : w100.cell? ⟨gb166, 6, none⟩ = some (.bool x167006_20) := (blk_cell BK166.out 6).trans rfl
            have hcz104_7 : w100.cell? ⟨gb166, 7, none⟩ = some (u167007) := (blk_cell BK166.out 7).trans rfl
            have hfz104_0 := blk_frozen BK166.out 0
            have hfz104_1 := blk_frozen BK166.out 1
            have hfz104_2 := blk_frozen BK166.out 2
            have hfz104_3 := blk_frozen BK166.out 3
            have hfz104_4 := blk_frozen BK166.out 4
            have hfz104_5 := blk_frozen BK166.out 5
            have hfz104_6 := blk_frozen BK166.out 6
            have hfz104_7 := blk_frozen BK166.out 7
            go_wp2
            refine Met.intro ?_
            go_step
            (repeat apply Exists.intro)
            refine ⟨?rel, ?frm⟩
            case frm => first | rfl | (simp only [c19b0, c19b1, c20b0, c20b1]; rfl) | (simp only [c19b0, c19b1, c20b0, c20b1]; first | done | rfl)
            case rel => exact ⟨_, ((x167003_20 != a2)), (x166007_64), (x167007_64), (u166007), (u167007), (by first | rfl | (simp; done) | (simp [*]; done) | (simp [bne]; done)), H', ⟨by have := HJ3.out; have := HJ20.out; have := HJ64.out; first | omega | exact Nat.le_refl _⟩, ⟨by (with_reducible repeat (first | refine blk_drewN ?_ _ | refine blk_drew ?_ | refine blk_alloc ?_ _)); exact BK160.out⟩, ⟨by (with_reducible repeat (first | refine blk_drewN ?_ _ | refine blk_drew ?_ | refine blk_alloc ?_ _)); exact BK161.out⟩, ⟨by (with_reducible repeat (first | refine blk_drewN ?_ _ | refine blk_drew ?_ | refine blk_alloc ?_ _)); exact BK165.out⟩, ⟨by (with_reducible repeat (first | refine blk_drewN ?_ _ | refine blk_drew ?_ | refine blk_alloc ?_ _)); exact BK166.out⟩, ⟨bw_ HB.out⟩⟩
          have H1 : (plan_bound.j3 kj64 x10_20 t171 true) = some (r1, r2, r3, r4, r5, r6, r7) := by rw [if_neg (show ¬ (some q173).isNone = true by simp)] at H; exact H
          clear H
          have H := H1
          clear H1
          try simp only [errW_none, errW_some]
          have H' := Aside0.mk H
          clear H
          go_wp2
          refine Met.intro ?_
          go_step
          (repeat apply Exists.intro)
          refine ⟨?rel, ?frm⟩
          case frm => first | rfl | (simp only [c19b0, c19b1, c20b0, c20b1]; rfl) | (simp only [c19b0, c19b1, c20b0, c20b1]; first | done | rfl)
          case rel => exact ⟨_, (true), (x166007_64), (x167007_64), (u166007), (u167007), (by first | rfl | (simp; done) | (simp [*]; done) | (simp [bne]; done)), H', ⟨by have := HJ3.out; have := HJ20.out; have := HJ64.out; first | omega | exact Nat.le_refl _⟩, ⟨by (with_reducible repeat (first | refine blk_drewN ?_ _ | refine blk_drew ?_ | refine blk_alloc ?_ _)); exact BK160.out⟩, ⟨by (with_reducible repeat (first | refine blk_drewN ?_ _ | refine blk_drew ?_ | refine blk_alloc ?_ _)); exact BK161.out⟩, ⟨by (with_reducible repeat (first | refine blk_drewN ?_ _ | refine blk_drew ?_ | refine blk_alloc ?_ _)); exact BK165.out⟩, ⟨by (with_reducible repeat (first | refine blk_drewN ?_ _ | refine blk_drew ?_ | refine blk_alloc ?_ _)); exact BK166.out⟩, ⟨bw_ HB.out⟩⟩
        clear HC92
        (try clear c1); (try clear q1); (try clear c2); (try clear p2); (try clear c4); (try clear c6); (try clear c7); (try clear c8); (try clear c9); (try clear c10); (try clear c16); (try clear c17)
        (try clear q17); (try clear c19); (try clear c19b0); (try clear c19b1); (try clear c20); (try clear c20b0); (try clear c20b1); (try clear c42); (try clear c43); (try clear c44); (try clear c46); (try clear c46b0)
        (try clear c46b1); (try clear c66); (try clear c66b0); (try clear c66b1); (try clear c67); (try clear c67b0); (try clear c67b1); (try clear c68); (try clear c69); (try clear c70); (try clear c72); (try clear c73)
        (try clear c75); (try clear c76); (try clear c77); (try clear c79); (try clear c80); (try clear c82); (try clear c83); (try clear c84); (try clear c86); (try clear c87); (try clear c88); (try clear c89)
        (try clear c93); (try clear c94); (try clear c95); (try clear c101); (try clear c102); (try clear c103); (try clear hcz104_0); (try clear hcz104_1); (try clear hcz104_2); (try clear hcz104_3); (try clear hcz104_4); (try clear hcz104_5)
        (try clear hcz104_6); (try clear hcz104_7); (try clear hcz45_0); (try clear hcz45_1); (try clear hcz45_2); (try clear hcz45_3); (try clear hcz45_4); (try clear hcz45_5); (try clear hcz45_6); (try clear hcz45_7); (try clear hcz71_0); (try clear hcz71_1)
        (try clear hcz71_2); (try clear hcz71_3); (try clear hcz71_4); (try clear hcz71_5); (try clear hcz71_6); (try clear hcz71_7); (try clear hcz74_0); (try clear hcz74_1); (try clear hcz74_2); (try clear hcz74_3); (try clear hcz74_4); (try clear hcz74_5)
        (try clear hcz74_6); (try clear hcz74_7); (try clear hcz78_0); (try clear hcz78_1); (try clear hcz78_2); (try clear hcz78_3); (try clear hcz78_4); (try clear hcz78_5); (try clear hcz78_6); (try clear hcz78_7); (try clear hcz81_0); (try clear hcz81_1)
        (try clear hcz81_2); (try clear hcz81_3); (try clear hcz81_4); (try clear hcz81_5); (try clear hcz81_6); (try clear hcz81_7); (try clear hcz85_0); (try clear hcz85_1); (try clear hcz85_2); (try clear hcz85_3); (try clear hcz85_4); (try clear hcz85_5)
        (try clear hcz85_6); (try clear hcz85_7); (try clear hcz90_0); (try clear hcz90_1); (try clear hcz90_2); (try clear hcz90_3); (try clear hcz90_4); (try clear hcz90_5); (try clear hcz96_0); (try clear hcz96_1); (try clear hcz96_2); (try clear hcz96_3)
        (try clear hcz96_4); (try clear hcz96_5); (try clear hcz96_6); (try clear hcz96_7); (try clear hfz104_0); (try clear hfz104_1); (try clear hfz104_2); (try clear hfz104_3); (try clear hfz104_4); (try clear hfz104_5); (try clear hfz104_6); (try clear hfz104_7)
        (try clear hfz45_0); (try clear hfz45_1); (try clear hfz45_2); (try clear hfz45_3); (try clear hfz45_4); (try clear hfz45_5); (try clear hfz45_6); (try clear hfz45_7); (try clear hfz71_0); (try clear hfz71_1); (try clear hfz71_2); (try clear hfz71_3)
        (try clear hfz71_4); (try clear hfz71_5); (try clear hfz71_6); (try clear hfz71_7); (try clear hfz74_0); (try clear hfz74_1); (try clear hfz74_2); (try clear hfz74_3); (try clear hfz74_4); (try clear hfz74_5); (try clear hfz74_6); (try clear hfz74_7)
        (try clear hfz78_0); (try clear hfz78_1); (try clear hfz78_2); (try clear hfz78_3); (try clear hfz78_4); (try clear hfz78_5); (try clear hfz78_6); (try clear hfz78_7); (try clear hfz81_0); (try clear hfz81_1); (try clear hfz81_2); (try clear hfz81_3)
        (try clear hfz81_4); (try clear hfz81_5); (try clear hfz81_6); (try clear hfz81_7); (try clear hfz85_0); (try clear hfz85_1); (try clear hfz85_2); (try clear hfz85_3); (try clear hfz85_4); (try clear hfz85_5); (try clear hfz85_6); (try clear hfz85_7)
        (try clear hfz90_0); (try clear hfz90_1); (try clear hfz90_2); (try clear hfz90_3); (try clear hfz90_4); (try clear hfz90_5); (try clear hfz96_0); (try clear hfz96_1); (try clear hfz96_2); (try clear hfz96_3); (try clear hfz96_4); (try clear hfz96_5)
        (try clear hfz96_6); (try clear hfz96_7); (try clear p2); (try clear q173)
        obtain ⟨kq, x74_91, x166007_91, x167007_91, u166007, u167007, rfl, HA, HJ91, BK160, BK161, BK165, BK166, HB⟩ := hcut
        cases kq with
        | zero => exact absurd HA.out (by simp [plan_bound.j3])
        | succ kj91 =>
          have H := HA.out
          clear HA
          simp only [plan_bound.j3] at H
          by_cases c105 : x74_91 = true
          · subst c105
            rw [if_pos rfl] at H
            replace H := Option.bind_eq_some_iff.mp H
            obtain ⟨⟨t174, t175, t176, t177, t178, t179⟩, A1060, H⟩ := H
            (try dsimp only at H)
            have A106 := Aside0.mk A1060
            clear A1060
            simp only [Option.some.injEq, Prod.mk.injEq] at H
            obtain ⟨rfl, rfl, rfl, rfl, rfl, rfl, rfl⟩ := H
            go_wp2_with (first | ((with_reducible refine gate_callee (f := 18) rfl ?_); refine goesL_ (some 75) rfl rfl Try.func18 (by kernel_rfl) rfl #[] rfl (by (try simp only [List.map_toArray, List.map_cons, List.map_nil]); first | done | rfl | (simp only [List.length_drop, List.length_take]; rfl)) ?_; (with_reducible refine (plan_nowhere.calls  t174 t175 t176 t177 t178 t179 _ A106.out).mono ?_); rintro e w107 ⟨rfl, hb⟩; refine ⟨_, rfl, ?_⟩; have n0_ := Aside0.mk (blk_below (g := gb160) (o := .cells #[.string a0_0, .int .i64 a0_1, .int .i64 a0_2, .int .i64 a0_3, .int .i64 a0_4, .string a0_5, .bool a0_6, .slice (some ad163) l0_7.length c0_7] 43 (0, 0)) (bl_ BK160.out) hb); have n1_ := Aside0.mk (blk_below (g := gb161) (o := .cells #[.string (⟨#[]⟩ : ByteArray), .string (⟨#[]⟩ : ByteArray), .bool false, .bool false, .bool false, .bool false] 35 (0, 0)) (bl_ BK161.out) hb); have n2_ := Aside0.mk (blk_below (g := gb165) (o := .cells #[.string x166000_20, .int .i64 x166001_20, .int .i64 x166002_20, .int .i64 x166003_20, .int .i64 x166004_20, .string x166005_20, .bool x166006_20, u166007] 43 (0, 0)) (bl_ BK165.out) hb); have n3_ := Aside0.mk (blk_below (g := gb166) (o := .cells #[.string x167000_20, .int .i64 x167001_20, .int .i64 x167002_20, .int .i64 x167003_20, .int .i64 x167004_20, .string x167005_20, .bool x167006_20, u167007] 43 (0, 0)) (bl_ BK166.out) hb); have n4_ := Aside0.mk (below_step (bw_ HB.out) hb); clear BK160; clear BK161; clear BK165; clear BK166; clear HB; have BK160 := n0_; have BK161 := n1_; have BK165 := n2_; have BK166 := n3_; have HB := n4_; clear n0_ n1_ n2_ n3_ n4_; (try clear hb); (try clear hb2); (try clear hk); (try clear hi); have hnb108 := NB161_160.out; have hnc108 := NB160_161.out; have hnb109 := NB161_165.out; have hnc109 := NB165_161.out; have hnb110 := NB161_166.out; have hnc110 := NB166_161.out; have hcz111_0 : w107.cell? ⟨gb161, 0, none⟩ = some (.string (⟨#[]⟩ : ByteArray)) := (blk_cell BK161.out 0).trans rfl; have hcz111_1 : w107.cell? ⟨gb161, 1, none⟩ = some (.string (⟨#[]⟩ : ByteArray)) := (blk_cell BK161.out 1).trans rfl; have hcz111_2 : w107.cell? ⟨gb161, 2, none⟩ = some (.bool false) := (blk_cell BK161.out 2).trans rfl; have hcz111_3 : w107.cell? ⟨gb161, 3, none⟩ = some (.bool false) := (blk_cell BK161.out 3).trans rfl; have hcz111_4 : w107.cell? ⟨gb161, 4, none⟩ = some (.bool false) := (blk_cell BK161.out 4).trans rfl; have hcz111_5 : w107.cell? ⟨gb161, 5, none⟩ = some (.bool false) := (blk_cell BK161.out 5).trans rfl; have hfz111_0 := blk_frozen BK161.out 0; have hfz111_1 := blk_frozen BK161.out 1; have hfz111_2 := blk_frozen BK161.out 2; have hfz111_3 := blk_frozen BK161.out 3; have hfz111_4 := blk_frozen BK161.out 4; have hfz111_5 := blk_frozen BK161.out 5))
            refine bodyPost_ret (results_ct rfl _ _ gb161 35 #[.string t174, .string t175, .bool t176, .bool t177, .bool t178, .bool t179] (0, 0) _ rfl (by (with_reducible repeat (first | refine blk_drewN ?_ _ | refine blk_drew ?_ | refine blk_alloc ?_ _)); refine blk_put (cs := #[.string t174, .string t175, .bool t176, .bool t177, .bool t178, .bool false]) ?_ 5 _ rfl; (with_reducible repeat (first | refine blk_drewN ?_ _ | refine blk_drew ?_ | refine blk_alloc ?_ _)); refine blk_put (cs := #[.string t174, .string t175, .bool t176, .bool t177, .bool false, .bool false]) ?_ 4 _ rfl; (with_reducible repeat (first | refine blk_drewN ?_ _ | refine blk_drew ?_ | refine blk_alloc ?_ _)); refine blk_put (cs := #[.string t174, .string t175, .bool t176, .bool false, .bool false, .bool false]) ?_ 3 _ rfl; (with_reducible repeat (first | refine blk_drewN ?_ _ | refine blk_drew ?_ | refine blk_alloc ?_ _)); refine blk_put (cs := #[.string t174, .string t175, .bool false, .bool false, .bool false, .bool false]) ?_ 2 _ rfl; (with_reducible repeat (first | refine blk_drewN ?_ _ | refine blk_drew ?_ | refine blk_alloc ?_ _)); refine blk_put (cs := #[.string t174, .string (⟨#[]⟩ : ByteArray), .bool false, .bool false, .bool false, .bool false]) ?_ 1 _ rfl; (with_reducible repeat (first | refine blk_drewN ?_ _ | refine blk_drew ?_ | refine blk_alloc ?_ _)); refine blk_put (cs := #[.string (⟨#[]⟩ : ByteArray), .string (⟨#[]⟩ : ByteArray), .bool false, .bool false, .bool false, .bool false]) ?_ 0 _ rfl; (with_reducible repeat (first | refine blk_drewN ?_ _ | refine blk_drew ?_ | refine blk_alloc ?_ _)); exact BK161.out) Try.underlying35 rfl (by kernel_rfl)) rfl ?_
            exact ⟨by first | rfl | (simp [errW_none, errW_some] <;> rfl) | (simp [*, errW_none, errW_some] <;> rfl), bw_ HB.out⟩
          replace c105 := Bool.eq_false_iff.mpr c105
          subst c105
          rw [if_neg (show ¬ (false = true) by decide)] at H
          replace H := Option.bind_eq_some_iff.mp H
          obtain ⟨⟨t180, t181, t182, t183, t184, t185⟩, A1120, H⟩ := H
          (try dsimp only at H)
          have A112 := Aside0.mk A1120
          clear A1120
          by_cases c113 : x10_20.toList = ([60] : List UInt8)
          · rw [if_pos c113] at H
            have c113b0 : (x10_20.toList == ([60] : List UInt8)) = true := beq_iff_eq.mpr c113
            have c113b1 : (x10_20.toList != ([60] : List UInt8)) = false := bne_eq_false_iff_eq.mpr c113
            clear c113
            simp only [Option.some.injEq, Prod.mk.injEq] at H
            obtain ⟨rfl, rfl, rfl, rfl, rfl, rfl, rfl⟩ := H
            go_wp2_with (first | ((with_reducible refine gate_callee (f := 19) rfl ?_); refine goesL_ (some 77) rfl rfl Try.func19 (by kernel_rfl) rfl #[.string t171] rfl (by (try simp only [List.map_toArray, List.map_cons, List.map_nil]); first | done | rfl | (simp only [List.length_drop, List.length_take]; rfl)) ?_; (with_reducible refine (cursor_Prefix.calls t171 t180 t181 t182 t183 t184 t185 _ A112.out).mono ?_); rintro e w114 ⟨rfl, hb⟩; refine ⟨_, rfl, ?_⟩; have n0_ := Aside0.mk (blk_below (g := gb160) (o := .cells #[.string a0_0, .int .i64 a0_1, .int .i64 a0_2, .int .i64 a0_3, .int .i64 a0_4, .string a0_5, .bool a0_6, .slice (some ad163) l0_7.length c0_7] 43 (0, 0)) (bl_ BK160.out) hb); have n1_ := Aside0.mk (blk_below (g := gb161) (o := .cells #[.string (⟨#[]⟩ : ByteArray), .string (⟨#[]⟩ : ByteArray), .bool false, .bool false, .bool false, .bool false] 35 (0, 0)) (bl_ BK161.out) hb); have n2_ := Aside0.mk (blk_below (g := gb165) (o := .cells #[.string x166000_20, .int .i64 x166001_20, .int .i64 x166002_20, .int .i64 x166003_20, .int .i64 x166004_20, .string x166005_20, .bool x166006_20, u166007] 43 (0, 0)) (bl_ BK165.out) hb); have n3_ := Aside0.mk (blk_below (g := gb166) (o := .cells #[.string x167000_20, .int .i64 x167001_20, .int .i64 x167002_20, .int .i64 x167003_20, .int .i64 x167004_20, .string x167005_20, .bool x167006_20, u167007] 43 (0, 0)) (bl_ BK166.out) hb); have n4_ := Aside0.mk (below_step (bw_ HB.out) hb); clear BK160; clear BK161; clear BK165; clear BK166; clear HB; have BK160 := n0_; have BK161 := n1_; have BK165 := n2_; have BK166 := n3_; have HB := n4_; clear n0_ n1_ n2_ n3_ n4_; (try clear hb); (try clear hb2); (try clear hk); (try clear hi)) | ((with_reducible refine gate_dst (N := 13) rfl ?_); refine box_event ?hg (N := 13) ?hd (cs := #[.string (⟨#[]⟩ : ByteArray), .string (⟨#[]⟩ : ByteArray), .bool false, .bool false, .bool false, .bool false]) (t := 35) ?hr ?_; (case hd => rfl); (case hg => rfl); (case hr => first | (go_simp; done) | (go_simp; rfl)); intro gb186 hg w115 hbox hb; have n0_ := Aside0.mk (blk_below (g := gb160) (o := .cells #[.string a0_0, .int .i64 a0_1, .int .i64 a0_2, .int .i64 a0_3, .int .i64 a0_4, .string a0_5, .bool a0_6, .slice (some ad163) l0_7.length c0_7] 43 (0, 0)) (bl_ BK160.out) hb); have n1_ := Aside0.mk (blk_below (g := gb161) (o := .cells #[.string (⟨#[]⟩ : ByteArray), .string (⟨#[]⟩ : ByteArray), .bool false, .bool false, .bool false, .bool false] 35 (0, 0)) (bl_ BK161.out) hb); have n2_ := Aside0.mk (blk_below (g := gb165) (o := .cells #[.string x166000_20, .int .i64 x166001_20, .int .i64 x166002_20, .int .i64 x166003_20, .int .i64 x166004_20, .string x166005_20, .bool x166006_20, u166007] 43 (0, 0)) (bl_ BK165.out) hb); have n3_ := Aside0.mk (blk_below (g := gb166) (o := .cells #[.string x167000_20, .int .i64 x167001_20, .int .i64 x167002_20, .int .i64 x167003_20, .int .i64 x167004_20, .string x167005_20, .bool x167006_20, u167007] 43 (0, 0)) (bl_ BK166.out) hb); have n4_ := Aside0.mk (below_step (bw_ HB.out) hb); have n5_ := Aside0.mk (hbox); have n6_ := Aside0.mk ((by rw [hg]; exact (below_size (bw_ HB.out)) : w.heap.size ≤ gb186)); have n7_ := Aside0.mk ((by rw [hg]; exact (below_size (bw_ HB.out)) : w.heap.size ≤ gb186)); have n8_ := Aside0.mk ((by rw [hg]; exact Nat.ne_of_lt (blk_lt (g := gb160) (o := .cells #[.string a0_0, .int .i64 a0_1, .int .i64 a0_2, .int .i64 a0_3, .int .i64 a0_4, .string a0_5, .bool a0_6, .slice (some ad163) l0_7.length c0_7] 43 (0, 0)) (bl_ BK160.out)) : gb160 ≠ gb186)); have n9_ := Aside0.mk ((by rw [hg]; exact Nat.ne_of_gt (blk_lt (g := gb160) (o := .cells #[.string a0_0, .int .i64 a0_1, .int .i64 a0_2, .int .i64 a0_3, .int .i64 a0_4, .string a0_5, .bool a0_6, .slice (some ad163) l0_7.length c0_7] 43 (0, 0)) (bl_ BK160.out)) : gb186 ≠ gb160)); have n10_ := Aside0.mk ((by rw [hg]; exact Nat.ne_of_lt (blk_lt (g := gb161) (o := .cells #[.string (⟨#[]⟩ : ByteArray), .string (⟨#[]⟩ : ByteArray), .bool false, .bool false, .bool false, .bool false] 35 (0, 0)) (bl_ BK161.out)) : gb161 ≠ gb186)); have n11_ := Aside0.mk ((by rw [hg]; exact Nat.ne_of_gt (blk_lt (g := gb161) (o := .cells #[.string (⟨#[]⟩ : ByteArray), .string (⟨#[]⟩ : ByteArray), .bool false, .bool false, .bool false, .bool false] 35 (0, 0)) (bl_ BK161.out)) : gb186 ≠ gb161)); have n12_ := Aside0.mk ((by rw [hg]; exact Nat.ne_of_lt (blk_lt (g := gb165) (o := .cells #[.string x166000_20, .int .i64 x166001_20, .int .i64 x166002_20, .int .i64 x166003_20, .int .i64 x166004_20, .string x166005_20, .bool x166006_20, u166007] 43 (0, 0)) (bl_ BK165.out)) : gb165 ≠ gb186)); have n13_ := Aside0.mk ((by rw [hg]; exact Nat.ne_of_gt (blk_lt (g := gb165) (o := .cells #[.string x166000_20, .int .i64 x166001_20, .int .i64 x166002_20, .int .i64 x166003_20, .int .i64 x166004_20, .string x166005_20, .bool x166006_20, u166007] 43 (0, 0)) (bl_ BK165.out)) : gb186 ≠ gb165)); have n14_ := Aside0.mk ((by rw [hg]; exact Nat.ne_of_lt (blk_lt (g := gb166) (o := .cells #[.string x167000_20, .int .i64 x167001_20, .int .i64 x167002_20, .int .i64 x167003_20, .int .i64 x167004_20, .string x167005_20, .bool x167006_20, u167007] 43 (0, 0)) (bl_ BK166.out)) : gb166 ≠ gb186)); have n15_ := Aside0.mk ((by rw [hg]; exact Nat.ne_of_gt (blk_lt (g := gb166) (o := .cells #[.string x167000_20, .int .i64 x167001_20, .int .i64 x167002_20, .int .i64 x167003_20, .int .i64 x167004_20, .string x167005_20, .bool x167006_20, u167007] 43 (0, 0)) (bl_ BK166.out)) : gb186 ≠ gb166)); clear BK160; clear BK161; clear BK165; clear BK166; clear HB; have BK160 := n0_; have BK161 := n1_; have BK165 := n2_; have BK166 := n3_; have HB := n4_; have BK186 := n5_; have GW186 := n6_; have GE186 := n7_; have NB160_186 := n8_; have NB186_160 := n9_; have NB161_186 := n10_; have NB186_161 := n11_; have NB165_186 := n12_; have NB186_165 := n13_; have NB166_186 := n14_; have NB186_166 := n15_; clear n0_ n1_ n2_ n3_ n4_ n5_ n6_ n7_ n8_ n9_ n10_ n11_ n12_ n13_ n14_ n15_; clear hb hbox hg; have hnb116 := NB186_160.out; have hnc116 := NB160_186.out; have hnb117 := NB186_161.out; have hnc117 := NB161_186.out; have hnb118 := NB186_165.out; have hnc118 := NB165_186.out; have hnb119 := NB186_166.out; have hnc119 := NB166_186.out; have hcz120_0 : w115.cell? ⟨gb186, 0, none⟩ = some (.string (⟨#[]⟩ : ByteArray)) := (blk_cell BK186.out 0).trans rfl; have hcz120_1 : w115.cell? ⟨gb186, 1, none⟩ = some (.string (⟨#[]⟩ : ByteArray)) := (blk_cell BK186.out 1).trans rfl; have hcz120_2 : w115.cell? ⟨gb186, 2, none⟩ = some (.bool false) := (blk_cell BK186.out 2).trans rfl; have hcz120_3 : w115.cell? ⟨gb186, 3, none⟩ = some (.bool false) := (blk_cell BK186.out 3).trans rfl; have hcz120_4 : w115.cell? ⟨gb186, 4, none⟩ = some (.bool false) := (blk_cell BK186.out 4).trans rfl; have hcz120_5 : w115.cell? ⟨gb186, 5, none⟩ = some (.bool false) := (blk_cell BK186.out 5).trans rfl; have hfz120_0 := blk_frozen BK186.out 0; have hfz120_1 := blk_frozen BK186.out 1; have hfz120_2 := blk_frozen BK186.out 2; have hfz120_3 := blk_frozen BK186.out 3; have hfz120_4 := blk_frozen BK186.out 4; have hfz120_5 := blk_frozen BK186.out 5; have hnb121 := NB161_160.out; have hnc121 := NB160_161.out; have hnb122 := NB161_165.out; have hnc122 := NB165_161.out; have hnb123 := NB161_166.out; have hnc123 := NB166_161.out; have hcz124_0 : w115.cell? ⟨gb161, 0, none⟩ = some (.string (⟨#[]⟩ : ByteArray)) := (blk_cell BK161.out 0).trans rfl; have hcz124_1 : w115.cell? ⟨gb161, 1, none⟩ = some (.string (⟨#[]⟩ : ByteArray)) := (blk_cell BK161.out 1).trans rfl; have hcz124_2 : w115.cell? ⟨gb161, 2, none⟩ = some (.bool false) := (blk_cell BK161.out 2).trans rfl; have hcz124_3 : w115.cell? ⟨gb161, 3, none⟩ = some (.bool false) := (blk_cell BK161.out 3).trans rfl; have hcz124_4 : w115.cell? ⟨gb161, 4, none⟩ = some (.bool false) := (blk_cell BK161.out 4).trans rfl; have hcz124_5 : w115.cell? ⟨gb161, 5, none⟩ = some (.bool false) := (blk_cell BK161.out 5).trans rfl; have hfz124_0 := blk_frozen BK161.out 0; have hfz124_1 := blk_frozen BK161.out 1; have hfz124_2 := blk_frozen BK161.out 2; have hfz124_3 := blk_frozen BK161.out 3; have hfz124_4 := blk_frozen BK161.out 4; have hfz124_5 := blk_frozen BK161.out 5))
            refine bodyPost_ret (results_ct rfl _ _ gb161 35 #[.string (⟨#[]⟩ : ByteArray), .string t171, .bool false, .bool true, .bool false, .bool true] (0, 0) _ rfl (by (with_reducible repeat (first | refine blk_drewN ?_ _ | refine blk_drew ?_ | refine blk_alloc ?_ _)); refine blk_put (cs := #[.string (⟨#[]⟩ : ByteArray), .string t171, .bool false, .bool true, .bool false, .bool false]) ?_ 5 _ rfl; (with_reducible repeat (first | refine blk_drewN ?_ _ | refine blk_drew ?_ | refine blk_alloc ?_ _)); refine blk_put (cs := #[.string (⟨#[]⟩ : ByteArray), .string t171, .bool false, .bool true, .bool false, .bool false]) ?_ 4 _ rfl; (with_reducible repeat (first | refine blk_drewN ?_ _ | refine blk_drew ?_ | refine blk_alloc ?_ _)); refine blk_put (cs := #[.string (⟨#[]⟩ : ByteArray), .string t171, .bool false, .bool false, .bool false, .bool false]) ?_ 3 _ rfl; (with_reducible repeat (first | refine blk_drewN ?_ _ | refine blk_drew ?_ | refine blk_alloc ?_ _)); refine blk_put (cs := #[.string (⟨#[]⟩ : ByteArray), .string t171, .bool false, .bool false, .bool false, .bool false]) ?_ 2 _ rfl; (with_reducible repeat (first | refine blk_drewN ?_ _ | refine blk_drew ?_ | refine blk_alloc ?_ _)); refine blk_put (cs := #[.string (⟨#[]⟩ : ByteArray), .string (⟨#[]⟩ : ByteArray), .bool false, .bool false, .bool false, .bool false]) ?_ 1 _ rfl; (with_reducible repeat (first | refine blk_drewN ?_ _ | refine blk_drew ?_ | refine blk_alloc ?_ _)); refine blk_put (cs := #[.string (⟨#[]⟩ : ByteArray), .string (⟨#[]⟩ : ByteArray), .bool false, .bool false, .bool false, .bool false]) ?_ 0 _ rfl; (with_reducible repeat (first | refine blk_drewN ?_ _ | refine blk_drew ?_ | refine blk_alloc ?_ _)); refine blk_far ?_ NB161_186.out _; (with_reducible repeat (first | refine blk_drewN ?_ _ | refine blk_drew ?_ | refine blk_alloc ?_ _)); refine blk_far ?_ NB161_186.out _; (with_reducible repeat (first | refine blk_drewN ?_ _ | refine blk_drew ?_ | refine blk_alloc ?_ _)); refine blk_far ?_ NB161_186.out _; (with_reducible repeat (first | refine blk_drewN ?_ _ | refine blk_drew ?_ | refine blk_alloc ?_ _)); refine blk_far ?_ NB161_186.out _; (with_reducible repeat (first | refine blk_drewN ?_ _ | refine blk_drew ?_ | refine blk_alloc ?_ _)); refine blk_far ?_ NB161_186.out _; (with_reducible repeat (first | refine blk_drewN ?_ _ | refine blk_drew ?_ | refine blk_alloc ?_ _)); refine blk_far ?_ NB161_186.out _; (with_reducible repeat (first | refine blk_drewN ?_ _ | refine blk_drew ?_ | refine blk_alloc ?_ _)); exact BK161.out) Try.underlying35 rfl (by kernel_rfl)) rfl ?_
            exact ⟨by first | rfl | (simp [errW_none, errW_some] <;> rfl) | (simp [*, errW_none, errW_some] <;> rfl), bw_ HB.out⟩
          rw [if_neg c113] at H
          have c113b0 : (x10_20.toList == ([60] : List UInt8)) = false := beq_eq_false_iff_ne.mpr c113
          have c113b1 : (x10_20.toList != ([60] : List UInt8)) = true := bne_iff_ne.mpr c113
          by_cases c125 : x10_20.toList = ([60, 61] : List UInt8)
          · rw [if_pos c125] at H
            have c125b0 : (x10_20.toList == ([60, 61] : List UInt8)) = true := beq_iff_eq.mpr c125
            have c125b1 : (x10_20.toList != ([60, 61] : List UInt8)) = false := bne_eq_false_iff_eq.mpr c125
            clear c125
            simp only [Option.some.injEq, Prod.mk.injEq] at H
            obtain ⟨rfl, rfl, rfl, rfl, rfl, rfl, rfl⟩ := H
            go_wp2_with (first | ((with_reducible refine gate_callee (f := 19) rfl ?_); refine goesL_ (some 77) rfl rfl Try.func19 (by kernel_rfl) rfl #[.string t171] rfl (by (try simp only [List.map_toArray, List.map_cons, List.map_nil]); first | done | rfl | (simp only [List.length_drop, List.length_take]; rfl)) ?_; (with_reducible refine (cursor_Prefix.calls t171 t180 t181 t182 t183 t184 t185 _ A112.out).mono ?_); rintro e w126 ⟨rfl, hb⟩; refine ⟨_, rfl, ?_⟩; have n0_ := Aside0.mk (blk_below (g := gb160) (o := .cells #[.string a0_0, .int .i64 a0_1, .int .i64 a0_2, .int .i64 a0_3, .int .i64 a0_4, .string a0_5, .bool a0_6, .slice (some ad163) l0_7.length c0_7] 43 (0, 0)) (bl_ BK160.out) hb); have n1_ := Aside0.mk (blk_below (g := gb161) (o := .cells #[.string (⟨#[]⟩ : ByteArray), .string (⟨#[]⟩ : ByteArray), .bool false, .bool false, .bool false, .bool false] 35 (0, 0)) (bl_ BK161.out) hb); have n2_ := Aside0.mk (blk_below (g := gb165) (o := .cells #[.string x166000_20, .int .i64 x166001_20, .int .i64 x166002_20, .int .i64 x166003_20, .int .i64 x166004_20, .string x166005_20, .bool x166006_20, u166007] 43 (0, 0)) (bl_ BK165.out) hb); have n3_ := Aside0.mk (blk_below (g := gb166) (o := .cells #[.string x167000_20, .int .i64 x167001_20, .int .i64 x167002_20, .int .i64 x167003_20, .int .i64 x167004_20, .string x167005_20, .bool x167006_20, u167007] 43 (0, 0)) (bl_ BK166.out) hb); have n4_ := Aside0.mk (below_step (bw_ HB.out) hb); clear BK160; clear BK161; clear BK165; clear BK166; clear HB; have BK160 := n0_; have BK161 := n1_; have BK165 := n2_; have BK166 := n3_; have HB := n4_; clear n0_ n1_ n2_ n3_ n4_; (try clear hb); (try clear hb2); (try clear hk); (try clear hi)) | ((with_reducible refine gate_dst (N := 13) rfl ?_); refine box_event ?hg (N := 13) ?hd (cs := #[.string (⟨#[]⟩ : ByteArray), .string (⟨#[]⟩ : ByteArray), .bool false, .bool false, .bool false, .bool false]) (t := 35) ?hr ?_; (case hd => rfl); (case hg => rfl); (case hr => first | (go_simp; done) | (go_simp; rfl)); intro gb186 hg w127 hbox hb; have n0_ := Aside0.mk (blk_below (g := gb160) (o := .cells #[.string a0_0, .int .i64 a0_1, .int .i64 a0_2, .int .i64 a0_3, .int .i64 a0_4, .string a0_5, .bool a0_6, .slice (some ad163) l0_7.length c0_7] 43 (0, 0)) (bl_ BK160.out) hb); have n1_ := Aside0.mk (blk_below (g := gb161) (o := .cells #[.string (⟨#[]⟩ : ByteArray), .string (⟨#[]⟩ : ByteArray), .bool false, .bool false, .bool false, .bool false] 35 (0, 0)) (bl_ BK161.out) hb); have n2_ := Aside0.mk (blk_below (g := gb165) (o := .cells #[.string x166000_20, .int .i64 x166001_20, .int .i64 x166002_20, .int .i64 x166003_20, .int .i64 x166004_20, .string x166005_20, .bool x166006_20, u166007] 43 (0, 0)) (bl_ BK165.out) hb); have n3_ := Aside0.mk (blk_below (g := gb166) (o := .cells #[.string x167000_20, .int .i64 x167001_20, .int .i64 x167002_20, .int .i64 x167003_20, .int .i64 x167004_20, .string x167005_20, .bool x167006_20, u167007] 43 (0, 0)) (bl_ BK166.out) hb); have n4_ := Aside0.mk (below_step (bw_ HB.out) hb); have n5_ := Aside0.mk (hbox); have n6_ := Aside0.mk ((by rw [hg]; exact (below_size (bw_ HB.out)) : w.heap.size ≤ gb186)); have n7_ := Aside0.mk ((by rw [hg]; exact (below_size (bw_ HB.out)) : w.heap.size ≤ gb186)); have n8_ := Aside0.mk ((by rw [hg]; exact Nat.ne_of_lt (blk_lt (g := gb160) (o := .cells #[.string a0_0, .int .i64 a0_1, .int .i64 a0_2, .int .i64 a0_3, .int .i64 a0_4, .string a0_5, .bool a0_6, .slice (some ad163) l0_7.length c0_7] 43 (0, 0)) (bl_ BK160.out)) : gb160 ≠ gb186)); have n9_ := Aside0.mk ((by rw [hg]; exact Nat.ne_of_gt (blk_lt (g := gb160) (o := .cells #[.string a0_0, .int .i64 a0_1, .int .i64 a0_2, .int .i64 a0_3, .int .i64 a0_4, .string a0_5, .bool a0_6, .slice (some ad163) l0_7.length c0_7] 43 (0, 0)) (bl_ BK160.out)) : gb186 ≠ gb160)); have n10_ := Aside0.mk ((by rw [hg]; exact Nat.ne_of_lt (blk_lt (g := gb161) (o := .cells #[.string (⟨#[]⟩ : ByteArray), .string (⟨#[]⟩ : ByteArray), .bool false, .bool false, .bool false, .bool false] 35 (0, 0)) (bl_ BK161.out)) : gb161 ≠ gb186)); have n11_ := Aside0.mk ((by rw [hg]; exact Nat.ne_of_gt (blk_lt (g := gb161) (o := .cells #[.string (⟨#[]⟩ : ByteArray), .string (⟨#[]⟩ : ByteArray), .bool false, .bool false, .bool false, .bool false] 35 (0, 0)) (bl_ BK161.out)) : gb186 ≠ gb161)); have n12_ := Aside0.mk ((by rw [hg]; exact Nat.ne_of_lt (blk_lt (g := gb165) (o := .cells #[.string x166000_20, .int .i64 x166001_20, .int .i64 x166002_20, .int .i64 x166003_20, .int .i64 x166004_20, .string x166005_20, .bool x166006_20, u166007] 43 (0, 0)) (bl_ BK165.out)) : gb165 ≠ gb186)); have n13_ := Aside0.mk ((by rw [hg]; exact Nat.ne_of_gt (blk_lt (g := gb165) (o := .cells #[.string x166000_20, .int .i64 x166001_20, .int .i64 x166002_20, .int .i64 x166003_20, .int .i64 x166004_20, .string x166005_20, .bool x166006_20, u166007] 43 (0, 0)) (bl_ BK165.out)) : gb186 ≠ gb165)); have n14_ := Aside0.mk ((by rw [hg]; exact Nat.ne_of_lt (blk_lt (g := gb166) (o := .cells #[.string x167000_20, .int .i64 x167001_20, .int .i64 x167002_20, .int .i64 x167003_20, .int .i64 x167004_20, .string x167005_20, .bool x167006_20, u167007] 43 (0, 0)) (bl_ BK166.out)) : gb166 ≠ gb186)); have n15_ := Aside0.mk ((by rw [hg]; exact Nat.ne_of_gt (blk_lt (g := gb166) (o := .cells #[.string x167000_20, .int .i64 x167001_20, .int .i64 x167002_20, .int .i64 x167003_20, .int .i64 x167004_20, .string x167005_20, .bool x167006_20, u167007] 43 (0, 0)) (bl_ BK166.out)) : gb186 ≠ gb166)); clear BK160; clear BK161; clear BK165; clear BK166; clear HB; have BK160 := n0_; have BK161 := n1_; have BK165 := n2_; have BK166 := n3_; have HB := n4_; have BK186 := n5_; have GW186 := n6_; have GE186 := n7_; have NB160_186 := n8_; have NB186_160 := n9_; have NB161_186 := n10_; have NB186_161 := n11_; have NB165_186 := n12_; have NB186_165 := n13_; have NB166_186 := n14_; have NB186_166 := n15_; clear n0_ n1_ n2_ n3_ n4_ n5_ n6_ n7_ n8_ n9_ n10_ n11_ n12_ n13_ n14_ n15_; clear hb hbox hg; have hnb128 := NB186_160.out; have hnc128 := NB160_186.out; have hnb129 := NB186_161.out; have hnc129 := NB161_186.out; have hnb130 := NB186_165.out; have hnc130 := NB165_186.out; have hnb131 := NB186_166.out; have hnc131 := NB166_186.out; have hcz132_0 : w127.cell? ⟨gb186, 0, none⟩ = some (.string (⟨#[]⟩ : ByteArray)) := (blk_cell BK186.out 0).trans rfl; have hcz132_1 : w127.cell? ⟨gb186, 1, none⟩ = some (.string (⟨#[]⟩ : ByteArray)) := (blk_cell BK186.out 1).trans rfl; have hcz132_2 : w127.cell? ⟨gb186, 2, none⟩ = some (.bool false) := (blk_cell BK186.out 2).trans rfl; have hcz132_3 : w127.cell? ⟨gb186, 3, none⟩ = some (.bool false) := (blk_cell BK186.out 3).trans rfl; have hcz132_4 : w127.cell? ⟨gb186, 4, none⟩ = some (.bool false) := (blk_cell BK186.out 4).trans rfl; have hcz132_5 : w127.cell? ⟨gb186, 5, none⟩ = some (.bool false) := (blk_cell BK186.out 5).trans rfl; have hfz132_0 := blk_frozen BK186.out 0; have hfz132_1 := blk_frozen BK186.out 1; have hfz132_2 := blk_frozen BK186.out 2; have hfz132_3 := blk_frozen BK186.out 3; have hfz132_4 := blk_frozen BK186.out 4; have hfz132_5 := blk_frozen BK186.out 5; have hnb133 := NB161_160.out; have hnc133 := NB160_161.out; have hnb134 := NB161_165.out; have hnc134 := NB165_161.out; have hnb135 := NB161_166.out; have hnc135 := NB166_161.out; have hcz136_0 : w127.cell? ⟨gb161, 0, none⟩ = some (.string (⟨#[]⟩ : ByteArray)) := (blk_cell BK161.out 0).trans rfl; have hcz136_1 : w127.cell? ⟨gb161, 1, none⟩ = some (.string (⟨#[]⟩ : ByteArray)) := (blk_cell BK161.out 1).trans rfl; have hcz136_2 : w127.cell? ⟨gb161, 2, none⟩ = some (.bool false) := (blk_cell BK161.out 2).trans rfl; have hcz136_3 : w127.cell? ⟨gb161, 3, none⟩ = some (.bool false) := (blk_cell BK161.out 3).trans rfl; have hcz136_4 : w127.cell? ⟨gb161, 4, none⟩ = some (.bool false) := (blk_cell BK161.out 4).trans rfl; have hcz136_5 : w127.cell? ⟨gb161, 5, none⟩ = some (.bool false) := (blk_cell BK161.out 5).trans rfl; have hfz136_0 := blk_frozen BK161.out 0; have hfz136_1 := blk_frozen BK161.out 1; have hfz136_2 := blk_frozen BK161.out 2; have hfz136_3 := blk_frozen BK161.out 3; have hfz136_4 := blk_frozen BK161.out 4; have hfz136_5 := blk_frozen BK161.out 5))
            refine bodyPost_ret (results_ct rfl _ _ gb161 35 #[.string (⟨#[]⟩ : ByteArray), .string t181, .bool false, .bool t183, .bool false, .bool t185] (0, 0) _ rfl (by (with_reducible repeat (first | refine blk_drewN ?_ _ | refine blk_drew ?_ | refine blk_alloc ?_ _)); refine blk_put (cs := #[.string (⟨#[]⟩ : ByteArray), .string t181, .bool false, .bool t183, .bool false, .bool false]) ?_ 5 _ rfl; (with_reducible repeat (first | refine blk_drewN ?_ _ | refine blk_drew ?_ | refine blk_alloc ?_ _)); refine blk_put (cs := #[.string (⟨#[]⟩ : ByteArray), .string t181, .bool false, .bool t183, .bool false, .bool false]) ?_ 4 _ rfl; (with_reducible repeat (first | refine blk_drewN ?_ _ | refine blk_drew ?_ | refine blk_alloc ?_ _)); refine blk_put (cs := #[.string (⟨#[]⟩ : ByteArray), .string t181, .bool false, .bool false, .bool false, .bool false]) ?_ 3 _ rfl; (with_reducible repeat (first | refine blk_drewN ?_ _ | refine blk_drew ?_ | refine blk_alloc ?_ _)); refine blk_put (cs := #[.string (⟨#[]⟩ : ByteArray), .string t181, .bool false, .bool false, .bool false, .bool false]) ?_ 2 _ rfl; (with_reducible repeat (first | refine blk_drewN ?_ _ | refine blk_drew ?_ | refine blk_alloc ?_ _)); refine blk_put (cs := #[.string (⟨#[]⟩ : ByteArray), .string (⟨#[]⟩ : ByteArray), .bool false, .bool false, .bool false, .bool false]) ?_ 1 _ rfl; (with_reducible repeat (first | refine blk_drewN ?_ _ | refine blk_drew ?_ | refine blk_alloc ?_ _)); refine blk_put (cs := #[.string (⟨#[]⟩ : ByteArray), .string (⟨#[]⟩ : ByteArray), .bool false, .bool false, .bool false, .bool false]) ?_ 0 _ rfl; (with_reducible repeat (first | refine blk_drewN ?_ _ | refine blk_drew ?_ | refine blk_alloc ?_ _)); refine blk_far ?_ NB161_186.out _; (with_reducible repeat (first | refine blk_drewN ?_ _ | refine blk_drew ?_ | refine blk_alloc ?_ _)); refine blk_far ?_ NB161_186.out _; (with_reducible repeat (first | refine blk_drewN ?_ _ | refine blk_drew ?_ | refine blk_alloc ?_ _)); refine blk_far ?_ NB161_186.out _; (with_reducible repeat (first | refine blk_drewN ?_ _ | refine blk_drew ?_ | refine blk_alloc ?_ _)); refine blk_far ?_ NB161_186.out _; (with_reducible repeat (first | refine blk_drewN ?_ _ | refine blk_drew ?_ | refine blk_alloc ?_ _)); refine blk_far ?_ NB161_186.out _; (with_reducible repeat (first | refine blk_drewN ?_ _ | refine blk_drew ?_ | refine blk_alloc ?_ _)); refine blk_far ?_ NB161_186.out _; (with_reducible repeat (first | refine blk_drewN ?_ _ | refine blk_drew ?_ | refine blk_alloc ?_ _)); exact BK161.out) Try.underlying35 rfl (by kernel_rfl)) rfl ?_
            exact ⟨by first | rfl | (simp [errW_none, errW_some] <;> rfl) | (simp [*, errW_none, errW_some] <;> rfl), bw_ HB.out⟩
          rw [if_neg c125] at H
          have c125b0 : (x10_20.toList == ([60, 61] : List UInt8)) = false := beq_eq_false_iff_ne.mpr c125
          have c125b1 : (x10_20.toList != ([60, 61] : List UInt8)) = true := bne_iff_ne.mpr c125
          by_cases c137 : x10_20.toList = ([62, 61] : List UInt8)
          · rw [if_pos c137] at H
            have c137b0 : (x10_20.toList == ([62, 61] : List UInt8)) = true := beq_iff_eq.mpr c137
            have c137b1 : (x10_20.toList != ([62, 61] : List UInt8)) = false := bne_eq_false_iff_eq.mpr c137
            clear c137
            simp only [Option.some.injEq, Prod.mk.injEq] at H
            obtain ⟨rfl, rfl, rfl, rfl, rfl, rfl, rfl⟩ := H
            go_wp2_with (first | ((with_reducible refine gate_callee (f := 19) rfl ?_); refine goesL_ (some 77) rfl rfl Try.func19 (by kernel_rfl) rfl #[.string t171] rfl (by (try simp only [List.map_toArray, List.map_cons, List.map_nil]); first | done | rfl | (simp only [List.length_drop, List.length_take]; rfl)) ?_; (with_reducible refine (cursor_Prefix.calls t171 t180 t181 t182 t183 t184 t185 _ A112.out).mono ?_); rintro e w138 ⟨rfl, hb⟩; refine ⟨_, rfl, ?_⟩; have n0_ := Aside0.mk (blk_below (g := gb160) (o := .cells #[.string a0_0, .int .i64 a0_1, .int .i64 a0_2, .int .i64 a0_3, .int .i64 a0_4, .string a0_5, .bool a0_6, .slice (some ad163) l0_7.length c0_7] 43 (0, 0)) (bl_ BK160.out) hb); have n1_ := Aside0.mk (blk_below (g := gb161) (o := .cells #[.string (⟨#[]⟩ : ByteArray), .string (⟨#[]⟩ : ByteArray), .bool false, .bool false, .bool false, .bool false] 35 (0, 0)) (bl_ BK161.out) hb); have n2_ := Aside0.mk (blk_below (g := gb165) (o := .cells #[.string x166000_20, .int .i64 x166001_20, .int .i64 x166002_20, .int .i64 x166003_20, .int .i64 x166004_20, .string x166005_20, .bool x166006_20, u166007] 43 (0, 0)) (bl_ BK165.out) hb); have n3_ := Aside0.mk (blk_below (g := gb166) (o := .cells #[.string x167000_20, .int .i64 x167001_20, .int .i64 x167002_20, .int .i64 x167003_20, .int .i64 x167004_20, .string x167005_20, .bool x167006_20, u167007] 43 (0, 0)) (bl_ BK166.out) hb); have n4_ := Aside0.mk (below_step (bw_ HB.out) hb); clear BK160; clear BK161; clear BK165; clear BK166; clear HB; have BK160 := n0_; have BK161 := n1_; have BK165 := n2_; have BK166 := n3_; have HB := n4_; clear n0_ n1_ n2_ n3_ n4_; (try clear hb); (try clear hb2); (try clear hk); (try clear hi)) | ((with_reducible refine gate_dst (N := 13) rfl ?_); refine box_event ?hg (N := 13) ?hd (cs := #[.string (⟨#[]⟩ : ByteArray), .string (⟨#[]⟩ : ByteArray), .bool false, .bool false, .bool false, .bool false]) (t := 35) ?hr ?_; (case hd => rfl); (case hg => rfl); (case hr => first | (go_simp; done) | (go_simp; rfl)); intro gb186 hg w139 hbox hb; have n0_ := Aside0.mk (blk_below (g := gb160) (o := .cells #[.string a0_0, .int .i64 a0_1, .int .i64 a0_2, .int .i64 a0_3, .int .i64 a0_4, .string a0_5, .bool a0_6, .slice (some ad163) l0_7.length c0_7] 43 (0, 0)) (bl_ BK160.out) hb); have n1_ := Aside0.mk (blk_below (g := gb161) (o := .cells #[.string (⟨#[]⟩ : ByteArray), .string (⟨#[]⟩ : ByteArray), .bool false, .bool false, .bool false, .bool false] 35 (0, 0)) (bl_ BK161.out) hb); have n2_ := Aside0.mk (blk_below (g := gb165) (o := .cells #[.string x166000_20, .int .i64 x166001_20, .int .i64 x166002_20, .int .i64 x166003_20, .int .i64 x166004_20, .string x166005_20, .bool x166006_20, u166007] 43 (0, 0)) (bl_ BK165.out) hb); have n3_ := Aside0.mk (blk_below (g := gb166) (o := .cells #[.string x167000_20, .int .i64 x167001_20, .int .i64 x167002_20, .int .i64 x167003_20, .int .i64 x167004_20, .string x167005_20, .bool x167006_20, u167007] 43 (0, 0)) (bl_ BK166.out) hb); have n4_ := Aside0.mk (below_step (bw_ HB.out) hb); have n5_ := Aside0.mk (hbox); have n6_ := Aside0.mk ((by rw [hg]; exact (below_size (bw_ HB.out)) : w.heap.size ≤ gb186)); have n7_ := Aside0.mk ((by rw [hg]; exact (below_size (bw_ HB.out)) : w.heap.size ≤ gb186)); have n8_ := Aside0.mk ((by rw [hg]; exact Nat.ne_of_lt (blk_lt (g := gb160) (o := .cells #[.string a0_0, .int .i64 a0_1, .int .i64 a0_2, .int .i64 a0_3, .int .i64 a0_4, .string a0_5, .bool a0_6, .slice (some ad163) l0_7.length c0_7] 43 (0, 0)) (bl_ BK160.out)) : gb160 ≠ gb186)); have n9_ := Aside0.mk ((by rw [hg]; exact Nat.ne_of_gt (blk_lt (g := gb160) (o := .cells #[.string a0_0, .int .i64 a0_1, .int .i64 a0_2, .int .i64 a0_3, .int .i64 a0_4, .string a0_5, .bool a0_6, .slice (some ad163) l0_7.length c0_7] 43 (0, 0)) (bl_ BK160.out)) : gb186 ≠ gb160)); have n10_ := Aside0.mk ((by rw [hg]; exact Nat.ne_of_lt (blk_lt (g := gb161) (o := .cells #[.string (⟨#[]⟩ : ByteArray), .string (⟨#[]⟩ : ByteArray), .bool false, .bool false, .bool false, .bool false] 35 (0, 0)) (bl_ BK161.out)) : gb161 ≠ gb186)); have n11_ := Aside0.mk ((by rw [hg]; exact Nat.ne_of_gt (blk_lt (g := gb161) (o := .cells #[.string (⟨#[]⟩ : ByteArray), .string (⟨#[]⟩ : ByteArray), .bool false, .bool false, .bool false, .bool false] 35 (0, 0)) (bl_ BK161.out)) : gb186 ≠ gb161)); have n12_ := Aside0.mk ((by rw [hg]; exact Nat.ne_of_lt (blk_lt (g := gb165) (o := .cells #[.string x166000_20, .int .i64 x166001_20, .int .i64 x166002_20, .int .i64 x166003_20, .int .i64 x166004_20, .string x166005_20, .bool x166006_20, u166007] 43 (0, 0)) (bl_ BK165.out)) : gb165 ≠ gb186)); have n13_ := Aside0.mk ((by rw [hg]; exact Nat.ne_of_gt (blk_lt (g := gb165) (o := .cells #[.string x166000_20, .int .i64 x166001_20, .int .i64 x166002_20, .int .i64 x166003_20, .int .i64 x166004_20, .string x166005_20, .bool x166006_20, u166007] 43 (0, 0)) (bl_ BK165.out)) : gb186 ≠ gb165)); have n14_ := Aside0.mk ((by rw [hg]; exact Nat.ne_of_lt (blk_lt (g := gb166) (o := .cells #[.string x167000_20, .int .i64 x167001_20, .int .i64 x167002_20, .int .i64 x167003_20, .int .i64 x167004_20, .string x167005_20, .bool x167006_20, u167007] 43 (0, 0)) (bl_ BK166.out)) : gb166 ≠ gb186)); have n15_ := Aside0.mk ((by rw [hg]; exact Nat.ne_of_gt (blk_lt (g := gb166) (o := .cells #[.string x167000_20, .int .i64 x167001_20, .int .i64 x167002_20, .int .i64 x167003_20, .int .i64 x167004_20, .string x167005_20, .bool x167006_20, u167007] 43 (0, 0)) (bl_ BK166.out)) : gb186 ≠ gb166)); clear BK160; clear BK161; clear BK165; clear BK166; clear HB; have BK160 := n0_; have BK161 := n1_; have BK165 := n2_; have BK166 := n3_; have HB := n4_; have BK186 := n5_; have GW186 := n6_; have GE186 := n7_; have NB160_186 := n8_; have NB186_160 := n9_; have NB161_186 := n10_; have NB186_161 := n11_; have NB165_186 := n12_; have NB186_165 := n13_; have NB166_186 := n14_; have NB186_166 := n15_; clear n0_ n1_ n2_ n3_ n4_ n5_ n6_ n7_ n8_ n9_ n10_ n11_ n12_ n13_ n14_ n15_; clear hb hbox hg; have hnb140 := NB186_160.out; have hnc140 := NB160_186.out; have hnb141 := NB186_161.out; have hnc141 := NB161_186.out; have hnb142 := NB186_165.out; have hnc142 := NB165_186.out; have hnb143 := NB186_166.out; have hnc143 := NB166_186.out; have hcz144_0 : w139.cell? ⟨gb186, 0, none⟩ = some (.string (⟨#[]⟩ : ByteArray)) := (blk_cell BK186.out 0).trans rfl; have hcz144_1 : w139.cell? ⟨gb186, 1, none⟩ = some (.string (⟨#[]⟩ : ByteArray)) := (blk_cell BK186.out 1).trans rfl; have hcz144_2 : w139.cell? ⟨gb186, 2, none⟩ = some (.bool false) := (blk_cell BK186.out 2).trans rfl; have hcz144_3 : w139.cell? ⟨gb186, 3, none⟩ = some (.bool false) := (blk_cell BK186.out 3).trans rfl; have hcz144_4 : w139.cell? ⟨gb186, 4, none⟩ = some (.bool false) := (blk_cell BK186.out 4).trans rfl; have hcz144_5 : w139.cell? ⟨gb186, 5, none⟩ = some (.bool false) := (blk_cell BK186.out 5).trans rfl; have hfz144_0 := blk_frozen BK186.out 0; have hfz144_1 := blk_frozen BK186.out 1; have hfz144_2 := blk_frozen BK186.out 2; have hfz144_3 := blk_frozen BK186.out 3; have hfz144_4 := blk_frozen BK186.out 4; have hfz144_5 := blk_frozen BK186.out 5; have hnb145 := NB161_160.out; have hnc145 := NB160_161.out; have hnb146 := NB161_165.out; have hnc146 := NB165_161.out; have hnb147 := NB161_166.out; have hnc147 := NB166_161.out; have hcz148_0 : w139.cell? ⟨gb161, 0, none⟩ = some (.string (⟨#[]⟩ : ByteArray)) := (blk_cell BK161.out 0).trans rfl; have hcz148_1 : w139.cell? ⟨gb161, 1, none⟩ = some (.string (⟨#[]⟩ : ByteArray)) := (blk_cell BK161.out 1).trans rfl; have hcz148_2 : w139.cell? ⟨gb161, 2, none⟩ = some (.bool false) := (blk_cell BK161.out 2).trans rfl; have hcz148_3 : w139.cell? ⟨gb161, 3, none⟩ = some (.bool false) := (blk_cell BK161.out 3).trans rfl; have hcz148_4 : w139.cell? ⟨gb161, 4, none⟩ = some (.bool false) := (blk_cell BK161.out 4).trans rfl; have hcz148_5 : w139.cell? ⟨gb161, 5, none⟩ = some (.bool false) := (blk_cell BK161.out 5).trans rfl; have hfz148_0 := blk_frozen BK161.out 0; have hfz148_1 := blk_frozen BK161.out 1; have hfz148_2 := blk_frozen BK161.out 2; have hfz148_3 := blk_frozen BK161.out 3; have hfz148_4 := blk_frozen BK161.out 4; have hfz148_5 := blk_frozen BK161.out 5))
            refine bodyPost_ret (results_ct rfl _ _ gb161 35 #[.string t171, .string (⟨#[]⟩ : ByteArray), .bool true, .bool false, .bool false, .bool false] (0, 0) _ rfl (by (with_reducible repeat (first | refine blk_drewN ?_ _ | refine blk_drew ?_ | refine blk_alloc ?_ _)); refine blk_put (cs := #[.string t171, .string (⟨#[]⟩ : ByteArray), .bool true, .bool false, .bool false, .bool false]) ?_ 5 _ rfl; (with_reducible repeat (first | refine blk_drewN ?_ _ | refine blk_drew ?_ | refine blk_alloc ?_ _)); refine blk_put (cs := #[.string t171, .string (⟨#[]⟩ : ByteArray), .bool true, .bool false, .bool false, .bool false]) ?_ 4 _ rfl; (with_reducible repeat (first | refine blk_drewN ?_ _ | refine blk_drew ?_ | refine blk_alloc ?_ _)); refine blk_put (cs := #[.string t171, .string (⟨#[]⟩ : ByteArray), .bool true, .bool false, .bool false, .bool false]) ?_ 3 _ rfl; (with_reducible repeat (first | refine blk_drewN ?_ _ | refine blk_drew ?_ | refine blk_alloc ?_ _)); refine blk_put (cs := #[.string t171, .string (⟨#[]⟩ : ByteArray), .bool false, .bool false, .bool false, .bool false]) ?_ 2 _ rfl; (with_reducible repeat (first | refine blk_drewN ?_ _ | refine blk_drew ?_ | refine blk_alloc ?_ _)); refine blk_put (cs := #[.string t171, .string (⟨#[]⟩ : ByteArray), .bool false, .bool false, .bool false, .bool false]) ?_ 1 _ rfl; (with_reducible repeat (first | refine blk_drewN ?_ _ | refine blk_drew ?_ | refine blk_alloc ?_ _)); refine blk_put (cs := #[.string (⟨#[]⟩ : ByteArray), .string (⟨#[]⟩ : ByteArray), .bool false, .bool false, .bool false, .bool false]) ?_ 0 _ rfl; (with_reducible repeat (first | refine blk_drewN ?_ _ | refine blk_drew ?_ | refine blk_alloc ?_ _)); refine blk_far ?_ NB161_186.out _; (with_reducible repeat (first | refine blk_drewN ?_ _ | refine blk_drew ?_ | refine blk_alloc ?_ _)); refine blk_far ?_ NB161_186.out _; (with_reducible repeat (first | refine blk_drewN ?_ _ | refine blk_drew ?_ | refine blk_alloc ?_ _)); refine blk_far ?_ NB161_186.out _; (with_reducible repeat (first | refine blk_drewN ?_ _ | refine blk_drew ?_ | refine blk_alloc ?_ _)); refine blk_far ?_ NB161_186.out _; (with_reducible repeat (first | refine blk_drewN ?_ _ | refine blk_drew ?_ | refine blk_alloc ?_ _)); refine blk_far ?_ NB161_186.out _; (with_reducible repeat (first | refine blk_drewN ?_ _ | refine blk_drew ?_ | refine blk_alloc ?_ _)); refine blk_far ?_ NB161_186.out _; (with_reducible repeat (first | refine blk_drewN ?_ _ | refine blk_drew ?_ | refine blk_alloc ?_ _)); exact BK161.out) Try.underlying35 rfl (by kernel_rfl)) rfl ?_
            exact ⟨by first | rfl | (simp [errW_none, errW_some] <;> rfl) | (simp [*, errW_none, errW_some] <;> rfl), bw_ HB.out⟩
          rw [if_neg c137] at H
          have c137b0 : (x10_20.toList == ([62, 61] : List UInt8)) = false := beq_eq_false_iff_ne.mpr c137
          have c137b1 : (x10_20.toList != ([62, 61] : List UInt8)) = true := bne_iff_ne.mpr c137
          by_cases c149 : x10_20.toList = ([62] : List UInt8)
          · rw [if_pos c149] at H
            have c149b0 : (x10_20.toList == ([62] : List UInt8)) = true := beq_iff_eq.mpr c149
            have c149b1 : (x10_20.toList != ([62] : List UInt8)) = false := bne_eq_false_iff_eq.mpr c149
            clear c149
            simp only [Option.some.injEq, Prod.mk.injEq] at H
            obtain ⟨rfl, rfl, rfl, rfl, rfl, rfl, rfl⟩ := H
            go_wp2_with (first | ((with_reducible refine gate_callee (f := 19) rfl ?_); refine goesL_ (some 77) rfl rfl Try.func19 (by kernel_rfl) rfl #[.string t171] rfl (by (try simp only [List.map_toArray, List.map_cons, List.map_nil]); first | done | rfl | (simp only [List.length_drop, List.length_take]; rfl)) ?_; (with_reducible refine (cursor_Prefix.calls t171 t180 t181 t182 t183 t184 t185 _ A112.out).mono ?_); rintro e w150 ⟨rfl, hb⟩; refine ⟨_, rfl, ?_⟩; have n0_ := Aside0.mk (blk_below (g := gb160) (o := .cells #[.string a0_0, .int .i64 a0_1, .int .i64 a0_2, .int .i64 a0_3, .int .i64 a0_4, .string a0_5, .bool a0_6, .slice (some ad163) l0_7.length c0_7] 43 (0, 0)) (bl_ BK160.out) hb); have n1_ := Aside0.mk (blk_below (g := gb161) (o := .cells #[.string (⟨#[]⟩ : ByteArray), .string (⟨#[]⟩ : ByteArray), .bool false, .bool false, .bool false, .bool false] 35 (0, 0)) (bl_ BK161.out) hb); have n2_ := Aside0.mk (blk_below (g := gb165) (o := .cells #[.string x166000_20, .int .i64 x166001_20, .int .i64 x166002_20, .int .i64 x166003_20, .int .i64 x166004_20, .string x166005_20, .bool x166006_20, u166007] 43 (0, 0)) (bl_ BK165.out) hb); have n3_ := Aside0.mk (blk_below (g := gb166) (o := .cells #[.string x167000_20, .int .i64 x167001_20, .int .i64 x167002_20, .int .i64 x167003_20, .int .i64 x167004_20, .string x167005_20, .bool x167006_20, u167007] 43 (0, 0)) (bl_ BK166.out) hb); have n4_ := Aside0.mk (below_step (bw_ HB.out) hb); clear BK160; clear BK161; clear BK165; clear BK166; clear HB; have BK160 := n0_; have BK161 := n1_; have BK165 := n2_; have BK166 := n3_; have HB := n4_; clear n0_ n1_ n2_ n3_ n4_; (try clear hb); (try clear hb2); (try clear hk); (try clear hi)) | ((with_reducible refine gate_dst (N := 13) rfl ?_); refine box_event ?hg (N := 13) ?hd (cs := #[.string (⟨#[]⟩ : ByteArray), .string (⟨#[]⟩ : ByteArray), .bool false, .bool false, .bool false, .bool false]) (t := 35) ?hr ?_; (case hd => rfl); (case hg => rfl); (case hr => first | (go_simp; done) | (go_simp; rfl)); intro gb186 hg w151 hbox hb; have n0_ := Aside0.mk (blk_below (g := gb160) (o := .cells #[.string a0_0, .int .i64 a0_1, .int .i64 a0_2, .int .i64 a0_3, .int .i64 a0_4, .string a0_5, .bool a0_6, .slice (some ad163) l0_7.length c0_7] 43 (0, 0)) (bl_ BK160.out) hb); have n1_ := Aside0.mk (blk_below (g := gb161) (o := .cells #[.string (⟨#[]⟩ : ByteArray), .string (⟨#[]⟩ : ByteArray), .bool false, .bool false, .bool false, .bool false] 35 (0, 0)) (bl_ BK161.out) hb); have n2_ := Aside0.mk (blk_below (g := gb165) (o := .cells #[.string x166000_20, .int .i64 x166001_20, .int .i64 x166002_20, .int .i64 x166003_20, .int .i64 x166004_20, .string x166005_20, .bool x166006_20, u166007] 43 (0, 0)) (bl_ BK165.out) hb); have n3_ := Aside0.mk (blk_below (g := gb166) (o := .cells #[.string x167000_20, .int .i64 x167001_20, .int .i64 x167002_20, .int .i64 x167003_20, .int .i64 x167004_20, .string x167005_20, .bool x167006_20, u167007] 43 (0, 0)) (bl_ BK166.out) hb); have n4_ := Aside0.mk (below_step (bw_ HB.out) hb); have n5_ := Aside0.mk (hbox); have n6_ := Aside0.mk ((by rw [hg]; exact (below_size (bw_ HB.out)) : w.heap.size ≤ gb186)); have n7_ := Aside0.mk ((by rw [hg]; exact (below_size (bw_ HB.out)) : w.heap.size ≤ gb186)); have n8_ := Aside0.mk ((by rw [hg]; exact Nat.ne_of_lt (blk_lt (g := gb160) (o := .cells #[.string a0_0, .int .i64 a0_1, .int .i64 a0_2, .int .i64 a0_3, .int .i64 a0_4, .string a0_5, .bool a0_6, .slice (some ad163) l0_7.length c0_7] 43 (0, 0)) (bl_ BK160.out)) : gb160 ≠ gb186)); have n9_ := Aside0.mk ((by rw [hg]; exact Nat.ne_of_gt (blk_lt (g := gb160) (o := .cells #[.string a0_0, .int .i64 a0_1, .int .i64 a0_2, .int .i64 a0_3, .int .i64 a0_4, .string a0_5, .bool a0_6, .slice (some ad163) l0_7.length c0_7] 43 (0, 0)) (bl_ BK160.out)) : gb186 ≠ gb160)); have n10_ := Aside0.mk ((by rw [hg]; exact Nat.ne_of_lt (blk_lt (g := gb161) (o := .cells #[.string (⟨#[]⟩ : ByteArray), .string (⟨#[]⟩ : ByteArray), .bool false, .bool false, .bool false, .bool false] 35 (0, 0)) (bl_ BK161.out)) : gb161 ≠ gb186)); have n11_ := Aside0.mk ((by rw [hg]; exact Nat.ne_of_gt (blk_lt (g := gb161) (o := .cells #[.string (⟨#[]⟩ : ByteArray), .string (⟨#[]⟩ : ByteArray), .bool false, .bool false, .bool false, .bool false] 35 (0, 0)) (bl_ BK161.out)) : gb186 ≠ gb161)); have n12_ := Aside0.mk ((by rw [hg]; exact Nat.ne_of_lt (blk_lt (g := gb165) (o := .cells #[.string x166000_20, .int .i64 x166001_20, .int .i64 x166002_20, .int .i64 x166003_20, .int .i64 x166004_20, .string x166005_20, .bool x166006_20, u166007] 43 (0, 0)) (bl_ BK165.out)) : gb165 ≠ gb186)); have n13_ := Aside0.mk ((by rw [hg]; exact Nat.ne_of_gt (blk_lt (g := gb165) (o := .cells #[.string x166000_20, .int .i64 x166001_20, .int .i64 x166002_20, .int .i64 x166003_20, .int .i64 x166004_20, .string x166005_20, .bool x166006_20, u166007] 43 (0, 0)) (bl_ BK165.out)) : gb186 ≠ gb165)); have n14_ := Aside0.mk ((by rw [hg]; exact Nat.ne_of_lt (blk_lt (g := gb166) (o := .cells #[.string x167000_20, .int .i64 x167001_20, .int .i64 x167002_20, .int .i64 x167003_20, .int .i64 x167004_20, .string x167005_20, .bool x167006_20, u167007] 43 (0, 0)) (bl_ BK166.out)) : gb166 ≠ gb186)); have n15_ := Aside0.mk ((by rw [hg]; exact Nat.ne_of_gt (blk_lt (g := gb166) (o := .cells #[.string x167000_20, .int .i64 x167001_20, .int .i64 x167002_20, .int .i64 x167003_20, .int .i64 x167004_20, .string x167005_20, .bool x167006_20, u167007] 43 (0, 0)) (bl_ BK166.out)) : gb186 ≠ gb166)); clear BK160; clear BK161; clear BK165; clear BK166; clear HB; have BK160 := n0_; have BK161 := n1_; have BK165 := n2_; have BK166 := n3_; have HB := n4_; have BK186 := n5_; have GW186 := n6_; have GE186 := n7_; have NB160_186 := n8_; have NB186_160 := n9_; have NB161_186 := n10_; have NB186_161 := n11_; have NB165_186 := n12_; have NB186_165 := n13_; have NB166_186 := n14_; have NB186_166 := n15_; clear n0_ n1_ n2_ n3_ n4_ n5_ n6_ n7_ n8_ n9_ n10_ n11_ n12_ n13_ n14_ n15_; clear hb hbox hg; have hnb152 := NB186_160.out; have hnc152 := NB160_186.out; have hnb153 := NB186_161.out; have hnc153 := NB161_186.out; have hnb154 := NB186_165.out; have hnc154 := NB165_186.out; have hnb155 := NB186_166.out; have hnc155 := NB166_186.out; have hcz156_0 : w151.cell? ⟨gb186, 0, none⟩ = some (.string (⟨#[]⟩ : ByteArray)) := (blk_cell BK186.out 0).trans rfl; have hcz156_1 : w151.cell? ⟨gb186, 1, none⟩ = some (.string (⟨#[]⟩ : ByteArray)) := (blk_cell BK186.out 1).trans rfl; have hcz156_2 : w151.cell? ⟨gb186, 2, none⟩ = some (.bool false) := (blk_cell BK186.out 2).trans rfl; have hcz156_3 : w151.cell? ⟨gb186, 3, none⟩ = some (.bool false) := (blk_cell BK186.out 3).trans rfl; have hcz156_4 : w151.cell? ⟨gb186, 4, none⟩ = some (.bool false) := (blk_cell BK186.out 4).trans rfl; have hcz156_5 : w151.cell? ⟨gb186, 5, none⟩ = some (.bool false) := (blk_cell BK186.out 5).trans rfl; have hfz156_0 := blk_frozen BK186.out 0; have hfz156_1 := blk_frozen BK186.out 1; have hfz156_2 := blk_frozen BK186.out 2; have hfz156_3 := blk_frozen BK186.out 3; have hfz156_4 := blk_frozen BK186.out 4; have hfz156_5 := blk_frozen BK186.out 5; have hnb157 := NB161_160.out; have hnc157 := NB160_161.out; have hnb158 := NB161_165.out; have hnc158 := NB165_161.out; have hnb159 := NB161_166.out; have hnc159 := NB166_161.out; have hcz160_0 : w151.cell? ⟨gb161, 0, none⟩ = some (.string (⟨#[]⟩ : ByteArray)) := (blk_cell BK161.out 0).trans rfl; have hcz160_1 : w151.cell? ⟨gb161, 1, none⟩ = some (.string (⟨#[]⟩ : ByteArray)) := (blk_cell BK161.out 1).trans rfl; have hcz160_2 : w151.cell? ⟨gb161, 2, none⟩ = some (.bool false) := (blk_cell BK161.out 2).trans rfl; have hcz160_3 : w151.cell? ⟨gb161, 3, none⟩ = some (.bool false) := (blk_cell BK161.out 3).trans rfl; have hcz160_4 : w151.cell? ⟨gb161, 4, none⟩ = some (.bool false) := (blk_cell BK161.out 4).trans rfl; have hcz160_5 : w151.cell? ⟨gb161, 5, none⟩ = some (.bool false) := (blk_cell BK161.out 5).trans rfl; have hfz160_0 := blk_frozen BK161.out 0; have hfz160_1 := blk_frozen BK161.out 1; have hfz160_2 := blk_frozen BK161.out 2; have hfz160_3 := blk_frozen BK161.out 3; have hfz160_4 := blk_frozen BK161.out 4; have hfz160_5 := blk_frozen BK161.out 5))
            refine bodyPost_ret (results_ct rfl _ _ gb161 35 #[.string t181, .string (⟨#[]⟩ : ByteArray), .bool t183, .bool false, .bool false, .bool false] (0, 0) _ rfl (by (with_reducible repeat (first | refine blk_drewN ?_ _ | refine blk_drew ?_ | refine blk_alloc ?_ _)); refine blk_put (cs := #[.string t181, .string (⟨#[]⟩ : ByteArray), .bool t183, .bool false, .bool false, .bool false]) ?_ 5 _ rfl; (with_reducible repeat (first | refine blk_drewN ?_ _ | refine blk_drew ?_ | refine blk_alloc ?_ _)); refine blk_put (cs := #[.string t181, .string (⟨#[]⟩ : ByteArray), .bool t183, .bool false, .bool false, .bool false]) ?_ 4 _ rfl; (with_reducible repeat (first | refine blk_drewN ?_ _ | refine blk_drew ?_ | refine blk_alloc ?_ _)); refine blk_put (cs := #[.string t181, .string (⟨#[]⟩ : ByteArray), .bool t183, .bool false, .bool false, .bool false]) ?_ 3 _ rfl; (with_reducible repeat (first | refine blk_drewN ?_ _ | refine blk_drew ?_ | refine blk_alloc ?_ _)); refine blk_put (cs := #[.string t181, .string (⟨#[]⟩ : ByteArray), .bool false, .bool false, .bool false, .bool false]) ?_ 2 _ rfl; (with_reducible repeat (first | refine blk_drewN ?_ _ | refine blk_drew ?_ | refine blk_alloc ?_ _)); refine blk_put (cs := #[.string t181, .string (⟨#[]⟩ : ByteArray), .bool false, .bool false, .bool false, .bool false]) ?_ 1 _ rfl; (with_reducible repeat (first | refine blk_drewN ?_ _ | refine blk_drew ?_ | refine blk_alloc ?_ _)); refine blk_put (cs := #[.string (⟨#[]⟩ : ByteArray), .string (⟨#[]⟩ : ByteArray), .bool false, .bool false, .bool false, .bool false]) ?_ 0 _ rfl; (with_reducible repeat (first | refine blk_drewN ?_ _ | refine blk_drew ?_ | refine blk_alloc ?_ _)); refine blk_far ?_ NB161_186.out _; (with_reducible repeat (first | refine blk_drewN ?_ _ | refine blk_drew ?_ | refine blk_alloc ?_ _)); refine blk_far ?_ NB161_186.out _; (with_reducible repeat (first | refine blk_drewN ?_ _ | refine blk_drew ?_ | refine blk_alloc ?_ _)); refine blk_far ?_ NB161_186.out _; (with_reducible repeat (first | refine blk_drewN ?_ _ | refine blk_drew ?_ | refine blk_alloc ?_ _)); refine blk_far ?_ NB161_186.out _; (with_reducible repeat (first | refine blk_drewN ?_ _ | refine blk_drew ?_ | refine blk_alloc ?_ _)); refine blk_far ?_ NB161_186.out _; (with_reducible repeat (first | refine blk_drewN ?_ _ | refine blk_drew ?_ | refine blk_alloc ?_ _)); refine blk_far ?_ NB161_186.out _; (with_reducible repeat (first | refine blk_drewN ?_ _ | refine blk_drew ?_ | refine blk_alloc ?_ _)); exact BK161.out) Try.underlying35 rfl (by kernel_rfl)) rfl ?_
            exact ⟨by first | rfl | (simp [errW_none, errW_some] <;> rfl) | (simp [*, errW_none, errW_some] <;> rfl), bw_ HB.out⟩
          rw [if_neg c149] at H
          have c149b0 : (x10_20.toList == ([62] : List UInt8)) = false := beq_eq_false_iff_ne.mpr c149
          have c149b1 : (x10_20.toList != ([62] : List UInt8)) = true := bne_iff_ne.mpr c149
          simp only [Option.some.injEq, Prod.mk.injEq] at H
          obtain ⟨rfl, rfl, rfl, rfl, rfl, rfl, rfl⟩ := H
          go_wp2_with (first | ((with_reducible refine gate_callee (f := 19) rfl ?_); refine goesL_ (some 77) rfl rfl Try.func19 (by kernel_rfl) rfl #[.string t171] rfl (by (try simp only [List.map_toArray, List.map_cons, List.map_nil]); first | done | rfl | (simp only [List.length_drop, List.length_take]; rfl)) ?_; (with_reducible refine (cursor_Prefix.calls t171 t180 t181 t182 t183 t184 t185 _ A112.out).mono ?_); rintro e w161 ⟨rfl, hb⟩; refine ⟨_, rfl, ?_⟩; have n0_ := Aside0.mk (blk_below (g := gb160) (o := .cells #[.string a0_0, .int .i64 a0_1, .int .i64 a0_2, .int .i64 a0_3, .int .i64 a0_4, .string a0_5, .bool a0_6, .slice (some ad163) l0_7.length c0_7] 43 (0, 0)) (bl_ BK160.out) hb); have n1_ := Aside0.mk (blk_below (g := gb161) (o := .cells #[.string (⟨#[]⟩ : ByteArray), .string (⟨#[]⟩ : ByteArray), .bool false, .bool false, .bool false, .bool false] 35 (0, 0)) (bl_ BK161.out) hb); have n2_ := Aside0.mk (blk_below (g := gb165) (o := .cells #[.string x166000_20, .int .i64 x166001_20, .int .i64 x166002_20, .int .i64 x166003_20, .int .i64 x166004_20, .string x166005_20, .bool x166006_20, u166007] 43 (0, 0)) (bl_ BK165.out) hb); have n3_ := Aside0.mk (blk_below (g := gb166) (o := .cells #[.string x167000_20, .int .i64 x167001_20, .int .i64 x167002_20, .int .i64 x167003_20, .int .i64 x167004_20, .string x167005_20, .bool x167006_20, u167007] 43 (0, 0)) (bl_ BK166.out) hb); have n4_ := Aside0.mk (below_step (bw_ HB.out) hb); clear BK160; clear BK161; clear BK165; clear BK166; clear HB; have BK160 := n0_; have BK161 := n1_; have BK165 := n2_; have BK166 := n3_; have HB := n4_; clear n0_ n1_ n2_ n3_ n4_; (try clear hb); (try clear hb2); (try clear hk); (try clear hi)) | ((with_reducible refine gate_dst (N := 13) rfl ?_); refine box_event ?hg (N := 13) ?hd (cs := #[.string (⟨#[]⟩ : ByteArray), .string (⟨#[]⟩ : ByteArray), .bool false, .bool false, .bool false, .bool false]) (t := 35) ?hr ?_; (case hd => rfl); (case hg => rfl); (case hr => first | (go_simp; done) | (go_simp; rfl)); intro gb186 hg w162 hbox hb; have n0_ := Aside0.mk (blk_below (g := gb160) (o := .cells #[.string a0_0, .int .i64 a0_1, .int .i64 a0_2, .int .i64 a0_3, .int .i64 a0_4, .string a0_5, .bool a0_6, .slice (some ad163) l0_7.length c0_7] 43 (0, 0)) (bl_ BK160.out) hb); have n1_ := Aside0.mk (blk_below (g := gb161) (o := .cells #[.string (⟨#[]⟩ : ByteArray), .string (⟨#[]⟩ : ByteArray), .bool false, .bool false, .bool false, .bool false] 35 (0, 0)) (bl_ BK161.out) hb); have n2_ := Aside0.mk (blk_below (g := gb165) (o := .cells #[.string x166000_20, .int .i64 x166001_20, .int .i64 x166002_20, .int .i64 x166003_20, .int .i64 x166004_20, .string x166005_20, .bool x166006_20, u166007] 43 (0, 0)) (bl_ BK165.out) hb); have n3_ := Aside0.mk (blk_below (g := gb166) (o := .cells #[.string x167000_20, .int .i64 x167001_20, .int .i64 x167002_20, .int .i64 x167003_20, .int .i64 x167004_20, .string x167005_20, .bool x167006_20, u167007] 43 (0, 0)) (bl_ BK166.out) hb); have n4_ := Aside0.mk (below_step (bw_ HB.out) hb); have n5_ := Aside0.mk (hbox); have n6_ := Aside0.mk ((by rw [hg]; exact (below_size (bw_ HB.out)) : w.heap.size ≤ gb186)); have n7_ := Aside0.mk ((by rw [hg]; exact (below_size (bw_ HB.out)) : w.heap.size ≤ gb186)); have n8_ := Aside0.mk ((by rw [hg]; exact Nat.ne_of_lt (blk_lt (g := gb160) (o := .cells #[.string a0_0, .int .i64 a0_1, .int .i64 a0_2, .int .i64 a0_3, .int .i64 a0_4, .string a0_5, .bool a0_6, .slice (some ad163) l0_7.length c0_7] 43 (0, 0)) (bl_ BK160.out)) : gb160 ≠ gb186)); have n9_ := Aside0.mk ((by rw [hg]; exact Nat.ne_of_gt (blk_lt (g := gb160) (o := .cells #[.string a0_0, .int .i64 a0_1, .int .i64 a0_2, .int .i64 a0_3, .int .i64 a0_4, .string a0_5, .bool a0_6, .slice (some ad163) l0_7.length c0_7] 43 (0, 0)) (bl_ BK160.out)) : gb186 ≠ gb160)); have n10_ := Aside0.mk ((by rw [hg]; exact Nat.ne_of_lt (blk_lt (g := gb161) (o := .cells #[.string (⟨#[]⟩ : ByteArray), .string (⟨#[]⟩ : ByteArray), .bool false, .bool false, .bool false, .bool false] 35 (0, 0)) (bl_ BK161.out)) : gb161 ≠ gb186)); have n11_ := Aside0.mk ((by rw [hg]; exact Nat.ne_of_gt (blk_lt (g := gb161) (o := .cells #[.string (⟨#[]⟩ : ByteArray), .string (⟨#[]⟩ : ByteArray), .bool false, .bool false, .bool false, .bool false] 35 (0, 0)) (bl_ BK161.out)) : gb186 ≠ gb161)); have n12_ := Aside0.mk ((by rw [hg]; exact Nat.ne_of_lt (blk_lt (g := gb165) (o := .cells #[.string x166000_20, .int .i64 x166001_20, .int .i64 x166002_20, .int .i64 x166003_20, .int .i64 x166004_20, .string x166005_20, .bool x166006_20, u166007] 43 (0, 0)) (bl_ BK165.out)) : gb165 ≠ gb186)); have n13_ := Aside0.mk ((by rw [hg]; exact Nat.ne_of_gt (blk_lt (g := gb165) (o := .cells #[.string x166000_20, .int .i64 x166001_20, .int .i64 x166002_20, .int .i64 x166003_20, .int .i64 x166004_20, .string x166005_20, .bool x166006_20, u166007] 43 (0, 0)) (bl_ BK165.out)) : gb186 ≠ gb165)); have n14_ := Aside0.mk ((by rw [hg]; exact Nat.ne_of_lt (blk_lt (g := gb166) (o := .cells #[.string x167000_20, .int .i64 x167001_20, .int .i64 x167002_20, .int .i64 x167003_20, .int .i64 x167004_20, .string x167005_20, .bool x167006_20, u167007] 43 (0, 0)) (bl_ BK166.out)) : gb166 ≠ gb186)); have n15_ := Aside0.mk ((by rw [hg]; exact Nat.ne_of_gt (blk_lt (g := gb166) (o := .cells #[.string x167000_20, .int .i64 x167001_20, .int .i64 x167002_20, .int .i64 x167003_20, .int .i64 x167004_20, .string x167005_20, .bool x167006_20, u167007] 43 (0, 0)) (bl_ BK166.out)) : gb186 ≠ gb166)); clear BK160; clear BK161; clear BK165; clear BK166; clear HB; have BK160 := n0_; have BK161 := n1_; have BK165 := n2_; have BK166 := n3_; have HB := n4_; have BK186 := n5_; have GW186 := n6_; have GE186 := n7_; have NB160_186 := n8_; have NB186_160 := n9_; have NB161_186 := n10_; have NB186_161 := n11_; have NB165_186 := n12_; have NB186_165 := n13_; have NB166_186 := n14_; have NB186_166 := n15_; clear n0_ n1_ n2_ n3_ n4_ n5_ n6_ n7_ n8_ n9_ n10_ n11_ n12_ n13_ n14_ n15_; clear hb hbox hg; have hnb163 := NB186_160.out; have hnc163 := NB160_186.out; have hnb164 := NB186_161.out; have hnc164 := NB161_186.out; have hnb165 := NB186_165.out; have hnc165 := NB165_186.out; have hnb166 := NB186_166.out; have hnc166 := NB166_186.out; have hcz167_0 : w162.cell? ⟨gb186, 0, none⟩ = some (.string (⟨#[]⟩ : ByteArray)) := (blk_cell BK186.out 0).trans rfl; have hcz167_1 : w162.cell? ⟨gb186, 1, none⟩ = some (.string (⟨#[]⟩ : ByteArray)) := (blk_cell BK186.out 1).trans rfl; have hcz167_2 : w162.cell? ⟨gb186, 2, none⟩ = some (.bool false) := (blk_cell BK186.out 2).trans rfl; have hcz167_3 : w162.cell? ⟨gb186, 3, none⟩ = some (.bool false) := (blk_cell BK186.out 3).trans rfl; have hcz167_4 : w162.cell? ⟨gb186, 4, none⟩ = some (.bool false) := (blk_cell BK186.out 4).trans rfl; have hcz167_5 : w162.cell? ⟨gb186, 5, none⟩ = some (.bool false) := (blk_cell BK186.out 5).trans rfl; have hfz167_0 := blk_frozen BK186.out 0; have hfz167_1 := blk_frozen BK186.out 1; have hfz167_2 := blk_frozen BK186.out 2; have hfz167_3 := blk_frozen BK186.out 3; have hfz167_4 := blk_frozen BK186.out 4; have hfz167_5 := blk_frozen BK186.out 5; have hnb168 := NB161_160.out; have hnc168 := NB160_161.out; have hnb169 := NB161_165.out; have hnc169 := NB165_161.out; have hnb170 := NB161_166.out; have hnc170 := NB166_161.out; have hcz171_0 : w162.cell? ⟨gb161, 0, none⟩ = some (.string (⟨#[]⟩ : ByteArray)) := (blk_cell BK161.out 0).trans rfl; have hcz171_1 : w162.cell? ⟨gb161, 1, none⟩ = some (.string (⟨#[]⟩ : ByteArray)) := (blk_cell BK161.out 1).trans rfl; have hcz171_2 : w162.cell? ⟨gb161, 2, none⟩ = some (.bool false) := (blk_cell BK161.out 2).trans rfl; have hcz171_3 : w162.cell? ⟨gb161, 3, none⟩ = some (.bool false) := (blk_cell BK161.out 3).trans rfl; have hcz171_4 : w162.cell? ⟨gb161, 4, none⟩ = some (.bool false) := (blk_cell BK161.out 4).trans rfl; have hcz171_5 : w162.cell? ⟨gb161, 5, none⟩ = some (.bool false) := (blk_cell BK161.out 5).trans rfl; have hfz171_0 := blk_frozen BK161.out 0; have hfz171_1 := blk_frozen BK161.out 1; have hfz171_2 := blk_frozen BK161.out 2; have hfz171_3 := blk_frozen BK161.out 3; have hfz171_4 := blk_frozen BK161.out 4; have hfz171_5 := blk_frozen BK161.out 5))
          refine bodyPost_ret (results_ct rfl _ _ gb161 35 #[.string t180, .string t181, .bool t182, .bool t183, .bool t184, .bool t185] (0, 0) _ rfl (by (with_reducible repeat (first | refine blk_drewN ?_ _ | refine blk_drew ?_ | refine blk_alloc ?_ _)); refine blk_put (cs := #[.string t180, .string t181, .bool t182, .bool t183, .bool t184, .bool false]) ?_ 5 _ rfl; (with_reducible repeat (first | refine blk_drewN ?_ _ | refine blk_drew ?_ | refine blk_alloc ?_ _)); refine blk_put (cs := #[.string t180, .string t181, .bool t182, .bool t183, .bool false, .bool false]) ?_ 4 _ rfl; (with_reducible repeat (first | refine blk_drewN ?_ _ | refine blk_drew ?_ | refine blk_alloc ?_ _)); refine blk_put (cs := #[.string t180, .string t181, .bool t182, .bool false, .bool false, .bool false]) ?_ 3 _ rfl; (with_reducible repeat (first | refine blk_drewN ?_ _ | refine blk_drew ?_ | refine blk_alloc ?_ _)); refine blk_put (cs := #[.string t180, .string t181, .bool false, .bool false, .bool false, .bool false]) ?_ 2 _ rfl; (with_reducible repeat (first | refine blk_drewN ?_ _ | refine blk_drew ?_ | refine blk_alloc ?_ _)); refine blk_put (cs := #[.string t180, .string (⟨#[]⟩ : ByteArray), .bool false, .bool false, .bool false, .bool false]) ?_ 1 _ rfl; (with_reducible repeat (first | refine blk_drewN ?_ _ | refine blk_drew ?_ | refine blk_alloc ?_ _)); refine blk_put (cs := #[.string (⟨#[]⟩ : ByteArray), .string (⟨#[]⟩ : ByteArray), .bool false, .bool false, .bool false, .bool false]) ?_ 0 _ rfl; (with_reducible repeat (first | refine blk_drewN ?_ _ | refine blk_drew ?_ | refine blk_alloc ?_ _)); refine blk_far ?_ NB161_186.out _; (with_reducible repeat (first | refine blk_drewN ?_ _ | refine blk_drew ?_ | refine blk_alloc ?_ _)); refine blk_far ?_ NB161_186.out _; (with_reducible repeat (first | refine blk_drewN ?_ _ | refine blk_drew ?_ | refine blk_alloc ?_ _)); refine blk_far ?_ NB161_186.out _; (with_reducible repeat (first | refine blk_drewN ?_ _ | refine blk_drew ?_ | refine blk_alloc ?_ _)); refine blk_far ?_ NB161_186.out _; (with_reducible repeat (first | refine blk_drewN ?_ _ | refine blk_drew ?_ | refine blk_alloc ?_ _)); refine blk_far ?_ NB161_186.out _; (with_reducible repeat (first | refine blk_drewN ?_ _ | refine blk_drew ?_ | refine blk_alloc ?_ _)); refine blk_far ?_ NB161_186.out _; (with_reducible repeat (first | refine blk_drewN ?_ _ | refine blk_drew ?_ | refine blk_alloc ?_ _)); exact BK161.out) Try.underlying35 rfl (by kernel_rfl)) rfl ?_
          exact ⟨by first | rfl | (simp [errW_none, errW_some] <;> rfl) | (simp [*, errW_none, errW_some] <;> rfl), bw_ HB.out⟩

end Go.Proofs.Ytddkbhglbkfelaa.P
