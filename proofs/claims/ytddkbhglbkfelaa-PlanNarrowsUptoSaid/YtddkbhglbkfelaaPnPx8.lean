import Derived.Test.YtddkbhglbkfelaaPnPx0
import Derived.Test.YtddkbhglbkfelaaPnPx7
namespace Go.Proofs.Ytddkbhglbkfelaa.P
open Go.RowKit Go.Proofs.YtddkbhglbkfelaaW.PrintWords Go.Proofs.YtddkbhglbkfelaaW.PrintLast Go.Proofs.YtddkbhglbkfelaaW.PrintMore Go.Proofs.YtddkbhglbkfelaaX
attribute [local go_sem] max2_int min2_int max_two min_two max_three min_three max_four min_four
set_option linter.unusedVariables false
set_option linter.unusedSimpArgs false

/-! ### barbicanlaw22_sure: function 5 -/
def barbicanlaw22_sure.f (k : Nat)  : Option (Bool) := (plan_Range.f k (⟨#[116]⟩ : ByteArray) (([(⟨(⟨#[107]⟩ : ByteArray), 1, true, false⟩ : S30)] : List (S30))) (([(⟨(⟨#[61]⟩ : ByteArray), 3, 0, (⟨0, 0, (⟨#[]⟩ : ByteArray), false⟩ : S24), (([(⟨(⟨#[108, 105, 116]⟩ : ByteArray), 1, 0, (⟨1, 1, (⟨#[]⟩ : ByteArray), false⟩ : S24), ([] : List (S43))⟩ : S43), (⟨(⟨#[99, 111, 108]⟩ : ByteArray), 1, 0, (⟨0, 0, (⟨#[]⟩ : ByteArray), false⟩ : S24), ([] : List (S43))⟩ : S43)] : List (S43)))⟩ : S43)] : List (S43)))).bind fun bt243 => (if bt243.2.2.1 = true then (if bt243.2.2.2.1 = true then (if bt243.1.toList = ([2, 128, 0, 0, 0, 0, 0, 0, 1] : List UInt8) then (some bt243.2.2.2.2.2) else (none)) else (none)) else (none))
theorem barbicanlaw22_sure.mono : ∀ k, LeO (barbicanlaw22_sure.f k ) (barbicanlaw22_sure.f (k + 1) ) := by
  intro  k
  unfold barbicanlaw22_sure.f
  repeat' first
      | (with_reducible exact plan_Range.mono _ _ _ _)
      | (with_reducible exact LeO.refl _)
      | (with_reducible exact LeO.none _)
      | (with_reducible refine LeO.ite ?_ ?_)
      | (with_reducible refine LeO.bind ?_ (fun _ => ?_))
      | exact plan_Range.mono _ _ _ _
      | exact LeO.none _
      | refine LeO.ite ?_ ?_
      | refine LeO.bind ?_ (fun _ => ?_)
set_option maxHeartbeats 8000000 in
set_option maxRecDepth 100000 in
theorem barbicanlaw22_sure.calls (k : Nat)  (r : Bool) (w : World) (hG : GW w) (h : barbicanlaw22_sure.f k  = some r) :
    Calls Try.prog 5 #[] w fun e w' => e = .returned (.bool r) ∧ Below w.heap.size w w' := by
  have hu30 := Try.underlying30
  have hu33 := Try.underlying33
  have hu24 := Try.underlying24
  have hu43 := Try.underlying43
  have hu35 := Try.underlying35
  have HB := Aside0.mk (Below.refl w.heap.size w)
  have HG := Aside0.mk hG
  clear hG
  have H : ((plan_Range.f k (⟨#[116]⟩ : ByteArray) (([(⟨(⟨#[107]⟩ : ByteArray), 1, true, false⟩ : S30)] : List (S30))) (([(⟨(⟨#[61]⟩ : ByteArray), 3, 0, (⟨0, 0, (⟨#[]⟩ : ByteArray), false⟩ : S24), (([(⟨(⟨#[108, 105, 116]⟩ : ByteArray), 1, 0, (⟨1, 1, (⟨#[]⟩ : ByteArray), false⟩ : S24), ([] : List (S43))⟩ : S43), (⟨(⟨#[99, 111, 108]⟩ : ByteArray), 1, 0, (⟨0, 0, (⟨#[]⟩ : ByteArray), false⟩ : S24), ([] : List (S43))⟩ : S43)] : List (S43)))⟩ : S43)] : List (S43)))).bind fun bt243 => (if bt243.2.2.1 = true then (if bt243.2.2.2.1 = true then (if bt243.1.toList = ([2, 128, 0, 0, 0, 0, 0, 0, 1] : List UInt8) then (some bt243.2.2.2.2.2) else (none)) else (none)) else (none))) = some r := h
  clear h
  obtain ⟨y232, hy232⟩ : ∃ y_ : List (S30), y_ = (([(⟨(⟨#[107]⟩ : ByteArray), 1, true, false⟩ : S30)] : List (S30))) := ⟨_, rfl⟩
  replace H : ((plan_Range.f k (⟨#[116]⟩ : ByteArray) y232 (([(⟨(⟨#[61]⟩ : ByteArray), 3, 0, (⟨0, 0, (⟨#[]⟩ : ByteArray), false⟩ : S24), (([(⟨(⟨#[108, 105, 116]⟩ : ByteArray), 1, 0, (⟨1, 1, (⟨#[]⟩ : ByteArray), false⟩ : S24), ([] : List (S43))⟩ : S43), (⟨(⟨#[99, 111, 108]⟩ : ByteArray), 1, 0, (⟨0, 0, (⟨#[]⟩ : ByteArray), false⟩ : S24), ([] : List (S43))⟩ : S43)] : List (S43)))⟩ : S43)] : List (S43)))).bind fun bt243 => (if bt243.2.2.1 = true then (if bt243.2.2.2.1 = true then (if bt243.1.toList = ([2, 128, 0, 0, 0, 0, 0, 0, 1] : List UInt8) then (some bt243.2.2.2.2.2) else (none)) else (none)) else (none))) = some r := by first | (rw [hy232]; with_reducible exact H) | (have H2_ := (Option.bind_some _ _).symm.trans H; rw [hy232]; with_reducible exact H2_) | (have H2_ := (Option.bind_some _ _).symm.trans H; with_reducible exact H2_) | with_reducible exact H | (rw [hy232]; exact H) | exact H
  have Ny232 := Aside0.mk hy232
  clear hy232
  obtain ⟨y236, hy236⟩ : ∃ y_ : List (S43), y_ = (([(⟨(⟨#[108, 105, 116]⟩ : ByteArray), 1, 0, (⟨1, 1, (⟨#[]⟩ : ByteArray), false⟩ : S24), ([] : List (S43))⟩ : S43), (⟨(⟨#[99, 111, 108]⟩ : ByteArray), 1, 0, (⟨0, 0, (⟨#[]⟩ : ByteArray), false⟩ : S24), ([] : List (S43))⟩ : S43)] : List (S43))) := ⟨_, rfl⟩
  replace H : ((plan_Range.f k (⟨#[116]⟩ : ByteArray) y232 (([(⟨(⟨#[61]⟩ : ByteArray), 3, 0, (⟨0, 0, (⟨#[]⟩ : ByteArray), false⟩ : S24), y236⟩ : S43)] : List (S43)))).bind fun bt243 => (if bt243.2.2.1 = true then (if bt243.2.2.2.1 = true then (if bt243.1.toList = ([2, 128, 0, 0, 0, 0, 0, 0, 1] : List UInt8) then (some bt243.2.2.2.2.2) else (none)) else (none)) else (none))) = some r := by first | (rw [hy236]; with_reducible exact H) | (have H2_ := (Option.bind_some _ _).symm.trans H; rw [hy236]; with_reducible exact H2_) | (have H2_ := (Option.bind_some _ _).symm.trans H; with_reducible exact H2_) | with_reducible exact H | (rw [hy236]; exact H) | exact H
  have Ny236 := Aside0.mk hy236
  clear hy236
  obtain ⟨y240, hy240⟩ : ∃ y_ : List (S43), y_ = (([(⟨(⟨#[61]⟩ : ByteArray), 3, 0, (⟨0, 0, (⟨#[]⟩ : ByteArray), false⟩ : S24), y236⟩ : S43)] : List (S43))) := ⟨_, rfl⟩
  replace H : ((plan_Range.f k (⟨#[116]⟩ : ByteArray) y232 y240).bind fun bt243 => (if bt243.2.2.1 = true then (if bt243.2.2.2.1 = true then (if bt243.1.toList = ([2, 128, 0, 0, 0, 0, 0, 0, 1] : List UInt8) then (some bt243.2.2.2.2.2) else (none)) else (none)) else (none))) = some r := by first | (rw [hy240]; with_reducible exact H) | (have H2_ := (Option.bind_some _ _).symm.trans H; rw [hy240]; with_reducible exact H2_) | (have H2_ := (Option.bind_some _ _).symm.trans H; with_reducible exact H2_) | with_reducible exact H | (rw [hy240]; exact H) | exact H
  have Ny240 := Aside0.mk hy240
  clear hy240
  replace H := Option.bind_eq_some_iff.mp H
  obtain ⟨⟨t243, t244, t245, t246, t247, t248⟩, A10, H⟩ := H
  (try dsimp only at H)
  have A1 := Aside0.mk A10
  clear A10
  have c2 : t245 = true := Classical.byContradiction fun c2 => by
    replace c2 := Bool.eq_false_iff.mpr c2
    subst c2
    rw [if_neg (show ¬ (false = true) by decide)] at H
    exact absurd H (by simp)
  subst c2
  rw [if_pos rfl] at H
  have c3 : t246 = true := Classical.byContradiction fun c3 => by
    replace c3 := Bool.eq_false_iff.mpr c3
    subst c3
    rw [if_neg (show ¬ (false = true) by decide)] at H
    exact absurd H (by simp)
  subst c3
  rw [if_pos rfl] at H
  have c4 : t243.toList = ([2, 128, 0, 0, 0, 0, 0, 0, 1] : List UInt8) := Classical.byContradiction fun c4 => by rw [if_neg c4] at H; exact absurd H (by simp)
  rw [if_pos c4] at H
  have c4b0 : (t243.toList == ([2, 128, 0, 0, 0, 0, 0, 0, 1] : List UInt8)) = true := beq_iff_eq.mpr c4
  have c4b1 : (t243.toList != ([2, 128, 0, 0, 0, 0, 0, 0, 1] : List UInt8)) = false := bne_eq_false_iff_eq.mpr c4
  clear c4
  obtain rfl := Option.some.inj H
  go_enter Try.func5, Try.ntmps5
  go_wp2_with (first | ((with_reducible refine gate_dst (N := 5) rfl ?_); refine Kd.R_lit k30 _ 30 ?hg (N := 5) ?hd (xs := ([(⟨(⟨#[107]⟩ : ByteArray), 1, true, false⟩ : S30)] : List (S30))) (inner := [.string (⟨#[107]⟩ : ByteArray), .int .i64 1, .bool true, .bool false]) (ok := fun _ => True) (okp := fun _ => True) ?hr ?hp (fun _ hk => hk) trivial (Below.refl _ _) (Nat.le_refl _) (by simp) ?_; (case hd => rfl); (case hg => rfl); (case hr => first | (go_simp; done) | (go_simp; rfl)); (case hp => exact (Reps.c4 (show Kd.M k30 _ _ _ (⟨(⟨#[107]⟩ : ByteArray), 1, true, false⟩ : S30) [.string (⟨#[107]⟩ : ByteArray), .int .i64 1, .bool true, .bool false] from (k30_mkM _ _ _ (⟨(⟨#[107]⟩ : ByteArray), 1, true, false⟩ : S30) )) (Reps.none _ _))); intro v233 w5 ho6 hb hg_ hnew_; clear hg_ hnew_; (first | rw [← Ny232.out] at ho6 | (simp only [Int.reduceToNat] at ho6; rw [← Ny232.out] at ho6)); have n0_ := Aside0.mk (Kd.R_lower ho6 (below_size (bw_ HB.out))); have n1_ := Aside0.mk (below_step (bw_ HB.out) hb); clear HB; have HO234 := n0_; have HB := n1_; clear n0_ n1_; clear hb ho6; obtain ⟨Ao7, co7, eo7⟩ := Kd.R_slice HO234.out; subst eo7) | ((with_reducible refine gate_dst (N := 1) rfl ?_); refine box_event ?hg (N := 1) ?hd (cs := #[.string (⟨#[]⟩ : ByteArray), .slice none 0 0]) (t := 33) ?hr ?_; (case hd => rfl); (case hg => rfl); (case hr => first | (go_simp; done) | (go_simp; rfl)); intro gb235 hg w8 hbox hb; have n0_ := Aside0.mk (Kd.R_below (kR_ HO234.out) hb); have n1_ := Aside0.mk (below_step (bw_ HB.out) hb); have n2_ := Aside0.mk (hbox); have n3_ := Aside0.mk ((by rw [hg]; exact (below_size (bw_ HB.out)) : w.heap.size ≤ gb235)); have n4_ := Aside0.mk ((by rw [hg]; exact (below_size (bw_ HB.out)) : w.heap.size ≤ gb235)); clear HO234; clear HB; have HO234 := n0_; have HB := n1_; have BK235 := n2_; have GW235 := n3_; have GE235 := n4_; clear n0_ n1_ n2_ n3_ n4_; clear hb hbox hg; have hcz9_0 : w8.cell? ⟨gb235, 0, none⟩ = some (.string (⟨#[]⟩ : ByteArray)) := (blk_cell BK235.out 0).trans rfl; have hcz9_1 : w8.cell? ⟨gb235, 1, none⟩ = some (.slice none 0 0) := (blk_cell BK235.out 1).trans rfl; have hfz9_0 := blk_frozen BK235.out 0; have hfz9_1 := blk_frozen BK235.out 1) | ((with_reducible refine gate_dst (N := 10) rfl ?_); refine Kd.N_lit k43 _ 43 ?hg (N' := 10) ?hd (xs := ([(⟨(⟨#[108, 105, 116]⟩ : ByteArray), 1, 0, (⟨1, 1, (⟨#[]⟩ : ByteArray), false⟩ : S24), ([] : List (S43))⟩ : S43), (⟨(⟨#[99, 111, 108]⟩ : ByteArray), 1, 0, (⟨0, 0, (⟨#[]⟩ : ByteArray), false⟩ : S24), ([] : List (S43))⟩ : S43)] : List (S43))) (inner := [.string (⟨#[108, 105, 116]⟩ : ByteArray), .int .i64 1, .int .i64 0, .int .i64 1, .int .i64 1, .string (⟨#[]⟩ : ByteArray), .bool false, .slice none 0 0, .string (⟨#[99, 111, 108]⟩ : ByteArray), .int .i64 1, .int .i64 0, .int .i64 0, .int .i64 0, .string (⟨#[]⟩ : ByteArray), .bool false, .slice none 0 0]) (ok := (fun k_ => some k_ ≠ (.slice Ao7 y232.length co7 : Value).ownBlock ∧ k_ ≠ gb235)) (okp := (fun k_ => some k_ ≠ (.slice Ao7 y232.length co7 : Value).ownBlock ∧ k_ ≠ gb235)) ?hr ?hp (fun _ hk => hk) ((show ∀ k_, _ ≤ k_ → (fun k_ => some k_ ≠ (.slice Ao7 y232.length co7 : Value).ownBlock ∧ k_ ≠ gb235) k_ from fun k_ hk => ⟨Kd.fresh' (Kd.R_lt (by (with_reducible repeat (first | apply Kd.R_alloc | apply Kd.R_drewN | apply Kd.R_drew)); exact (Kd.R_mono (Kd.R_far (p := ⟨gb235, 1, none⟩) (Kd.R_far (p := ⟨gb235, 0, none⟩) (Kd.R_types HO234.out BK235.out (by decide)) (fun _ hk => hk.2) (.string (⟨#[116]⟩ : ByteArray))) (fun _ hk => hk.2) (.slice Ao7 y232.length co7)) (fun _ h_ => h_.1)))) k_ hk, Kd.freshB (g := gb235) (o := .cells #[.string (⟨#[116]⟩ : ByteArray), .slice Ao7 y232.length co7] 33 (0, 0)) (by (with_reducible repeat (first | refine blk_drewN ?_ _ | refine blk_drew ?_ | refine blk_alloc ?_ _)); refine blk_put (cs := #[.string (⟨#[116]⟩ : ByteArray), .slice none 0 0]) ?_ 1 _ rfl; (with_reducible repeat (first | refine blk_drewN ?_ _ | refine blk_drew ?_ | refine blk_alloc ?_ _)); refine blk_put (cs := #[.string (⟨#[]⟩ : ByteArray), .slice none 0 0]) ?_ 0 _ rfl; (with_reducible repeat (first | refine blk_drewN ?_ _ | refine blk_drew ?_ | refine blk_alloc ?_ _)); exact BK235.out) k_ hk⟩) _ (Nat.le_refl _)) (Below.refl _ _) (Nat.le_refl _) (by simp) ?_; (case hd => rfl); (case hg => rfl); (case hr => first | (go_simp; done) | (go_simp; rfl)); (case hp => exact (Reps.c8 (show Kd.FK k43 _ _ (⟨(⟨#[108, 105, 116]⟩ : ByteArray), 1, 0, (⟨1, 1, (⟨#[]⟩ : ByteArray), false⟩ : S24), ([] : List (S43))⟩ : S43) [.string (⟨#[108, 105, 116]⟩ : ByteArray), .int .i64 1, .int .i64 0, .int .i64 1, .int .i64 1, .string (⟨#[]⟩ : ByteArray), .bool false, .slice none 0 0] from (k43_mkF _ _ (⟨(⟨#[108, 105, 116]⟩ : ByteArray), 1, 0, (⟨1, 1, (⟨#[]⟩ : ByteArray), false⟩ : S24), ([] : List (S43))⟩ : S43) (Nat.le_refl _) (Kd.F_nil _ _ _))) (Reps.c8 (show Kd.FK k43 _ _ (⟨(⟨#[99, 111, 108]⟩ : ByteArray), 1, 0, (⟨0, 0, (⟨#[]⟩ : ByteArray), false⟩ : S24), ([] : List (S43))⟩ : S43) [.string (⟨#[99, 111, 108]⟩ : ByteArray), .int .i64 1, .int .i64 0, .int .i64 0, .int .i64 0, .string (⟨#[]⟩ : ByteArray), .bool false, .slice none 0 0] from (k43_mkF _ _ (⟨(⟨#[99, 111, 108]⟩ : ByteArray), 1, 0, (⟨0, 0, (⟨#[]⟩ : ByteArray), false⟩ : S24), ([] : List (S43))⟩ : S43) (Nat.le_refl _) (Kd.F_nil _ _ _))) (Reps.none _ _)))); intro v237 w10 ho11 hb hg_ hnew_; clear hg_ hnew_; (first | rw [← Ny236.out] at ho11 | (simp only [Int.reduceToNat] at ho11; rw [← Ny236.out] at ho11)); have n0_ := Aside0.mk (Kd.R_below (by (with_reducible repeat (first | apply Kd.R_alloc | apply Kd.R_drewN | apply Kd.R_drew)); exact (Kd.R_mono (Kd.R_far (p := ⟨gb235, 1, none⟩) (Kd.R_far (p := ⟨gb235, 0, none⟩) (Kd.R_types HO234.out BK235.out (by decide)) (fun _ hk => hk.2) (.string (⟨#[116]⟩ : ByteArray))) (fun _ hk => hk.2) (.slice Ao7 y232.length co7)) (fun _ h_ => h_.1))) hb); have n1_ := Aside0.mk (Kd.N_lower ho11 (below_size (bw_ HB.out))); have n2_ := Aside0.mk (blk_below (g := gb235) (o := .cells #[.string (⟨#[116]⟩ : ByteArray), .slice Ao7 y232.length co7] 33 (0, 0)) (by (with_reducible repeat (first | refine blk_drewN ?_ _ | refine blk_drew ?_ | refine blk_alloc ?_ _)); refine blk_put (cs := #[.string (⟨#[116]⟩ : ByteArray), .slice none 0 0]) ?_ 1 _ rfl; (with_reducible repeat (first | refine blk_drewN ?_ _ | refine blk_drew ?_ | refine blk_alloc ?_ _)); refine blk_put (cs := #[.string (⟨#[]⟩ : ByteArray), .slice none 0 0]) ?_ 0 _ rfl; (with_reducible repeat (first | refine blk_drewN ?_ _ | refine blk_drew ?_ | refine blk_alloc ?_ _)); exact BK235.out) hb); have n3_ := Aside0.mk (below_step (bw_ HB.out) hb); clear HO234; clear BK235; clear HB; have HO234 := n0_; have HO238 := n1_; have BK235 := n2_; have HB := n3_; clear n0_ n1_ n2_ n3_; clear hb ho11; obtain ⟨Ao12, co12, eo12⟩ := Kd.N_slice HO238.out; subst eo12) | ((with_reducible refine gate_dst (N := 2) rfl ?_); refine box_event ?hg (N := 2) ?hd (cs := #[.string (⟨#[]⟩ : ByteArray), .int .i64 0, .int .i64 0, .int .i64 0, .int .i64 0, .string (⟨#[]⟩ : ByteArray), .bool false, .slice none 0 0]) (t := 43) ?hr ?_; (case hd => rfl); (case hg => rfl); (case hr => first | (go_simp; done) | (go_simp; rfl)); intro gb239 hg w13 hbox hb; have n0_ := Aside0.mk (Kd.R_below (kR_ HO234.out) hb); have n1_ := Aside0.mk (Kd.N_below (Kd.N_elderB (kN_ HO238.out) gb239 (Nat.le_of_eq hg.symm)) hb); have n2_ := Aside0.mk (blk_below (g := gb235) (o := .cells #[.string (⟨#[116]⟩ : ByteArray), .slice Ao7 y232.length co7] 33 (0, 0)) (bl_ BK235.out) hb); have n3_ := Aside0.mk (below_step (bw_ HB.out) hb); have n4_ := Aside0.mk (hbox); have n5_ := Aside0.mk ((by rw [hg]; exact (below_size (bw_ HB.out)) : w.heap.size ≤ gb239)); have n6_ := Aside0.mk ((by rw [hg]; exact (below_size (bw_ HB.out)) : w.heap.size ≤ gb239)); have n7_ := Aside0.mk ((by rw [hg]; exact Nat.ne_of_lt (blk_lt (g := gb235) (o := .cells #[.string (⟨#[116]⟩ : ByteArray), .slice Ao7 y232.length co7] 33 (0, 0)) (bl_ BK235.out)) : gb235 ≠ gb239)); have n8_ := Aside0.mk ((by rw [hg]; exact Nat.ne_of_gt (blk_lt (g := gb235) (o := .cells #[.string (⟨#[116]⟩ : ByteArray), .slice Ao7 y232.length co7] 33 (0, 0)) (bl_ BK235.out)) : gb239 ≠ gb235)); clear HO234; clear HO238; clear BK235; clear HB; have HO234 := n0_; have HO238 := n1_; have BK235 := n2_; have HB := n3_; have BK239 := n4_; have GW239 := n5_; have GE239 := n6_; have NB235_239 := n7_; have NB239_235 := n8_; clear n0_ n1_ n2_ n3_ n4_ n5_ n6_ n7_ n8_; clear hb hbox hg; have hnb14 := NB239_235.out; have hnc14 := NB235_239.out; have hcz15_0 : w13.cell? ⟨gb239, 0, none⟩ = some (.string (⟨#[]⟩ : ByteArray)) := (blk_cell BK239.out 0).trans rfl; have hcz15_1 : w13.cell? ⟨gb239, 1, none⟩ = some (.int .i64 0) := (blk_cell BK239.out 1).trans rfl; have hcz15_2 : w13.cell? ⟨gb239, 2, none⟩ = some (.int .i64 0) := (blk_cell BK239.out 2).trans rfl; have hcz15_3 : w13.cell? ⟨gb239, 3, none⟩ = some (.int .i64 0) := (blk_cell BK239.out 3).trans rfl; have hcz15_4 : w13.cell? ⟨gb239, 4, none⟩ = some (.int .i64 0) := (blk_cell BK239.out 4).trans rfl; have hcz15_5 : w13.cell? ⟨gb239, 5, none⟩ = some (.string (⟨#[]⟩ : ByteArray)) := (blk_cell BK239.out 5).trans rfl; have hcz15_6 : w13.cell? ⟨gb239, 6, none⟩ = some (.bool false) := (blk_cell BK239.out 6).trans rfl; have hcz15_7 : w13.cell? ⟨gb239, 7, none⟩ = some (.slice none 0 0) := (blk_cell BK239.out 7).trans rfl; have hfz15_0 := blk_frozen BK239.out 0; have hfz15_1 := blk_frozen BK239.out 1; have hfz15_2 := blk_frozen BK239.out 2; have hfz15_3 := blk_frozen BK239.out 3; have hfz15_4 := blk_frozen BK239.out 4; have hfz15_5 := blk_frozen BK239.out 5; have hfz15_6 := blk_frozen BK239.out 6; have hfz15_7 := blk_frozen BK239.out 7) | ((with_reducible refine gate_store (t := 43) (p := 2) rfl ?_); refine store_event (t := 43) (p := 2) (v := ?vo_w16) (w1 := ((((((((w13.setCell ⟨gb239, 0, none⟩ (.string (⟨#[61]⟩ : ByteArray))).setCell ⟨gb239, 1, none⟩ (.int .i64 3)).setCell ⟨gb239, 2, none⟩ (.int .i64 0)).setCell ⟨gb239, 3, none⟩ (.int .i64 0)).setCell ⟨gb239, 4, none⟩ (.int .i64 0)).setCell ⟨gb239, 5, none⟩ (.string (⟨#[]⟩ : ByteArray))).setCell ⟨gb239, 6, none⟩ (.bool false)).setCell ⟨gb239, 7, none⟩ (.slice Ao12 y236.length co12))) ?hg ?ho ?hn ?hr ?_; (case ho => rfl); (case hg => rfl); (case hn => rfl); (case hr => first | (go_simp; done) | (go_simp; rfl)); intro w16 hw; have n0_ : Aside0 (Kd.R k30 30 w16 w.heap.size (fun _ => True) (.slice Ao7 y232.length co7) y232) := ⟨(by rw [hw]; exact (by (with_reducible repeat (first | apply Kd.R_alloc | apply Kd.R_drewN | apply Kd.R_drew)); exact Kd.R_mono (Kd.R_far (p := ⟨gb239, 7, none⟩) (Kd.R_far (p := ⟨gb239, 6, none⟩) (Kd.R_far (p := ⟨gb239, 5, none⟩) (Kd.R_far (p := ⟨gb239, 4, none⟩) (Kd.R_far (p := ⟨gb239, 3, none⟩) (Kd.R_far (p := ⟨gb239, 2, none⟩) (Kd.R_far (p := ⟨gb239, 1, none⟩) (Kd.R_far (p := ⟨gb239, 0, none⟩) (Kd.R_types HO234.out BK239.out (by decide)) (fun _ hk => hk.2) (.string (⟨#[61]⟩ : ByteArray))) (fun _ hk => hk.2) (.int .i64 3)) (fun _ hk => hk.2) (.int .i64 0)) (fun _ hk => hk.2) (.int .i64 0)) (fun _ hk => hk.2) (.int .i64 0)) (fun _ hk => hk.2) (.string (⟨#[]⟩ : ByteArray))) (fun _ hk => hk.2) (.bool false)) (fun _ hk => hk.2) (.slice Ao12 y236.length co12)) (fun _ hk => trivial)))⟩; have n1_ : Aside0 (Kd.N k43 43 w16 w.heap.size (fun k_ => some k_ ≠ (.slice Ao7 y232.length co7 : Value).ownBlock ∧ k_ ≠ gb235 ∧ k_ ≠ gb239) (.slice Ao12 y236.length co12) y236) := ⟨(by rw [hw]; exact (by (with_reducible repeat (first | apply Kd.N_alloc | apply Kd.N_drewN | apply Kd.N_drew)); exact Kd.N_mono (Kd.N_far (p := ⟨gb239, 7, none⟩) (Kd.N_far (p := ⟨gb239, 6, none⟩) (Kd.N_far (p := ⟨gb239, 5, none⟩) (Kd.N_far (p := ⟨gb239, 4, none⟩) (Kd.N_far (p := ⟨gb239, 3, none⟩) (Kd.N_far (p := ⟨gb239, 2, none⟩) (Kd.N_far (p := ⟨gb239, 1, none⟩) (Kd.N_far (p := ⟨gb239, 0, none⟩) (Kd.N_mono HO238.out (fun k_ hk => (⟨hk, hk.2⟩ : _ ∧ k_ ≠ gb239))) (fun _ hk => hk.2) (.string (⟨#[61]⟩ : ByteArray))) (fun _ hk => hk.2) (.int .i64 3)) (fun _ hk => hk.2) (.int .i64 0)) (fun _ hk => hk.2) (.int .i64 0)) (fun _ hk => hk.2) (.int .i64 0)) (fun _ hk => hk.2) (.string (⟨#[]⟩ : ByteArray))) (fun _ hk => hk.2) (.bool false)) (fun _ hk => hk.2) (.slice Ao12 y236.length co12)) (fun _ hk => ⟨hk.1.1.1, ⟨hk.1.1.2, hk.1.2⟩⟩)))⟩; have n2_ : Aside0 (w16.heap[gb235]? = some (.cells #[.string (⟨#[116]⟩ : ByteArray), .slice Ao7 y232.length co7] 33 (0, 0))) := ⟨(by rw [hw]; exact (by (with_reducible repeat (first | refine blk_drewN ?_ _ | refine blk_drew ?_ | refine blk_alloc ?_ _)); refine blk_far ?_ NB235_239.out _; (with_reducible repeat (first | refine blk_drewN ?_ _ | refine blk_drew ?_ | refine blk_alloc ?_ _)); refine blk_far ?_ NB235_239.out _; (with_reducible repeat (first | refine blk_drewN ?_ _ | refine blk_drew ?_ | refine blk_alloc ?_ _)); refine blk_far ?_ NB235_239.out _; (with_reducible repeat (first | refine blk_drewN ?_ _ | refine blk_drew ?_ | refine blk_alloc ?_ _)); refine blk_far ?_ NB235_239.out _; (with_reducible repeat (first | refine blk_drewN ?_ _ | refine blk_drew ?_ | refine blk_alloc ?_ _)); refine blk_far ?_ NB235_239.out _; (with_reducible repeat (first | refine blk_drewN ?_ _ | refine blk_drew ?_ | refine blk_alloc ?_ _)); refine blk_far ?_ NB235_239.out _; (with_reducible repeat (first | refine blk_drewN ?_ _ | refine blk_drew ?_ | refine blk_alloc ?_ _)); refine blk_far ?_ NB235_239.out _; (with_reducible repeat (first | refine blk_drewN ?_ _ | refine blk_drew ?_ | refine blk_alloc ?_ _)); refine blk_far ?_ NB235_239.out _; (with_reducible repeat (first | refine blk_drewN ?_ _ | refine blk_drew ?_ | refine blk_alloc ?_ _)); exact BK235.out))⟩; have n3_ : Aside0 (w16.heap[gb239]? = some (.cells #[.string (⟨#[61]⟩ : ByteArray), .int .i64 3, .int .i64 0, .int .i64 0, .int .i64 0, .string (⟨#[]⟩ : ByteArray), .bool false, .slice Ao12 y236.length co12] 43 (0, 0))) := ⟨(by rw [hw]; exact (by (with_reducible repeat (first | refine blk_drewN ?_ _ | refine blk_drew ?_ | refine blk_alloc ?_ _)); refine blk_put (cs := #[.string (⟨#[61]⟩ : ByteArray), .int .i64 3, .int .i64 0, .int .i64 0, .int .i64 0, .string (⟨#[]⟩ : ByteArray), .bool false, .slice none 0 0]) ?_ 7 _ rfl; (with_reducible repeat (first | refine blk_drewN ?_ _ | refine blk_drew ?_ | refine blk_alloc ?_ _)); refine blk_put (cs := #[.string (⟨#[61]⟩ : ByteArray), .int .i64 3, .int .i64 0, .int .i64 0, .int .i64 0, .string (⟨#[]⟩ : ByteArray), .bool false, .slice none 0 0]) ?_ 6 _ rfl; (with_reducible repeat (first | refine blk_drewN ?_ _ | refine blk_drew ?_ | refine blk_alloc ?_ _)); refine blk_put (cs := #[.string (⟨#[61]⟩ : ByteArray), .int .i64 3, .int .i64 0, .int .i64 0, .int .i64 0, .string (⟨#[]⟩ : ByteArray), .bool false, .slice none 0 0]) ?_ 5 _ rfl; (with_reducible repeat (first | refine blk_drewN ?_ _ | refine blk_drew ?_ | refine blk_alloc ?_ _)); refine blk_put (cs := #[.string (⟨#[61]⟩ : ByteArray), .int .i64 3, .int .i64 0, .int .i64 0, .int .i64 0, .string (⟨#[]⟩ : ByteArray), .bool false, .slice none 0 0]) ?_ 4 _ rfl; (with_reducible repeat (first | refine blk_drewN ?_ _ | refine blk_drew ?_ | refine blk_alloc ?_ _)); refine blk_put (cs := #[.string (⟨#[61]⟩ : ByteArray), .int .i64 3, .int .i64 0, .int .i64 0, .int .i64 0, .string (⟨#[]⟩ : ByteArray), .bool false, .slice none 0 0]) ?_ 3 _ rfl; (with_reducible repeat (first | refine blk_drewN ?_ _ | refine blk_drew ?_ | refine blk_alloc ?_ _)); refine blk_put (cs := #[.string (⟨#[61]⟩ : ByteArray), .int .i64 3, .int .i64 0, .int .i64 0, .int .i64 0, .string (⟨#[]⟩ : ByteArray), .bool false, .slice none 0 0]) ?_ 2 _ rfl; (with_reducible repeat (first | refine blk_drewN ?_ _ | refine blk_drew ?_ | refine blk_alloc ?_ _)); refine blk_put (cs := #[.string (⟨#[61]⟩ : ByteArray), .int .i64 0, .int .i64 0, .int .i64 0, .int .i64 0, .string (⟨#[]⟩ : ByteArray), .bool false, .slice none 0 0]) ?_ 1 _ rfl; (with_reducible repeat (first | refine blk_drewN ?_ _ | refine blk_drew ?_ | refine blk_alloc ?_ _)); refine blk_put (cs := #[.string (⟨#[]⟩ : ByteArray), .int .i64 0, .int .i64 0, .int .i64 0, .int .i64 0, .string (⟨#[]⟩ : ByteArray), .bool false, .slice none 0 0]) ?_ 0 _ rfl; (with_reducible repeat (first | refine blk_drewN ?_ _ | refine blk_drew ?_ | refine blk_alloc ?_ _)); exact BK239.out))⟩; have n4_ : Aside0 (Below w.heap.size w w16) := ⟨(by rw [hw]; exact (bw_ HB.out))⟩; clear hw; clear HO234; clear HO238; clear BK235; clear BK239; clear HB; have HO234 := n0_; have HO238 := n1_; have BK235 := n2_; have BK239 := n3_; have HB := n4_; clear n0_ n1_ n2_ n3_ n4_; have hcz17_0 : w16.cell? ⟨gb235, 0, none⟩ = some (.string (⟨#[116]⟩ : ByteArray)) := (blk_cell BK235.out 0).trans rfl; have hcz17_1 : w16.cell? ⟨gb235, 1, none⟩ = some (.slice Ao7 y232.length co7) := (blk_cell BK235.out 1).trans rfl; have hfz17_0 := blk_frozen BK235.out 0; have hfz17_1 := blk_frozen BK235.out 1; have hcz18_0 : w16.cell? ⟨gb239, 0, none⟩ = some (.string (⟨#[61]⟩ : ByteArray)) := (blk_cell BK239.out 0).trans rfl; have hcz18_1 : w16.cell? ⟨gb239, 1, none⟩ = some (.int .i64 3) := (blk_cell BK239.out 1).trans rfl; have hcz18_2 : w16.cell? ⟨gb239, 2, none⟩ = some (.int .i64 0) := (blk_cell BK239.out 2).trans rfl; have hcz18_3 : w16.cell? ⟨gb239, 3, none⟩ = some (.int .i64 0) := (blk_cell BK239.out 3).trans rfl; have hcz18_4 : w16.cell? ⟨gb239, 4, none⟩ = some (.int .i64 0) := (blk_cell BK239.out 4).trans rfl; have hcz18_5 : w16.cell? ⟨gb239, 5, none⟩ = some (.string (⟨#[]⟩ : ByteArray)) := (blk_cell BK239.out 5).trans rfl; have hcz18_6 : w16.cell? ⟨gb239, 6, none⟩ = some (.bool false) := (blk_cell BK239.out 6).trans rfl; have hcz18_7 : w16.cell? ⟨gb239, 7, none⟩ = some (.slice Ao12 y236.length co12) := (blk_cell BK239.out 7).trans rfl; have hfz18_0 := blk_frozen BK239.out 0; have hfz18_1 := blk_frozen BK239.out 1; have hfz18_2 := blk_frozen BK239.out 2; have hfz18_3 := blk_frozen BK239.out 3; have hfz18_4 := blk_frozen BK239.out 4; have hfz18_5 := blk_frozen BK239.out 5; have hfz18_6 := blk_frozen BK239.out 6; have hfz18_7 := blk_frozen BK239.out 7) | ((with_reducible refine gate_dst (N := 14) rfl ?_); refine Kd.N_lit k43 _ 43 ?hg (N' := 14) ?hd (xs := ([(⟨(⟨#[61]⟩ : ByteArray), 3, 0, (⟨0, 0, (⟨#[]⟩ : ByteArray), false⟩ : S24), y236⟩ : S43)] : List (S43))) (inner := [.string (⟨#[61]⟩ : ByteArray), .int .i64 3, .int .i64 0, .int .i64 0, .int .i64 0, .string (⟨#[]⟩ : ByteArray), .bool false, .slice Ao12 y236.length co12]) (ok := (fun k_ => some k_ ≠ (.slice Ao7 y232.length co7 : Value).ownBlock ∧ k_ ≠ gb235 ∧ k_ ≠ gb239)) (okp := (fun k_ => some k_ ≠ (.slice Ao7 y232.length co7 : Value).ownBlock ∧ k_ ≠ gb235 ∧ k_ ≠ gb239)) ?hr ?hp (fun _ hk => hk) ((show ∀ k_, _ ≤ k_ → (fun k_ => some k_ ≠ (.slice Ao7 y232.length co7 : Value).ownBlock ∧ k_ ≠ gb235 ∧ k_ ≠ gb239) k_ from fun k_ hk => ⟨Kd.fresh' (Kd.R_lt (kR_ HO234.out)) k_ hk, Kd.freshB (g := gb235) (o := .cells #[.string (⟨#[116]⟩ : ByteArray), .slice Ao7 y232.length co7] 33 (0, 0)) (bl_ BK235.out) k_ hk, Kd.freshB (g := gb239) (o := .cells #[.string (⟨#[61]⟩ : ByteArray), .int .i64 3, .int .i64 0, .int .i64 0, .int .i64 0, .string (⟨#[]⟩ : ByteArray), .bool false, .slice Ao12 y236.length co12] 43 (0, 0)) (bl_ BK239.out) k_ hk⟩) _ (Nat.le_refl _)) (Below.refl _ _) (Nat.le_refl _) (by simp) ?_; (case hd => rfl); (case hg => rfl); (case hr => first | (go_simp; done) | (go_simp; rfl)); (case hp => exact (Reps.c8 (show Kd.FK k43 _ _ (⟨(⟨#[61]⟩ : ByteArray), 3, 0, (⟨0, 0, (⟨#[]⟩ : ByteArray), false⟩ : S24), y236⟩ : S43) [.string (⟨#[61]⟩ : ByteArray), .int .i64 3, .int .i64 0, .int .i64 0, .int .i64 0, .string (⟨#[]⟩ : ByteArray), .bool false, .slice Ao12 y236.length co12] from (k43_mkF _ _ (⟨(⟨#[61]⟩ : ByteArray), 3, 0, (⟨0, 0, (⟨#[]⟩ : ByteArray), false⟩ : S24), y236⟩ : S43) (Kd.N_reads' (Kd.N_mono (ok' := (fun k_ => some k_ ≠ (.slice Ao7 y232.length co7 : Value).ownBlock ∧ k_ ≠ gb235 ∧ k_ ≠ gb239)) (HO238.out) (fun k_ hk => ⟨hk.1, ⟨hk.2.1, hk.2.2⟩⟩))).2.1 (Kd.N_F (Kd.N_mono (ok' := (fun k_ => some k_ ≠ (.slice Ao7 y232.length co7 : Value).ownBlock ∧ k_ ≠ gb235 ∧ k_ ≠ gb239)) (HO238.out) (fun k_ hk => ⟨hk.1, ⟨hk.2.1, hk.2.2⟩⟩))))) (Reps.none _ _))); intro v241 w19 ho20 hb hg_ hnew_; clear hg_ hnew_; (first | rw [← Ny240.out] at ho20 | (simp only [Int.reduceToNat] at ho20; rw [← Ny240.out] at ho20)); have n0_ := Aside0.mk (Kd.R_below (kR_ HO234.out) hb); have n1_ := Aside0.mk (Kd.N_lower ho20 (below_size (bw_ HB.out))); have n2_ := Aside0.mk (blk_below (g := gb235) (o := .cells #[.string (⟨#[116]⟩ : ByteArray), .slice Ao7 y232.length co7] 33 (0, 0)) (bl_ BK235.out) hb); have n3_ := Aside0.mk (blk_below (g := gb239) (o := .cells #[.string (⟨#[61]⟩ : ByteArray), .int .i64 3, .int .i64 0, .int .i64 0, .int .i64 0, .string (⟨#[]⟩ : ByteArray), .bool false, .slice Ao12 y236.length co12] 43 (0, 0)) (bl_ BK239.out) hb); have n4_ := Aside0.mk (below_step (bw_ HB.out) hb); clear HO234; clear BK235; clear BK239; clear HB; clear HO238; have HO234 := n0_; have HO242 := n1_; have BK235 := n2_; have BK239 := n3_; have HB := n4_; clear n0_ n1_ n2_ n3_ n4_; clear hb ho20; obtain ⟨Ao21, co21, eo21⟩ := Kd.N_slice HO242.out; subst eo21) | ((with_reducible refine gate_callee (f := 6) rfl ?_); refine goesL_ (some 15) rfl rfl Try.func6 (by kernel_rfl) rfl #[.agg #[.string (⟨#[116]⟩ : ByteArray), .slice Ao7 y232.length co7], .slice Ao21 y240.length co21] rfl (by (try simp only [List.map_toArray, List.map_cons, List.map_nil]); first | done | rfl | (simp only [List.length_drop, List.length_take]; rfl)) ?_; (with_reducible refine (plan_Range.calls k (⟨#[116]⟩ : ByteArray) _ _ y232 _ _ y240 t243 t244 true true t247 t248 _ ?side1 ?side2 ?side3 ?side4 ?side5 A1.out).mono ?_); (case side1 => repeat (first | exact (Kd.R_reads' HO234.out).2.2 | (with_reducible refine Kd.C_alloc ?_ _) | (with_reducible refine Kd.C_drewN ?_ _) | (with_reducible refine Kd.C_drew ?_))); (case side2 => exact (Kd.R_reads' HO234.out).2.1); (case side3 => repeat (first | exact (Kd.N_reads' HO242.out).2.2 | (with_reducible refine Kd.C_alloc ?_ _) | (with_reducible refine Kd.C_drewN ?_ _) | (with_reducible refine Kd.C_drew ?_))); (case side4 => exact (Kd.N_reads' HO242.out).2.1); (case side5 => exact GW_below HG.out (bw_ HB.out)); rintro e w22 ⟨rfl, hb⟩; refine ⟨_, rfl, ?_⟩; have n0_ := Aside0.mk (Kd.R_below (kR_ HO234.out) hb); have n1_ := Aside0.mk (Kd.N_below (kN_ HO242.out) hb); have n2_ := Aside0.mk (blk_below (g := gb235) (o := .cells #[.string (⟨#[116]⟩ : ByteArray), .slice Ao7 y232.length co7] 33 (0, 0)) (bl_ BK235.out) hb); have n3_ := Aside0.mk (blk_below (g := gb239) (o := .cells #[.string (⟨#[61]⟩ : ByteArray), .int .i64 3, .int .i64 0, .int .i64 0, .int .i64 0, .string (⟨#[]⟩ : ByteArray), .bool false, .slice Ao12 y236.length co12] 43 (0, 0)) (bl_ BK239.out) hb); have n4_ := Aside0.mk (below_step (bw_ HB.out) hb); clear HO234; clear HO242; clear BK235; clear BK239; clear HB; have HO234 := n0_; have HO242 := n1_; have BK235 := n2_; have BK239 := n3_; have HB := n4_; clear n0_ n1_ n2_ n3_ n4_; (try clear hb); (try clear hb2); (try clear hk); (try clear hi)) | ((with_reducible refine gate_dst (N := 3) rfl ?_); refine box_event ?hg (N := 3) ?hd (cs := #[.string (⟨#[]⟩ : ByteArray), .string (⟨#[]⟩ : ByteArray), .bool false, .bool false, .bool false, .bool false]) (t := 35) ?hr ?_; (case hd => rfl); (case hg => rfl); (case hr => first | (go_simp; done) | (go_simp; rfl)); intro gb249 hg w23 hbox hb; have n0_ := Aside0.mk (Kd.R_below (kR_ HO234.out) hb); have n1_ := Aside0.mk (Kd.N_below (Kd.N_elderB (kN_ HO242.out) gb249 (Nat.le_of_eq hg.symm)) hb); have n2_ := Aside0.mk (blk_below (g := gb235) (o := .cells #[.string (⟨#[116]⟩ : ByteArray), .slice Ao7 y232.length co7] 33 (0, 0)) (bl_ BK235.out) hb); have n3_ := Aside0.mk (blk_below (g := gb239) (o := .cells #[.string (⟨#[61]⟩ : ByteArray), .int .i64 3, .int .i64 0, .int .i64 0, .int .i64 0, .string (⟨#[]⟩ : ByteArray), .bool false, .slice Ao12 y236.length co12] 43 (0, 0)) (bl_ BK239.out) hb); have n4_ := Aside0.mk (below_step (bw_ HB.out) hb); have n5_ := Aside0.mk (hbox); have n6_ := Aside0.mk ((by rw [hg]; exact (below_size (bw_ HB.out)) : w.heap.size ≤ gb249)); have n7_ := Aside0.mk ((by rw [hg]; exact (below_size (bw_ HB.out)) : w.heap.size ≤ gb249)); have n8_ := Aside0.mk ((by rw [hg]; exact Nat.ne_of_lt (blk_lt (g := gb235) (o := .cells #[.string (⟨#[116]⟩ : ByteArray), .slice Ao7 y232.length co7] 33 (0, 0)) (bl_ BK235.out)) : gb235 ≠ gb249)); have n9_ := Aside0.mk ((by rw [hg]; exact Nat.ne_of_gt (blk_lt (g := gb235) (o := .cells #[.string (⟨#[116]⟩ : ByteArray), .slice Ao7 y232.length co7] 33 (0, 0)) (bl_ BK235.out)) : gb249 ≠ gb235)); have n10_ := Aside0.mk ((by rw [hg]; exact Nat.ne_of_lt (blk_lt (g := gb239) (o := .cells #[.string (⟨#[61]⟩ : ByteArray), .int .i64 3, .int .i64 0, .int .i64 0, .int .i64 0, .string (⟨#[]⟩ : ByteArray), .bool false, .slice Ao12 y236.length co12] 43 (0, 0)) (bl_ BK239.out)) : gb239 ≠ gb249)); have n11_ := Aside0.mk ((by rw [hg]; exact Nat.ne_of_gt (blk_lt (g := gb239) (o := .cells #[.string (⟨#[61]⟩ : ByteArray), .int .i64 3, .int .i64 0, .int .i64 0, .int .i64 0, .string (⟨#[]⟩ : ByteArray), .bool false, .slice Ao12 y236.length co12] 43 (0, 0)) (bl_ BK239.out)) : gb249 ≠ gb239)); clear HO234; clear HO242; clear BK235; clear BK239; clear HB; have HO234 := n0_; have HO242 := n1_; have BK235 := n2_; have BK239 := n3_; have HB := n4_; have BK249 := n5_; have GW249 := n6_; have GE249 := n7_; have NB235_249 := n8_; have NB249_235 := n9_; have NB239_249 := n10_; have NB249_239 := n11_; clear n0_ n1_ n2_ n3_ n4_ n5_ n6_ n7_ n8_ n9_ n10_ n11_; clear hb hbox hg; have hnb24 := NB249_235.out; have hnc24 := NB235_249.out; have hnb25 := NB249_239.out; have hnc25 := NB239_249.out; have hcz26_0 : w23.cell? ⟨gb249, 0, none⟩ = some (.string (⟨#[]⟩ : ByteArray)) := (blk_cell BK249.out 0).trans rfl; have hcz26_1 : w23.cell? ⟨gb249, 1, none⟩ = some (.string (⟨#[]⟩ : ByteArray)) := (blk_cell BK249.out 1).trans rfl; have hcz26_2 : w23.cell? ⟨gb249, 2, none⟩ = some (.bool false) := (blk_cell BK249.out 2).trans rfl; have hcz26_3 : w23.cell? ⟨gb249, 3, none⟩ = some (.bool false) := (blk_cell BK249.out 3).trans rfl; have hcz26_4 : w23.cell? ⟨gb249, 4, none⟩ = some (.bool false) := (blk_cell BK249.out 4).trans rfl; have hcz26_5 : w23.cell? ⟨gb249, 5, none⟩ = some (.bool false) := (blk_cell BK249.out 5).trans rfl; have hfz26_0 := blk_frozen BK249.out 0; have hfz26_1 := blk_frozen BK249.out 1; have hfz26_2 := blk_frozen BK249.out 2; have hfz26_3 := blk_frozen BK249.out 3; have hfz26_4 := blk_frozen BK249.out 4; have hfz26_5 := blk_frozen BK249.out 5))
  go_ret
  exact ⟨by first | rfl | (simp [errW_none, errW_some] <;> rfl) | (simp [*, errW_none, errW_some] <;> rfl), bw_ HB.out⟩

/-! ### barbicanlaw22_give: function 14 -/
mutual
def barbicanlaw22_give.l0 : Nat → Int → ByteArray → Int → Int → Int → Int → ByteArray → Bool → List (S26) → ByteArray → Int → Int → Int → Int → ByteArray → Bool → List (S43) → Option (ByteArray × Int × Int × Int × Int × ByteArray × Bool × (List (S43)))
  | 0, _, _, _, _, _, _, _, _, _, _, _, _, _, _, _, _, _ => none
  | k + 1, x4, x251000, x251001, x251002, x251003, x251004, x251005, x251006, x251007, x253000, x253001, x253002, x253003, x253004, x253005, x253006, x253007 => if x4 < (x251007.length : Int) then (if 0 ≤ x4 then ((barbicanlaw22_give.f k ((rd_T26 x251007 x4).f0) ((rd_T26 x251007 x4).f1) ((rd_T26 x251007 x4).f2) ((rd_T26 x251007 x4).f3.f0) ((rd_T26 x251007 x4).f3.f1) ((rd_T26 x251007 x4).f3.f2) ((rd_T26 x251007 x4).f3.f3) ((rd_T26 x251007 x4).f4)).bind fun bt254 => (if x253007.length < 1466015503701 then (barbicanlaw22_give.l0 k (wrap64 (x4 + 1)) x251000 x251001 x251002 x251003 x251004 x251005 x251006 x251007 x253000 x253001 x253002 x253003 x253004 x253005 x253006 (x253007 ++ [(⟨bt254.1, bt254.2.1, bt254.2.2.1, (⟨bt254.2.2.2.1, bt254.2.2.2.2.1, bt254.2.2.2.2.2.1, bt254.2.2.2.2.2.2.1⟩ : S24), bt254.2.2.2.2.2.2.2⟩ : S43)])) else (none))) else (none)) else (some (x253000, x253001, x253002, x253003, x253004, x253005, x253006, x253007))
def barbicanlaw22_give.f : Nat → ByteArray → Int → Int → Int → Int → ByteArray → Bool → List (S26) → Option (ByteArray × Int × Int × Int × Int × ByteArray × Bool × (List (S43)))
  | 0, _, _, _, _, _, _, _, _ => none
  | k + 1, a0_0, a0_1, a0_2, a0_3, a0_4, a0_5, a0_6, l0_7 => barbicanlaw22_give.l0 k 0 a0_0 a0_1 a0_2 a0_3 a0_4 a0_5 a0_6 l0_7 a0_0 a0_1 a0_2 a0_3 a0_4 a0_5 a0_6 ([] : List (S43))
end
def barbicanlaw22_give.T5 : Bool × List (List Nat × List Nat) := (true, [([], []), ([0], [0]), ([], []), ([2], [2]), ([], []), ([3, 4], [3, 4]), ([5], [5]), ([6], [6]), ([7], [7]), ([1, 8, 7], [1, 8]), ([0, 1, 2, 3, 4, 5, 6, 7, 8, 9], []), ([10, 9, 9, 0, 1, 2, 3, 4, 5, 6, 7, 8, 9], [9, 10])])
def barbicanlaw22_give.B5 : List Nat := [0, 1, 0, 4, 0, 28, 60, 124, 252, 511, 1023, 2047]
theorem barbicanlaw22_give.tab5 : rtab .any (opsOf Try.f14 5) = barbicanlaw22_give.T5 := by kernel_rfl
theorem barbicanlaw22_give.bits5 : waitsOk barbicanlaw22_give.T5.2 barbicanlaw22_give.B5 = true := by kernel_rfl
set_option maxHeartbeats 8000000 in
set_option maxRecDepth 100000 in
theorem barbicanlaw22_give.calls (k : Nat) : ∀ (a0_0 : ByteArray) (a0_1 : Int) (a0_2 : Int) (a0_3 : Int) (a0_4 : Int) (a0_5 : ByteArray) (a0_6 : Bool) (A0_7 : Option Addr) (c0_7 : Nat) (l0_7 : List (S26)) (r1 : ByteArray) (r2 : Int) (r3 : Int) (r4 : Int) (r5 : Int) (r6 : ByteArray) (r7 : Bool) (r8 : List (S43)) (w : World) (hr0_7 : Kd.C k26 w A0_7 l0_7.length l0_7) (hc0_7 : l0_7.length ≤ c0_7) (h : barbicanlaw22_give.f k a0_0 a0_1 a0_2 a0_3 a0_4 a0_5 a0_6 l0_7 = some (r1, r2, r3, r4, r5, r6, r7, r8)),
    Calls Try.prog 14 #[.agg #[.string a0_0, .int .i64 a0_1, .int .i64 a0_2, .int .i64 a0_3, .int .i64 a0_4, .string a0_5, .bool a0_6, .slice A0_7 l0_7.length c0_7]] w fun e w' => ∃ v7_ : Value, e = .returned (.agg #[.string r1, .int .i64 r2, .int .i64 r3, .int .i64 r4, .int .i64 r5, .string r6, .bool r7, v7_]) ∧ Kd.R k43 43 w' w.heap.size (fun _ => True) v7_ r8 ∧ Below w.heap.size w w' := by
  induction k using Nat.strongRecOn with
  | _ k ih =>
  intro a0_0 a0_1 a0_2 a0_3 a0_4 a0_5 a0_6 A0_7 c0_7 l0_7 r1 r2 r3 r4 r5 r6 r7 r8 w hr0_7 hc0_7 h
  cases k with
  | zero => exact absurd h (by simp [barbicanlaw22_give.f])
  | succ k =>
  simp only [barbicanlaw22_give.f] at h
  have hu26 := Try.underlying26
  have hu43 := Try.underlying43
  have hu24 := Try.underlying24
  have HR0_7 := Aside0.mk hr0_7
  have HC0_7 := Aside0.mk hc0_7
  clear hr0_7 hc0_7
  have HB := Aside0.mk (Below.refl w.heap.size w)
  have H : (barbicanlaw22_give.l0 k 0 a0_0 a0_1 a0_2 a0_3 a0_4 a0_5 a0_6 l0_7 a0_0 a0_1 a0_2 a0_3 a0_4 a0_5 a0_6 ([] : List (S43))) = some (r1, r2, r3, r4, r5, r6, r7, r8) := h
  clear h
  have H' := Aside0.mk H
  clear H
  go_enter Try.func14, Try.ntmps14
  go_wp2_with (first | ((with_reducible refine gate_dst (N := 1) rfl ?_); refine box_event ?hg (N := 1) ?hd (cs := #[.string a0_0, .int .i64 a0_1, .int .i64 a0_2, .int .i64 a0_3, .int .i64 a0_4, .string a0_5, .bool a0_6, .slice A0_7 l0_7.length c0_7]) (t := 26) ?hr ?_; (case hd => rfl); (case hg => rfl); (case hr => first | (go_simp; done) | (go_simp; rfl)); intro gb250 hg w2 hbox hb; have n0_ := Aside0.mk (below_step (bw_ HB.out) hb); have n1_ := Aside0.mk (hbox); have n2_ := Aside0.mk ((by rw [hg]; exact (below_size (bw_ HB.out)) : w.heap.size ≤ gb250)); have n3_ := Aside0.mk ((by rw [hg]; exact (below_size (bw_ HB.out)) : w.heap.size ≤ gb250)); clear HB; have HB := n0_; have BK250 := n1_; have GW250 := n2_; have GE250 := n3_; clear n0_ n1_ n2_ n3_; clear hb hbox hg) | ((with_reducible refine gate_dst (N := 2) rfl ?_); refine box_event ?hg (N := 2) ?hd (cs := #[.string (⟨#[]⟩ : ByteArray), .int .i64 0, .int .i64 0, .int .i64 0, .int .i64 0, .string (⟨#[]⟩ : ByteArray), .bool false, .slice none 0 0]) (t := 43) ?hr ?_; (case hd => rfl); (case hg => rfl); (case hr => first | (go_simp; done) | (go_simp; rfl)); intro gb251 hg w3 hbox hb; have n0_ := Aside0.mk (blk_below (g := gb250) (o := .cells #[.string a0_0, .int .i64 a0_1, .int .i64 a0_2, .int .i64 a0_3, .int .i64 a0_4, .string a0_5, .bool a0_6, .slice A0_7 l0_7.length c0_7] 26 (0, 0)) (bl_ BK250.out) hb); have n1_ := Aside0.mk (below_step (bw_ HB.out) hb); have n2_ := Aside0.mk (hbox); have n3_ := Aside0.mk ((by rw [hg]; exact (below_size (bw_ HB.out)) : w.heap.size ≤ gb251)); have n4_ := Aside0.mk ((by rw [hg]; exact (below_size (bw_ HB.out)) : w.heap.size ≤ gb251)); have n5_ := Aside0.mk ((by rw [hg]; exact Nat.ne_of_lt (blk_lt (g := gb250) (o := .cells #[.string a0_0, .int .i64 a0_1, .int .i64 a0_2, .int .i64 a0_3, .int .i64 a0_4, .string a0_5, .bool a0_6, .slice A0_7 l0_7.length c0_7] 26 (0, 0)) (bl_ BK250.out)) : gb250 ≠ gb251)); have n6_ := Aside0.mk ((by rw [hg]; exact Nat.ne_of_gt (blk_lt (g := gb250) (o := .cells #[.string a0_0, .int .i64 a0_1, .int .i64 a0_2, .int .i64 a0_3, .int .i64 a0_4, .string a0_5, .bool a0_6, .slice A0_7 l0_7.length c0_7] 26 (0, 0)) (bl_ BK250.out)) : gb251 ≠ gb250)); clear BK250; clear HB; have BK250 := n0_; have HB := n1_; have BK251 := n2_; have GW251 := n3_; have GE251 := n4_; have NB250_251 := n5_; have NB251_250 := n6_; clear n0_ n1_ n2_ n3_ n4_ n5_ n6_; clear hb hbox hg; have hnb4 := NB250_251.out; have hnc4 := NB251_250.out; have hcz5_0 : w3.cell? ⟨gb250, 0, none⟩ = some (.string a0_0) := (blk_cell BK250.out 0).trans rfl; have hcz5_1 : w3.cell? ⟨gb250, 1, none⟩ = some (.int .i64 a0_1) := (blk_cell BK250.out 1).trans rfl; have hcz5_2 : w3.cell? ⟨gb250, 2, none⟩ = some (.int .i64 a0_2) := (blk_cell BK250.out 2).trans rfl; have hcz5_3 : w3.cell? ⟨gb250, 3, none⟩ = some (.int .i64 a0_3) := (blk_cell BK250.out 3).trans rfl; have hcz5_4 : w3.cell? ⟨gb250, 4, none⟩ = some (.int .i64 a0_4) := (blk_cell BK250.out 4).trans rfl; have hcz5_5 : w3.cell? ⟨gb250, 5, none⟩ = some (.string a0_5) := (blk_cell BK250.out 5).trans rfl; have hcz5_6 : w3.cell? ⟨gb250, 6, none⟩ = some (.bool a0_6) := (blk_cell BK250.out 6).trans rfl; have hcz5_7 : w3.cell? ⟨gb250, 7, none⟩ = some (.slice A0_7 l0_7.length c0_7) := (blk_cell BK250.out 7).trans rfl; have hfz5_0 := blk_frozen BK250.out 0; have hfz5_1 := blk_frozen BK250.out 1; have hfz5_2 := blk_frozen BK250.out 2; have hfz5_3 := blk_frozen BK250.out 3; have hfz5_4 := blk_frozen BK250.out 4; have hfz5_5 := blk_frozen BK250.out 5; have hfz5_6 := blk_frozen BK250.out 6; have hfz5_7 := blk_frozen BK250.out 7) | ((with_reducible refine gate_dst (N := 3) rfl ?_); refine box_event ?hg (N := 3) ?hd (cs := #[.string (⟨#[]⟩ : ByteArray), .int .i64 0, .int .i64 0, .int .i64 0, .int .i64 0, .string (⟨#[]⟩ : ByteArray), .bool false, .slice none 0 0]) (t := 43) ?hr ?_; (case hd => rfl); (case hg => rfl); (case hr => first | (go_simp; done) | (go_simp; rfl)); intro gb252 hg w6 hbox hb; have n0_ := Aside0.mk (blk_below (g := gb250) (o := .cells #[.string a0_0, .int .i64 a0_1, .int .i64 a0_2, .int .i64 a0_3, .int .i64 a0_4, .string a0_5, .bool a0_6, .slice A0_7 l0_7.length c0_7] 26 (0, 0)) (bl_ BK250.out) hb); have n1_ := Aside0.mk (blk_below (g := gb251) (o := .cells #[.string (⟨#[]⟩ : ByteArray), .int .i64 0, .int .i64 0, .int .i64 0, .int .i64 0, .string (⟨#[]⟩ : ByteArray), .bool false, .slice none 0 0] 43 (0, 0)) (bl_ BK251.out) hb); have n2_ := Aside0.mk (below_step (bw_ HB.out) hb); have n3_ := Aside0.mk (hbox); have n4_ := Aside0.mk ((by rw [hg]; exact (below_size (bw_ HB.out)) : w.heap.size ≤ gb252)); have n5_ := Aside0.mk ((by rw [hg]; exact (below_size (bw_ HB.out)) : w.heap.size ≤ gb252)); have n6_ := Aside0.mk ((by rw [hg]; exact Nat.ne_of_lt (blk_lt (g := gb250) (o := .cells #[.string a0_0, .int .i64 a0_1, .int .i64 a0_2, .int .i64 a0_3, .int .i64 a0_4, .string a0_5, .bool a0_6, .slice A0_7 l0_7.length c0_7] 26 (0, 0)) (bl_ BK250.out)) : gb250 ≠ gb252)); have n7_ := Aside0.mk ((by rw [hg]; exact Nat.ne_of_gt (blk_lt (g := gb250) (o := .cells #[.string a0_0, .int .i64 a0_1, .int .i64 a0_2, .int .i64 a0_3, .int .i64 a0_4, .string a0_5, .bool a0_6, .slice A0_7 l0_7.length c0_7] 26 (0, 0)) (bl_ BK250.out)) : gb252 ≠ gb250)); have n8_ := Aside0.mk ((by rw [hg]; exact Nat.ne_of_lt (blk_lt (g := gb251) (o := .cells #[.string (⟨#[]⟩ : ByteArray), .int .i64 0, .int .i64 0, .int .i64 0, .int .i64 0, .string (⟨#[]⟩ : ByteArray), .bool false, .slice none 0 0] 43 (0, 0)) (bl_ BK251.out)) : gb251 ≠ gb252)); have n9_ := Aside0.mk ((by rw [hg]; exact Nat.ne_of_gt (blk_lt (g := gb251) (o := .cells #[.string (⟨#[]⟩ : ByteArray), .int .i64 0, .int .i64 0, .int .i64 0, .int .i64 0, .string (⟨#[]⟩ : ByteArray), .bool false, .slice none 0 0] 43 (0, 0)) (bl_ BK251.out)) : gb252 ≠ gb251)); clear BK250; clear BK251; clear HB; have BK250 := n0_; have BK251 := n1_; have HB := n2_; have BK252 := n3_; have GW252 := n4_; have GE252 := n5_; have NB250_252 := n6_; have NB252_250 := n7_; have NB251_252 := n8_; have NB252_251 := n9_; clear n0_ n1_ n2_ n3_ n4_ n5_ n6_ n7_ n8_ n9_; clear hb hbox hg; have hnb7 := NB252_250.out; have hnc7 := NB250_252.out; have hnb8 := NB252_251.out; have hnc8 := NB251_252.out; have hcz9_0 : w6.cell? ⟨gb252, 0, none⟩ = some (.string (⟨#[]⟩ : ByteArray)) := (blk_cell BK252.out 0).trans rfl; have hcz9_1 : w6.cell? ⟨gb252, 1, none⟩ = some (.int .i64 0) := (blk_cell BK252.out 1).trans rfl; have hcz9_2 : w6.cell? ⟨gb252, 2, none⟩ = some (.int .i64 0) := (blk_cell BK252.out 2).trans rfl; have hcz9_3 : w6.cell? ⟨gb252, 3, none⟩ = some (.int .i64 0) := (blk_cell BK252.out 3).trans rfl; have hcz9_4 : w6.cell? ⟨gb252, 4, none⟩ = some (.int .i64 0) := (blk_cell BK252.out 4).trans rfl; have hcz9_5 : w6.cell? ⟨gb252, 5, none⟩ = some (.string (⟨#[]⟩ : ByteArray)) := (blk_cell BK252.out 5).trans rfl; have hcz9_6 : w6.cell? ⟨gb252, 6, none⟩ = some (.bool false) := (blk_cell BK252.out 6).trans rfl; have hcz9_7 : w6.cell? ⟨gb252, 7, none⟩ = some (.slice none 0 0) := (blk_cell BK252.out 7).trans rfl; have hfz9_0 := blk_frozen BK252.out 0; have hfz9_1 := blk_frozen BK252.out 1; have hfz9_2 := blk_frozen BK252.out 2; have hfz9_3 := blk_frozen BK252.out 3; have hfz9_4 := blk_frozen BK252.out 4; have hfz9_5 := blk_frozen BK252.out 5; have hfz9_6 := blk_frozen BK252.out 6; have hfz9_7 := blk_frozen BK252.out 7))
  go_loopg [4] k (fun kq v4 w' => ∃ (x4_1 : Int) (x253007_1 : List (S43)) (u253007 : Value), v4 = .int .i64 x4_1 ∧ Aside0 (barbicanlaw22_give.l0 kq x4_1 a0_0 a0_1 a0_2 a0_3 a0_4 a0_5 a0_6 l0_7 a0_0 a0_1 a0_2 a0_3 a0_4 a0_5 a0_6 x253007_1 = some (r1, r2, r3, r4, r5, r6, r7, r8)) ∧ Aside0 (kq ≤ k) ∧ Aside0 (Kd.R k43 43 w' w.heap.size (fun k_ => k_ ≠ gb251 ∧ k_ ≠ gb252) u253007 x253007_1) ∧ Aside0 (w'.heap[gb250]? = some (.cells #[.string a0_0, .int .i64 a0_1, .int .i64 a0_2, .int .i64 a0_3, .int .i64 a0_4, .string a0_5, .bool a0_6, (.slice A0_7 l0_7.length c0_7)] 26 (0, 0))) ∧ Aside0 (w'.heap[gb251]? = some (.cells #[.string (⟨#[]⟩ : ByteArray), .int .i64 0, .int .i64 0, .int .i64 0, .int .i64 0, .string (⟨#[]⟩ : ByteArray), .bool false, (.slice none 0 0)] 43 (0, 0))) ∧ Aside0 (w'.heap[gb252]? = some (.cells #[.string a0_0, .int .i64 a0_1, .int .i64 a0_2, .int .i64 a0_3, .int .i64 a0_4, .string a0_5, .bool a0_6, u253007] 43 (0, 0))) ∧ Aside0 (Below w.heap.size w w'))
  case atStart => exact ⟨(0), (([] : List (S43))), (.slice none 0 0), (by first | rfl | (simp; done) | (simp [*]; done) | (simp [bne]; done)), H', ⟨Nat.le_refl _⟩, ⟨by first | exact Kd.R_nil _ _ _ _ _ | exact Kd.N_nil _ _ _ _ _ | exact Kd.V_nil _ _ _ _ _ | exact Kd.Q_nil _ _ _ _ _ | exact Kd.S_nil _ _ _ _ _⟩, ⟨by (with_reducible repeat (first | refine blk_drewN ?_ _ | refine blk_drew ?_ | refine blk_alloc ?_ _)); refine blk_far ?_ NB250_252.out _; (with_reducible repeat (first | refine blk_drewN ?_ _ | refine blk_drew ?_ | refine blk_alloc ?_ _)); refine blk_far ?_ NB250_252.out _; (with_reducible repeat (first | refine blk_drewN ?_ _ | refine blk_drew ?_ | refine blk_alloc ?_ _)); refine blk_far ?_ NB250_252.out _; (with_reducible repeat (first | refine blk_drewN ?_ _ | refine blk_drew ?_ | refine blk_alloc ?_ _)); refine blk_far ?_ NB250_252.out _; (with_reducible repeat (first | refine blk_drewN ?_ _ | refine blk_drew ?_ | refine blk_alloc ?_ _)); refine blk_far ?_ NB250_252.out _; (with_reducible repeat (first | refine blk_drewN ?_ _ | refine blk_drew ?_ | refine blk_alloc ?_ _)); refine blk_far ?_ NB250_252.out _; (with_reducible repeat (first | refine blk_drewN ?_ _ | refine blk_drew ?_ | refine blk_alloc ?_ _)); refine blk_far ?_ NB250_252.out _; (with_reducible repeat (first | refine blk_drewN ?_ _ | refine blk_drew ?_ | refine blk_alloc ?_ _)); refine blk_far ?_ NB250_252.out _; (with_reducible repeat (first | refine blk_drewN ?_ _ | refine blk_drew ?_ | refine blk_alloc ?_ _)); exact BK250.out⟩, ⟨by (with_reducible repeat (first | refine blk_drewN ?_ _ | refine blk_drew ?_ | refine blk_alloc ?_ _)); refine blk_far ?_ NB251_252.out _; (with_reducible repeat (first | refine blk_drewN ?_ _ | refine blk_drew ?_ | refine blk_alloc ?_ _)); refine blk_far ?_ NB251_252.out _; (with_reducible repeat (first | refine blk_drewN ?_ _ | refine blk_drew ?_ | refine blk_alloc ?_ _)); refine blk_far ?_ NB251_252.out _; (with_reducible repeat (first | refine blk_drewN ?_ _ | refine blk_drew ?_ | refine blk_alloc ?_ _)); refine blk_far ?_ NB251_252.out _; (with_reducible repeat (first | refine blk_drewN ?_ _ | refine blk_drew ?_ | refine blk_alloc ?_ _)); refine blk_far ?_ NB251_252.out _; (with_reducible repeat (first | refine blk_drewN ?_ _ | refine blk_drew ?_ | refine blk_alloc ?_ _)); refine blk_far ?_ NB251_252.out _; (with_reducible repeat (first | refine blk_drewN ?_ _ | refine blk_drew ?_ | refine blk_alloc ?_ _)); refine blk_far ?_ NB251_252.out _; (with_reducible repeat (first | refine blk_drewN ?_ _ | refine blk_drew ?_ | refine blk_alloc ?_ _)); refine blk_far ?_ NB251_252.out _; (with_reducible repeat (first | refine blk_drewN ?_ _ | refine blk_drew ?_ | refine blk_alloc ?_ _)); exact BK251.out⟩, ⟨by (with_reducible repeat (first | refine blk_drewN ?_ _ | refine blk_drew ?_ | refine blk_alloc ?_ _)); refine blk_put (cs := #[.string a0_0, .int .i64 a0_1, .int .i64 a0_2, .int .i64 a0_3, .int .i64 a0_4, .string a0_5, .bool a0_6, .slice none 0 0]) ?_ 7 _ rfl; (with_reducible repeat (first | refine blk_drewN ?_ _ | refine blk_drew ?_ | refine blk_alloc ?_ _)); refine blk_put (cs := #[.string a0_0, .int .i64 a0_1, .int .i64 a0_2, .int .i64 a0_3, .int .i64 a0_4, .string a0_5, .bool false, .slice none 0 0]) ?_ 6 _ rfl; (with_reducible repeat (first | refine blk_drewN ?_ _ | refine blk_drew ?_ | refine blk_alloc ?_ _)); refine blk_put (cs := #[.string a0_0, .int .i64 a0_1, .int .i64 a0_2, .int .i64 a0_3, .int .i64 a0_4, .string (⟨#[]⟩ : ByteArray), .bool false, .slice none 0 0]) ?_ 5 _ rfl; (with_reducible repeat (first | refine blk_drewN ?_ _ | refine blk_drew ?_ | refine blk_alloc ?_ _)); refine blk_put (cs := #[.string a0_0, .int .i64 a0_1, .int .i64 a0_2, .int .i64 a0_3, .int .i64 0, .string (⟨#[]⟩ : ByteArray), .bool false, .slice none 0 0]) ?_ 4 _ rfl; (with_reducible repeat (first | refine blk_drewN ?_ _ | refine blk_drew ?_ | refine blk_alloc ?_ _)); refine blk_put (cs := #[.string a0_0, .int .i64 a0_1, .int .i64 a0_2, .int .i64 0, .int .i64 0, .string (⟨#[]⟩ : ByteArray), .bool false, .slice none 0 0]) ?_ 3 _ rfl; (with_reducible repeat (first | refine blk_drewN ?_ _ | refine blk_drew ?_ | refine blk_alloc ?_ _)); refine blk_put (cs := #[.string a0_0, .int .i64 a0_1, .int .i64 0, .int .i64 0, .int .i64 0, .string (⟨#[]⟩ : ByteArray), .bool false, .slice none 0 0]) ?_ 2 _ rfl; (with_reducible repeat (first | refine blk_drewN ?_ _ | refine blk_drew ?_ | refine blk_alloc ?_ _)); refine blk_put (cs := #[.string a0_0, .int .i64 0, .int .i64 0, .int .i64 0, .int .i64 0, .string (⟨#[]⟩ : ByteArray), .bool false, .slice none 0 0]) ?_ 1 _ rfl; (with_reducible repeat (first | refine blk_drewN ?_ _ | refine blk_drew ?_ | refine blk_alloc ?_ _)); refine blk_put (cs := #[.string (⟨#[]⟩ : ByteArray), .int .i64 0, .int .i64 0, .int .i64 0, .int .i64 0, .string (⟨#[]⟩ : ByteArray), .bool false, .slice none 0 0]) ?_ 0 _ rfl; (with_reducible repeat (first | refine blk_drewN ?_ _ | refine blk_drew ?_ | refine blk_alloc ?_ _)); exact BK252.out⟩, ⟨bw_ HB.out⟩⟩
  case round =>
    clear H'
    (try clear c1); (try clear p2); (try clear c4); (try clear c7); (try clear c8); (try clear hcz5_0); (try clear hcz5_1); (try clear hcz5_2); (try clear hcz5_3); (try clear hcz5_4); (try clear hcz5_5); (try clear hcz5_6)
    (try clear hcz5_7); (try clear hcz9_0); (try clear hcz9_1); (try clear hcz9_2); (try clear hcz9_3); (try clear hcz9_4); (try clear hcz9_5); (try clear hcz9_6); (try clear hcz9_7); (try clear hfz5_0); (try clear hfz5_1); (try clear hfz5_2)
    (try clear hfz5_3); (try clear hfz5_4); (try clear hfz5_5); (try clear hfz5_6); (try clear hfz5_7); (try clear hfz9_0); (try clear hfz9_1); (try clear hfz9_2); (try clear hfz9_3); (try clear hfz9_4); (try clear hfz9_5); (try clear hfz9_6)
    (try clear hfz9_7)
    obtain ⟨x4_1, x253007_1, u253007, rfl, HA, HK1, HO_253007, BK250, BK251, BK252, HB⟩ := hrel
    cases gk with
    | zero => exact absurd HA.out (by simp [barbicanlaw22_give.l0])
    | succ k1 =>
      have H := HA.out
      clear HA
      simp only [barbicanlaw22_give.l0] at H
      by_cases c10 : x4_1 < (l0_7.length : Int)
      · rw [if_pos c10] at H
        have c10b0 : decide (x4_1 < (l0_7.length : Int)) = true := decide_eq_true c10
        clear c10
        have c11 : 0 ≤ x4_1 := Classical.byContradiction fun c11 => by rw [if_neg c11] at H; exact absurd H (by simp)
        rw [if_pos c11] at H
        have c11b0 : decide (0 ≤ x4_1) = true := decide_eq_true c11
        clear c11
        replace H := Option.bind_eq_some_iff.mp H
        obtain ⟨⟨t254, t255, t256, t257, t258, t259, t260, t261⟩, A120, H⟩ := H
        (try dsimp only at H)
        have A12 := Aside0.mk A120
        clear A120
        have c13 : x253007_1.length < 1466015503701 := Classical.byContradiction fun c13 => by rw [if_neg c13] at H; exact absurd H (by simp)
        rw [if_pos c13] at H
        have LMc13 := Aside0.mk c13
        clear c13
        obtain ⟨y264, hy264⟩ : ∃ y_ : List (S43), y_ = (x253007_1 ++ [(⟨t254, t255, t256, (⟨t257, t258, t259, t260⟩ : S24), t261⟩ : S43)]) := ⟨_, rfl⟩
        replace H : (barbicanlaw22_give.l0 k1 (wrap64 (x4_1 + 1)) a0_0 a0_1 a0_2 a0_3 a0_4 a0_5 a0_6 l0_7 a0_0 a0_1 a0_2 a0_3 a0_4 a0_5 a0_6 y264) = some (r1, r2, r3, r4, r5, r6, r7, r8) := by first | (rw [hy264]; with_reducible exact H) | (have H2_ := (Option.bind_some _ _).symm.trans H; rw [hy264]; with_reducible exact H2_) | (have H2_ := (Option.bind_some _ _).symm.trans H; with_reducible exact H2_) | with_reducible exact H | (rw [hy264]; exact H) | exact H
        have Ny264 := Aside0.mk hy264
        clear hy264
        have H' := Aside0.mk H
        clear H
        have hnb14 := NB250_251.out
        have hnc14 := NB251_250.out
        have hnb15 := NB250_252.out
        have hnc15 := NB252_250.out
        have hcz16_0 : wr.cell? ⟨gb250, 0, none⟩ = some (.string a0_0) := (blk_cell BK250.out 0).trans rfl
        have hcz16_1 : wr.cell? ⟨gb250, 1, none⟩ = some (.int .i64 a0_1) := (blk_cell BK250.out 1).trans rfl
        have hcz16_2 : wr.cell? ⟨gb250, 2, none⟩ = some (.int .i64 a0_2) := (blk_cell BK250.out 2).trans rfl
        have hcz16_3 : wr.cell? ⟨gb250, 3, none⟩ = some (.int .i64 a0_3) := (blk_cell BK250.out 3).trans rfl
        have hcz16_4 : wr.cell? ⟨gb250, 4, none⟩ = some (.int .i64 a0_4) := (blk_cell BK250.out 4).trans rfl
        have hcz16_5 : wr.cell? ⟨gb250, 5, none⟩ = some (.string a0_5) := (blk_cell BK250.out 5).trans rfl
        have hcz16_6 : wr.cell? ⟨gb250, 6, none⟩ = some (.bool a0_6) := (blk_cell BK250.out 6).trans rfl
        have hcz16_7 : wr.cell? ⟨gb250, 7, none⟩ = some (.slice A0_7 l0_7.length c0_7) := (blk_cell BK250.out 7).trans rfl
        have hfz16_0 := blk_frozen BK250.out 0
        have hfz16_1 := blk_frozen BK250.out 1
        have hfz16_2 := blk_frozen BK250.out 2
        have hfz16_3 := blk_frozen BK250.out 3
        have hfz16_4 := blk_frozen BK250.out 4
        have hfz16_5 := blk_frozen BK250.out 5
        have hfz16_6 := blk_frozen BK250.out 6
        have hfz16_7 := blk_frozen BK250.out 7
        try go_wp2
        have n0_ := Aside0.mk (Kd.R_drew HO_253007.out)
        have n1_ := Aside0.mk (blk_drew BK250.out)
        have n2_ := Aside0.mk (blk_drew BK251.out)
        have n3_ := Aside0.mk (blk_drew BK252.out)
        have n4_ := Aside0.mk (below_drew1 HB.out)
        clear HO_253007
        clear BK250
        clear BK251
        clear BK252
        clear HB
        have HO_253007 := n0_
        have BK250 := n1_
        have BK251 := n2_
        have BK252 := n3_
        have HB := n4_
        clear n0_ n1_ n2_ n3_ n4_
        have p253 : 0 ≤ (x4_1 : Int) := of_decide_eq_true (by first | (with_reducible assumption) | assumption)
        have q253 : x4_1 < (l0_7.length : Int) := of_decide_eq_true (by first | (with_reducible assumption) | assumption)
        obtain ⟨ad253, A253_7, c253_7, e253, hx253_0, hx253_1, hx253_2, hx253_3, hx253_4, hx253_5, hx253_6, hx253_7, hl253_7, hi253_7⟩ := at_T26 HR0_7.out x4_1 p253 q253
        have hw253_7 := hx253_7
        have hw253_6 := hx253_6
        have hw253_5 := hx253_5
        have hw253_4 := hx253_4
        have hw253_3 := hx253_3
        have hw253_2 := hx253_2
        have hw253_1 := hx253_1
        have hw253_0 := hx253_0
        cases e253
        replace hx253_0 := (HB.out.cell (World.block_lt_of_cell? w _ hx253_0)).trans hx253_0
        replace hx253_1 := (HB.out.cell (World.block_lt_of_cell? w _ hx253_1)).trans hx253_1
        replace hx253_2 := (HB.out.cell (World.block_lt_of_cell? w _ hx253_2)).trans hx253_2
        replace hx253_3 := (HB.out.cell (World.block_lt_of_cell? w _ hx253_3)).trans hx253_3
        replace hx253_4 := (HB.out.cell (World.block_lt_of_cell? w _ hx253_4)).trans hx253_4
        replace hx253_5 := (HB.out.cell (World.block_lt_of_cell? w _ hx253_5)).trans hx253_5
        replace hx253_6 := (HB.out.cell (World.block_lt_of_cell? w _ hx253_6)).trans hx253_6
        replace hx253_7 := (HB.out.cell (World.block_lt_of_cell? w _ hx253_7)).trans hx253_7
        have HR253_7 := Aside0.mk hi253_7
        have HC253_7 := Aside0.mk hl253_7
        clear hi253_7 hl253_7
        replace p253 := eq_true p253
        replace q253 := eq_true q253
        refine start_ (n := 12) (S := fun w' => w'.cell? ⟨gb252, 0, none⟩ = some (.string a0_0) ∧ w'.cell? ⟨gb252, 1, none⟩ = some (.int .i64 a0_1) ∧ w'.cell? ⟨gb252, 2, none⟩ = some (.int .i64 a0_2) ∧ w'.cell? ⟨gb252, 3, none⟩ = some (.int .i64 a0_3) ∧ w'.cell? ⟨gb252, 4, none⟩ = some (.int .i64 a0_4) ∧ w'.cell? ⟨gb252, 5, none⟩ = some (.string a0_5) ∧ w'.cell? ⟨gb252, 6, none⟩ = some (.bool a0_6) ∧ w'.cell? ⟨gb252, 7, none⟩ = some (u253007) ∧ w'.cell? ⟨gb250, 0, none⟩ = some (.string a0_0) ∧ w'.cell? ⟨gb250, 1, none⟩ = some (.int .i64 a0_1) ∧ w'.cell? ⟨gb250, 2, none⟩ = some (.int .i64 a0_2) ∧ w'.cell? ⟨gb250, 3, none⟩ = some (.int .i64 a0_3) ∧ w'.cell? ⟨gb250, 4, none⟩ = some (.int .i64 a0_4) ∧ w'.cell? ⟨gb250, 5, none⟩ = some (.string a0_5) ∧ w'.cell? ⟨gb250, 6, none⟩ = some (.bool a0_6) ∧ w'.cell? ⟨gb250, 7, none⟩ = some (.slice (some ad253) l0_7.length c0_7) ∧ w'.cell? (ad253.add ((x4_1).toNat * 8)) = some (.string ((rd_T26 l0_7 x4_1).f0)) ∧ w'.cell? ⟨(ad253.add ((x4_1).toNat * 8)).block, (ad253.add ((x4_1).toNat * 8)).off + 1, none⟩ = some (.int .i64 ((rd_T26 l0_7 x4_1).f1)) ∧ w'.cell? ⟨(ad253.add ((x4_1).toNat * 8)).block, (ad253.add ((x4_1).toNat * 8)).off + 2, none⟩ = some (.int .i64 ((rd_T26 l0_7 x4_1).f2)) ∧ w'.cell? ⟨(ad253.add ((x4_1).toNat * 8)).block, (ad253.add ((x4_1).toNat * 8)).off + 3, none⟩ = some (.int .i64 ((rd_T26 l0_7 x4_1).f3.f0)) ∧ w'.cell? ⟨(ad253.add ((x4_1).toNat * 8)).block, (ad253.add ((x4_1).toNat * 8)).off + 4, none⟩ = some (.int .i64 ((rd_T26 l0_7 x4_1).f3.f1)) ∧ w'.cell? ⟨(ad253.add ((x4_1).toNat * 8)).block, (ad253.add ((x4_1).toNat * 8)).off + 5, none⟩ = some (.string ((rd_T26 l0_7 x4_1).f3.f2)) ∧ w'.cell? ⟨(ad253.add ((x4_1).toNat * 8)).block, (ad253.add ((x4_1).toNat * 8)).off + 6, none⟩ = some (.bool ((rd_T26 l0_7 x4_1).f3.f3)) ∧ w'.cell? ⟨(ad253.add ((x4_1).toNat * 8)).block, (ad253.add ((x4_1).toNat * 8)).off + 7, none⟩ = some (.slice A253_7 ((rd_T26 l0_7 x4_1).f4).length c253_7)) (ds := [11]) #[false, false, false, false, false, false, false, false, false, false, false, false] (by kernel_rfl) rfl rfl ⟨(blk_cell BK252.out 0).trans rfl, (blk_cell BK252.out 1).trans rfl, (blk_cell BK252.out 2).trans rfl, (blk_cell BK252.out 3).trans rfl, (blk_cell BK252.out 4).trans rfl, (blk_cell BK252.out 5).trans rfl, (blk_cell BK252.out 6).trans rfl, (blk_cell BK252.out 7).trans rfl, (blk_cell BK250.out 0).trans rfl, (blk_cell BK250.out 1).trans rfl, (blk_cell BK250.out 2).trans rfl, (blk_cell BK250.out 3).trans rfl, (blk_cell BK250.out 4).trans rfl, (blk_cell BK250.out 5).trans rfl, (blk_cell BK250.out 6).trans rfl, (blk_cell BK250.out 7).trans rfl, ((HB.out.cell (World.block_lt_of_cell? w _ hw253_0)).trans hw253_0), ((HB.out.cell (World.block_lt_of_cell? w _ hw253_1)).trans hw253_1), ((HB.out.cell (World.block_lt_of_cell? w _ hw253_2)).trans hw253_2), ((HB.out.cell (World.block_lt_of_cell? w _ hw253_3)).trans hw253_3), ((HB.out.cell (World.block_lt_of_cell? w _ hw253_4)).trans hw253_4), ((HB.out.cell (World.block_lt_of_cell? w _ hw253_5)).trans hw253_5), ((HB.out.cell (World.block_lt_of_cell? w _ hw253_6)).trans hw253_6), ((HB.out.cell (World.block_lt_of_cell? w _ hw253_7)).trans hw253_7)⟩ (fun hHeld => ?_); refine with_tabW barbicanlaw22_give.tab5 barbicanlaw22_give.bits5 (fun HT_ HW_ => ?_)
        generalize wr.drew = w17 at HO_253007 BK250 BK251 BK252 HB HR253_7 hx253_0 hx253_1 hx253_2 hx253_3 hx253_4 hx253_5 hx253_6 hx253_7 hHeld ⊢
        refine pure_ (i := 0) (N := some 21) (v := ?_) (a' := ?_) #[true, false, false, false, false, false, false, false, false, false, false, false] rfl rfl (any_of HT_.out (by kernel_rfl)) (fun _ _ _ h => h) (Or.inl ⟨by rfl, ?_⟩) ?_ ?_
        rotate_left
        · intro w'
          go_simp
          with_reducible rfl
        rotate_left
        · simp only [Act.put, List.setIfInBounds_toArray, List.set_cons_zero, List.set_cons_succ, i64_w, i32_w]
          rfl
        refine pure_ (i := 2) (N := some 23) (v := ?_) (a' := ?_) #[true, false, true, false, false, false, false, false, false, false, false, false] rfl rfl (any_of HT_.out (by kernel_rfl)) (fun _ _ _ h => h) (Or.inl ⟨by rfl, ?_⟩) ?_ ?_
        rotate_left
        · intro w'
          go_simp
          with_reducible rfl
        rotate_left
        · simp only [Act.put, List.setIfInBounds_toArray, List.set_cons_zero, List.set_cons_succ, i64_w, i32_w]
          rfl
        refine pure_ (i := 4) (N := some 25) (v := ?_) (a' := ?_) #[true, false, true, false, true, false, false, false, false, false, false, false] rfl rfl (any_of HT_.out (by kernel_rfl)) (fun _ _ _ h => h) (Or.inl ⟨by rfl, ?_⟩) ?_ ?_
        rotate_left
        · intro w'
          go_simp
          with_reducible rfl
        rotate_left
        · simp only [Act.put, List.setIfInBounds_toArray, List.set_cons_zero, List.set_cons_succ, i64_w, i32_w]
          rfl
        refine take_ (i := 1) (N := some 22) (v := ?_) (a' := ?_) #[true, true, true, false, true, false, false, false, false, false, false, false] rfl rfl (take_ofW HT_.out HW_.out (by kernel_rfl)) (fun _ _ _ h => h) (Or.inl ⟨by rfl, ?_⟩) hHeld ?_ ?_
        rotate_left
        · rintro w' ⟨s0, s1, s2, s3, s4, s5, s6, s7, s8, s9, s10, s11, s12, s13, s14, s15, s16, s17, s18, s19, s20, s21, s22, s23⟩
          go_simp
          with_reducible rfl
        rotate_left
        · simp only [Act.put, List.setIfInBounds_toArray, List.set_cons_zero, List.set_cons_succ, i64_w, i32_w]
          rfl
        refine take_ (i := 3) (N := some 24) (v := ?_) (a' := ?_) #[true, true, true, true, true, false, false, false, false, false, false, false] rfl rfl (take_ofW HT_.out HW_.out (by kernel_rfl)) (fun _ _ _ h => h) (Or.inl ⟨by rfl, ?_⟩) hHeld ?_ ?_
        rotate_left
        · rintro w' ⟨s0, s1, s2, s3, s4, s5, s6, s7, s8, s9, s10, s11, s12, s13, s14, s15, s16, s17, s18, s19, s20, s21, s22, s23⟩
          go_simp
          with_reducible rfl
        rotate_left
        · simp only [Act.put, List.setIfInBounds_toArray, List.set_cons_zero, List.set_cons_succ, i64_w, i32_w]
          rfl
        refine pure_ (i := 5) (N := some 26) (v := ?_) (a' := ?_) #[true, true, true, true, true, true, false, false, false, false, false, false] rfl rfl (any_of HT_.out (by kernel_rfl)) (fun _ _ _ h => h) (Or.inl ⟨by rfl, ?_⟩) ?_ ?_
        rotate_left
        · intro w'
          go_simp
          with_reducible rfl
        rotate_left
        · simp only [Act.put, List.setIfInBounds_toArray, List.set_cons_zero, List.set_cons_succ, i64_w, i32_w]
          rfl
        refine take_ (i := 6) (N := some 27) (v := ?_) (a' := ?_) #[true, true, true, true, true, true, true, false, false, false, false, false] rfl rfl (take_ofW HT_.out HW_.out (by kernel_rfl)) (fun _ _ _ h => h) (Or.inl ⟨by rfl, ?_⟩) hHeld ?_ ?_
        rotate_left
        · rintro w' ⟨s0, s1, s2, s3, s4, s5, s6, s7, s8, s9, s10, s11, s12, s13, s14, s15, s16, s17, s18, s19, s20, s21, s22, s23⟩
          go_simp
          with_reducible rfl
        rotate_left
        · simp only [Act.put, List.setIfInBounds_toArray, List.set_cons_zero, List.set_cons_succ, i64_w, i32_w]
          rfl
        refine one_ (i := 7) (N := some 28) #[true, true, true, true, true, true, true, true, false, false, false, false] rfl rfl (one_of HT_.out (by kernel_rfl)) (by decide) (fun K hK => ?_)
        refine goes_ Try.func14 (by kernel_rfl) rfl #[.agg #[.string ((rd_T26 l0_7 x4_1).f0), .int .i64 ((rd_T26 l0_7 x4_1).f1), .int .i64 ((rd_T26 l0_7 x4_1).f2), .int .i64 ((rd_T26 l0_7 x4_1).f3.f0), .int .i64 ((rd_T26 l0_7 x4_1).f3.f1), .string ((rd_T26 l0_7 x4_1).f3.f2), .bool ((rd_T26 l0_7 x4_1).f3.f3), .slice A253_7 ((rd_T26 l0_7 x4_1).f4).length c253_7]] (by rfl) rfl rfl (by (try simp only [List.map_toArray, List.map_cons, List.map_nil]); first | done | rfl | (simp only [List.length_drop, List.length_take]; rfl)) ?_
        with_reducible refine (ih k1 (by have := HK1.out; omega) ((rd_T26 l0_7 x4_1).f0) ((rd_T26 l0_7 x4_1).f1) ((rd_T26 l0_7 x4_1).f2) ((rd_T26 l0_7 x4_1).f3.f0) ((rd_T26 l0_7 x4_1).f3.f1) ((rd_T26 l0_7 x4_1).f3.f2) ((rd_T26 l0_7 x4_1).f3.f3) _ _ ((rd_T26 l0_7 x4_1).f4) t254 t255 t256 t257 t258 t259 t260 t261 _ ?side1 ?side2 A12.out).mono ?_
        (case side1 => repeat (first | exact (Kd.C_below HR253_7.out HB.out) | (with_reducible refine Kd.C_alloc ?_ _) | (with_reducible refine Kd.C_drewN ?_ _) | (with_reducible refine Kd.C_drew ?_)))
        (case side2 => exact HC253_7.out)
        rintro e w18 ⟨v262, rfl, ho0, hb⟩
        refine ⟨_, rfl, ?_⟩
        have n0_ := Aside0.mk (Kd.R_elder' (kR_ HO_253007.out) (Kd.R_base ho0) hb)
        have n1_ := Aside0.mk (Kd.R_lower (Kd.R_newB (Kd.R_newB (Kd.R_new' ho0 (Kd.R_lt (kR_ HO_253007.out))) (g := gb251) (o := .cells #[.string (⟨#[]⟩ : ByteArray), .int .i64 0, .int .i64 0, .int .i64 0, .int .i64 0, .string (⟨#[]⟩ : ByteArray), .bool false, .slice none 0 0] 43 (0, 0)) (bl_ BK251.out)) (g := gb252) (o := .cells #[.string a0_0, .int .i64 a0_1, .int .i64 a0_2, .int .i64 a0_3, .int .i64 a0_4, .string a0_5, .bool a0_6, u253007] 43 (0, 0)) (bl_ BK252.out)) (below_size (bw_ HB.out)))
        have n2_ := Aside0.mk (blk_below (g := gb250) (o := .cells #[.string a0_0, .int .i64 a0_1, .int .i64 a0_2, .int .i64 a0_3, .int .i64 a0_4, .string a0_5, .bool a0_6, .slice (some ad253) l0_7.length c0_7] 26 (0, 0)) (bl_ BK250.out) hb)
        have n3_ := Aside0.mk (blk_below (g := gb251) (o := .cells #[.string (⟨#[]⟩ : ByteArray), .int .i64 0, .int .i64 0, .int .i64 0, .int .i64 0, .string (⟨#[]⟩ : ByteArray), .bool false, .slice none 0 0] 43 (0, 0)) (bl_ BK251.out) hb)
        have n4_ := Aside0.mk (blk_below (g := gb252) (o := .cells #[.string a0_0, .int .i64 a0_1, .int .i64 a0_2, .int .i64 a0_3, .int .i64 a0_4, .string a0_5, .bool a0_6, u253007] 43 (0, 0)) (bl_ BK252.out) hb)
        have n5_ := Aside0.mk (below_step (bw_ HB.out) hb)
        clear HO_253007
        clear BK250
        clear BK251
        clear BK252
        clear HB
        have HO_253007 := n0_
        have HO263 := n1_
        have BK250 := n2_
        have BK251 := n3_
        have BK252 := n4_
        have HB := n5_
        clear n0_ n1_ n2_ n3_ n4_ n5_
        (try clear hb); (try clear hb2); (try clear hk); (try clear hi); (try clear ho0)
        obtain ⟨Ao20, co20, eo20⟩ := Kd.R_slice HO263.out
        (first | subst eo20 | (injection eo20 with f1_ f2_ f3_; have f4_ := f1_.symm; have f5_ := f3_.symm; clear f1_ f2_ f3_; subst f4_; subst f5_))
        refine hK.out _ _ ⟨(blk_cell BK252.out 0).trans rfl, (blk_cell BK252.out 1).trans rfl, (blk_cell BK252.out 2).trans rfl, (blk_cell BK252.out 3).trans rfl, (blk_cell BK252.out 4).trans rfl, (blk_cell BK252.out 5).trans rfl, (blk_cell BK252.out 6).trans rfl, (blk_cell BK252.out 7).trans rfl, (blk_cell BK250.out 0).trans rfl, (blk_cell BK250.out 1).trans rfl, (blk_cell BK250.out 2).trans rfl, (blk_cell BK250.out 3).trans rfl, (blk_cell BK250.out 4).trans rfl, (blk_cell BK250.out 5).trans rfl, (blk_cell BK250.out 6).trans rfl, (blk_cell BK250.out 7).trans rfl, ((HB.out.cell (World.block_lt_of_cell? w _ hw253_0)).trans hw253_0), ((HB.out.cell (World.block_lt_of_cell? w _ hw253_1)).trans hw253_1), ((HB.out.cell (World.block_lt_of_cell? w _ hw253_2)).trans hw253_2), ((HB.out.cell (World.block_lt_of_cell? w _ hw253_3)).trans hw253_3), ((HB.out.cell (World.block_lt_of_cell? w _ hw253_4)).trans hw253_4), ((HB.out.cell (World.block_lt_of_cell? w _ hw253_5)).trans hw253_5), ((HB.out.cell (World.block_lt_of_cell? w _ hw253_6)).trans hw253_6), ((HB.out.cell (World.block_lt_of_cell? w _ hw253_7)).trans hw253_7)⟩ (fun hHeld => ?_)
        clear hK K
        refine norm_ (a' := ?_) ?_ ?_
        rotate_left
        · show Act.put _ (some 28) _ = _
          simp only [Act.put, List.setIfInBounds_toArray, List.set_cons_zero, List.set_cons_succ, i64_w, i32_w]
          rfl
        refine one_ (i := 8) (N := some 29) #[true, true, true, true, true, true, true, true, true, false, false, false] rfl rfl (one_of HT_.out (by kernel_rfl)) (by decide) (fun K hK => ?_)
        refine value_ (w1 := ?_) (v := ?_) (by rfl) rfl ?_ ?_
        rotate_left 2
        · go_simp
          constructor
          · rfl
          rfl
        refine hK.out _ _ ⟨(blk_cell (blk_alloc BK252.out _) 0).trans rfl, (blk_cell (blk_alloc BK252.out _) 1).trans rfl, (blk_cell (blk_alloc BK252.out _) 2).trans rfl, (blk_cell (blk_alloc BK252.out _) 3).trans rfl, (blk_cell (blk_alloc BK252.out _) 4).trans rfl, (blk_cell (blk_alloc BK252.out _) 5).trans rfl, (blk_cell (blk_alloc BK252.out _) 6).trans rfl, (blk_cell (blk_alloc BK252.out _) 7).trans rfl, (blk_cell (blk_alloc BK250.out _) 0).trans rfl, (blk_cell (blk_alloc BK250.out _) 1).trans rfl, (blk_cell (blk_alloc BK250.out _) 2).trans rfl, (blk_cell (blk_alloc BK250.out _) 3).trans rfl, (blk_cell (blk_alloc BK250.out _) 4).trans rfl, (blk_cell (blk_alloc BK250.out _) 5).trans rfl, (blk_cell (blk_alloc BK250.out _) 6).trans rfl, (blk_cell (blk_alloc BK250.out _) 7).trans rfl, (World.cell?_alloc_lt _ _ _ (World.block_lt_of_cell? _ _ (((HB.out.cell (World.block_lt_of_cell? w _ hw253_0)).trans hw253_0)))).trans (((HB.out.cell (World.block_lt_of_cell? w _ hw253_0)).trans hw253_0)), (World.cell?_alloc_lt _ _ _ (World.block_lt_of_cell? _ _ (((HB.out.cell (World.block_lt_of_cell? w _ hw253_1)).trans hw253_1)))).trans (((HB.out.cell (World.block_lt_of_cell? w _ hw253_1)).trans hw253_1)), (World.cell?_alloc_lt _ _ _ (World.block_lt_of_cell? _ _ (((HB.out.cell (World.block_lt_of_cell? w _ hw253_2)).trans hw253_2)))).trans (((HB.out.cell (World.block_lt_of_cell? w _ hw253_2)).trans hw253_2)), (World.cell?_alloc_lt _ _ _ (World.block_lt_of_cell? _ _ (((HB.out.cell (World.block_lt_of_cell? w _ hw253_3)).trans hw253_3)))).trans (((HB.out.cell (World.block_lt_of_cell? w _ hw253_3)).trans hw253_3)), (World.cell?_alloc_lt _ _ _ (World.block_lt_of_cell? _ _ (((HB.out.cell (World.block_lt_of_cell? w _ hw253_4)).trans hw253_4)))).trans (((HB.out.cell (World.block_lt_of_cell? w _ hw253_4)).trans hw253_4)), (World.cell?_alloc_lt _ _ _ (World.block_lt_of_cell? _ _ (((HB.out.cell (World.block_lt_of_cell? w _ hw253_5)).trans hw253_5)))).trans (((HB.out.cell (World.block_lt_of_cell? w _ hw253_5)).trans hw253_5)), (World.cell?_alloc_lt _ _ _ (World.block_lt_of_cell? _ _ (((HB.out.cell (World.block_lt_of_cell? w _ hw253_6)).trans hw253_6)))).trans (((HB.out.cell (World.block_lt_of_cell? w _ hw253_6)).trans hw253_6)), (World.cell?_alloc_lt _ _ _ (World.block_lt_of_cell? _ _ (((HB.out.cell (World.block_lt_of_cell? w _ hw253_7)).trans hw253_7)))).trans (((HB.out.cell (World.block_lt_of_cell? w _ hw253_7)).trans hw253_7))⟩ (fun hHeld => ?_)
        clear hK K
        refine norm_ (a' := ?_) ?_ ?_
        rotate_left
        · show Act.put _ (some 29) _ = _
          simp only [Act.put, List.setIfInBounds_toArray, List.set_cons_zero, List.set_cons_succ, i64_w, i32_w]
          rfl
        refine one_ (i := 9) (N := some 30) #[true, true, true, true, true, true, true, true, true, true, false, false] rfl rfl (one_of HT_.out (by kernel_rfl)) (by decide) (fun K hK => ?_)
        refine Kd.R_append_step k43 (w0 := w) w.heap.size (by rfl) (.tmp 22) (.tmp 29) 37 43 (.agg #[(.string ⟨#[]⟩), (.int .i64 0), (.int .i64 0), (.int .i64 0), (.int .i64 0), (.string ⟨#[]⟩), (.bool false), (.slice none 0 0)]) 96 rfl Try.underlying37 info43 rfl (by decide) (by omega) u253007 x253007_1 (⟨t254, t255, t256, (⟨t257, t258, t259, t260⟩ : S24), t261⟩ : S43) [.string t254, .int .i64 t255, .int .i64 t256, .int .i64 t257, .int .i64 t258, .string t259, .bool t260, .slice Ao20 t261.length co20] (fun k_ => k_ ≠ gb251 ∧ k_ ≠ gb252) (fun k_ => ((fun k_ => k_ ≠ gb251 ∧ k_ ≠ gb252)) k_ ∧ some k_ ≠ (u253007 : Value).ownBlock) rfl rfl ?aP (fun _ hk => hk) ?aF ?aO ?aB ?aS ?aL ?_
        (case aP => exact k43_mkM _ _ _ (⟨t254, t255, t256, (⟨t257, t258, t259, t260⟩ : S24), t261⟩ : S43) (Kd.R_mono (HO263.out) (fun k_ hk => ⟨⟨hk.1.2, hk.2⟩, hk.1.1.2⟩)))
        (case aB => exact (bw_ HB.out))
        (case aF => exact (fun k_ hk => ⟨Kd.freshB (g := gb251) (o := .cells #[.string (⟨#[]⟩ : ByteArray), .int .i64 0, .int .i64 0, .int .i64 0, .int .i64 0, .string (⟨#[]⟩ : ByteArray), .bool false, .slice none 0 0] 43 (0, 0)) (bl_ BK251.out) k_ hk, Kd.freshB (g := gb252) (o := .cells #[.string a0_0, .int .i64 a0_1, .int .i64 a0_2, .int .i64 a0_3, .int .i64 a0_4, .string a0_5, .bool a0_6, u253007] 43 (0, 0)) (bl_ BK252.out) k_ hk⟩))
        (case aO => exact (by (with_reducible repeat (first | apply Kd.R_alloc | apply Kd.R_drewN | apply Kd.R_drew)); exact Kd.R_mono HO_253007.out (fun _ hk => ⟨hk.1.1, hk.1.2⟩)))
        (case aS => exact (below_size (bw_ HB.out)))
        (case aL => have := LMc13.out; omega)
        intro v265 w19 ho hb hg hat
        rw [← Ny264.out] at ho
        have n0_ := Aside0.mk (blk_grown (g := gb250) (o := .cells #[.string a0_0, .int .i64 a0_1, .int .i64 a0_2, .int .i64 a0_3, .int .i64 a0_4, .string a0_5, .bool a0_6, .slice (some ad253) l0_7.length c0_7] 26 (0, 0)) (bl_ BK250.out) hg (Kd.R_ne HO_253007.out BK250.out (by decide)))
        have n1_ := Aside0.mk (blk_grown (g := gb251) (o := .cells #[.string (⟨#[]⟩ : ByteArray), .int .i64 0, .int .i64 0, .int .i64 0, .int .i64 0, .string (⟨#[]⟩ : ByteArray), .bool false, .slice none 0 0] 43 (0, 0)) (bl_ BK251.out) hg (Kd.R_away HO_253007.out (fun _ hk => hk.1.1)))
        have n2_ := Aside0.mk (blk_grown (g := gb252) (o := .cells #[.string a0_0, .int .i64 a0_1, .int .i64 a0_2, .int .i64 a0_3, .int .i64 a0_4, .string a0_5, .bool a0_6, u253007] 43 (0, 0)) (bl_ BK252.out) hg (Kd.R_away HO_253007.out (fun _ hk => hk.1.2)))
        have n3_ := Aside0.mk (hb)
        have n4_ := Aside0.mk (ho)
        clear BK250
        clear BK251
        clear BK252
        clear HB
        clear HO_253007
        clear HO263
        have BK250 := n0_
        have BK251 := n1_
        have BK252 := n2_
        have HB := n3_
        have HO266 := n4_
        clear n0_ n1_ n2_ n3_ n4_
        clear ho hb hg hat
        obtain ⟨Ao21, co21, eo21⟩ := Kd.R_slice HO266.out
        (first | subst eo21 | (injection eo21 with f1_ f2_ f3_; have f4_ := f1_.symm; have f5_ := f3_.symm; clear f1_ f2_ f3_; subst f4_; subst f5_))
        refine hK.out _ _ ⟨(blk_cell BK252.out 0).trans rfl, (blk_cell BK252.out 1).trans rfl, (blk_cell BK252.out 2).trans rfl, (blk_cell BK252.out 3).trans rfl, (blk_cell BK252.out 4).trans rfl, (blk_cell BK252.out 5).trans rfl, (blk_cell BK252.out 6).trans rfl, (blk_cell BK252.out 7).trans rfl, (blk_cell BK250.out 0).trans rfl, (blk_cell BK250.out 1).trans rfl, (blk_cell BK250.out 2).trans rfl, (blk_cell BK250.out 3).trans rfl, (blk_cell BK250.out 4).trans rfl, (blk_cell BK250.out 5).trans rfl, (blk_cell BK250.out 6).trans rfl, (blk_cell BK250.out 7).trans rfl, ((HB.out.cell (World.block_lt_of_cell? w _ hw253_0)).trans hw253_0), ((HB.out.cell (World.block_lt_of_cell? w _ hw253_1)).trans hw253_1), ((HB.out.cell (World.block_lt_of_cell? w _ hw253_2)).trans hw253_2), ((HB.out.cell (World.block_lt_of_cell? w _ hw253_3)).trans hw253_3), ((HB.out.cell (World.block_lt_of_cell? w _ hw253_4)).trans hw253_4), ((HB.out.cell (World.block_lt_of_cell? w _ hw253_5)).trans hw253_5), ((HB.out.cell (World.block_lt_of_cell? w _ hw253_6)).trans hw253_6), ((HB.out.cell (World.block_lt_of_cell? w _ hw253_7)).trans hw253_7)⟩ (fun hHeld => ?_)
        clear hK K
        refine norm_ (a' := ?_) ?_ ?_
        rotate_left
        · show Act.put _ (some 30) _ = _
          simp only [Act.put, List.setIfInBounds_toArray, List.set_cons_zero, List.set_cons_succ, i64_w, i32_w]
          rfl
        refine pure_ (i := 10) (N := some 31) (v := ?_) (a' := ?_) #[true, true, true, true, true, true, true, true, true, true, true, false] rfl rfl (any_of HT_.out (by kernel_rfl)) (fun _ _ _ h => h) (Or.inl ⟨by rfl, ?_⟩) ?_ ?_
        rotate_left
        · intro w'
          go_simp
          with_reducible rfl
        rotate_left
        · simp only [Act.put, List.setIfInBounds_toArray, List.set_cons_zero, List.set_cons_succ, i64_w, i32_w]
          rfl
        refine last_ (i := 11) (N := none) #[true, true, true, true, true, true, true, true, true, true, true, true] rfl rfl (one_of HT_.out (by kernel_rfl)) (by decide) (fun K hK => ?_)
        have hs22 : w19.cell? ⟨gb252, 7, none⟩ = some (u253007) := (blk_cell BK252.out 7).trans rfl
        have hfs22 := blk_frozen BK252.out 7
        have hns22_0 := NB250_252.out
        have hns22_1 := NB251_252.out
        have hms22_0 := NB252_250.out
        have hms22_1 := NB252_251.out
        refine skip_ (w1 := ?_) ?sh1 ?sh2 ?_ ?_
        case sh1 => rfl
        case sh2 => rfl
        rotate_left
        · go_simp
          rfl
        refine hK.out _ _ ?_
        clear hK K
        refine done_ (done_of HT_.out (by kernel_rfl)) ?_
        try go_wp2
        go_roundg k1
        case measure => have := HK1.out; omega
        case rel => exact ⟨(wrap64 (x4_1 + 1)), (y264), (.slice Ao21 y264.length co21), (by first | rfl | (simp; done) | (simp [*]; done) | (simp [bne]; done)), H', ⟨by have := HK1.out; omega⟩, ⟨by (with_reducible repeat (first | apply Kd.R_alloc | apply Kd.R_drewN | apply Kd.R_drew)); exact Kd.R_mono (Kd.R_far (p := ⟨gb252, 7, none⟩) (Kd.R_mono HO266.out (fun k_ hk => (⟨hk, hk.2⟩ : _ ∧ k_ ≠ gb252))) (fun _ hk => hk.2) (.slice Ao21 y264.length co21)) (fun _ hk => ⟨hk.1.1, hk.1.2⟩)⟩, ⟨by (with_reducible repeat (first | refine blk_drewN ?_ _ | refine blk_drew ?_ | refine blk_alloc ?_ _)); refine blk_far ?_ NB250_252.out _; (with_reducible repeat (first | refine blk_drewN ?_ _ | refine blk_drew ?_ | refine blk_alloc ?_ _)); exact BK250.out⟩, ⟨by (with_reducible repeat (first | refine blk_drewN ?_ _ | refine blk_drew ?_ | refine blk_alloc ?_ _)); refine blk_far ?_ NB251_252.out _; (with_reducible repeat (first | refine blk_drewN ?_ _ | refine blk_drew ?_ | refine blk_alloc ?_ _)); exact BK251.out⟩, ⟨by (with_reducible repeat (first | refine blk_drewN ?_ _ | refine blk_drew ?_ | refine blk_alloc ?_ _)); refine blk_put (cs := #[.string a0_0, .int .i64 a0_1, .int .i64 a0_2, .int .i64 a0_3, .int .i64 a0_4, .string a0_5, .bool a0_6, u253007]) ?_ 7 _ rfl; (with_reducible repeat (first | refine blk_drewN ?_ _ | refine blk_drew ?_ | refine blk_alloc ?_ _)); exact BK252.out⟩, ⟨bw_ HB.out⟩⟩
      rw [if_neg c10] at H
      have c10b0 : decide (x4_1 < (l0_7.length : Int)) = false := decide_eq_false c10
      clear c10
      simp only [Option.some.injEq, Prod.mk.injEq] at H
      obtain ⟨rfl, rfl, rfl, rfl, rfl, rfl, rfl, rfl⟩ := H
      have hnb23 := NB250_251.out
      have hnc23 := NB251_250.out
      have hnb24 := NB250_252.out
      have hnc24 := NB252_250.out
      have hcz25_0 : wr.cell? ⟨gb250, 0, none⟩ = some (.string a0_0) := (blk_cell BK250.out 0).trans rfl
      have hcz25_1 : wr.cell? ⟨gb250, 1, none⟩ = some (.int .i64 a0_1) := (blk_cell BK250.out 1).trans rfl
      have hcz25_2 : wr.cell? ⟨gb250, 2, none⟩ = some (.int .i64 a0_2) := (blk_cell BK250.out 2).trans rfl
      have hcz25_3 : wr.cell? ⟨gb250, 3, none⟩ = some (.int .i64 a0_3) := (blk_cell BK250.out 3).trans rfl
      have hcz25_4 : wr.cell? ⟨gb250, 4, none⟩ = some (.int .i64 a0_4) := (blk_cell BK250.out 4).trans rfl
      have hcz25_5 : wr.cell? ⟨gb250, 5, none⟩ = some (.string a0_5) := (blk_cell BK250.out 5).trans rfl
      have hcz25_6 : wr.cell? ⟨gb250, 6, none⟩ = some (.bool a0_6) := (blk_cell BK250.out 6).trans rfl
      have hcz25_7 : wr.cell? ⟨gb250, 7, none⟩ = some (.slice A0_7 l0_7.length c0_7) := (blk_cell BK250.out 7).trans rfl
      have hfz25_0 := blk_frozen BK250.out 0
      have hfz25_1 := blk_frozen BK250.out 1
      have hfz25_2 := blk_frozen BK250.out 2
      have hfz25_3 := blk_frozen BK250.out 3
      have hfz25_4 := blk_frozen BK250.out 4
      have hfz25_5 := blk_frozen BK250.out 5
      have hfz25_6 := blk_frozen BK250.out 6
      have hfz25_7 := blk_frozen BK250.out 7
      have hnb26 := NB252_251.out
      have hnc26 := NB251_252.out
      have hcz27_0 : wr.cell? ⟨gb252, 0, none⟩ = some (.string a0_0) := (blk_cell BK252.out 0).trans rfl
      have hcz27_1 : wr.cell? ⟨gb252, 1, none⟩ = some (.int .i64 a0_1) := (blk_cell BK252.out 1).trans rfl
      have hcz27_2 : wr.cell? ⟨gb252, 2, none⟩ = some (.int .i64 a0_2) := (blk_cell BK252.out 2).trans rfl
      have hcz27_3 : wr.cell? ⟨gb252, 3, none⟩ = some (.int .i64 a0_3) := (blk_cell BK252.out 3).trans rfl
      have hcz27_4 : wr.cell? ⟨gb252, 4, none⟩ = some (.int .i64 a0_4) := (blk_cell BK252.out 4).trans rfl
      have hcz27_5 : wr.cell? ⟨gb252, 5, none⟩ = some (.string a0_5) := (blk_cell BK252.out 5).trans rfl
      have hcz27_6 : wr.cell? ⟨gb252, 6, none⟩ = some (.bool a0_6) := (blk_cell BK252.out 6).trans rfl
      have hcz27_7 : wr.cell? ⟨gb252, 7, none⟩ = some (u253007) := (blk_cell BK252.out 7).trans rfl
      have hfz27_0 := blk_frozen BK252.out 0
      have hfz27_1 := blk_frozen BK252.out 1
      have hfz27_2 := blk_frozen BK252.out 2
      have hfz27_3 := blk_frozen BK252.out 3
      have hfz27_4 := blk_frozen BK252.out 4
      have hfz27_5 := blk_frozen BK252.out 5
      have hfz27_6 := blk_frozen BK252.out 6
      have hfz27_7 := blk_frozen BK252.out 7
      have hcz28_0 : wr.cell? ⟨gb251, 0, none⟩ = some (.string (⟨#[]⟩ : ByteArray)) := (blk_cell BK251.out 0).trans rfl
      have hcz28_1 : wr.cell? ⟨gb251, 1, none⟩ = some (.int .i64 0) := (blk_cell BK251.out 1).trans rfl
      have hcz28_2 : wr.cell? ⟨gb251, 2, none⟩ = some (.int .i64 0) := (blk_cell BK251.out 2).trans rfl
      have hcz28_3 : wr.cell? ⟨gb251, 3, none⟩ = some (.int .i64 0) := (blk_cell BK251.out 3).trans rfl
      have hcz28_4 : wr.cell? ⟨gb251, 4, none⟩ = some (.int .i64 0) := (blk_cell BK251.out 4).trans rfl
      have hcz28_5 : wr.cell? ⟨gb251, 5, none⟩ = some (.string (⟨#[]⟩ : ByteArray)) := (blk_cell BK251.out 5).trans rfl
      have hcz28_6 : wr.cell? ⟨gb251, 6, none⟩ = some (.bool false) := (blk_cell BK251.out 6).trans rfl
      have hcz28_7 : wr.cell? ⟨gb251, 7, none⟩ = some (.slice none 0 0) := (blk_cell BK251.out 7).trans rfl
      have hfz28_0 := blk_frozen BK251.out 0
      have hfz28_1 := blk_frozen BK251.out 1
      have hfz28_2 := blk_frozen BK251.out 2
      have hfz28_3 := blk_frozen BK251.out 3
      have hfz28_4 := blk_frozen BK251.out 4
      have hfz28_5 := blk_frozen BK251.out 5
      have hfz28_6 := blk_frozen BK251.out 6
      have hfz28_7 := blk_frozen BK251.out 7
      obtain ⟨Ao29, co29, eo29⟩ := Kd.R_slice HO_253007.out
      subst eo29
      go_wp2
      refine bodyPost_ret (results_cell_row rfl _ _ gb251 43 #[.string a0_0, .int .i64 a0_1, .int .i64 a0_2, .int .i64 a0_3, .int .i64 a0_4, .string a0_5, .bool a0_6, .slice Ao29 x253007_1.length co29] (0, 0) _ rfl (by (with_reducible repeat (first | refine blk_drewN ?_ _ | refine blk_drew ?_ | refine blk_alloc ?_ _)); refine blk_put (cs := #[.string a0_0, .int .i64 a0_1, .int .i64 a0_2, .int .i64 a0_3, .int .i64 a0_4, .string a0_5, .bool a0_6, .slice none 0 0]) ?_ 7 _ rfl; (with_reducible repeat (first | refine blk_drewN ?_ _ | refine blk_drew ?_ | refine blk_alloc ?_ _)); refine blk_put (cs := #[.string a0_0, .int .i64 a0_1, .int .i64 a0_2, .int .i64 a0_3, .int .i64 a0_4, .string a0_5, .bool false, .slice none 0 0]) ?_ 6 _ rfl; (with_reducible repeat (first | refine blk_drewN ?_ _ | refine blk_drew ?_ | refine blk_alloc ?_ _)); refine blk_put (cs := #[.string a0_0, .int .i64 a0_1, .int .i64 a0_2, .int .i64 a0_3, .int .i64 a0_4, .string (⟨#[]⟩ : ByteArray), .bool false, .slice none 0 0]) ?_ 5 _ rfl; (with_reducible repeat (first | refine blk_drewN ?_ _ | refine blk_drew ?_ | refine blk_alloc ?_ _)); refine blk_put (cs := #[.string a0_0, .int .i64 a0_1, .int .i64 a0_2, .int .i64 a0_3, .int .i64 0, .string (⟨#[]⟩ : ByteArray), .bool false, .slice none 0 0]) ?_ 4 _ rfl; (with_reducible repeat (first | refine blk_drewN ?_ _ | refine blk_drew ?_ | refine blk_alloc ?_ _)); refine blk_put (cs := #[.string a0_0, .int .i64 a0_1, .int .i64 a0_2, .int .i64 0, .int .i64 0, .string (⟨#[]⟩ : ByteArray), .bool false, .slice none 0 0]) ?_ 3 _ rfl; (with_reducible repeat (first | refine blk_drewN ?_ _ | refine blk_drew ?_ | refine blk_alloc ?_ _)); refine blk_put (cs := #[.string a0_0, .int .i64 a0_1, .int .i64 0, .int .i64 0, .int .i64 0, .string (⟨#[]⟩ : ByteArray), .bool false, .slice none 0 0]) ?_ 2 _ rfl; (with_reducible repeat (first | refine blk_drewN ?_ _ | refine blk_drew ?_ | refine blk_alloc ?_ _)); refine blk_put (cs := #[.string a0_0, .int .i64 0, .int .i64 0, .int .i64 0, .int .i64 0, .string (⟨#[]⟩ : ByteArray), .bool false, .slice none 0 0]) ?_ 1 _ rfl; (with_reducible repeat (first | refine blk_drewN ?_ _ | refine blk_drew ?_ | refine blk_alloc ?_ _)); refine blk_put (cs := #[.string (⟨#[]⟩ : ByteArray), .int .i64 0, .int .i64 0, .int .i64 0, .int .i64 0, .string (⟨#[]⟩ : ByteArray), .bool false, .slice none 0 0]) ?_ 0 _ rfl; (with_reducible repeat (first | refine blk_drewN ?_ _ | refine blk_drew ?_ | refine blk_alloc ?_ _)); exact BK251.out) Try.underlying43 rfl (by kernel_rfl)) rfl ?_
      exact ⟨_, by first | rfl | (simp [errW_none, errW_some] <;> rfl) | (simp [*, errW_none, errW_some] <;> rfl), by (with_reducible repeat (first | apply Kd.R_alloc | apply Kd.R_drewN | apply Kd.R_drew)); exact Kd.R_mono (Kd.R_far (p := ⟨gb251, 7, none⟩) (Kd.R_far (p := ⟨gb251, 6, none⟩) (Kd.R_far (p := ⟨gb251, 5, none⟩) (Kd.R_far (p := ⟨gb251, 4, none⟩) (Kd.R_far (p := ⟨gb251, 3, none⟩) (Kd.R_far (p := ⟨gb251, 2, none⟩) (Kd.R_far (p := ⟨gb251, 1, none⟩) (Kd.R_far (p := ⟨gb251, 0, none⟩) (Kd.R_mono HO_253007.out (fun k_ hk => (⟨hk, hk.1⟩ : _ ∧ k_ ≠ gb251))) (fun _ hk => hk.2) (.string a0_0)) (fun _ hk => hk.2) (.int .i64 a0_1)) (fun _ hk => hk.2) (.int .i64 a0_2)) (fun _ hk => hk.2) (.int .i64 a0_3)) (fun _ hk => hk.2) (.int .i64 a0_4)) (fun _ hk => hk.2) (.string a0_5)) (fun _ hk => hk.2) (.bool a0_6)) (fun _ hk => hk.2) (.slice Ao29 x253007_1.length co29)) (fun _ hk => trivial), bw_ HB.out⟩

/-! ### barbicanlaw22_gives: function 7 -/
def barbicanlaw22_gives.l0 : Nat → List (S26) → List (S43) → Int → Option ((List (S43)))
  | 0, _, _, _ => none
  | k + 1, x0, x3, x4 => if x4 < (x0.length : Int) then (if 0 ≤ x4 then ((barbicanlaw22_give.f k ((rd_T26 x0 x4).f0) ((rd_T26 x0 x4).f1) ((rd_T26 x0 x4).f2) ((rd_T26 x0 x4).f3.f0) ((rd_T26 x0 x4).f3.f1) ((rd_T26 x0 x4).f3.f2) ((rd_T26 x0 x4).f3.f3) ((rd_T26 x0 x4).f4)).bind fun bt268 => (if x3.length < 1466015503701 then (barbicanlaw22_gives.l0 k x0 (x3 ++ [(⟨bt268.1, bt268.2.1, bt268.2.2.1, (⟨bt268.2.2.2.1, bt268.2.2.2.2.1, bt268.2.2.2.2.2.1, bt268.2.2.2.2.2.2.1⟩ : S24), bt268.2.2.2.2.2.2.2⟩ : S43)]) (wrap64 (x4 + 1))) else (none))) else (none)) else (some x3)
def barbicanlaw22_gives.f (k : Nat) (l0 : List (S26)) : Option ((List (S43))) := barbicanlaw22_gives.l0 k l0 ([] : List (S43)) 0
set_option maxHeartbeats 8000000 in
set_option maxRecDepth 100000 in
theorem barbicanlaw22_gives.calls (k : Nat) (A0 : Option Addr) (c0 : Nat) (l0 : List (S26)) (r : List (S43)) (w : World) (hr0 : Kd.C k26 w A0 l0.length l0) (hc0 : l0.length ≤ c0) (h : barbicanlaw22_gives.f k l0 = some r) :
    Calls Try.prog 7 #[.slice A0 l0.length c0] w fun e w' => ∃ v0_ : Value, e = .returned (v0_) ∧ Kd.R k43 43 w' w.heap.size (fun _ => True) v0_ r ∧ Below w.heap.size w w' := by
  have hu26 := Try.underlying26
  have HR0 := Aside0.mk hr0
  have HC0 := Aside0.mk hc0
  clear hr0 hc0
  have HB := Aside0.mk (Below.refl w.heap.size w)
  have H : (barbicanlaw22_gives.l0 k l0 ([] : List (S43)) 0) = some r := h
  clear h
  have H' := Aside0.mk H
  clear H
  go_enter Try.func7, Try.ntmps7
  go_wp2
  go_loopg [3, 4] k (fun kq v3 v4 w' => ∃ (x3_1 : List (S43)) (x4_1 : Int), v4 = .int .i64 x4_1 ∧ Aside0 (barbicanlaw22_gives.l0 kq l0 x3_1 x4_1 = some r) ∧ Aside0 (kq ≤ k) ∧ Aside0 (Kd.R k43 43 w' w.heap.size (fun _ => True) v3 x3_1) ∧ Aside0 (Below w.heap.size w w'))
  case atStart => exact ⟨(([] : List (S43))), (0), (by first | rfl | (simp; done) | (simp [*]; done) | (simp [bne]; done)), H', ⟨Nat.le_refl _⟩, ⟨by first | exact Kd.R_nil _ _ _ _ _ | exact Kd.N_nil _ _ _ _ _ | exact Kd.V_nil _ _ _ _ _ | exact Kd.Q_nil _ _ _ _ _ | exact Kd.S_nil _ _ _ _ _⟩, ⟨bw_ HB.out⟩⟩
  case round =>
    clear H'
    obtain ⟨x3_1, x4_1, rfl, HA, HK1, HO_3, HB⟩ := hrel
    cases gk with
    | zero => exact absurd HA.out (by simp [barbicanlaw22_gives.l0])
    | succ k1 =>
      have H := HA.out
      clear HA
      simp only [barbicanlaw22_gives.l0] at H
      by_cases c2 : x4_1 < (l0.length : Int)
      · rw [if_pos c2] at H
        have c2b0 : decide (x4_1 < (l0.length : Int)) = true := decide_eq_true c2
        clear c2
        have c3 : 0 ≤ x4_1 := Classical.byContradiction fun c3 => by rw [if_neg c3] at H; exact absurd H (by simp)
        rw [if_pos c3] at H
        have c3b0 : decide (0 ≤ x4_1) = true := decide_eq_true c3
        clear c3
        replace H := Option.bind_eq_some_iff.mp H
        obtain ⟨⟨t268, t269, t270, t271, t272, t273, t274, t275⟩, A40, H⟩ := H
        (try dsimp only at H)
        have A4 := Aside0.mk A40
        clear A40
        have c5 : x3_1.length < 1466015503701 := Classical.byContradiction fun c5 => by rw [if_neg c5] at H; exact absurd H (by simp)
        rw [if_pos c5] at H
        have LMc5 := Aside0.mk c5
        clear c5
        obtain ⟨y278, hy278⟩ : ∃ y_ : List (S43), y_ = (x3_1 ++ [(⟨t268, t269, t270, (⟨t271, t272, t273, t274⟩ : S24), t275⟩ : S43)]) := ⟨_, rfl⟩
        replace H : (barbicanlaw22_gives.l0 k1 l0 y278 (wrap64 (x4_1 + 1))) = some r := by first | (rw [hy278]; with_reducible exact H) | (have H2_ := (Option.bind_some _ _).symm.trans H; rw [hy278]; with_reducible exact H2_) | (have H2_ := (Option.bind_some _ _).symm.trans H; with_reducible exact H2_) | with_reducible exact H | (rw [hy278]; exact H) | exact H
        have Ny278 := Aside0.mk hy278
        clear hy278
        have H' := Aside0.mk H
        clear H
        have p267 : 0 ≤ (x4_1 : Int) := of_decide_eq_true (by first | (with_reducible assumption) | assumption)
        have q267 : x4_1 < (l0.length : Int) := of_decide_eq_true (by first | (with_reducible assumption) | assumption)
        obtain ⟨ad267, A267_7, c267_7, e267, hx267_0, hx267_1, hx267_2, hx267_3, hx267_4, hx267_5, hx267_6, hx267_7, hl267_7, hi267_7⟩ := at_T26 HR0.out x4_1 p267 q267
        cases e267
        replace hx267_0 := (HB.out.cell (World.block_lt_of_cell? w _ hx267_0)).trans hx267_0
        replace hx267_1 := (HB.out.cell (World.block_lt_of_cell? w _ hx267_1)).trans hx267_1
        replace hx267_2 := (HB.out.cell (World.block_lt_of_cell? w _ hx267_2)).trans hx267_2
        replace hx267_3 := (HB.out.cell (World.block_lt_of_cell? w _ hx267_3)).trans hx267_3
        replace hx267_4 := (HB.out.cell (World.block_lt_of_cell? w _ hx267_4)).trans hx267_4
        replace hx267_5 := (HB.out.cell (World.block_lt_of_cell? w _ hx267_5)).trans hx267_5
        replace hx267_6 := (HB.out.cell (World.block_lt_of_cell? w _ hx267_6)).trans hx267_6
        replace hx267_7 := (HB.out.cell (World.block_lt_of_cell? w _ hx267_7)).trans hx267_7
        have HR267_7 := Aside0.mk hi267_7
        have HC267_7 := Aside0.mk hl267_7
        clear hi267_7 hl267_7
        replace p267 := eq_true p267
        replace q267 := eq_true q267
        go_wp2_with (first | ((with_reducible refine gate_callee (f := 14) rfl ?_); refine goesL_ (some 16) rfl rfl Try.func14 (by kernel_rfl) rfl #[.agg #[.string ((rd_T26 l0 x4_1).f0), .int .i64 ((rd_T26 l0 x4_1).f1), .int .i64 ((rd_T26 l0 x4_1).f2), .int .i64 ((rd_T26 l0 x4_1).f3.f0), .int .i64 ((rd_T26 l0 x4_1).f3.f1), .string ((rd_T26 l0 x4_1).f3.f2), .bool ((rd_T26 l0 x4_1).f3.f3), .slice A267_7 ((rd_T26 l0 x4_1).f4).length c267_7]] rfl (by (try simp only [List.map_toArray, List.map_cons, List.map_nil]); first | done | rfl | (simp only [List.length_drop, List.length_take]; rfl)) ?_; (with_reducible refine (barbicanlaw22_give.calls k1 ((rd_T26 l0 x4_1).f0) ((rd_T26 l0 x4_1).f1) ((rd_T26 l0 x4_1).f2) ((rd_T26 l0 x4_1).f3.f0) ((rd_T26 l0 x4_1).f3.f1) ((rd_T26 l0 x4_1).f3.f2) ((rd_T26 l0 x4_1).f3.f3) _ _ ((rd_T26 l0 x4_1).f4) t268 t269 t270 t271 t272 t273 t274 t275 _ ?side1 ?side2 A4.out).mono ?_); (case side1 => repeat (first | exact (Kd.C_below HR267_7.out HB.out) | (with_reducible refine Kd.C_alloc ?_ _) | (with_reducible refine Kd.C_drewN ?_ _) | (with_reducible refine Kd.C_drew ?_))); (case side2 => exact HC267_7.out); rintro e w6 ⟨v276, rfl, ho0, hb⟩; refine ⟨_, rfl, ?_⟩; have n0_ := Aside0.mk (Kd.R_elder' (kR_ HO_3.out) (Kd.R_base ho0) hb); have n1_ := Aside0.mk (Kd.R_lower (Kd.R_new' ho0 (Kd.R_lt (kR_ HO_3.out))) (below_size (bw_ HB.out))); have n2_ := Aside0.mk (below_step (bw_ HB.out) hb); clear HO_3; clear HB; have HO_3 := n0_; have HO277 := n1_; have HB := n2_; clear n0_ n1_ n2_; (try clear hb); (try clear hb2); (try clear hk); (try clear hi); (try clear ho0); obtain ⟨Ao8, co8, eo8⟩ := Kd.R_slice HO277.out; subst eo8) | ((with_reducible refine gate_builtin (b := .append) (xs := #[.tmp 11, .tmp 17]) rfl ?_); at_builtin; refine Kd.R_append k43 (w0 := w) w.heap.size rfl (.tmp 11) (.tmp 17) 37 43 (.agg #[(.string ⟨#[]⟩), (.int .i64 0), (.int .i64 0), (.int .i64 0), (.int .i64 0), (.string ⟨#[]⟩), (.bool false), (.slice none 0 0)]) 96 rfl Try.underlying37 info43 rfl (by decide) (by omega) u3 x3_1 (⟨t268, t269, t270, (⟨t271, t272, t273, t274⟩ : S24), t275⟩ : S43) [.string t268, .int .i64 t269, .int .i64 t270, .int .i64 t271, .int .i64 t272, .string t273, .bool t274, .slice Ao8 t275.length co8] (fun _ => True) (fun k_ => ((fun _ => True)) k_ ∧ some k_ ≠ (u3 : Value).ownBlock) rfl rfl ?aP (fun _ hk => hk) ?aF ?aO ?aB ?aS ?aL ?_; (case aP => exact k43_mkM _ _ _ (⟨t268, t269, t270, (⟨t271, t272, t273, t274⟩ : S24), t275⟩ : S43) (Kd.R_mono (HO277.out) (fun k_ hk => ⟨trivial, hk.2⟩))); (case aB => exact (bw_ HB.out)); (case aF => exact (fun _ _ => trivial)); (case aO => exact (by (with_reducible repeat (first | apply Kd.R_alloc | apply Kd.R_drewN | apply Kd.R_drew)); exact Kd.R_mono HO_3.out (fun _ hk => trivial))); (case aS => exact (below_size (bw_ HB.out))); (case aL => have := LMc5.out; omega); intro v279 w7 ho hb hg hat; rw [← Ny278.out] at ho; have n0_ := Aside0.mk (hb); have n1_ := Aside0.mk (ho); clear HB; clear HO_3; clear HO277; have HB := n0_; have HO280 := n1_; clear n0_ n1_; clear ho hb hg hat))
        go_roundg k1
        case measure => have := HK1.out; omega
        case rel => exact ⟨(y278), (wrap64 (x4_1 + 1)), (by first | rfl | (simp; done) | (simp [*]; done) | (simp [bne]; done)), H', ⟨by have := HK1.out; omega⟩, ⟨by (with_reducible repeat (first | apply Kd.R_alloc | apply Kd.R_drewN | apply Kd.R_drew)); exact HO280.out⟩, ⟨bw_ HB.out⟩⟩
      rw [if_neg c2] at H
      have c2b0 : decide (x4_1 < (l0.length : Int)) = false := decide_eq_false c2
      clear c2
      obtain rfl := Option.some.inj H
      go_wp2
      go_ret
      exact ⟨_, by first | rfl | (simp [errW_none, errW_some] <;> rfl) | (simp [*, errW_none, errW_some] <;> rfl), by (with_reducible repeat (first | apply Kd.R_alloc | apply Kd.R_drewN | apply Kd.R_drew)); exact HO_3.out, bw_ HB.out⟩

/-! ### cursor_Has: function 8 -/
def cursor_Has.f (a0_0 : ByteArray) (a0_1 : ByteArray) (a0_2 : Bool) (a0_3 : Bool) (a0_4 : Bool) (a0_5 : Bool) (a1 : ByteArray) : Option (Bool) := if a0_2 = true then (if (Op.bytesLess a1.toList a0_0.toList) = true then (some false) else (if a1.toList = a0_0.toList then (if a0_4 = true then (some false) else (if a0_3 = true then (if (Op.bytesLess a1.toList a0_1.toList) = true then (some true) else (if a1.toList = a0_1.toList then (some (!a0_5)) else (some false))) else (some true))) else (if a0_3 = true then (if (Op.bytesLess a1.toList a0_1.toList) = true then (some true) else (if a1.toList = a0_1.toList then (some (!a0_5)) else (some false))) else (some true)))) else (if a0_3 = true then (if (Op.bytesLess a1.toList a0_1.toList) = true then (some true) else (if a1.toList = a0_1.toList then (some (!a0_5)) else (some false))) else (some true))
set_option maxHeartbeats 8000000 in
set_option maxRecDepth 100000 in
theorem cursor_Has.calls (a0_0 : ByteArray) (a0_1 : ByteArray) (a0_2 : Bool) (a0_3 : Bool) (a0_4 : Bool) (a0_5 : Bool) (a1 : ByteArray) (r : Bool) (w : World) (h : cursor_Has.f a0_0 a0_1 a0_2 a0_3 a0_4 a0_5 a1 = some r) :
    Calls Try.prog 8 #[.agg #[.string a0_0, .string a0_1, .bool a0_2, .bool a0_3, .bool a0_4, .bool a0_5], .string a1] w fun e w' => e = .returned (.bool r) ∧ Below w.heap.size w w' := by
  have hu35 := Try.underlying35
  have HB := Aside0.mk (Below.refl w.heap.size w)
  have H : (if a0_2 = true then (if (Op.bytesLess a1.toList a0_0.toList) = true then (some false) else (if a1.toList = a0_0.toList then (if a0_4 = true then (some false) else (if a0_3 = true then (if (Op.bytesLess a1.toList a0_1.toList) = true then (some true) else (if a1.toList = a0_1.toList then (some (!a0_5)) else (some false))) else (some true))) else (if a0_3 = true then (if (Op.bytesLess a1.toList a0_1.toList) = true then (some true) else (if a1.toList = a0_1.toList then (some (!a0_5)) else (some false))) else (some true)))) else (if a0_3 = true then (if (Op.bytesLess a1.toList a0_1.toList) = true then (some true) else (if a1.toList = a0_1.toList then (some (!a0_5)) else (some false))) else (some true))) = some r := h
  clear h
  by_cases c3 : a0_2 = true
  · subst c3
    rw [if_pos rfl] at H
    by_cases c4 : (Op.bytesLess a1.toList a0_0.toList) = true
    · rw [if_pos c4] at H
      have c4b0 : (Op.bytesLess a1.toList a0_0.toList) = true := c4
      clear c4
      obtain rfl := Option.some.inj H
      go_enter Try.func8, Try.ntmps8
      go_wp2_with (first | ((with_reducible refine gate_dst (N := 2) rfl ?_); refine box_event ?hg (N := 2) ?hd (cs := #[.string a0_0, .string a0_1, .bool true, .bool a0_3, .bool a0_4, .bool a0_5]) (t := 35) ?hr ?_; (case hd => rfl); (case hg => rfl); (case hr => first | (go_simp; done) | (go_simp; rfl)); intro gb281 hg w5 hbox hb; have n0_ := Aside0.mk (below_step (bw_ HB.out) hb); have n1_ := Aside0.mk (hbox); have n2_ := Aside0.mk ((by rw [hg]; exact (below_size (bw_ HB.out)) : w.heap.size ≤ gb281)); have n3_ := Aside0.mk ((by rw [hg]; exact (below_size (bw_ HB.out)) : w.heap.size ≤ gb281)); clear HB; have HB := n0_; have BK281 := n1_; have GW281 := n2_; have GE281 := n3_; clear n0_ n1_ n2_ n3_; clear hb hbox hg; have hcz6_0 : w5.cell? ⟨gb281, 0, none⟩ = some (.string a0_0) := (blk_cell BK281.out 0).trans rfl; have hcz6_1 : w5.cell? ⟨gb281, 1, none⟩ = some (.string a0_1) := (blk_cell BK281.out 1).trans rfl; have hcz6_2 : w5.cell? ⟨gb281, 2, none⟩ = some (.bool true) := (blk_cell BK281.out 2).trans rfl; have hcz6_3 : w5.cell? ⟨gb281, 3, none⟩ = some (.bool a0_3) := (blk_cell BK281.out 3).trans rfl; have hcz6_4 : w5.cell? ⟨gb281, 4, none⟩ = some (.bool a0_4) := (blk_cell BK281.out 4).trans rfl; have hcz6_5 : w5.cell? ⟨gb281, 5, none⟩ = some (.bool a0_5) := (blk_cell BK281.out 5).trans rfl; have hfz6_0 := blk_frozen BK281.out 0; have hfz6_1 := blk_frozen BK281.out 1; have hfz6_2 := blk_frozen BK281.out 2; have hfz6_3 := blk_frozen BK281.out 3; have hfz6_4 := blk_frozen BK281.out 4; have hfz6_5 := blk_frozen BK281.out 5))
      go_ret
      exact ⟨by first | rfl | (simp [errW_none, errW_some] <;> rfl) | (simp [*, errW_none, errW_some] <;> rfl), bw_ HB.out⟩
    rw [if_neg c4] at H
    have c4b0 : (Op.bytesLess a1.toList a0_0.toList) = false := by simpa using c4
    clear c4
    by_cases c7 : a1.toList = a0_0.toList
    · rw [if_pos c7] at H
      have c7b0 : (a1.toList == a0_0.toList) = true := beq_iff_eq.mpr c7
      have c7b1 : (a1.toList != a0_0.toList) = false := bne_eq_false_iff_eq.mpr c7
      clear c7
      by_cases c8 : a0_4 = true
      · subst c8
        rw [if_pos rfl] at H
        obtain rfl := Option.some.inj H
        go_enter Try.func8, Try.ntmps8
        go_wp2_with (first | ((with_reducible refine gate_dst (N := 2) rfl ?_); refine box_event ?hg (N := 2) ?hd (cs := #[.string a0_0, .string a0_1, .bool true, .bool a0_3, .bool true, .bool a0_5]) (t := 35) ?hr ?_; (case hd => rfl); (case hg => rfl); (case hr => first | (go_simp; done) | (go_simp; rfl)); intro gb281 hg w9 hbox hb; have n0_ := Aside0.mk (below_step (bw_ HB.out) hb); have n1_ := Aside0.mk (hbox); have n2_ := Aside0.mk ((by rw [hg]; exact (below_size (bw_ HB.out)) : w.heap.size ≤ gb281)); have n3_ := Aside0.mk ((by rw [hg]; exact (below_size (bw_ HB.out)) : w.heap.size ≤ gb281)); clear HB; have HB := n0_; have BK281 := n1_; have GW281 := n2_; have GE281 := n3_; clear n0_ n1_ n2_ n3_; clear hb hbox hg; have hcz10_0 : w9.cell? ⟨gb281, 0, none⟩ = some (.string a0_0) := (blk_cell BK281.out 0).trans rfl; have hcz10_1 : w9.cell? ⟨gb281, 1, none⟩ = some (.string a0_1) := (blk_cell BK281.out 1).trans rfl; have hcz10_2 : w9.cell? ⟨gb281, 2, none⟩ = some (.bool true) := (blk_cell BK281.out 2).trans rfl; have hcz10_3 : w9.cell? ⟨gb281, 3, none⟩ = some (.bool a0_3) := (blk_cell BK281.out 3).trans rfl; have hcz10_4 : w9.cell? ⟨gb281, 4, none⟩ = some (.bool true) := (blk_cell BK281.out 4).trans rfl; have hcz10_5 : w9.cell? ⟨gb281, 5, none⟩ = some (.bool a0_5) := (blk_cell BK281.out 5).trans rfl; have hfz10_0 := blk_frozen BK281.out 0; have hfz10_1 := blk_frozen BK281.out 1; have hfz10_2 := blk_frozen BK281.out 2; have hfz10_3 := blk_frozen BK281.out 3; have hfz10_4 := blk_frozen BK281.out 4; have hfz10_5 := blk_frozen BK281.out 5))
        go_ret
        exact ⟨by first | rfl | (simp [errW_none, errW_some] <;> rfl) | (simp [*, errW_none, errW_some] <;> rfl), bw_ HB.out⟩
      replace c8 := Bool.eq_false_iff.mpr c8
      subst c8
      rw [if_neg (show ¬ (false = true) by decide)] at H
      by_cases c11 : a0_3 = true
      · subst c11
        rw [if_pos rfl] at H
        by_cases c12 : (Op.bytesLess a1.toList a0_1.toList) = true
        · rw [if_pos c12] at H
          have c12b0 : (Op.bytesLess a1.toList a0_1.toList) = true := c12
          clear c12
          obtain rfl := Option.some.inj H
          go_enter Try.func8, Try.ntmps8
          go_wp2_with (first | ((with_reducible refine gate_dst (N := 2) rfl ?_); refine box_event ?hg (N := 2) ?hd (cs := #[.string a0_0, .string a0_1, .bool true, .bool true, .bool false, .bool a0_5]) (t := 35) ?hr ?_; (case hd => rfl); (case hg => rfl); (case hr => first | (go_simp; done) | (go_simp; rfl)); intro gb281 hg w13 hbox hb; have n0_ := Aside0.mk (below_step (bw_ HB.out) hb); have n1_ := Aside0.mk (hbox); have n2_ := Aside0.mk ((by rw [hg]; exact (below_size (bw_ HB.out)) : w.heap.size ≤ gb281)); have n3_ := Aside0.mk ((by rw [hg]; exact (below_size (bw_ HB.out)) : w.heap.size ≤ gb281)); clear HB; have HB := n0_; have BK281 := n1_; have GW281 := n2_; have GE281 := n3_; clear n0_ n1_ n2_ n3_; clear hb hbox hg; have hcz14_0 : w13.cell? ⟨gb281, 0, none⟩ = some (.string a0_0) := (blk_cell BK281.out 0).trans rfl; have hcz14_1 : w13.cell? ⟨gb281, 1, none⟩ = some (.string a0_1) := (blk_cell BK281.out 1).trans rfl; have hcz14_2 : w13.cell? ⟨gb281, 2, none⟩ = some (.bool true) := (blk_cell BK281.out 2).trans rfl; have hcz14_3 : w13.cell? ⟨gb281, 3, none⟩ = some (.bool true) := (blk_cell BK281.out 3).trans rfl; have hcz14_4 : w13.cell? ⟨gb281, 4, none⟩ = some (.bool false) := (blk_cell BK281.out 4).trans rfl; have hcz14_5 : w13.cell? ⟨gb281, 5, none⟩ = some (.bool a0_5) := (blk_cell BK281.out 5).trans rfl; have hfz14_0 := blk_frozen BK281.out 0; have hfz14_1 := blk_frozen BK281.out 1; have hfz14_2 := blk_frozen BK281.out 2; have hfz14_3 := blk_frozen BK281.out 3; have hfz14_4 := blk_frozen BK281.out 4; have hfz14_5 := blk_frozen BK281.out 5))
          go_ret
          exact ⟨by first | rfl | (simp [errW_none, errW_some] <;> rfl) | (simp [*, errW_none, errW_some] <;> rfl), bw_ HB.out⟩
        rw [if_neg c12] at H
        have c12b0 : (Op.bytesLess a1.toList a0_1.toList) = false := by simpa using c12
        clear c12
        by_cases c15 : a1.toList = a0_1.toList
        · rw [if_pos c15] at H
          have c15b0 : (a1.toList == a0_1.toList) = true := beq_iff_eq.mpr c15
          have c15b1 : (a1.toList != a0_1.toList) = false := bne_eq_false_iff_eq.mpr c15
          clear c15
          obtain rfl := Option.some.inj H
          go_enter Try.func8, Try.ntmps8
          go_wp2_with (first | ((with_reducible refine gate_dst (N := 2) rfl ?_); refine box_event ?hg (N := 2) ?hd (cs := #[.string a0_0, .string a0_1, .bool true, .bool true, .bool false, .bool a0_5]) (t := 35) ?hr ?_; (case hd => rfl); (case hg => rfl); (case hr => first | (go_simp; done) | (go_simp; rfl)); intro gb281 hg w16 hbox hb; have n0_ := Aside0.mk (below_step (bw_ HB.out) hb); have n1_ := Aside0.mk (hbox); have n2_ := Aside0.mk ((by rw [hg]; exact (below_size (bw_ HB.out)) : w.heap.size ≤ gb281)); have n3_ := Aside0.mk ((by rw [hg]; exact (below_size (bw_ HB.out)) : w.heap.size ≤ gb281)); clear HB; have HB := n0_; have BK281 := n1_; have GW281 := n2_; have GE281 := n3_; clear n0_ n1_ n2_ n3_; clear hb hbox hg; have hcz17_0 : w16.cell? ⟨gb281, 0, none⟩ = some (.string a0_0) := (blk_cell BK281.out 0).trans rfl; have hcz17_1 : w16.cell? ⟨gb281, 1, none⟩ = some (.string a0_1) := (blk_cell BK281.out 1).trans rfl; have hcz17_2 : w16.cell? ⟨gb281, 2, none⟩ = some (.bool true) := (blk_cell BK281.out 2).trans rfl; have hcz17_3 : w16.cell? ⟨gb281, 3, none⟩ = some (.bool true) := (blk_cell BK281.out 3).trans rfl; have hcz17_4 : w16.cell? ⟨gb281, 4, none⟩ = some (.bool false) := (blk_cell BK281.out 4).trans rfl; have hcz17_5 : w16.cell? ⟨gb281, 5, none⟩ = some (.bool a0_5) := (blk_cell BK281.out 5).trans rfl; have hfz17_0 := blk_frozen BK281.out 0; have hfz17_1 := blk_frozen BK281.out 1; have hfz17_2 := blk_frozen BK281.out 2; have hfz17_3 := blk_frozen BK281.out 3; have hfz17_4 := blk_frozen BK281.out 4; have hfz17_5 := blk_frozen BK281.out 5))
          go_ret
          exact ⟨by first | rfl | (simp [errW_none, errW_some] <;> rfl) | (simp [*, errW_none, errW_some] <;> rfl), bw_ HB.out⟩
        rw [if_neg c15] at H
        have c15b0 : (a1.toList == a0_1.toList) = false := beq_eq_false_iff_ne.mpr c15
        have c15b1 : (a1.toList != a0_1.toList) = true := bne_iff_ne.mpr c15
        obtain rfl := Option.some.inj H
        go_enter Try.func8, Try.ntmps8
        go_wp2_with (first | ((with_reducible refine gate_dst (N := 2) rfl ?_); refine box_event ?hg (N := 2) ?hd (cs := #[.string a0_0, .string a0_1, .bool true, .bool true, .bool false, .bool a0_5]) (t := 35) ?hr ?_; (case hd => rfl); (case hg => rfl); (case hr => first | (go_simp; done) | (go_simp; rfl)); intro gb281 hg w18 hbox hb; have n0_ := Aside0.mk (below_step (bw_ HB.out) hb); have n1_ := Aside0.mk (hbox); have n2_ := Aside0.mk ((by rw [hg]; exact (below_size (bw_ HB.out)) : w.heap.size ≤ gb281)); have n3_ := Aside0.mk ((by rw [hg]; exact (below_size (bw_ HB.out)) : w.heap.size ≤ gb281)); clear HB; have HB := n0_; have BK281 := n1_; have GW281 := n2_; have GE281 := n3_; clear n0_ n1_ n2_ n3_; clear hb hbox hg; have hcz19_0 : w18.cell? ⟨gb281, 0, none⟩ = some (.string a0_0) := (blk_cell BK281.out 0).trans rfl; have hcz19_1 : w18.cell? ⟨gb281, 1, none⟩ = some (.string a0_1) := (blk_cell BK281.out 1).trans rfl; have hcz19_2 : w18.cell? ⟨gb281, 2, none⟩ = some (.bool true) := (blk_cell BK281.out 2).trans rfl; have hcz19_3 : w18.cell? ⟨gb281, 3, none⟩ = some (.bool true) := (blk_cell BK281.out 3).trans rfl; have hcz19_4 : w18.cell? ⟨gb281, 4, none⟩ = some (.bool false) := (blk_cell BK281.out 4).trans rfl; have hcz19_5 : w18.cell? ⟨gb281, 5, none⟩ = some (.bool a0_5) := (blk_cell BK281.out 5).trans rfl; have hfz19_0 := blk_frozen BK281.out 0; have hfz19_1 := blk_frozen BK281.out 1; have hfz19_2 := blk_frozen BK281.out 2; have hfz19_3 := blk_frozen BK281.out 3; have hfz19_4 := blk_frozen BK281.out 4; have hfz19_5 := blk_frozen BK281.out 5))
        go_ret
        exact ⟨by first | rfl | (simp [errW_none, errW_some] <;> rfl) | (simp [*, errW_none, errW_some] <;> rfl), bw_ HB.out⟩
      replace c11 := Bool.eq_false_iff.mpr c11
      subst c11
      rw [if_neg (show ¬ (false = true) by decide)] at H
      obtain rfl := Option.some.inj H
      go_enter Try.func8, Try.ntmps8
      go_wp2_with (first | ((with_reducible refine gate_dst (N := 2) rfl ?_); refine box_event ?hg (N := 2) ?hd (cs := #[.string a0_0, .string a0_1, .bool true, .bool false, .bool false, .bool a0_5]) (t := 35) ?hr ?_; (case hd => rfl); (case hg => rfl); (case hr => first | (go_simp; done) | (go_simp; rfl)); intro gb281 hg w20 hbox hb; have n0_ := Aside0.mk (below_step (bw_ HB.out) hb); have n1_ := Aside0.mk (hbox); have n2_ := Aside0.mk ((by rw [hg]; exact (below_size (bw_ HB.out)) : w.heap.size ≤ gb281)); have n3_ := Aside0.mk ((by rw [hg]; exact (below_size (bw_ HB.out)) : w.heap.size ≤ gb281)); clear HB; have HB := n0_; have BK281 := n1_; have GW281 := n2_; have GE281 := n3_; clear n0_ n1_ n2_ n3_; clear hb hbox hg; have hcz21_0 : w20.cell? ⟨gb281, 0, none⟩ = some (.string a0_0) := (blk_cell BK281.out 0).trans rfl; have hcz21_1 : w20.cell? ⟨gb281, 1, none⟩ = some (.string a0_1) := (blk_cell BK281.out 1).trans rfl; have hcz21_2 : w20.cell? ⟨gb281, 2, none⟩ = some (.bool true) := (blk_cell BK281.out 2).trans rfl; have hcz21_3 : w20.cell? ⟨gb281, 3, none⟩ = some (.bool false) := (blk_cell BK281.out 3).trans rfl; have hcz21_4 : w20.cell? ⟨gb281, 4, none⟩ = some (.bool false) := (blk_cell BK281.out 4).trans rfl; have hcz21_5 : w20.cell? ⟨gb281, 5, none⟩ = some (.bool a0_5) := (blk_cell BK281.out 5).trans rfl; have hfz21_0 := blk_frozen BK281.out 0; have hfz21_1 := blk_frozen BK281.out 1; have hfz21_2 := blk_frozen BK281.out 2; have hfz21_3 := blk_frozen BK281.out 3; have hfz21_4 := blk_frozen BK281.out 4; have hfz21_5 := blk_frozen BK281.out 5))
      go_ret
      exact ⟨by first | rfl | (simp [errW_none, errW_some] <;> rfl) | (simp [*, errW_none, errW_some] <;> rfl), bw_ HB.out⟩
    rw [if_neg c7] at H
    have c7b0 : (a1.toList == a0_0.toList) = false := beq_eq_false_iff_ne.mpr c7
    have c7b1 : (a1.toList != a0_0.toList) = true := bne_iff_ne.mpr c7
    by_cases c22 : a0_3 = true
    · subst c22
      rw [if_pos rfl] at H
      by_cases c23 : (Op.bytesLess a1.toList a0_1.toList) = true
      · rw [if_pos c23] at H
        have c23b0 : (Op.bytesLess a1.toList a0_1.toList) = true := c23
        clear c23
        obtain rfl := Option.some.inj H
        go_enter Try.func8, Try.ntmps8
        go_wp2_with (first | ((with_reducible refine gate_dst (N := 2) rfl ?_); refine box_event ?hg (N := 2) ?hd (cs := #[.string a0_0, .string a0_1, .bool true, .bool true, .bool a0_4, .bool a0_5]) (t := 35) ?hr ?_; (case hd => rfl); (case hg => rfl); (case hr => first | (go_simp; done) | (go_simp; rfl)); intro gb281 hg w24 hbox hb; have n0_ := Aside0.mk (below_step (bw_ HB.out) hb); have n1_ := Aside0.mk (hbox); have n2_ := Aside0.mk ((by rw [hg]; exact (below_size (bw_ HB.out)) : w.heap.size ≤ gb281)); have n3_ := Aside0.mk ((by rw [hg]; exact (below_size (bw_ HB.out)) : w.heap.size ≤ gb281)); clear HB; have HB := n0_; have BK281 := n1_; have GW281 := n2_; have GE281 := n3_; clear n0_ n1_ n2_ n3_; clear hb hbox hg; have hcz25_0 : w24.cell? ⟨gb281, 0, none⟩ = some (.string a0_0) := (blk_cell BK281.out 0).trans rfl; have hcz25_1 : w24.cell? ⟨gb281, 1, none⟩ = some (.string a0_1) := (blk_cell BK281.out 1).trans rfl; have hcz25_2 : w24.cell? ⟨gb281, 2, none⟩ = some (.bool true) := (blk_cell BK281.out 2).trans rfl; have hcz25_3 : w24.cell? ⟨gb281, 3, none⟩ = some (.bool true) := (blk_cell BK281.out 3).trans rfl; have hcz25_4 : w24.cell? ⟨gb281, 4, none⟩ = some (.bool a0_4) := (blk_cell BK281.out 4).trans rfl; have hcz25_5 : w24.cell? ⟨gb281, 5, none⟩ = some (.bool a0_5) := (blk_cell BK281.out 5).trans rfl; have hfz25_0 := blk_frozen BK281.out 0; have hfz25_1 := blk_frozen BK281.out 1; have hfz25_2 := blk_frozen BK281.out 2; have hfz25_3 := blk_frozen BK281.out 3; have hfz25_4 := blk_frozen BK281.out 4; have hfz25_5 := blk_frozen BK281.out 5))
        go_ret
        exact ⟨by first | rfl | (simp [errW_none, errW_some] <;> rfl) | (simp [*, errW_none, errW_some] <;> rfl), bw_ HB.out⟩
      rw [if_neg c23] at H
      have c23b0 : (Op.bytesLess a1.toList a0_1.toList) = false := by simpa using c23
      clear c23
      by_cases c26 : a1.toList = a0_1.toList
      · rw [if_pos c26] at H
        have c26b0 : (a1.toList == a0_1.toList) = true := beq_iff_eq.mpr c26
        have c26b1 : (a1.toList != a0_1.toList) = false := bne_eq_false_iff_eq.mpr c26
        clear c26
        obtain rfl := Option.some.inj H
        go_enter Try.func8, Try.ntmps8
        go_wp2_with (first | ((with_reducible refine gate_dst (N := 2) rfl ?_); refine box_event ?hg (N := 2) ?hd (cs := #[.string a0_0, .string a0_1, .bool true, .bool true, .bool a0_4, .bool a0_5]) (t := 35) ?hr ?_; (case hd => rfl); (case hg => rfl); (case hr => first | (go_simp; done) | (go_simp; rfl)); intro gb281 hg w27 hbox hb; have n0_ := Aside0.mk (below_step (bw_ HB.out) hb); have n1_ := Aside0.mk (hbox); have n2_ := Aside0.mk ((by rw [hg]; exact (below_size (bw_ HB.out)) : w.heap.size ≤ gb281)); have n3_ := Aside0.mk ((by rw [hg]; exact (below_size (bw_ HB.out)) : w.heap.size ≤ gb281)); clear HB; have HB := n0_; have BK281 := n1_; have GW281 := n2_; have GE281 := n3_; clear n0_ n1_ n2_ n3_; clear hb hbox hg; have hcz28_0 : w27.cell? ⟨gb281, 0, none⟩ = some (.string a0_0) := (blk_cell BK281.out 0).trans rfl; have hcz28_1 : w27.cell? ⟨gb281, 1, none⟩ = some (.string a0_1) := (blk_cell BK281.out 1).trans rfl; have hcz28_2 : w27.cell? ⟨gb281, 2, none⟩ = some (.bool true) := (blk_cell BK281.out 2).trans rfl; have hcz28_3 : w27.cell? ⟨gb281, 3, none⟩ = some (.bool true) := (blk_cell BK281.out 3).trans rfl; have hcz28_4 : w27.cell? ⟨gb281, 4, none⟩ = some (.bool a0_4) := (blk_cell BK281.out 4).trans rfl; have hcz28_5 : w27.cell? ⟨gb281, 5, none⟩ = some (.bool a0_5) := (blk_cell BK281.out 5).trans rfl; have hfz28_0 := blk_frozen BK281.out 0; have hfz28_1 := blk_frozen BK281.out 1; have hfz28_2 := blk_frozen BK281.out 2; have hfz28_3 := blk_frozen BK281.out 3; have hfz28_4 := blk_frozen BK281.out 4; have hfz28_5 := blk_frozen BK281.out 5))
        go_ret
        exact ⟨by first | rfl | (simp [errW_none, errW_some] <;> rfl) | (simp [*, errW_none, errW_some] <;> rfl), bw_ HB.out⟩
      rw [if_neg c26] at H
      have c26b0 : (a1.toList == a0_1.toList) = false := beq_eq_false_iff_ne.mpr c26
      have c26b1 : (a1.toList != a0_1.toList) = true := bne_iff_ne.mpr c26
      obtain rfl := Option.some.inj H
      go_enter Try.func8, Try.ntmps8
      go_wp2_with (first | ((with_reducible refine gate_dst (N := 2) rfl ?_); refine box_event ?hg (N := 2) ?hd (cs := #[.string a0_0, .string a0_1, .bool true, .bool true, .bool a0_4, .bool a0_5]) (t := 35) ?hr ?_; (case hd => rfl); (case hg => rfl); (case hr => first | (go_simp; done) | (go_simp; rfl)); intro gb281 hg w29 hbox hb; have n0_ := Aside0.mk (below_step (bw_ HB.out) hb); have n1_ := Aside0.mk (hbox); have n2_ := Aside0.mk ((by rw [hg]; exact (below_size (bw_ HB.out)) : w.heap.size ≤ gb281)); have n3_ := Aside0.mk ((by rw [hg]; exact (below_size (bw_ HB.out)) : w.heap.size ≤ gb281)); clear HB; have HB := n0_; have BK281 := n1_; have GW281 := n2_; have GE281 := n3_; clear n0_ n1_ n2_ n3_; clear hb hbox hg; have hcz30_0 : w29.cell? ⟨gb281, 0, none⟩ = some (.string a0_0) := (blk_cell BK281.out 0).trans rfl; have hcz30_1 : w29.cell? ⟨gb281, 1, none⟩ = some (.string a0_1) := (blk_cell BK281.out 1).trans rfl; have hcz30_2 : w29.cell? ⟨gb281, 2, none⟩ = some (.bool true) := (blk_cell BK281.out 2).trans rfl; have hcz30_3 : w29.cell? ⟨gb281, 3, none⟩ = some (.bool true) := (blk_cell BK281.out 3).trans rfl; have hcz30_4 : w29.cell? ⟨gb281, 4, none⟩ = some (.bool a0_4) := (blk_cell BK281.out 4).trans rfl; have hcz30_5 : w29.cell? ⟨gb281, 5, none⟩ = some (.bool a0_5) := (blk_cell BK281.out 5).trans rfl; have hfz30_0 := blk_frozen BK281.out 0; have hfz30_1 := blk_frozen BK281.out 1; have hfz30_2 := blk_frozen BK281.out 2; have hfz30_3 := blk_frozen BK281.out 3; have hfz30_4 := blk_frozen BK281.out 4; have hfz30_5 := blk_frozen BK281.out 5))
      go_ret
      exact ⟨by first | rfl | (simp [errW_none, errW_some] <;> rfl) | (simp [*, errW_none, errW_some] <;> rfl), bw_ HB.out⟩
    replace c22 := Bool.eq_false_iff.mpr c22
    subst c22
    rw [if_neg (show ¬ (false = true) by decide)] at H
    obtain rfl := Option.some.inj H
    go_enter Try.func8, Try.ntmps8
    go_wp2_with (first | ((with_reducible refine gate_dst (N := 2) rfl ?_); refine box_event ?hg (N := 2) ?hd (cs := #[.string a0_0, .string a0_1, .bool true, .bool false, .bool a0_4, .bool a0_5]) (t := 35) ?hr ?_; (case hd => rfl); (case hg => rfl); (case hr => first | (go_simp; done) | (go_simp; rfl)); intro gb281 hg w31 hbox hb; have n0_ := Aside0.mk (below_step (bw_ HB.out) hb); have n1_ := Aside0.mk (hbox); have n2_ := Aside0.mk ((by rw [hg]; exact (below_size (bw_ HB.out)) : w.heap.size ≤ gb281)); have n3_ := Aside0.mk ((by rw [hg]; exact (below_size (bw_ HB.out)) : w.heap.size ≤ gb281)); clear HB; have HB := n0_; have BK281 := n1_; have GW281 := n2_; have GE281 := n3_; clear n0_ n1_ n2_ n3_; clear hb hbox hg; have hcz32_0 : w31.cell? ⟨gb281, 0, none⟩ = some (.string a0_0) := (blk_cell BK281.out 0).trans rfl; have hcz32_1 : w31.cell? ⟨gb281, 1, none⟩ = some (.string a0_1) := (blk_cell BK281.out 1).trans rfl; have hcz32_2 : w31.cell? ⟨gb281, 2, none⟩ = some (.bool true) := (blk_cell BK281.out 2).trans rfl; have hcz32_3 : w31.cell? ⟨gb281, 3, none⟩ = some (.bool false) := (blk_cell BK281.out 3).trans rfl; have hcz32_4 : w31.cell? ⟨gb281, 4, none⟩ = some (.bool a0_4) := (blk_cell BK281.out 4).trans rfl; have hcz32_5 : w31.cell? ⟨gb281, 5, none⟩ = some (.bool a0_5) := (blk_cell BK281.out 5).trans rfl; have hfz32_0 := blk_frozen BK281.out 0; have hfz32_1 := blk_frozen BK281.out 1; have hfz32_2 := blk_frozen BK281.out 2; have hfz32_3 := blk_frozen BK281.out 3; have hfz32_4 := blk_frozen BK281.out 4; have hfz32_5 := blk_frozen BK281.out 5))
    go_ret
    exact ⟨by first | rfl | (simp [errW_none, errW_some] <;> rfl) | (simp [*, errW_none, errW_some] <;> rfl), bw_ HB.out⟩
  replace c3 := Bool.eq_false_iff.mpr c3
  subst c3
  rw [if_neg (show ¬ (false = true) by decide)] at H
  by_cases c33 : a0_3 = true
  · subst c33
    rw [if_pos rfl] at H
    by_cases c34 : (Op.bytesLess a1.toList a0_1.toList) = true
    · rw [if_pos c34] at H
      have c34b0 : (Op.bytesLess a1.toList a0_1.toList) = true := c34
      clear c34
      obtain rfl := Option.some.inj H
      go_enter Try.func8, Try.ntmps8
      go_wp2_with (first | ((with_reducible refine gate_dst (N := 2) rfl ?_); refine box_event ?hg (N := 2) ?hd (cs := #[.string a0_0, .string a0_1, .bool false, .bool true, .bool a0_4, .bool a0_5]) (t := 35) ?hr ?_; (case hd => rfl); (case hg => rfl); (case hr => first | (go_simp; done) | (go_simp; rfl)); intro gb281 hg w35 hbox hb; have n0_ := Aside0.mk (below_step (bw_ HB.out) hb); have n1_ := Aside0.mk (hbox); have n2_ := Aside0.mk ((by rw [hg]; exact (below_size (bw_ HB.out)) : w.heap.size ≤ gb281)); have n3_ := Aside0.mk ((by rw [hg]; exact (below_size (bw_ HB.out)) : w.heap.size ≤ gb281)); clear HB; have HB := n0_; have BK281 := n1_; have GW281 := n2_; have GE281 := n3_; clear n0_ n1_ n2_ n3_; clear hb hbox hg; have hcz36_0 : w35.cell? ⟨gb281, 0, none⟩ = some (.string a0_0) := (blk_cell BK281.out 0).trans rfl; have hcz36_1 : w35.cell? ⟨gb281, 1, none⟩ = some (.string a0_1) := (blk_cell BK281.out 1).trans rfl; have hcz36_2 : w35.cell? ⟨gb281, 2, none⟩ = some (.bool false) := (blk_cell BK281.out 2).trans rfl; have hcz36_3 : w35.cell? ⟨gb281, 3, none⟩ = some (.bool true) := (blk_cell BK281.out 3).trans rfl; have hcz36_4 : w35.cell? ⟨gb281, 4, none⟩ = some (.bool a0_4) := (blk_cell BK281.out 4).trans rfl; have hcz36_5 : w35.cell? ⟨gb281, 5, none⟩ = some (.bool a0_5) := (blk_cell BK281.out 5).trans rfl; have hfz36_0 := blk_frozen BK281.out 0; have hfz36_1 := blk_frozen BK281.out 1; have hfz36_2 := blk_frozen BK281.out 2; have hfz36_3 := blk_frozen BK281.out 3; have hfz36_4 := blk_frozen BK281.out 4; have hfz36_5 := blk_frozen BK281.out 5))
      go_ret
      exact ⟨by first | rfl | (simp [errW_none, errW_some] <;> rfl) | (simp [*, errW_none, errW_some] <;> rfl), bw_ HB.out⟩
    rw [if_neg c34] at H
    have c34b0 : (Op.bytesLess a1.toList a0_1.toList) = false := by simpa using c34
    clear c34
    by_cases c37 : a1.toList = a0_1.toList
    · rw [if_pos c37] at H
      have c37b0 : (a1.toList == a0_1.toList) = true := beq_iff_eq.mpr c37
      have c37b1 : (a1.toList != a0_1.toList) = false := bne_eq_false_iff_eq.mpr c37
      clear c37
      obtain rfl := Option.some.inj H
      go_enter Try.func8, Try.ntmps8
      go_wp2_with (first | ((with_reducible refine gate_dst (N := 2) rfl ?_); refine box_event ?hg (N := 2) ?hd (cs := #[.string a0_0, .string a0_1, .bool false, .bool true, .bool a0_4, .bool a0_5]) (t := 35) ?hr ?_; (case hd => rfl); (case hg => rfl); (case hr => first | (go_simp; done) | (go_simp; rfl)); intro gb281 hg w38 hbox hb; have n0_ := Aside0.mk (below_step (bw_ HB.out) hb); have n1_ := Aside0.mk (hbox); have n2_ := Aside0.mk ((by rw [hg]; exact (below_size (bw_ HB.out)) : w.heap.size ≤ gb281)); have n3_ := Aside0.mk ((by rw [hg]; exact (below_size (bw_ HB.out)) : w.heap.size ≤ gb281)); clear HB; have HB := n0_; have BK281 := n1_; have GW281 := n2_; have GE281 := n3_; clear n0_ n1_ n2_ n3_; clear hb hbox hg; have hcz39_0 : w38.cell? ⟨gb281, 0, none⟩ = some (.string a0_0) := (blk_cell BK281.out 0).trans rfl; have hcz39_1 : w38.cell? ⟨gb281, 1, none⟩ = some (.string a0_1) := (blk_cell BK281.out 1).trans rfl; have hcz39_2 : w38.cell? ⟨gb281, 2, none⟩ = some (.bool false) := (blk_cell BK281.out 2).trans rfl; have hcz39_3 : w38.cell? ⟨gb281, 3, none⟩ = some (.bool true) := (blk_cell BK281.out 3).trans rfl; have hcz39_4 : w38.cell? ⟨gb281, 4, none⟩ = some (.bool a0_4) := (blk_cell BK281.out 4).trans rfl; have hcz39_5 : w38.cell? ⟨gb281, 5, none⟩ = some (.bool a0_5) := (blk_cell BK281.out 5).trans rfl; have hfz39_0 := blk_frozen BK281.out 0; have hfz39_1 := blk_frozen BK281.out 1; have hfz39_2 := blk_frozen BK281.out 2; have hfz39_3 := blk_frozen BK281.out 3; have hfz39_4 := blk_frozen BK281.out 4; have hfz39_5 := blk_frozen BK281.out 5))
      go_ret
      exact ⟨by first | rfl | (simp [errW_none, errW_some] <;> rfl) | (simp [*, errW_none, errW_some] <;> rfl), bw_ HB.out⟩
    rw [if_neg c37] at H
    have c37b0 : (a1.toList == a0_1.toList) = false := beq_eq_false_iff_ne.mpr c37
    have c37b1 : (a1.toList != a0_1.toList) = true := bne_iff_ne.mpr c37
    obtain rfl := Option.some.inj H
    go_enter Try.func8, Try.ntmps8
    go_wp2_with (first | ((with_reducible refine gate_dst (N := 2) rfl ?_); refine box_event ?hg (N := 2) ?hd (cs := #[.string a0_0, .string a0_1, .bool false, .bool true, .bool a0_4, .bool a0_5]) (t := 35) ?hr ?_; (case hd => rfl); (case hg => rfl); (case hr => first | (go_simp; done) | (go_simp; rfl)); intro gb281 hg w40 hbox hb; have n0_ := Aside0.mk (below_step (bw_ HB.out) hb); have n1_ := Aside0.mk (hbox); have n2_ := Aside0.mk ((by rw [hg]; exact (below_size (bw_ HB.out)) : w.heap.size ≤ gb281)); have n3_ := Aside0.mk ((by rw [hg]; exact (below_size (bw_ HB.out)) : w.heap.size ≤ gb281)); clear HB; have HB := n0_; have BK281 := n1_; have GW281 := n2_; have GE281 := n3_; clear n0_ n1_ n2_ n3_; clear hb hbox hg; have hcz41_0 : w40.cell? ⟨gb281, 0, none⟩ = some (.string a0_0) := (blk_cell BK281.out 0).trans rfl; have hcz41_1 : w40.cell? ⟨gb281, 1, none⟩ = some (.string a0_1) := (blk_cell BK281.out 1).trans rfl; have hcz41_2 : w40.cell? ⟨gb281, 2, none⟩ = some (.bool false) := (blk_cell BK281.out 2).trans rfl; have hcz41_3 : w40.cell? ⟨gb281, 3, none⟩ = some (.bool true) := (blk_cell BK281.out 3).trans rfl; have hcz41_4 : w40.cell? ⟨gb281, 4, none⟩ = some (.bool a0_4) := (blk_cell BK281.out 4).trans rfl; have hcz41_5 : w40.cell? ⟨gb281, 5, none⟩ = some (.bool a0_5) := (blk_cell BK281.out 5).trans rfl; have hfz41_0 := blk_frozen BK281.out 0; have hfz41_1 := blk_frozen BK281.out 1; have hfz41_2 := blk_frozen BK281.out 2; have hfz41_3 := blk_frozen BK281.out 3; have hfz41_4 := blk_frozen BK281.out 4; have hfz41_5 := blk_frozen BK281.out 5))
    go_ret
    exact ⟨by first | rfl | (simp [errW_none, errW_some] <;> rfl) | (simp [*, errW_none, errW_some] <;> rfl), bw_ HB.out⟩
  replace c33 := Bool.eq_false_iff.mpr c33
  subst c33
  rw [if_neg (show ¬ (false = true) by decide)] at H
  obtain rfl := Option.some.inj H
  go_enter Try.func8, Try.ntmps8
  go_wp2_with (first | ((with_reducible refine gate_dst (N := 2) rfl ?_); refine box_event ?hg (N := 2) ?hd (cs := #[.string a0_0, .string a0_1, .bool false, .bool false, .bool a0_4, .bool a0_5]) (t := 35) ?hr ?_; (case hd => rfl); (case hg => rfl); (case hr => first | (go_simp; done) | (go_simp; rfl)); intro gb281 hg w42 hbox hb; have n0_ := Aside0.mk (below_step (bw_ HB.out) hb); have n1_ := Aside0.mk (hbox); have n2_ := Aside0.mk ((by rw [hg]; exact (below_size (bw_ HB.out)) : w.heap.size ≤ gb281)); have n3_ := Aside0.mk ((by rw [hg]; exact (below_size (bw_ HB.out)) : w.heap.size ≤ gb281)); clear HB; have HB := n0_; have BK281 := n1_; have GW281 := n2_; have GE281 := n3_; clear n0_ n1_ n2_ n3_; clear hb hbox hg; have hcz43_0 : w42.cell? ⟨gb281, 0, none⟩ = some (.string a0_0) := (blk_cell BK281.out 0).trans rfl; have hcz43_1 : w42.cell? ⟨gb281, 1, none⟩ = some (.string a0_1) := (blk_cell BK281.out 1).trans rfl; have hcz43_2 : w42.cell? ⟨gb281, 2, none⟩ = some (.bool false) := (blk_cell BK281.out 2).trans rfl; have hcz43_3 : w42.cell? ⟨gb281, 3, none⟩ = some (.bool false) := (blk_cell BK281.out 3).trans rfl; have hcz43_4 : w42.cell? ⟨gb281, 4, none⟩ = some (.bool a0_4) := (blk_cell BK281.out 4).trans rfl; have hcz43_5 : w42.cell? ⟨gb281, 5, none⟩ = some (.bool a0_5) := (blk_cell BK281.out 5).trans rfl; have hfz43_0 := blk_frozen BK281.out 0; have hfz43_1 := blk_frozen BK281.out 1; have hfz43_2 := blk_frozen BK281.out 2; have hfz43_3 := blk_frozen BK281.out 3; have hfz43_4 := blk_frozen BK281.out 4; have hfz43_5 := blk_frozen BK281.out 5))
  go_ret
  exact ⟨by first | rfl | (simp [errW_none, errW_some] <;> rfl) | (simp [*, errW_none, errW_some] <;> rfl), bw_ HB.out⟩

end Go.Proofs.Ytddkbhglbkfelaa.P
