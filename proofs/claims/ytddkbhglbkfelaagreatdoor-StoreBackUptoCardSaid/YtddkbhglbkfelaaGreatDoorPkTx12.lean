import Derived.Test.YtddkbhglbkfelaaGreatDoorPkTx0
import Derived.Test.YtddkbhglbkfelaaGreatDoorPkTx9
import Derived.Test.YtddkbhglbkfelaaGreatDoorPkTx11
namespace Go.Proofs.YtddkbhglbkfelaaGreatDoor.T
open Go.RowKit Go.Proofs.YtddkbhglbkfelaaGreatDoorW.PrintWords Go.Proofs.YtddkbhglbkfelaaGreatDoorW.PrintLast Go.Proofs.YtddkbhglbkfelaaGreatDoorW.PrintMore Go.Proofs.YtddkbhglbkfelaaGreatDoorX
attribute [local go_sem] max2_int min2_int max_two min_two max_three min_three max_four min_four
set_option linter.unusedVariables false
set_option linter.unusedSimpArgs false

/-! ### row_Check: function 74 -/
def row_Check.l0 : Nat → List (S63) → List (S118) → Int → Int → Option (Option Int)
 | 0, _, _, _, _ => none
 | k + 1, x1, x16, x17, x18 => if x18 < x17 then (if 0 ≤ x18 then (if x18 < (x16.length : Int) then (if x18 < (x1.length : Int) then ((row_fits.f k ((rd_T118 x16 x18).f0) ((rd_T118 x16 x18).f1) ((rd_T118 x16 x18).f2) ((rd_T118 x16 x18).f3) ((rd_T63 x1 x18).f0) ((rd_T63 x1 x18).f1) ((rd_T63 x1 x18).f2) ((rd_T63 x1 x18).f3)).bind fun t310 => (if t310.isNone = true then (row_Check.l0 k x1 x16 x17 (wrap64 (x18 + 1))) else (some (some (t310.getD 0))))) else (none)) else (none)) else (none)) else (some none)
def row_Check.f (k : Nat) (a0_0 : ByteArray) (l0_1 : List (S118)) (l1 : List (S63)) : Option (Option Int) := if (l1.length : Int) = (l0_1.length : Int) then (row_Check.l0 k l1 l0_1 (l0_1.length : Int) 0) else (some (some 1))
set_option maxHeartbeats 8000000 in
set_option maxRecDepth 100000 in
theorem row_Check.calls (k : Nat) (a0_0 : ByteArray) (A0_1 : Option Addr) (c0_1 : Nat) (l0_1 : List (S118)) (A1 : Option Addr) (c1 : Nat) (l1 : List (S63)) (r : Option Int) (w : World) (hr0_1 : Kd.C k118 w A0_1 l0_1.length l0_1) (hc0_1 : l0_1.length ≤ c0_1) (hr1 : Kd.C k63 w A1 l1.length l1) (hc1 : l1.length ≤ c1) (h : row_Check.f k a0_0 l0_1 l1 = some r) :
  Calls Tryz.prog 74 #[.agg #[.string a0_0, .slice A0_1 l0_1.length c0_1], .slice A1 l1.length c1] w fun e w' => e = .returned (errW r) ∧ Below w.heap.size w w' := by
 have hu59 := Tryz.underlying59
 have hu118 := Tryz.underlying118
 have hu63 := Tryz.underlying63
 have hu32 := Tryz.underlying32
 have hu65 := Tryz.underlying65
 have HR0_1 := Aside0.mk hr0_1
 have HC0_1 := Aside0.mk hc0_1
 clear hr0_1 hc0_1
 have HR1 := Aside0.mk hr1
 have HC1 := Aside0.mk hc1
 clear hr1 hc1
 have HB := Aside0.mk (Below.refl w.heap.size w)
 have H : (if (l1.length : Int) = (l0_1.length : Int) then (row_Check.l0 k l1 l0_1 (l0_1.length : Int) 0) else (some (some 1))) = some r := h
 clear h
 by_cases c3 : (l1.length : Int) = (l0_1.length : Int)
 ·rw [if_pos c3] at H
  have ⟨c3b0, c3b1⟩ := eqT c3
  have c3b2 : (l1.length == l0_1.length) = true := by first | simpa using c3 | (simp at c3 ⊢; omega)
  clear c3
  have H' := Aside0.mk H
  clear H
  go_enter Tryz.func74, Tryz.ntmps74
  go_wp2_with (first | ((with_reducible refine qgd (N := 2) rfl ?_); refine qB_ 2 #[.string a0_0, .slice A0_1 l0_1.length c0_1] 59 ?_; intro gb306 hg w4 hbox hb; have BK306 := Aside0.mk (hbox); have GW306 := gE_ hg HB; have GE306 := gE_ hg HB; replace HB := bS_ HB hb; clear hb hbox hg; obtain ⟨hcz5_0, hcz5_1, hfz5_0, hfz5_1⟩ := zf2_ BK306))
  go_loopg [18] k (fun kq v18 w' => ∃ (x18_1 : Int), v18 = .int .i64 x18_1 ∧ Aside0 (row_Check.l0 kq l1 l0_1 (l0_1.length : Int) x18_1 = some r) ∧ Aside0 (kq ≤ k) ∧ Aside0 (w'.heap[gb306]? = some (.cells #[.string a0_0, (.slice A0_1 l0_1.length c0_1)] 59 (0, 0))) ∧ Aside0 (Below w.heap.size w w'))
  case atStart => exact ⟨(0), fe_, H', ⟨Nat.le_refl _⟩, ⟨bp_ BK306⟩, ⟨bw_ HB.out⟩⟩
  case round =>
   clear H'
   (try clear c1); (try clear c3); (try clear c3b0); (try clear c3b1); (try clear c3b2); (try clear hcz5_0); (try clear hcz5_1); (try clear hfz5_0); (try clear hfz5_1)
   obtain ⟨x18_1, rfl, HA, HK1, BK306, HB⟩ := hrel
   cases gk with
   | zero => exact absurd HA.out (by simp [row_Check.l0])
   | succ k1 =>
    have H := HA.out
    clear HA
    simp only [row_Check.l0] at H
    by_cases c6 : x18_1 < (l0_1.length : Int)
    ·rw [if_pos c6] at H
     have c6b0 := dcT c6
     clear c6
     have c7 : 0 ≤ x18_1 := Classical.byContradiction fun c7 => by rw [if_neg c7] at H; exact absurd H (by simp)
     rw [if_pos c7] at H
     have c7b0 := dcT c7
     clear c7
     have c8 : x18_1 < (l0_1.length : Int) := Classical.byContradiction fun c8 => by rw [if_neg c8] at H; exact absurd H (by simp)
     rw [if_pos c8] at H
     have c8b0 := dcT c8
     clear c8
     have c9 : x18_1 < (l1.length : Int) := Classical.byContradiction fun c9 => by rw [if_neg c9] at H; exact absurd H (by simp)
     rw [if_pos c9] at H
     have c9b0 := dcT c9
     clear c9
     obtain ⟨t310, A10, H⟩ := bn_ H; (try dsimp only at H)
     rcases t310 with _ | q311
     ·have H1 : (row_Check.l0 k1 l1 l0_1 (l0_1.length : Int) (wrap64 (x18_1 + 1))) = some r := by rw [if_pos (show (none : Option Int).isNone = true by rfl)] at H; exact H
      clear H
      have H := H1
      clear H1
      try simp only [errW_none, errW_some]
      have H' := Aside0.mk H
      clear H
      have p307 : 0 ≤ (x18_1 : Int) := ode_
      have q307 : x18_1 < (l0_1.length : Int) := ode_
      obtain ⟨ad307, e307, hx307_0, hx307_1, hx307_2, hx307_3⟩ := at_T118 HR0_1.out x18_1 p307 q307
      cases e307
      replace hx307_0 := hc_ HB hx307_0
      replace hx307_1 := hc_ HB hx307_1
      replace hx307_2 := hc_ HB hx307_2
      replace hx307_3 := hc_ HB hx307_3
      replace p307 := eq_true p307
      replace q307 := eq_true q307
      try go_wp2_with (first | ((with_reducible refine qgd (N := 6) rfl ?_); refine qB_ 6 #[.string (⟨#[]⟩ : ByteArray), .int .i64 0, .bool false, .bool false] 118 ?_; intro gb308 hg w11 hbox hb; have BK308 := Aside0.mk (hbox); have GW308 := gE_ hg HB; have GE308 := gE_ hg HB; replace HB := bS_ HB hb; have NB306_308 := Aside0.mk ((by rw [hg]; exact Nat.ne_of_lt (blk_lt (g := gb306) (o := .cells #[.string a0_0, .slice (some ad307) l0_1.length c0_1] 59 (0, 0)) (bl_ BK306.out)) : gb306 ≠ gb308)); have NB308_306 := Aside0.mk ((by rw [hg]; exact Nat.ne_of_gt (blk_lt (g := gb306) (o := .cells #[.string a0_0, .slice (some ad307) l0_1.length c0_1] 59 (0, 0)) (bl_ BK306.out)) : gb308 ≠ gb306)); replace BK306 := kB_ BK306 hb; clear hb hbox hg; have hnb12 := NB308_306.out; have hnc12 := NB306_308.out; obtain ⟨hcz13_0, hcz13_1, hcz13_2, hcz13_3, hfz13_0, hfz13_1, hfz13_2, hfz13_3⟩ := zf4_ BK308))
      have n0_ : Aside0 (((((w11.setCell ⟨gb308, 0, none⟩ (.string ((rd_T118 l0_1 x18_1).f0))).setCell ⟨gb308, 1, none⟩ (.int .i64 ((rd_T118 l0_1 x18_1).f1))).setCell ⟨gb308, 2, none⟩ (.bool ((rd_T118 l0_1 x18_1).f2))).setCell ⟨gb308, 3, none⟩ (.bool ((rd_T118 l0_1 x18_1).f3))).heap[gb306]? = some (.cells #[.string a0_0, .slice (some ad307) l0_1.length c0_1] 59 (0, 0))) := ⟨bp_ BK306⟩
      have n1_ : Aside0 (((((w11.setCell ⟨gb308, 0, none⟩ (.string ((rd_T118 l0_1 x18_1).f0))).setCell ⟨gb308, 1, none⟩ (.int .i64 ((rd_T118 l0_1 x18_1).f1))).setCell ⟨gb308, 2, none⟩ (.bool ((rd_T118 l0_1 x18_1).f2))).setCell ⟨gb308, 3, none⟩ (.bool ((rd_T118 l0_1 x18_1).f3))).heap[gb308]? = some (.cells #[.string ((rd_T118 l0_1 x18_1).f0), .int .i64 ((rd_T118 l0_1 x18_1).f1), .bool ((rd_T118 l0_1 x18_1).f2), .bool ((rd_T118 l0_1 x18_1).f3)] 118 (0, 0))) := ⟨bp_ BK308⟩
      have n2_ : Aside0 (Below w.heap.size w ((((w11.setCell ⟨gb308, 0, none⟩ (.string ((rd_T118 l0_1 x18_1).f0))).setCell ⟨gb308, 1, none⟩ (.int .i64 ((rd_T118 l0_1 x18_1).f1))).setCell ⟨gb308, 2, none⟩ (.bool ((rd_T118 l0_1 x18_1).f2))).setCell ⟨gb308, 3, none⟩ (.bool ((rd_T118 l0_1 x18_1).f3)))) := ⟨bw_ HB.out⟩
      (try clear BK306); (try clear BK308); (try clear HB)
      generalize ((((w11.setCell ⟨gb308, 0, none⟩ (.string ((rd_T118 l0_1 x18_1).f0))).setCell ⟨gb308, 1, none⟩ (.int .i64 ((rd_T118 l0_1 x18_1).f1))).setCell ⟨gb308, 2, none⟩ (.bool ((rd_T118 l0_1 x18_1).f2))).setCell ⟨gb308, 3, none⟩ (.bool ((rd_T118 l0_1 x18_1).f3))) = w14 at n0_ n1_ n2_ ⊢
      have BK306 := n0_
      have BK308 := n1_
      have HB := n2_
      clear n0_ n1_ n2_
      replace BK306 := kD_ BK306
      replace BK308 := kD_ BK308
      replace HB := bD_ HB
      have p309 : 0 ≤ (x18_1 : Int) := ode_
      have q309 : x18_1 < (l1.length : Int) := ode_
      obtain ⟨ad309, e309, hx309_0, hx309_1, hx309_2, hx309_3⟩ := at_T63 HR1.out x18_1 p309 q309
      have hw309_3 := hx309_3
      have hw309_2 := hx309_2
      have hw309_1 := hx309_1
      have hw309_0 := hx309_0
      cases e309
      replace hx309_0 := hc_ HB hx309_0
      replace hx309_1 := hc_ HB hx309_1
      replace hx309_2 := hc_ HB hx309_2
      replace hx309_3 := hc_ HB hx309_3
      replace p309 := eq_true p309
      replace q309 := eq_true q309
      refine start_ (n := 7) (S := fun w' => w'.cell? ⟨gb308, 0, none⟩ = some (.string ((rd_T118 l0_1 x18_1).f0)) ∧ w'.cell? ⟨gb308, 1, none⟩ = some (.int .i64 ((rd_T118 l0_1 x18_1).f1)) ∧ w'.cell? ⟨gb308, 2, none⟩ = some (.bool ((rd_T118 l0_1 x18_1).f2)) ∧ w'.cell? ⟨gb308, 3, none⟩ = some (.bool ((rd_T118 l0_1 x18_1).f3)) ∧ w'.cell? (ad309.add ((x18_1).toNat * 4)) = some (.int .i64 ((rd_T63 l1 x18_1).f0)) ∧ w'.cell? ⟨(ad309.add ((x18_1).toNat * 4)).block, (ad309.add ((x18_1).toNat * 4)).off + 1, none⟩ = some (.int .i64 ((rd_T63 l1 x18_1).f1)) ∧ w'.cell? ⟨(ad309.add ((x18_1).toNat * 4)).block, (ad309.add ((x18_1).toNat * 4)).off + 2, none⟩ = some (.string ((rd_T63 l1 x18_1).f2)) ∧ w'.cell? ⟨(ad309.add ((x18_1).toNat * 4)).block, (ad309.add ((x18_1).toNat * 4)).off + 3, none⟩ = some (.bool ((rd_T63 l1 x18_1).f3))) (ds := []) #[false, false, false, false, false, false, false] (by kernel_rfl) rfl rfl ⟨(qkc BK308.out 0).trans rfl, (qkc BK308.out 1).trans rfl, (qkc BK308.out 2).trans rfl, (qkc BK308.out 3).trans rfl, ((HB.out.cell (World.block_lt_of_cell? w _ hw309_0)).trans hw309_0), ((HB.out.cell (World.block_lt_of_cell? w _ hw309_1)).trans hw309_1), ((HB.out.cell (World.block_lt_of_cell? w _ hw309_2)).trans hw309_2), ((HB.out.cell (World.block_lt_of_cell? w _ hw309_3)).trans hw309_3)⟩ (fun hHeld => ?_)
      generalize w14.drew = w15 at BK306 BK308 HB hx309_0 hx309_1 hx309_2 hx309_3 hHeld ⊢
      refine pure_ (i := 1) (N := some 24) (v := ?_) (a' := ?_) #[false, true, false, false, false, false, false] rfl rfl (by kernel_rfl) (fun _ _ _ h => h) (Or.inl ⟨by rfl, ?_⟩) ?_ ?_
      rotate_left
      ·intro w'
       go_simp
       with_reducible rfl
      rotate_left
      ·simp only [Act.put, List.setIfInBounds_toArray, List.set_cons_zero, List.set_cons_succ, i64_w, i32_w]
       rfl
      refine pure_ (i := 2) (N := some 25) (v := ?_) (a' := ?_) #[false, true, true, false, false, false, false] rfl rfl (by kernel_rfl) (fun _ _ _ h => h) (Or.inl ⟨by rfl, ?_⟩) ?_ ?_
      rotate_left
      ·intro w'
       go_simp
       with_reducible rfl
      rotate_left
      ·simp only [Act.put, List.setIfInBounds_toArray, List.set_cons_zero, List.set_cons_succ, i64_w, i32_w]
       rfl
      refine pure_ (i := 3) (N := some 26) (v := ?_) (a' := ?_) #[false, true, true, true, false, false, false] rfl rfl (by kernel_rfl) (fun _ _ _ h => h) (Or.inl ⟨by rfl, ?_⟩) ?_ ?_
      rotate_left
      ·intro w'
       go_simp
       with_reducible rfl
      rotate_left
      ·simp only [Act.put, List.setIfInBounds_toArray, List.set_cons_zero, List.set_cons_succ, i64_w, i32_w]
       rfl
      refine take_ (i := 0) (N := some 23) (v := ?_) (a' := ?_) #[true, true, true, true, false, false, false] rfl rfl (by kernel_rfl) (fun _ _ _ h => h) (Or.inl ⟨by rfl, ?_⟩) hHeld ?_ ?_
      rotate_left
      ·rintro w' ⟨s0, s1, s2, s3, s4, s5, s6, s7⟩
       go_simp
       with_reducible rfl
      rotate_left
      ·simp only [Act.put, List.setIfInBounds_toArray, List.set_cons_zero, List.set_cons_succ, i64_w, i32_w]
       rfl
      refine take_ (i := 4) (N := some 27) (v := ?_) (a' := ?_) #[true, true, true, true, true, false, false] rfl rfl (by kernel_rfl) (fun _ _ _ h => h) (Or.inl ⟨by rfl, ?_⟩) hHeld ?_ ?_
      rotate_left
      ·rintro w' ⟨s0, s1, s2, s3, s4, s5, s6, s7⟩
       go_simp
       with_reducible rfl
      rotate_left
      ·simp only [Act.put, List.setIfInBounds_toArray, List.set_cons_zero, List.set_cons_succ, i64_w, i32_w]
       rfl
      refine one_ (i := 5) (N := some 28) #[true, true, true, true, true, true, false] rfl rfl (by kernel_rfl) (by decide) (fun K hK => ?_)
      refine goes_ Tryz.func89 (by kernel_rfl) rfl #[.agg #[.string ((rd_T118 l0_1 x18_1).f0), .int .i64 ((rd_T118 l0_1 x18_1).f1), .bool ((rd_T118 l0_1 x18_1).f2), .bool ((rd_T118 l0_1 x18_1).f3)], .agg #[.int .i64 ((rd_T63 l1 x18_1).f0), .int .i64 ((rd_T63 l1 x18_1).f1), .string ((rd_T63 l1 x18_1).f2), .bool ((rd_T63 l1 x18_1).f3)]] (by rfl) rfl rfl (by (try simp only [List.map_toArray, List.map_cons, List.map_nil]); first | done | rfl | (simp only [List.length_drop, List.length_take]; rfl)) ?_
      with_reducible refine (row_fits.calls k1 ((rd_T118 l0_1 x18_1).f0) ((rd_T118 l0_1 x18_1).f1) ((rd_T118 l0_1 x18_1).f2) ((rd_T118 l0_1 x18_1).f3) ((rd_T63 l1 x18_1).f0) ((rd_T63 l1 x18_1).f1) ((rd_T63 l1 x18_1).f2) ((rd_T63 l1 x18_1).f3) none _ A10.out).mono ?_
      rintro e w16 ⟨rfl, hb⟩
      refine ⟨_, rfl, ?_⟩
      replace BK306 := kB_ BK306 hb
      replace BK308 := kB_ BK308 hb
      replace HB := bS_ HB hb
      (try clear hb)
      (try simp only [errW_none, errW_some])
      refine hK.out _ _ ⟨(qkc BK308.out 0).trans rfl, (qkc BK308.out 1).trans rfl, (qkc BK308.out 2).trans rfl, (qkc BK308.out 3).trans rfl, ((HB.out.cell (World.block_lt_of_cell? w _ hw309_0)).trans hw309_0), ((HB.out.cell (World.block_lt_of_cell? w _ hw309_1)).trans hw309_1), ((HB.out.cell (World.block_lt_of_cell? w _ hw309_2)).trans hw309_2), ((HB.out.cell (World.block_lt_of_cell? w _ hw309_3)).trans hw309_3)⟩ (fun hHeld => ?_)
      clear hK K
      refine norm_ (a' := ?_) ?_ ?_
      rotate_left
      ·show Act.put _ (some 28) _ = _
       simp only [Act.put, List.setIfInBounds_toArray, List.set_cons_zero, List.set_cons_succ, i64_w, i32_w]
       rfl
      refine pure_ (i := 6) (N := some 7) (v := ?_) (a' := ?_) #[true, true, true, true, true, true, true] rfl rfl (by kernel_rfl) (fun _ _ _ h => h) (Or.inl ⟨by rfl, ?_⟩) ?_ ?_
      rotate_left
      ·intro w'
       go_simp
       with_reducible rfl
      rotate_left
      ·simp only [Act.put, List.setIfInBounds_toArray, List.set_cons_zero, List.set_cons_succ, i64_w, i32_w]
       rfl
      refine done_ (by kernel_rfl) ?_
      try go_wp2
      go_roundg k1
      case measure => have := HK1.out; omega
      case rel => exact ⟨(wrap64 (x18_1 + 1)), fe_, H', ⟨by have := HK1.out; omega⟩, ⟨bp_ BK306⟩, ⟨bw_ HB.out⟩⟩
     have H1 : (some (some q311)) = some r := by rw [if_neg (show ¬ (some q311).isNone = true by simp)] at H; exact H
     clear H
     have H := H1
     clear H1
     try simp only [errW_none, errW_some]
     obtain rfl := Option.some.inj H
     have p307 : 0 ≤ (x18_1 : Int) := ode_
     have q307 : x18_1 < (l0_1.length : Int) := ode_
     obtain ⟨ad307, e307, hx307_0, hx307_1, hx307_2, hx307_3⟩ := at_T118 HR0_1.out x18_1 p307 q307
     cases e307
     replace hx307_0 := hc_ HB hx307_0
     replace hx307_1 := hc_ HB hx307_1
     replace hx307_2 := hc_ HB hx307_2
     replace hx307_3 := hc_ HB hx307_3
     replace p307 := eq_true p307
     replace q307 := eq_true q307
     try go_wp2_with (first | ((with_reducible refine qgd (N := 6) rfl ?_); refine qB_ 6 #[.string (⟨#[]⟩ : ByteArray), .int .i64 0, .bool false, .bool false] 118 ?_; intro gb308 hg w17 hbox hb; have BK308 := Aside0.mk (hbox); have GW308 := gE_ hg HB; have GE308 := gE_ hg HB; replace HB := bS_ HB hb; have NB306_308 := Aside0.mk ((by rw [hg]; exact Nat.ne_of_lt (blk_lt (g := gb306) (o := .cells #[.string a0_0, .slice (some ad307) l0_1.length c0_1] 59 (0, 0)) (bl_ BK306.out)) : gb306 ≠ gb308)); have NB308_306 := Aside0.mk ((by rw [hg]; exact Nat.ne_of_gt (blk_lt (g := gb306) (o := .cells #[.string a0_0, .slice (some ad307) l0_1.length c0_1] 59 (0, 0)) (bl_ BK306.out)) : gb308 ≠ gb306)); replace BK306 := kB_ BK306 hb; clear hb hbox hg; have hnb18 := NB308_306.out; have hnc18 := NB306_308.out; obtain ⟨hcz19_0, hcz19_1, hcz19_2, hcz19_3, hfz19_0, hfz19_1, hfz19_2, hfz19_3⟩ := zf4_ BK308))
     have n0_ : Aside0 (((((w17.setCell ⟨gb308, 0, none⟩ (.string ((rd_T118 l0_1 x18_1).f0))).setCell ⟨gb308, 1, none⟩ (.int .i64 ((rd_T118 l0_1 x18_1).f1))).setCell ⟨gb308, 2, none⟩ (.bool ((rd_T118 l0_1 x18_1).f2))).setCell ⟨gb308, 3, none⟩ (.bool ((rd_T118 l0_1 x18_1).f3))).heap[gb306]? = some (.cells #[.string a0_0, .slice (some ad307) l0_1.length c0_1] 59 (0, 0))) := ⟨bp_ BK306⟩
     have n1_ : Aside0 (((((w17.setCell ⟨gb308, 0, none⟩ (.string ((rd_T118 l0_1 x18_1).f0))).setCell ⟨gb308, 1, none⟩ (.int .i64 ((rd_T118 l0_1 x18_1).f1))).setCell ⟨gb308, 2, none⟩ (.bool ((rd_T118 l0_1 x18_1).f2))).setCell ⟨gb308, 3, none⟩ (.bool ((rd_T118 l0_1 x18_1).f3))).heap[gb308]? = some (.cells #[.string ((rd_T118 l0_1 x18_1).f0), .int .i64 ((rd_T118 l0_1 x18_1).f1), .bool ((rd_T118 l0_1 x18_1).f2), .bool ((rd_T118 l0_1 x18_1).f3)] 118 (0, 0))) := ⟨bp_ BK308⟩
     have n2_ : Aside0 (Below w.heap.size w ((((w17.setCell ⟨gb308, 0, none⟩ (.string ((rd_T118 l0_1 x18_1).f0))).setCell ⟨gb308, 1, none⟩ (.int .i64 ((rd_T118 l0_1 x18_1).f1))).setCell ⟨gb308, 2, none⟩ (.bool ((rd_T118 l0_1 x18_1).f2))).setCell ⟨gb308, 3, none⟩ (.bool ((rd_T118 l0_1 x18_1).f3)))) := ⟨bw_ HB.out⟩
     (try clear BK306); (try clear BK308); (try clear HB)
     generalize ((((w17.setCell ⟨gb308, 0, none⟩ (.string ((rd_T118 l0_1 x18_1).f0))).setCell ⟨gb308, 1, none⟩ (.int .i64 ((rd_T118 l0_1 x18_1).f1))).setCell ⟨gb308, 2, none⟩ (.bool ((rd_T118 l0_1 x18_1).f2))).setCell ⟨gb308, 3, none⟩ (.bool ((rd_T118 l0_1 x18_1).f3))) = w20 at n0_ n1_ n2_ ⊢
     have BK306 := n0_
     have BK308 := n1_
     have HB := n2_
     clear n0_ n1_ n2_
     replace BK306 := kD_ BK306
     replace BK308 := kD_ BK308
     replace HB := bD_ HB
     have p309 : 0 ≤ (x18_1 : Int) := ode_
     have q309 : x18_1 < (l1.length : Int) := ode_
     obtain ⟨ad309, e309, hx309_0, hx309_1, hx309_2, hx309_3⟩ := at_T63 HR1.out x18_1 p309 q309
     have hw309_3 := hx309_3
     have hw309_2 := hx309_2
     have hw309_1 := hx309_1
     have hw309_0 := hx309_0
     cases e309
     replace hx309_0 := hc_ HB hx309_0
     replace hx309_1 := hc_ HB hx309_1
     replace hx309_2 := hc_ HB hx309_2
     replace hx309_3 := hc_ HB hx309_3
     replace p309 := eq_true p309
     replace q309 := eq_true q309
     refine start_ (n := 7) (S := fun w' => w'.cell? ⟨gb308, 0, none⟩ = some (.string ((rd_T118 l0_1 x18_1).f0)) ∧ w'.cell? ⟨gb308, 1, none⟩ = some (.int .i64 ((rd_T118 l0_1 x18_1).f1)) ∧ w'.cell? ⟨gb308, 2, none⟩ = some (.bool ((rd_T118 l0_1 x18_1).f2)) ∧ w'.cell? ⟨gb308, 3, none⟩ = some (.bool ((rd_T118 l0_1 x18_1).f3)) ∧ w'.cell? (ad309.add ((x18_1).toNat * 4)) = some (.int .i64 ((rd_T63 l1 x18_1).f0)) ∧ w'.cell? ⟨(ad309.add ((x18_1).toNat * 4)).block, (ad309.add ((x18_1).toNat * 4)).off + 1, none⟩ = some (.int .i64 ((rd_T63 l1 x18_1).f1)) ∧ w'.cell? ⟨(ad309.add ((x18_1).toNat * 4)).block, (ad309.add ((x18_1).toNat * 4)).off + 2, none⟩ = some (.string ((rd_T63 l1 x18_1).f2)) ∧ w'.cell? ⟨(ad309.add ((x18_1).toNat * 4)).block, (ad309.add ((x18_1).toNat * 4)).off + 3, none⟩ = some (.bool ((rd_T63 l1 x18_1).f3))) (ds := []) #[false, false, false, false, false, false, false] (by kernel_rfl) rfl rfl ⟨(qkc BK308.out 0).trans rfl, (qkc BK308.out 1).trans rfl, (qkc BK308.out 2).trans rfl, (qkc BK308.out 3).trans rfl, ((HB.out.cell (World.block_lt_of_cell? w _ hw309_0)).trans hw309_0), ((HB.out.cell (World.block_lt_of_cell? w _ hw309_1)).trans hw309_1), ((HB.out.cell (World.block_lt_of_cell? w _ hw309_2)).trans hw309_2), ((HB.out.cell (World.block_lt_of_cell? w _ hw309_3)).trans hw309_3)⟩ (fun hHeld => ?_)
     generalize w20.drew = w21 at BK306 BK308 HB hx309_0 hx309_1 hx309_2 hx309_3 hHeld ⊢
     refine pure_ (i := 1) (N := some 24) (v := ?_) (a' := ?_) #[false, true, false, false, false, false, false] rfl rfl (by kernel_rfl) (fun _ _ _ h => h) (Or.inl ⟨by rfl, ?_⟩) ?_ ?_
     rotate_left
     ·intro w'
      go_simp
      with_reducible rfl
     rotate_left
     ·simp only [Act.put, List.setIfInBounds_toArray, List.set_cons_zero, List.set_cons_succ, i64_w, i32_w]
      rfl
     refine pure_ (i := 2) (N := some 25) (v := ?_) (a' := ?_) #[false, true, true, false, false, false, false] rfl rfl (by kernel_rfl) (fun _ _ _ h => h) (Or.inl ⟨by rfl, ?_⟩) ?_ ?_
     rotate_left
     ·intro w'
      go_simp
      with_reducible rfl
     rotate_left
     ·simp only [Act.put, List.setIfInBounds_toArray, List.set_cons_zero, List.set_cons_succ, i64_w, i32_w]
      rfl
     refine pure_ (i := 3) (N := some 26) (v := ?_) (a' := ?_) #[false, true, true, true, false, false, false] rfl rfl (by kernel_rfl) (fun _ _ _ h => h) (Or.inl ⟨by rfl, ?_⟩) ?_ ?_
     rotate_left
     ·intro w'
      go_simp
      with_reducible rfl
     rotate_left
     ·simp only [Act.put, List.setIfInBounds_toArray, List.set_cons_zero, List.set_cons_succ, i64_w, i32_w]
      rfl
     refine take_ (i := 0) (N := some 23) (v := ?_) (a' := ?_) #[true, true, true, true, false, false, false] rfl rfl (by kernel_rfl) (fun _ _ _ h => h) (Or.inl ⟨by rfl, ?_⟩) hHeld ?_ ?_
     rotate_left
     ·rintro w' ⟨s0, s1, s2, s3, s4, s5, s6, s7⟩
      go_simp
      with_reducible rfl
     rotate_left
     ·simp only [Act.put, List.setIfInBounds_toArray, List.set_cons_zero, List.set_cons_succ, i64_w, i32_w]
      rfl
     refine take_ (i := 4) (N := some 27) (v := ?_) (a' := ?_) #[true, true, true, true, true, false, false] rfl rfl (by kernel_rfl) (fun _ _ _ h => h) (Or.inl ⟨by rfl, ?_⟩) hHeld ?_ ?_
     rotate_left
     ·rintro w' ⟨s0, s1, s2, s3, s4, s5, s6, s7⟩
      go_simp
      with_reducible rfl
     rotate_left
     ·simp only [Act.put, List.setIfInBounds_toArray, List.set_cons_zero, List.set_cons_succ, i64_w, i32_w]
      rfl
     refine one_ (i := 5) (N := some 28) #[true, true, true, true, true, true, false] rfl rfl (by kernel_rfl) (by decide) (fun K hK => ?_)
     refine goes_ Tryz.func89 (by kernel_rfl) rfl #[.agg #[.string ((rd_T118 l0_1 x18_1).f0), .int .i64 ((rd_T118 l0_1 x18_1).f1), .bool ((rd_T118 l0_1 x18_1).f2), .bool ((rd_T118 l0_1 x18_1).f3)], .agg #[.int .i64 ((rd_T63 l1 x18_1).f0), .int .i64 ((rd_T63 l1 x18_1).f1), .string ((rd_T63 l1 x18_1).f2), .bool ((rd_T63 l1 x18_1).f3)]] (by rfl) rfl rfl (by (try simp only [List.map_toArray, List.map_cons, List.map_nil]); first | done | rfl | (simp only [List.length_drop, List.length_take]; rfl)) ?_
     with_reducible refine (row_fits.calls k1 ((rd_T118 l0_1 x18_1).f0) ((rd_T118 l0_1 x18_1).f1) ((rd_T118 l0_1 x18_1).f2) ((rd_T118 l0_1 x18_1).f3) ((rd_T63 l1 x18_1).f0) ((rd_T63 l1 x18_1).f1) ((rd_T63 l1 x18_1).f2) ((rd_T63 l1 x18_1).f3) (some q311) _ A10.out).mono ?_
     rintro e w22 ⟨rfl, hb⟩
     refine ⟨_, rfl, ?_⟩
     replace BK306 := kB_ BK306 hb
     replace BK308 := kB_ BK308 hb
     replace HB := bS_ HB hb
     (try clear hb)
     (try simp only [errW_none, errW_some])
     refine hK.out _ _ ⟨(qkc BK308.out 0).trans rfl, (qkc BK308.out 1).trans rfl, (qkc BK308.out 2).trans rfl, (qkc BK308.out 3).trans rfl, ((HB.out.cell (World.block_lt_of_cell? w _ hw309_0)).trans hw309_0), ((HB.out.cell (World.block_lt_of_cell? w _ hw309_1)).trans hw309_1), ((HB.out.cell (World.block_lt_of_cell? w _ hw309_2)).trans hw309_2), ((HB.out.cell (World.block_lt_of_cell? w _ hw309_3)).trans hw309_3)⟩ (fun hHeld => ?_)
     clear hK K
     refine norm_ (a' := ?_) ?_ ?_
     rotate_left
     ·show Act.put _ (some 28) _ = _
      simp only [Act.put, List.setIfInBounds_toArray, List.set_cons_zero, List.set_cons_succ, i64_w, i32_w]
      rfl
     refine pure_ (i := 6) (N := some 7) (v := ?_) (a' := ?_) #[true, true, true, true, true, true, true] rfl rfl (by kernel_rfl) (fun _ _ _ h => h) (Or.inl ⟨by rfl, ?_⟩) ?_ ?_
     rotate_left
     ·intro w'
      go_simp
      with_reducible rfl
     rotate_left
     ·simp only [Act.put, List.setIfInBounds_toArray, List.set_cons_zero, List.set_cons_succ, i64_w, i32_w]
      rfl
     refine done_ (by kernel_rfl) ?_
     try go_wp2
     go_ret
     exact ⟨fr_, bw_ HB.out⟩
    rw [if_neg c6] at H
    have c6b0 := dcF c6
    clear c6
    obtain rfl := Option.some.inj H
    go_wp2
    go_ret
    exact ⟨fr_, bw_ HB.out⟩
 rw [if_neg c3] at H
 have ⟨c3b0, c3b1⟩ := eqF c3
 have c3b2 : (l1.length == l0_1.length) = false := by first | simpa using c3 | (simp at c3 ⊢; omega)
 obtain rfl := Option.some.inj H
 go_enter Tryz.func74, Tryz.ntmps74
 go_wp2_with (first | ((with_reducible refine qgd (N := 2) rfl ?_); refine qB_ 2 #[.string a0_0, .slice A0_1 l0_1.length c0_1] 59 ?_; intro gb306 hg w23 hbox hb; have BK306 := Aside0.mk (hbox); have GW306 := gE_ hg HB; have GE306 := gE_ hg HB; replace HB := bS_ HB hb; clear hb hbox hg; obtain ⟨hcz24_0, hcz24_1, hfz24_0, hfz24_1⟩ := zf2_ BK306))
 go_ret
 exact ⟨fr_, bw_ HB.out⟩

/-! ### pack_AppendInt: function 75 -/
def pack_AppendInt.f (k : Nat) (l0 : List Int) (a1 : Int) : Option (List Int) := (pack_AppendUint.f k l0 (Go.bits .xor .u64 (IntKind.u64.wrap ((IntKind.u64.wrap (a1)) * 2)) (IntKind.u64.wrap (a1 / 9223372036854775808)))).bind fun t312 => (some t312)
set_option maxHeartbeats 8000000 in
set_option maxRecDepth 100000 in
theorem pack_AppendInt.calls (k : Nat) (A0 : Option Addr) (c0 : Nat) (l0 : List Int) (a1 : Int) (r : List Int) (w : World) (hr0 : Kd.C (Kd.int .u8) w A0 l0.length l0) (hc0 : l0.length ≤ c0) (h : pack_AppendInt.f k l0 a1 = some r) :
  Calls Tryz.prog 75 #[.slice A0 l0.length c0, .int .i64 a1] w fun e w' => ∃ v0_ : Value, e = .returned (v0_) ∧ Kd.R (Kd.int .u8) 5 w' w.heap.size (fun _ => True) v0_ r ∧ Below w.heap.size w w' := by
 have HR0 := Aside0.mk hr0
 have HC0 := Aside0.mk hc0
 clear hr0 hc0
 have HB := Aside0.mk (Below.refl w.heap.size w)
 have H : ((pack_AppendUint.f k l0 (Go.bits .xor .u64 (IntKind.u64.wrap ((IntKind.u64.wrap (a1)) * 2)) (IntKind.u64.wrap (a1 / 9223372036854775808)))).bind fun t312 => (some t312)) = some r := h
 clear h
 obtain ⟨t312, A3, H⟩ := bn_ H; (try dsimp only at H)
 obtain rfl := Option.some.inj H
 go_enter Tryz.func75, Tryz.ntmps75
 go_wp2_with (first | ((with_reducible refine qgc (f := 45) rfl ?_); refine gL_ (some 13) Tryz.func45 #[.slice A0 l0.length c0, .int .u64 (Go.bits .xor .u64 (IntKind.u64.wrap ((IntKind.u64.wrap (a1)) * 2)) (IntKind.u64.wrap (a1 / 9223372036854775808)))] ?_; (with_reducible refine (pack_AppendUint.calls k _ _ l0 (Go.bits .xor .u64 (IntKind.u64.wrap ((IntKind.u64.wrap (a1)) * 2)) (IntKind.u64.wrap (a1 / 9223372036854775808))) t312 _ ?side1 ?side2 A3.out).mono ?_); (case side1 => exact kC_ HR0.out); (case side2 => exact HC0.out); rintro e w4 ⟨v313, rfl, ho0, hb⟩; refine ⟨_, rfl, ?_⟩; have HO314 := Rl_ ho0 HB; replace HB := bS_ HB hb; clear hb; (try clear ho0)))
 go_ret
 exact ⟨_, fr_, by (with_reducible repeat (first | apply Kd.R_alloc | apply Kd.R_drewN | apply Kd.R_drew)); exact HO314.out, bw_ HB.out⟩

/-! ### row_Encode: function 48 -/
def row_Encode.l0 : Nat → List Int → List (S63) → Int → Int → Option (List Int × Option Int)
 | 0, _, _, _, _ => none
 | k + 1, x7, x17, x18, x19 => if x19 < x18 then (if 0 ≤ x19 then (if x19 < (x17.length : Int) then (if ((rd_T63 x17 x19).f0) = 0 then (if x7.length < 140737488355328 then (row_Encode.l0 k (x7 ++ [0]) x17 x18 (wrap64 (x19 + 1))) else (none)) else (if x7.length < 140737488355328 then ((some (x7 ++ [1] : List Int)).bind fun y323 => (if ((rd_T63 x17 x19).f0) = 1 then ((pack_AppendInt.f k y323 ((rd_T63 x17 x19).f1)).bind fun t326 => (row_Encode.l0 k t326 x17 x18 (wrap64 (x19 + 1)))) else (if ((rd_T63 x17 x19).f0) = 2 then ((pack_AppendText.f k y323 ((rd_T63 x17 x19).f2)).bind fun t329 => (row_Encode.l0 k t329 x17 x18 (wrap64 (x19 + 1)))) else (if (rd_T63 x17 x19).f3 = true then (if y323.length < 140737488355328 then (row_Encode.l0 k (y323 ++ [1]) x17 x18 (wrap64 (x19 + 1))) else (none)) else (if y323.length < 140737488355328 then (row_Encode.l0 k (y323 ++ [0]) x17 x18 (wrap64 (x19 + 1))) else (none)))))) else (none))) else (none)) else (none)) else (some (x7, none))
def row_Encode.f (k : Nat) (a0_0 : ByteArray) (l0_1 : List (S118)) (l1 : List (S63)) : Option (List Int × Option Int) := (row_Check.f k a0_0 l0_1 l1).bind fun t316 => (if t316.isNone = true then (row_Encode.l0 k ([] : List Int) l1 (l1.length : Int) 0) else (some (([] : List Int), some (t316.getD 0))))
set_option maxHeartbeats 8000000 in
set_option maxRecDepth 100000 in
theorem row_Encode.calls (k : Nat) (a0_0 : ByteArray) (A0_1 : Option Addr) (c0_1 : Nat) (l0_1 : List (S118)) (A1 : Option Addr) (c1 : Nat) (l1 : List (S63)) (r1 : List Int) (r2 : Option Int) (w : World) (hr0_1 : Kd.C k118 w A0_1 l0_1.length l0_1) (hc0_1 : l0_1.length ≤ c0_1) (hr1 : Kd.C k63 w A1 l1.length l1) (hc1 : l1.length ≤ c1) (h : row_Encode.f k a0_0 l0_1 l1 = some (r1, r2)) :
  Calls Tryz.prog 48 #[.agg #[.string a0_0, .slice A0_1 l0_1.length c0_1], .slice A1 l1.length c1] w fun e w' => ∃ v0_ : Value, e = .returned (.tuple #[v0_, errW r2]) ∧ Kd.R (Kd.int .u8) 5 w' w.heap.size (fun _ => True) v0_ r1 ∧ Below w.heap.size w w' := by
 have hu59 := Tryz.underlying59
 have hu63 := Tryz.underlying63
 have hu32 := Tryz.underlying32
 have hu65 := Tryz.underlying65
 have HR0_1 := Aside0.mk hr0_1
 have HC0_1 := Aside0.mk hc0_1
 clear hr0_1 hc0_1
 have HR1 := Aside0.mk hr1
 have HC1 := Aside0.mk hc1
 clear hr1 hc1
 have HB := Aside0.mk (Below.refl w.heap.size w)
 have H : ((row_Check.f k a0_0 l0_1 l1).bind fun t316 => (if t316.isNone = true then (row_Encode.l0 k ([] : List Int) l1 (l1.length : Int) 0) else (some (([] : List Int), some (t316.getD 0))))) = some (r1, r2) := h
 clear h
 obtain ⟨t316, A3, H⟩ := bn_ H; (try dsimp only at H)
 rcases t316 with _ | q317
 ·have H1 : (row_Encode.l0 k ([] : List Int) l1 (l1.length : Int) 0) = some (r1, r2) := by rw [if_pos (show (none : Option Int).isNone = true by rfl)] at H; exact H
  clear H
  have H := H1
  clear H1
  try simp only [errW_none, errW_some]
  have H' := Aside0.mk H
  clear H
  go_enter Tryz.func48, Tryz.ntmps48
  go_wp2_with (first | ((with_reducible refine qgd (N := 2) rfl ?_); refine qB_ 2 #[.string a0_0, .slice A0_1 l0_1.length c0_1] 59 ?_; intro gb315 hg w4 hbox hb; have BK315 := Aside0.mk (hbox); have GW315 := gE_ hg HB; have GE315 := gE_ hg HB; replace HB := bS_ HB hb; clear hb hbox hg; obtain ⟨hcz5_0, hcz5_1, hfz5_0, hfz5_1⟩ := zf2_ BK315) | ((with_reducible refine qgc (f := 74) rfl ?_); refine gL_ (some 13) Tryz.func74 #[.agg #[.string a0_0, .slice A0_1 l0_1.length c0_1], .slice A1 l1.length c1] ?_; (with_reducible refine (row_Check.calls k a0_0 _ _ l0_1 _ _ l1 none _ ?side1 ?side2 ?side3 ?side4 A3.out).mono ?_); (case side1 => exact kC_ (Kd.C_below HR0_1.out HB.out)); (case side2 => exact HC0_1.out); (case side3 => exact kC_ (Kd.C_below HR1.out HB.out)); (case side4 => exact HC1.out); rintro e w6 ⟨rfl, hb⟩; refine ⟨_, rfl, ?_⟩; replace BK315 := kB_ BK315 hb; replace HB := bS_ HB hb; clear hb; (try simp only [errW_none, errW_some])))
  go_loopg [7, 19] k (fun kq v7 v19 w' => ∃ (x7_1 : List Int) (x19_1 : Int), v19 = .int .i64 x19_1 ∧ Aside0 (row_Encode.l0 kq x7_1 l1 (l1.length : Int) x19_1 = some (r1, r2)) ∧ Aside0 (kq ≤ k) ∧ Aside0 (Kd.R (Kd.int .u8) 5 w' w.heap.size (fun _ => True) v7 x7_1) ∧ Aside0 (w'.heap[gb315]? = some (.cells #[.string a0_0, (.slice A0_1 l0_1.length c0_1)] 59 (0, 0))) ∧ Aside0 (Below w.heap.size w w'))
  case atStart => exact ⟨(([] : List Int)), (0), fe_, H', ⟨Nat.le_refl _⟩, ⟨by first | exact Kd.R_nil _ _ _ _ _ | exact Kd.N_nil _ _ _ _ _ | exact Kd.V_nil _ _ _ _ _ | exact Kd.Q_nil _ _ _ _ _ | exact Kd.S_nil _ _ _ _ _⟩, ⟨bp_ BK315⟩, ⟨bw_ HB.out⟩⟩
  case round =>
   clear H'
   (try clear c1); (try clear hcz5_0); (try clear hcz5_1); (try clear hfz5_0); (try clear hfz5_1); (try clear q317)
   obtain ⟨x7_1, x19_1, rfl, HA, HK1, HO_7, BK315, HB⟩ := hrel
   cases gk with
   | zero => exact absurd HA.out (by simp [row_Encode.l0])
   | succ k1 =>
    have H := HA.out
    clear HA
    simp only [row_Encode.l0] at H
    by_cases c7 : x19_1 < (l1.length : Int)
    ·rw [if_pos c7] at H
     have c7b0 := dcT c7
     clear c7
     have c8 : 0 ≤ x19_1 := Classical.byContradiction fun c8 => by rw [if_neg c8] at H; exact absurd H (by simp)
     rw [if_pos c8] at H
     have c8b0 := dcT c8
     clear c8
     have c9 : x19_1 < (l1.length : Int) := Classical.byContradiction fun c9 => by rw [if_neg c9] at H; exact absurd H (by simp)
     rw [if_pos c9] at H
     have c9b0 := dcT c9
     clear c9
     by_cases c10 : ((rd_T63 l1 x19_1).f0) = 0
     ·rw [if_pos c10] at H
      have ⟨c10b0, c10b1⟩ := eqT c10
      clear c10
      have c11 : x7_1.length < 140737488355328 := Classical.byContradiction fun c11 => by rw [if_neg c11] at H; exact absurd H (by simp)
      rw [if_pos c11] at H
      have LMc11 := Aside0.mk c11
      clear c11
      first | (revert H; with_reducible refine nm_ fun y320 hy320 H => ?_) | (generalize hy320 : (x7_1 ++ [0] : List Int) = y320 at H; replace hy320 := hy320.symm)
      have Ny320 := Aside0.mk hy320; clear hy320
      have H' := Aside0.mk H
      clear H
      have p318 : 0 ≤ (x19_1 : Int) := ode_
      have q318 : x19_1 < (l1.length : Int) := ode_
      obtain ⟨ad318, e318, hx318_0, hx318_1, hx318_2, hx318_3⟩ := at_T63 HR1.out x19_1 p318 q318
      cases e318
      replace hx318_0 := hc_ HB hx318_0
      replace hx318_1 := hc_ HB hx318_1
      replace hx318_2 := hc_ HB hx318_2
      replace hx318_3 := hc_ HB hx318_3
      replace p318 := eq_true p318
      replace q318 := eq_true q318
      go_wp2_with (first | ((with_reducible refine qgd (N := 9) rfl ?_); refine qB_ 9 #[.int .i64 0, .int .i64 0, .string (⟨#[]⟩ : ByteArray), .bool false] 63 ?_; intro gb319 hg w12 hbox hb; replace HO_7 := RB_ HO_7 hb; have BK319 := Aside0.mk (hbox); have GW319 := gE_ hg HB; have GE319 := gE_ hg HB; replace HB := bS_ HB hb; have NB315_319 := Aside0.mk ((by rw [hg]; exact Nat.ne_of_lt (blk_lt (g := gb315) (o := .cells #[.string a0_0, .slice A0_1 l0_1.length c0_1] 59 (0, 0)) (bl_ BK315.out)) : gb315 ≠ gb319)); have NB319_315 := Aside0.mk ((by rw [hg]; exact Nat.ne_of_gt (blk_lt (g := gb315) (o := .cells #[.string a0_0, .slice A0_1 l0_1.length c0_1] 59 (0, 0)) (bl_ BK315.out)) : gb319 ≠ gb315)); replace BK315 := kB_ BK315 hb; clear hb hbox hg; have hnb13 := NB319_315.out; have hnc13 := NB315_319.out; obtain ⟨hcz14_0, hcz14_1, hcz14_2, hcz14_3, hfz14_0, hfz14_1, hfz14_2, hfz14_3⟩ := zf4_ BK319) | ((with_reducible refine gate_builtin (b := .append) (xs := #[.tmp 26, .tmp 27]) rfl ?_); at_builtin; refine Kd.R_append (Kd.int .u8) (w0 := w) w.heap.size rfl (.tmp 26) (.tmp 27) 27 5 (.int .u8 0) 1 rfl Tryz.underlying27 info5 rfl (by decide) (by omega) u7 x7_1 0 [.int .u8 0] (fun _ => True) (fun _ => False) rfl (by first | (go_simp; done) | (go_simp; rfl)) ?aP (fun _ hk => hk.elim) (fun _ _ => trivial) ?aO (bw_ HB.out) (qbz (bw_ HB.out)) (by have := LMc11.out; omega) ?_; (case aP => exact rfl); (case aO => exact (by (with_reducible repeat (first | apply Kd.R_alloc | apply Kd.R_drewN | apply Kd.R_drew)); exact Kd.R_mono (Kd.R_far (p := ⟨gb319, 3, none⟩) (Kd.R_far (p := ⟨gb319, 2, none⟩) (Kd.R_far (p := ⟨gb319, 1, none⟩) (Kd.R_far (p := ⟨gb319, 0, none⟩) (Kd.R_types HO_7.out BK319.out (by decide)) (fun _ hk => hk.2) (.int .i64 ((rd_T63 l1 x19_1).f0))) (fun _ hk => hk.2) (.int .i64 ((rd_T63 l1 x19_1).f1))) (fun _ hk => hk.2) (.string ((rd_T63 l1 x19_1).f2))) (fun _ hk => hk.2) (.bool ((rd_T63 l1 x19_1).f3))) (fun _ hk => trivial))); intro v321 w15 ho hb hg hat; rw [← Ny320.out] at ho; replace BK315 := Aside0.mk (blk_grown (g := gb315) (o := .cells #[.string a0_0, .slice A0_1 l0_1.length c0_1] 59 (0, 0)) (bp_ BK315) hg (Kd.R_ne HO_7.out BK315.out (by decide))); replace BK319 := Aside0.mk (blk_grown (g := gb319) (o := .cells #[.int .i64 ((rd_T63 l1 x19_1).f0), .int .i64 ((rd_T63 l1 x19_1).f1), .string ((rd_T63 l1 x19_1).f2), .bool ((rd_T63 l1 x19_1).f3)] 63 (0, 0)) (bp_ BK319) hg (Kd.R_ne HO_7.out BK319.out (by decide))); replace HB := Aside0.mk (hb); have HO322 := Aside0.mk (ho); clear HO_7 ho hb hg hat))
      go_roundg k1
      case measure => have := HK1.out; omega
      case rel => exact ⟨(y320), (wrap64 (x19_1 + 1)), fe_, H', ⟨by have := HK1.out; omega⟩, ⟨by (with_reducible repeat (first | apply Kd.R_alloc | apply Kd.R_drewN | apply Kd.R_drew)); exact HO322.out⟩, ⟨bp_ BK315⟩, ⟨bw_ HB.out⟩⟩
     rw [if_neg c10] at H
     have ⟨c10b0, c10b1⟩ := eqF c10
     have c16 : x7_1.length < 140737488355328 := Classical.byContradiction fun c16 => by rw [if_neg c16] at H; exact absurd H (by simp)
     rw [if_pos c16] at H
     have LMc16 := Aside0.mk c16
     clear c16
     first | (revert H; with_reducible refine nm_ fun y323 hy323 H => ?_) | (generalize hy323 : (x7_1 ++ [1] : List Int) = y323 at H; replace hy323 := hy323.symm)
     have Ny323 := Aside0.mk hy323; clear hy323
     by_cases c17 : ((rd_T63 l1 x19_1).f0) = 1
     ·rw [if_pos c17] at H
      have ⟨c17b0, c17b1⟩ := eqT c17
      clear c17
      obtain ⟨t326, A18, H⟩ := bn_ H; (try dsimp only at H)
      have H' := Aside0.mk H
      clear H
      have p318 : 0 ≤ (x19_1 : Int) := ode_
      have q318 : x19_1 < (l1.length : Int) := ode_
      obtain ⟨ad318, e318, hx318_0, hx318_1, hx318_2, hx318_3⟩ := at_T63 HR1.out x19_1 p318 q318
      cases e318
      replace hx318_0 := hc_ HB hx318_0
      replace hx318_1 := hc_ HB hx318_1
      replace hx318_2 := hc_ HB hx318_2
      replace hx318_3 := hc_ HB hx318_3
      replace p318 := eq_true p318
      replace q318 := eq_true q318
      go_wp2_with (first | ((with_reducible refine qgd (N := 9) rfl ?_); refine qB_ 9 #[.int .i64 0, .int .i64 0, .string (⟨#[]⟩ : ByteArray), .bool false] 63 ?_; intro gb319 hg w19 hbox hb; replace HO_7 := RB_ HO_7 hb; have BK319 := Aside0.mk (hbox); have GW319 := gE_ hg HB; have GE319 := gE_ hg HB; replace HB := bS_ HB hb; have NB315_319 := Aside0.mk ((by rw [hg]; exact Nat.ne_of_lt (blk_lt (g := gb315) (o := .cells #[.string a0_0, .slice A0_1 l0_1.length c0_1] 59 (0, 0)) (bl_ BK315.out)) : gb315 ≠ gb319)); have NB319_315 := Aside0.mk ((by rw [hg]; exact Nat.ne_of_gt (blk_lt (g := gb315) (o := .cells #[.string a0_0, .slice A0_1 l0_1.length c0_1] 59 (0, 0)) (bl_ BK315.out)) : gb319 ≠ gb315)); replace BK315 := kB_ BK315 hb; clear hb hbox hg; have hnb20 := NB319_315.out; have hnc20 := NB315_319.out; obtain ⟨hcz21_0, hcz21_1, hcz21_2, hcz21_3, hfz21_0, hfz21_1, hfz21_2, hfz21_3⟩ := zf4_ BK319) | ((with_reducible refine gate_builtin (b := .append) (xs := #[.tmp 29, .tmp 30]) rfl ?_); at_builtin; refine Kd.R_append (Kd.int .u8) (w0 := w) w.heap.size rfl (.tmp 29) (.tmp 30) 27 5 (.int .u8 0) 1 rfl Tryz.underlying27 info5 rfl (by decide) (by omega) u7 x7_1 1 [.int .u8 1] (fun _ => True) (fun _ => False) rfl (by first | (go_simp; done) | (go_simp; rfl)) ?aP (fun _ hk => hk.elim) (fun _ _ => trivial) ?aO (bw_ HB.out) (qbz (bw_ HB.out)) (by have := LMc16.out; omega) ?_; (case aP => exact rfl); (case aO => exact (by (with_reducible repeat (first | apply Kd.R_alloc | apply Kd.R_drewN | apply Kd.R_drew)); exact Kd.R_mono (Kd.R_far (p := ⟨gb319, 3, none⟩) (Kd.R_far (p := ⟨gb319, 2, none⟩) (Kd.R_far (p := ⟨gb319, 1, none⟩) (Kd.R_far (p := ⟨gb319, 0, none⟩) (Kd.R_types HO_7.out BK319.out (by decide)) (fun _ hk => hk.2) (.int .i64 ((rd_T63 l1 x19_1).f0))) (fun _ hk => hk.2) (.int .i64 ((rd_T63 l1 x19_1).f1))) (fun _ hk => hk.2) (.string ((rd_T63 l1 x19_1).f2))) (fun _ hk => hk.2) (.bool ((rd_T63 l1 x19_1).f3))) (fun _ hk => trivial))); intro v324 w22 ho hb hg hat; rw [← Ny323.out] at ho; replace BK315 := Aside0.mk (blk_grown (g := gb315) (o := .cells #[.string a0_0, .slice A0_1 l0_1.length c0_1] 59 (0, 0)) (bp_ BK315) hg (Kd.R_ne HO_7.out BK315.out (by decide))); replace BK319 := Aside0.mk (blk_grown (g := gb319) (o := .cells #[.int .i64 ((rd_T63 l1 x19_1).f0), .int .i64 ((rd_T63 l1 x19_1).f1), .string ((rd_T63 l1 x19_1).f2), .bool ((rd_T63 l1 x19_1).f3)] 63 (0, 0)) (bp_ BK319) hg (Kd.R_ne HO_7.out BK319.out (by decide))); replace HB := Aside0.mk (hb); have HO325 := Aside0.mk (ho); clear HO_7 ho hb hg hat; obtain ⟨hcz23_0, hcz23_1, hcz23_2, hcz23_3, hfz23_0, hfz23_1, hfz23_2, hfz23_3⟩ := zf4_ BK319; obtain ⟨Ao24, co24, eo24⟩ := Kd.R_slice HO325.out; subst eo24) | ((with_reducible refine qgc (f := 75) rfl ?_); refine gL_ (some 45) Tryz.func75 #[.slice Ao24 y323.length co24, .int .i64 ((rd_T63 l1 x19_1).f1)] ?_; (with_reducible refine (pack_AppendInt.calls k1 _ _ y323 ((rd_T63 l1 x19_1).f1) t326 _ ?side1 ?side2 A18.out).mono ?_); (case side1 => exact kC_ ((Kd.R_reads' HO325.out).2.2)); (case side2 => exact (Kd.R_reads' HO325.out).2.1); rintro e w25 ⟨v327, rfl, ho0, hb⟩; refine ⟨_, rfl, ?_⟩; have HO328 := Aside0.mk (Kd.R_lower (Kd.R_new' ho0 (Kd.R_lt (kR_ HO325.out))) (qbz (bw_ HB.out))); replace HO325 := Aside0.mk (Kd.R_elder' (kR_ HO325.out) (Kd.R_base ho0) hb); replace BK315 := kB_ BK315 hb; replace BK319 := kB_ BK319 hb; replace HB := bS_ HB hb; clear hb; (try clear ho0)))
      go_roundg k1
      case measure => have := HK1.out; omega
      case rel => exact ⟨(t326), (wrap64 (x19_1 + 1)), fe_, H', ⟨by have := HK1.out; omega⟩, ⟨by (with_reducible repeat (first | apply Kd.R_alloc | apply Kd.R_drewN | apply Kd.R_drew)); exact Kd.R_mono HO328.out (fun _ hk => trivial)⟩, ⟨bp_ BK315⟩, ⟨bw_ HB.out⟩⟩
     rw [if_neg c17] at H
     have ⟨c17b0, c17b1⟩ := eqF c17
     by_cases c26 : ((rd_T63 l1 x19_1).f0) = 2
     ·rw [if_pos c26] at H
      have ⟨c26b0, c26b1⟩ := eqT c26
      clear c26
      obtain ⟨t329, A27, H⟩ := bn_ H; (try dsimp only at H)
      have H' := Aside0.mk H
      clear H
      have p318 : 0 ≤ (x19_1 : Int) := ode_
      have q318 : x19_1 < (l1.length : Int) := ode_
      obtain ⟨ad318, e318, hx318_0, hx318_1, hx318_2, hx318_3⟩ := at_T63 HR1.out x19_1 p318 q318
      cases e318
      replace hx318_0 := hc_ HB hx318_0
      replace hx318_1 := hc_ HB hx318_1
      replace hx318_2 := hc_ HB hx318_2
      replace hx318_3 := hc_ HB hx318_3
      replace p318 := eq_true p318
      replace q318 := eq_true q318
      go_wp2_with (first | ((with_reducible refine qgd (N := 9) rfl ?_); refine qB_ 9 #[.int .i64 0, .int .i64 0, .string (⟨#[]⟩ : ByteArray), .bool false] 63 ?_; intro gb319 hg w28 hbox hb; replace HO_7 := RB_ HO_7 hb; have BK319 := Aside0.mk (hbox); have GW319 := gE_ hg HB; have GE319 := gE_ hg HB; replace HB := bS_ HB hb; have NB315_319 := Aside0.mk ((by rw [hg]; exact Nat.ne_of_lt (blk_lt (g := gb315) (o := .cells #[.string a0_0, .slice A0_1 l0_1.length c0_1] 59 (0, 0)) (bl_ BK315.out)) : gb315 ≠ gb319)); have NB319_315 := Aside0.mk ((by rw [hg]; exact Nat.ne_of_gt (blk_lt (g := gb315) (o := .cells #[.string a0_0, .slice A0_1 l0_1.length c0_1] 59 (0, 0)) (bl_ BK315.out)) : gb319 ≠ gb315)); replace BK315 := kB_ BK315 hb; clear hb hbox hg; have hnb29 := NB319_315.out; have hnc29 := NB315_319.out; obtain ⟨hcz30_0, hcz30_1, hcz30_2, hcz30_3, hfz30_0, hfz30_1, hfz30_2, hfz30_3⟩ := zf4_ BK319) | ((with_reducible refine gate_builtin (b := .append) (xs := #[.tmp 29, .tmp 30]) rfl ?_); at_builtin; refine Kd.R_append (Kd.int .u8) (w0 := w) w.heap.size rfl (.tmp 29) (.tmp 30) 27 5 (.int .u8 0) 1 rfl Tryz.underlying27 info5 rfl (by decide) (by omega) u7 x7_1 1 [.int .u8 1] (fun _ => True) (fun _ => False) rfl (by first | (go_simp; done) | (go_simp; rfl)) ?aP (fun _ hk => hk.elim) (fun _ _ => trivial) ?aO (bw_ HB.out) (qbz (bw_ HB.out)) (by have := LMc16.out; omega) ?_; (case aP => exact rfl); (case aO => exact (by (with_reducible repeat (first | apply Kd.R_alloc | apply Kd.R_drewN | apply Kd.R_drew)); exact Kd.R_mono (Kd.R_far (p := ⟨gb319, 3, none⟩) (Kd.R_far (p := ⟨gb319, 2, none⟩) (Kd.R_far (p := ⟨gb319, 1, none⟩) (Kd.R_far (p := ⟨gb319, 0, none⟩) (Kd.R_types HO_7.out BK319.out (by decide)) (fun _ hk => hk.2) (.int .i64 ((rd_T63 l1 x19_1).f0))) (fun _ hk => hk.2) (.int .i64 ((rd_T63 l1 x19_1).f1))) (fun _ hk => hk.2) (.string ((rd_T63 l1 x19_1).f2))) (fun _ hk => hk.2) (.bool ((rd_T63 l1 x19_1).f3))) (fun _ hk => trivial))); intro v324 w31 ho hb hg hat; rw [← Ny323.out] at ho; replace BK315 := Aside0.mk (blk_grown (g := gb315) (o := .cells #[.string a0_0, .slice A0_1 l0_1.length c0_1] 59 (0, 0)) (bp_ BK315) hg (Kd.R_ne HO_7.out BK315.out (by decide))); replace BK319 := Aside0.mk (blk_grown (g := gb319) (o := .cells #[.int .i64 ((rd_T63 l1 x19_1).f0), .int .i64 ((rd_T63 l1 x19_1).f1), .string ((rd_T63 l1 x19_1).f2), .bool ((rd_T63 l1 x19_1).f3)] 63 (0, 0)) (bp_ BK319) hg (Kd.R_ne HO_7.out BK319.out (by decide))); replace HB := Aside0.mk (hb); have HO325 := Aside0.mk (ho); clear HO_7 ho hb hg hat; obtain ⟨hcz32_0, hcz32_1, hcz32_2, hcz32_3, hfz32_0, hfz32_1, hfz32_2, hfz32_3⟩ := zf4_ BK319; obtain ⟨Ao33, co33, eo33⟩ := Kd.R_slice HO325.out; subst eo33) | ((with_reducible refine qgc (f := 41) rfl ?_); refine gL_ (some 51) Tryz.func41 #[.slice Ao33 y323.length co33, .string ((rd_T63 l1 x19_1).f2)] ?_; (with_reducible refine (pack_AppendText.calls k1 _ _ y323 ((rd_T63 l1 x19_1).f2) t329 _ ?side1 ?side2 A27.out).mono ?_); (case side1 => exact kC_ ((Kd.R_reads' HO325.out).2.2)); (case side2 => exact (Kd.R_reads' HO325.out).2.1); rintro e w34 ⟨v330, rfl, ho0, hb⟩; refine ⟨_, rfl, ?_⟩; have HO331 := Aside0.mk (Kd.R_lower (Kd.R_new' ho0 (Kd.R_lt (kR_ HO325.out))) (qbz (bw_ HB.out))); replace HO325 := Aside0.mk (Kd.R_elder' (kR_ HO325.out) (Kd.R_base ho0) hb); replace BK315 := kB_ BK315 hb; replace BK319 := kB_ BK319 hb; replace HB := bS_ HB hb; clear hb; (try clear ho0)))
      go_roundg k1
      case measure => have := HK1.out; omega
      case rel => exact ⟨(t329), (wrap64 (x19_1 + 1)), fe_, H', ⟨by have := HK1.out; omega⟩, ⟨by (with_reducible repeat (first | apply Kd.R_alloc | apply Kd.R_drewN | apply Kd.R_drew)); exact Kd.R_mono HO331.out (fun _ hk => trivial)⟩, ⟨bp_ BK315⟩, ⟨bw_ HB.out⟩⟩
     rw [if_neg c26] at H
     have ⟨c26b0, c26b1⟩ := eqF c26
     obtain ⟨bq35, hbq35⟩ : ∃ b_ : Bool, b_ = ((rd_T63 l1 x19_1).f3) := ⟨_, rfl⟩
     replace H : (if bq35 = true then (if y323.length < 140737488355328 then (row_Encode.l0 k1 (y323 ++ [1]) l1 (l1.length : Int) (wrap64 (x19_1 + 1))) else (none)) else (if y323.length < 140737488355328 then (row_Encode.l0 k1 (y323 ++ [0]) l1 (l1.length : Int) (wrap64 (x19_1 + 1))) else (none))) = some (r1, r2) := by rw [← hbq35] at H; exact H
     have Nbq35 := Aside0.mk hbq35
     clear hbq35
     by_cases c36 : bq35 = true
     ·subst c36
      rw [if_pos rfl] at H
      have c37 : y323.length < 140737488355328 := Classical.byContradiction fun c37 => by rw [if_neg c37] at H; exact absurd H (by simp)
      rw [if_pos c37] at H
      have LMc37 := Aside0.mk c37
      clear c37
      first | (revert H; with_reducible refine nm_ fun y332 hy332 H => ?_) | (generalize hy332 : (y323 ++ [1] : List Int) = y332 at H; replace hy332 := hy332.symm)
      have Ny332 := Aside0.mk hy332; clear hy332
      have H' := Aside0.mk H
      clear H
      have p318 : 0 ≤ (x19_1 : Int) := ode_
      have q318 : x19_1 < (l1.length : Int) := ode_
      obtain ⟨ad318, e318, hx318_0, hx318_1, hx318_2, hx318_3⟩ := at_T63 HR1.out x19_1 p318 q318
      (try rw [← Nbq35.out] at hx318_3)
      cases e318
      replace hx318_0 := hc_ HB hx318_0
      replace hx318_1 := hc_ HB hx318_1
      replace hx318_2 := hc_ HB hx318_2
      replace hx318_3 := hc_ HB hx318_3
      replace p318 := eq_true p318
      replace q318 := eq_true q318
      go_wp2_with (first | ((with_reducible refine qgd (N := 9) rfl ?_); refine qB_ 9 #[.int .i64 0, .int .i64 0, .string (⟨#[]⟩ : ByteArray), .bool false] 63 ?_; intro gb319 hg w38 hbox hb; replace HO_7 := RB_ HO_7 hb; have BK319 := Aside0.mk (hbox); have GW319 := gE_ hg HB; have GE319 := gE_ hg HB; replace HB := bS_ HB hb; have NB315_319 := Aside0.mk ((by rw [hg]; exact Nat.ne_of_lt (blk_lt (g := gb315) (o := .cells #[.string a0_0, .slice A0_1 l0_1.length c0_1] 59 (0, 0)) (bl_ BK315.out)) : gb315 ≠ gb319)); have NB319_315 := Aside0.mk ((by rw [hg]; exact Nat.ne_of_gt (blk_lt (g := gb315) (o := .cells #[.string a0_0, .slice A0_1 l0_1.length c0_1] 59 (0, 0)) (bl_ BK315.out)) : gb319 ≠ gb315)); replace BK315 := kB_ BK315 hb; clear hb hbox hg; have hnb39 := NB319_315.out; have hnc39 := NB315_319.out; obtain ⟨hcz40_0, hcz40_1, hcz40_2, hcz40_3, hfz40_0, hfz40_1, hfz40_2, hfz40_3⟩ := zf4_ BK319) | ((with_reducible refine gate_builtin (b := .append) (xs := #[.tmp 29, .tmp 30]) rfl ?_); at_builtin; refine Kd.R_append (Kd.int .u8) (w0 := w) w.heap.size rfl (.tmp 29) (.tmp 30) 27 5 (.int .u8 0) 1 rfl Tryz.underlying27 info5 rfl (by decide) (by omega) u7 x7_1 1 [.int .u8 1] (fun _ => True) (fun _ => False) rfl (by first | (go_simp; done) | (go_simp; rfl)) ?aP (fun _ hk => hk.elim) (fun _ _ => trivial) ?aO (bw_ HB.out) (qbz (bw_ HB.out)) (by have := LMc16.out; omega) ?_; (case aP => exact rfl); (case aO => exact (by (with_reducible repeat (first | apply Kd.R_alloc | apply Kd.R_drewN | apply Kd.R_drew)); exact Kd.R_mono (Kd.R_far (p := ⟨gb319, 3, none⟩) (Kd.R_far (p := ⟨gb319, 2, none⟩) (Kd.R_far (p := ⟨gb319, 1, none⟩) (Kd.R_far (p := ⟨gb319, 0, none⟩) (Kd.R_types HO_7.out BK319.out (by decide)) (fun _ hk => hk.2) (.int .i64 ((rd_T63 l1 x19_1).f0))) (fun _ hk => hk.2) (.int .i64 ((rd_T63 l1 x19_1).f1))) (fun _ hk => hk.2) (.string ((rd_T63 l1 x19_1).f2))) (fun _ hk => hk.2) (.bool true)) (fun _ hk => trivial))); intro v324 w41 ho hb hg hat; rw [← Ny323.out] at ho; replace BK315 := Aside0.mk (blk_grown (g := gb315) (o := .cells #[.string a0_0, .slice A0_1 l0_1.length c0_1] 59 (0, 0)) (bp_ BK315) hg (Kd.R_ne HO_7.out BK315.out (by decide))); replace BK319 := Aside0.mk (blk_grown (g := gb319) (o := .cells #[.int .i64 ((rd_T63 l1 x19_1).f0), .int .i64 ((rd_T63 l1 x19_1).f1), .string ((rd_T63 l1 x19_1).f2), .bool true] 63 (0, 0)) (bp_ BK319) hg (Kd.R_ne HO_7.out BK319.out (by decide))); replace HB := Aside0.mk (hb); have HO325 := Aside0.mk (ho); clear HO_7 ho hb hg hat; obtain ⟨hcz42_0, hcz42_1, hcz42_2, hcz42_3, hfz42_0, hfz42_1, hfz42_2, hfz42_3⟩ := zf4_ BK319) | ((with_reducible refine gate_builtin (b := .append) (xs := #[.tmp 36, .tmp 38]) rfl ?_); at_builtin; refine Kd.R_append (Kd.int .u8) (w0 := w) w.heap.size rfl (.tmp 36) (.tmp 38) 27 5 (.int .u8 0) 1 rfl Tryz.underlying27 info5 rfl (by decide) (by omega) v324 y323 1 [.int .u8 1] (fun _ => True) (fun _ => False) rfl rfl ?aP (fun _ hk => hk.elim) (fun _ _ => trivial) ?aO (bw_ HB.out) (qbz (bw_ HB.out)) (by have := LMc37.out; omega) ?_; (case aP => exact rfl); (case aO => exact (kR_ HO325.out)); intro v333 w43 ho hb hg hat; rw [← Ny332.out] at ho; replace BK315 := gR_ BK315 hg (Kd.R_ne HO325.out BK315.out (by decide)); replace BK319 := gR_ BK319 hg (Kd.R_ne HO325.out BK319.out (by decide)); replace HB := Aside0.mk (hb); have HO334 := Aside0.mk (ho); clear HO325 ho hb hg hat))
      go_roundg k1
      case measure => have := HK1.out; omega
      case rel => (try rw [← Nbq35.out]); exact ⟨(y332), (wrap64 (x19_1 + 1)), fe_, H', ⟨by have := HK1.out; omega⟩, ⟨by (with_reducible repeat (first | apply Kd.R_alloc | apply Kd.R_drewN | apply Kd.R_drew)); exact HO334.out⟩, ⟨bp_ BK315⟩, ⟨bw_ HB.out⟩⟩
     replace c36 := Bool.eq_false_iff.mpr c36
     subst c36
     rw [if_neg (show ¬ (false = true) by decide)] at H
     have c44 : y323.length < 140737488355328 := Classical.byContradiction fun c44 => by rw [if_neg c44] at H; exact absurd H (by simp)
     rw [if_pos c44] at H
     have LMc44 := Aside0.mk c44
     clear c44
     first | (revert H; with_reducible refine nm_ fun y335 hy335 H => ?_) | (generalize hy335 : (y323 ++ [0] : List Int) = y335 at H; replace hy335 := hy335.symm)
     have Ny335 := Aside0.mk hy335; clear hy335
     have H' := Aside0.mk H
     clear H
     have p318 : 0 ≤ (x19_1 : Int) := ode_
     have q318 : x19_1 < (l1.length : Int) := ode_
     obtain ⟨ad318, e318, hx318_0, hx318_1, hx318_2, hx318_3⟩ := at_T63 HR1.out x19_1 p318 q318
     (try rw [← Nbq35.out] at hx318_3)
     cases e318
     replace hx318_0 := hc_ HB hx318_0
     replace hx318_1 := hc_ HB hx318_1
     replace hx318_2 := hc_ HB hx318_2
     replace hx318_3 := hc_ HB hx318_3
     replace p318 := eq_true p318
     replace q318 := eq_true q318
     go_wp2_with (first | ((with_reducible refine qgd (N := 9) rfl ?_); refine qB_ 9 #[.int .i64 0, .int .i64 0, .string (⟨#[]⟩ : ByteArray), .bool false] 63 ?_; intro gb319 hg w45 hbox hb; replace HO_7 := RB_ HO_7 hb; have BK319 := Aside0.mk (hbox); have GW319 := gE_ hg HB; have GE319 := gE_ hg HB; replace HB := bS_ HB hb; have NB315_319 := Aside0.mk ((by rw [hg]; exact Nat.ne_of_lt (blk_lt (g := gb315) (o := .cells #[.string a0_0, .slice A0_1 l0_1.length c0_1] 59 (0, 0)) (bl_ BK315.out)) : gb315 ≠ gb319)); have NB319_315 := Aside0.mk ((by rw [hg]; exact Nat.ne_of_gt (blk_lt (g := gb315) (o := .cells #[.string a0_0, .slice A0_1 l0_1.length c0_1] 59 (0, 0)) (bl_ BK315.out)) : gb319 ≠ gb315)); replace BK315 := kB_ BK315 hb; clear hb hbox hg; have hnb46 := NB319_315.out; have hnc46 := NB315_319.out; obtain ⟨hcz47_0, hcz47_1, hcz47_2, hcz47_3, hfz47_0, hfz47_1, hfz47_2, hfz47_3⟩ := zf4_ BK319) | ((with_reducible refine gate_builtin (b := .append) (xs := #[.tmp 29, .tmp 30]) rfl ?_); at_builtin; refine Kd.R_append (Kd.int .u8) (w0 := w) w.heap.size rfl (.tmp 29) (.tmp 30) 27 5 (.int .u8 0) 1 rfl Tryz.underlying27 info5 rfl (by decide) (by omega) u7 x7_1 1 [.int .u8 1] (fun _ => True) (fun _ => False) rfl (by first | (go_simp; done) | (go_simp; rfl)) ?aP (fun _ hk => hk.elim) (fun _ _ => trivial) ?aO (bw_ HB.out) (qbz (bw_ HB.out)) (by have := LMc16.out; omega) ?_; (case aP => exact rfl); (case aO => exact (by (with_reducible repeat (first | apply Kd.R_alloc | apply Kd.R_drewN | apply Kd.R_drew)); exact Kd.R_mono (Kd.R_far (p := ⟨gb319, 3, none⟩) (Kd.R_far (p := ⟨gb319, 2, none⟩) (Kd.R_far (p := ⟨gb319, 1, none⟩) (Kd.R_far (p := ⟨gb319, 0, none⟩) (Kd.R_types HO_7.out BK319.out (by decide)) (fun _ hk => hk.2) (.int .i64 ((rd_T63 l1 x19_1).f0))) (fun _ hk => hk.2) (.int .i64 ((rd_T63 l1 x19_1).f1))) (fun _ hk => hk.2) (.string ((rd_T63 l1 x19_1).f2))) (fun _ hk => hk.2) (.bool false)) (fun _ hk => trivial))); intro v324 w48 ho hb hg hat; rw [← Ny323.out] at ho; replace BK315 := Aside0.mk (blk_grown (g := gb315) (o := .cells #[.string a0_0, .slice A0_1 l0_1.length c0_1] 59 (0, 0)) (bp_ BK315) hg (Kd.R_ne HO_7.out BK315.out (by decide))); replace BK319 := Aside0.mk (blk_grown (g := gb319) (o := .cells #[.int .i64 ((rd_T63 l1 x19_1).f0), .int .i64 ((rd_T63 l1 x19_1).f1), .string ((rd_T63 l1 x19_1).f2), .bool false] 63 (0, 0)) (bp_ BK319) hg (Kd.R_ne HO_7.out BK319.out (by decide))); replace HB := Aside0.mk (hb); have HO325 := Aside0.mk (ho); clear HO_7 ho hb hg hat; obtain ⟨hcz49_0, hcz49_1, hcz49_2, hcz49_3, hfz49_0, hfz49_1, hfz49_2, hfz49_3⟩ := zf4_ BK319) | ((with_reducible refine gate_builtin (b := .append) (xs := #[.tmp 36, .tmp 38]) rfl ?_); at_builtin; refine Kd.R_append (Kd.int .u8) (w0 := w) w.heap.size rfl (.tmp 36) (.tmp 38) 27 5 (.int .u8 0) 1 rfl Tryz.underlying27 info5 rfl (by decide) (by omega) v324 y323 0 [.int .u8 0] (fun _ => True) (fun _ => False) rfl rfl ?aP (fun _ hk => hk.elim) (fun _ _ => trivial) ?aO (bw_ HB.out) (qbz (bw_ HB.out)) (by have := LMc44.out; omega) ?_; (case aP => exact rfl); (case aO => exact (kR_ HO325.out)); intro v336 w50 ho hb hg hat; rw [← Ny335.out] at ho; replace BK315 := gR_ BK315 hg (Kd.R_ne HO325.out BK315.out (by decide)); replace BK319 := gR_ BK319 hg (Kd.R_ne HO325.out BK319.out (by decide)); replace HB := Aside0.mk (hb); have HO337 := Aside0.mk (ho); clear HO325 ho hb hg hat))
     go_roundg k1
     case measure => have := HK1.out; omega
     case rel => (try rw [← Nbq35.out]); exact ⟨(y335), (wrap64 (x19_1 + 1)), fe_, H', ⟨by have := HK1.out; omega⟩, ⟨by (with_reducible repeat (first | apply Kd.R_alloc | apply Kd.R_drewN | apply Kd.R_drew)); exact HO337.out⟩, ⟨bp_ BK315⟩, ⟨bw_ HB.out⟩⟩
    rw [if_neg c7] at H
    have c7b0 := dcF c7
    clear c7
    obtain ⟨rfl, rfl⟩ := so2 H
    go_wp2
    go_ret2
    exact ⟨_, fr_, by (with_reducible repeat (first | apply Kd.R_alloc | apply Kd.R_drewN | apply Kd.R_drew)); exact HO_7.out, bw_ HB.out⟩
 have H1 : (some (([] : List Int), some q317)) = some (r1, r2) := by rw [if_neg (show ¬ (some q317).isNone = true by simp)] at H; exact H
 clear H
 have H := H1
 clear H1
 try simp only [errW_none, errW_some]
 obtain ⟨rfl, rfl⟩ := so2 H
 go_enter Tryz.func48, Tryz.ntmps48
 go_wp2_with (first | ((with_reducible refine qgd (N := 2) rfl ?_); refine qB_ 2 #[.string a0_0, .slice A0_1 l0_1.length c0_1] 59 ?_; intro gb315 hg w51 hbox hb; have BK315 := Aside0.mk (hbox); have GW315 := gE_ hg HB; have GE315 := gE_ hg HB; replace HB := bS_ HB hb; clear hb hbox hg; obtain ⟨hcz52_0, hcz52_1, hfz52_0, hfz52_1⟩ := zf2_ BK315) | ((with_reducible refine qgc (f := 74) rfl ?_); refine gL_ (some 13) Tryz.func74 #[.agg #[.string a0_0, .slice A0_1 l0_1.length c0_1], .slice A1 l1.length c1] ?_; (with_reducible refine (row_Check.calls k a0_0 _ _ l0_1 _ _ l1 (some q317) _ ?side1 ?side2 ?side3 ?side4 A3.out).mono ?_); (case side1 => exact kC_ (Kd.C_below HR0_1.out HB.out)); (case side2 => exact HC0_1.out); (case side3 => exact kC_ (Kd.C_below HR1.out HB.out)); (case side4 => exact HC1.out); rintro e w53 ⟨rfl, hb⟩; refine ⟨_, rfl, ?_⟩; replace BK315 := kB_ BK315 hb; replace HB := bS_ HB hb; clear hb; (try simp only [errW_none, errW_some])))
 go_ret2
 exact ⟨_, fr_, by first | exact Kd.R_nil _ _ _ _ _ | exact Kd.N_nil _ _ _ _ _ | exact Kd.V_nil _ _ _ _ _ | exact Kd.Q_nil _ _ _ _ _ | exact Kd.S_nil _ _ _ _ _, bw_ HB.out⟩

end Go.Proofs.YtddkbhglbkfelaaGreatDoor.T
