import Derived.Test.YtddkbhglbkfelaaGreatDoorPkTx0
import Derived.Test.YtddkbhglbkfelaaGreatDoorPkTx13
import Derived.Test.YtddkbhglbkfelaaGreatDoorPkTx16
namespace Go.Proofs.YtddkbhglbkfelaaGreatDoor.T
open Go.RowKit Go.Proofs.YtddkbhglbkfelaaGreatDoorW.PrintWords Go.Proofs.YtddkbhglbkfelaaGreatDoorW.PrintLast Go.Proofs.YtddkbhglbkfelaaGreatDoorW.PrintMore Go.Proofs.YtddkbhglbkfelaaGreatDoorX
attribute [local go_sem] max2_int min2_int max_two min_two max_three min_three max_four min_four
set_option linter.unusedVariables false
set_option linter.unusedSimpArgs false

/-! ### barbicanlaw26_entry: function 17 -/
def barbicanlaw26_entry.l0 : Nat → Int → ByteArray → List (List (S63)) → ByteArray → List (List (S63)) → Option (ByteArray × (List (List (S63))))
 | 0, _, _, _, _, _ => none
 | k + 1, x4, x501000, x501001, x503000, x503001 => if x4 < (x501001.length : Int) then (if 0 ≤ x4 then ((barbicanlaw26_twin2.f (rd_L9 x501001 x4)).bind fun t504 => (if x503001.length < 5864062014805 then (barbicanlaw26_entry.l0 k (wrap64 (x4 + 1)) x501000 x501001 x503000 (x503001 ++ [t504])) else (none))) else (none)) else (some (x503000, x503001))
def barbicanlaw26_entry.f (k : Nat) (a0_0 : ByteArray) (l0_1 : List (List (S63))) : Option (ByteArray × (List (List (S63)))) := barbicanlaw26_entry.l0 k 0 a0_0 l0_1 a0_0 ([] : List (List (S63)))
def barbicanlaw26_entry.T5 : Bool × List (List Nat × List Nat) := (true, [([], []), ([0], [0]), ([], []), ([2], [2]), ([], []), ([3, 4], [3, 4]), ([5], [5]), ([6], [6]), ([7], [7]), ([1, 8, 7], [1, 8]), ([0, 1, 2, 3, 4, 5, 6, 7, 8, 9], []), ([10, 9, 9, 0, 1, 2, 3, 4, 5, 6, 7, 8, 9], [9, 10])])
def barbicanlaw26_entry.B5 : List Nat := [0, 1, 0, 4, 0, 28, 60, 124, 252, 511, 1023, 2047]
theorem barbicanlaw26_entry.tab5 : rtab .any (opsOf Tryz.f17 5) = barbicanlaw26_entry.T5 := by kernel_rfl
theorem barbicanlaw26_entry.bits5 : waitsOk barbicanlaw26_entry.T5.2 barbicanlaw26_entry.B5 = true := by kernel_rfl
set_option maxHeartbeats 8000000 in
set_option maxRecDepth 100000 in
theorem barbicanlaw26_entry.calls (k : Nat) (a0_0 : ByteArray) (A0_1 : Option Addr) (c0_1 : Nat) (l0_1 : List (List (S63))) (r1 : ByteArray) (r2 : List (List (S63))) (w : World) (hr0_1 : Kd.C (Kd.slice 63 k63) w A0_1 l0_1.length l0_1) (hc0_1 : l0_1.length ≤ c0_1) (h : barbicanlaw26_entry.f k a0_0 l0_1 = some (r1, r2)) :
  Calls Tryz.prog 17 #[.agg #[.string a0_0, .slice A0_1 l0_1.length c0_1]] w fun e w' => ∃ v1_ : Value, e = .returned (.agg #[.string r1, v1_]) ∧ Kd.S (Kd.slice 63 k63) 64 w' w.heap.size (fun _ => True) v1_ r2 ∧ Below w.heap.size w w' := by
 have hu49 := Tryz.underlying49
 have hu50 := Tryz.underlying50
 have HR0_1 := Aside0.mk hr0_1
 have HC0_1 := Aside0.mk hc0_1
 clear hr0_1 hc0_1
 have HB := Aside0.mk (Below.refl w.heap.size w)
 have H : (barbicanlaw26_entry.l0 k 0 a0_0 l0_1 a0_0 ([] : List (List (S63)))) = some (r1, r2) := h
 clear h
 have H' := Aside0.mk H
 clear H
 go_enter Tryz.func17, Tryz.ntmps17
 go_wp2_with (first | ((with_reducible refine qgd (N := 1) rfl ?_); refine qB_ 1 #[.string a0_0, .slice A0_1 l0_1.length c0_1] 49 ?_; intro gb500 hg w2 hbox hb; have BK500 := Aside0.mk (hbox); have GW500 := gE_ hg HB; have GE500 := gE_ hg HB; replace HB := bS_ HB hb; clear hb hbox hg) | ((with_reducible refine qgd (N := 2) rfl ?_); refine qB_ 2 #[.string (⟨#[]⟩ : ByteArray), .slice none 0 0] 50 ?_; intro gb501 hg w3 hbox hb; have BK501 := Aside0.mk (hbox); have GW501 := gE_ hg HB; have GE501 := gE_ hg HB; replace HB := bS_ HB hb; have NB500_501 := Aside0.mk ((by rw [hg]; exact Nat.ne_of_lt (blk_lt (g := gb500) (o := .cells #[.string a0_0, .slice A0_1 l0_1.length c0_1] 49 (0, 0)) (bl_ BK500.out)) : gb500 ≠ gb501)); have NB501_500 := Aside0.mk ((by rw [hg]; exact Nat.ne_of_gt (blk_lt (g := gb500) (o := .cells #[.string a0_0, .slice A0_1 l0_1.length c0_1] 49 (0, 0)) (bl_ BK500.out)) : gb501 ≠ gb500)); replace BK500 := kB_ BK500 hb; clear hb hbox hg; have hnb4 := NB500_501.out; have hnc4 := NB501_500.out; obtain ⟨hcz5_0, hcz5_1, hfz5_0, hfz5_1⟩ := zf2_ BK500) | ((with_reducible refine qgd (N := 3) rfl ?_); refine qB_ 3 #[.string (⟨#[]⟩ : ByteArray), .slice none 0 0] 50 ?_; intro gb502 hg w6 hbox hb; have BK502 := Aside0.mk (hbox); have GW502 := gE_ hg HB; have GE502 := gE_ hg HB; replace HB := bS_ HB hb; have NB500_502 := Aside0.mk ((by rw [hg]; exact Nat.ne_of_lt (blk_lt (g := gb500) (o := .cells #[.string a0_0, .slice A0_1 l0_1.length c0_1] 49 (0, 0)) (bl_ BK500.out)) : gb500 ≠ gb502)); have NB502_500 := Aside0.mk ((by rw [hg]; exact Nat.ne_of_gt (blk_lt (g := gb500) (o := .cells #[.string a0_0, .slice A0_1 l0_1.length c0_1] 49 (0, 0)) (bl_ BK500.out)) : gb502 ≠ gb500)); replace BK500 := kB_ BK500 hb; have NB501_502 := Aside0.mk ((by rw [hg]; exact Nat.ne_of_lt (blk_lt (g := gb501) (o := .cells #[.string (⟨#[]⟩ : ByteArray), .slice none 0 0] 50 (0, 0)) (bl_ BK501.out)) : gb501 ≠ gb502)); have NB502_501 := Aside0.mk ((by rw [hg]; exact Nat.ne_of_gt (blk_lt (g := gb501) (o := .cells #[.string (⟨#[]⟩ : ByteArray), .slice none 0 0] 50 (0, 0)) (bl_ BK501.out)) : gb502 ≠ gb501)); replace BK501 := kB_ BK501 hb; clear hb hbox hg; have hnb7 := NB502_500.out; have hnc7 := NB500_502.out; have hnb8 := NB502_501.out; have hnc8 := NB501_502.out; obtain ⟨hcz9_0, hcz9_1, hfz9_0, hfz9_1⟩ := zf2_ BK502))
 go_loopg [4] k (fun kq v4 w' => ∃ (x4_1 : Int) (x503001_1 : List (List (S63))) (u503001 : Value), v4 = .int .i64 x4_1 ∧ Aside0 (barbicanlaw26_entry.l0 kq x4_1 a0_0 l0_1 a0_0 x503001_1 = some (r1, r2)) ∧ Aside0 (kq ≤ k) ∧ Aside0 (Kd.S (Kd.slice 63 k63) 64 w' w.heap.size (fun _ => True) u503001 x503001_1) ∧ Aside0 (w'.heap[gb500]? = some (.cells #[.string a0_0, (.slice A0_1 l0_1.length c0_1)] 49 (0, 0))) ∧ Aside0 (w'.heap[gb501]? = some (.cells #[.string (⟨#[]⟩ : ByteArray), (.slice none 0 0)] 50 (0, 0))) ∧ Aside0 (w'.heap[gb502]? = some (.cells #[.string a0_0, u503001] 50 (0, 0))) ∧ Aside0 (Below w.heap.size w w'))
 case atStart => exact ⟨(0), (([] : List (List (S63)))), (.slice none 0 0), fe_, H', ⟨Nat.le_refl _⟩, ⟨by first | exact Kd.S_nil _ _ _ _ _ | exact Kd.N_nil _ _ _ _ _ | exact Kd.V_nil _ _ _ _ _ | exact Kd.Q_nil _ _ _ _ _ | exact Kd.R_nil _ _ _ _ _⟩, ⟨bp_ BK500⟩, ⟨bp_ BK501⟩, ⟨bp_ BK502⟩, ⟨bw_ HB.out⟩⟩
 case round =>
  clear H'
  (try clear hcz5_0); (try clear hcz5_1); (try clear hcz9_0); (try clear hcz9_1); (try clear hfz5_0); (try clear hfz5_1); (try clear hfz9_0)
  (try clear hfz9_1)
  obtain ⟨x4_1, x503001_1, u503001, rfl, HA, HK1, HO_503001, BK500, BK501, BK502, HB⟩ := hrel
  cases gk with
  | zero => exact absurd HA.out (by simp [barbicanlaw26_entry.l0])
  | succ k1 =>
   have H := HA.out
   clear HA
   simp only [barbicanlaw26_entry.l0] at H
   by_cases c10 : x4_1 < (l0_1.length : Int)
   ·rw [if_pos c10] at H
    have c10b0 := dcT c10
    clear c10
    have c11 : 0 ≤ x4_1 := Classical.byContradiction fun c11 => by rw [if_neg c11] at H; exact absurd H (by simp)
    rw [if_pos c11] at H
    have c11b0 := dcT c11
    clear c11
    obtain ⟨t504, A12, H⟩ := bn_ H; (try dsimp only at H)
    have c13 : x503001_1.length < 5864062014805 := Classical.byContradiction fun c13 => by rw [if_neg c13] at H; exact absurd H (by simp)
    rw [if_pos c13] at H
    have LMc13 := Aside0.mk c13
    clear c13
    first | (revert H; with_reducible refine nm_ fun y507 hy507 H => ?_) | (generalize hy507 : (x503001_1 ++ [t504] : List (List (S63))) = y507 at H; replace hy507 := hy507.symm)
    have Ny507 := Aside0.mk hy507; clear hy507
    have H' := Aside0.mk H
    clear H
    have hnb14 := NB500_501.out
    have hnc14 := NB501_500.out
    have hnb15 := NB500_502.out
    have hnc15 := NB502_500.out
    obtain ⟨hcz16_0, hcz16_1, hfz16_0, hfz16_1⟩ := zf2_ BK500
    try go_wp2
    replace HO_503001 := Aside0.mk (Kd.S_drew HO_503001.out)
    replace BK500 := kD_ BK500
    replace BK501 := kD_ BK501
    replace BK502 := kD_ BK502
    replace HB := bD_ HB
    have p503 : 0 ≤ (x4_1 : Int) := ode_
    have q503 : x4_1 < (l0_1.length : Int) := ode_
    obtain ⟨ad503, A503_0, c503_0, e503, hx503_0, hl503_0, hi503_0⟩ := at_L9 HR0_1.out x4_1 p503 q503
    have hw503_0 := hx503_0
    cases e503
    replace hx503_0 := hc_ HB hx503_0
    have HR503_0 := Aside0.mk hi503_0
    have HC503_0 := Aside0.mk hl503_0
    clear hi503_0 hl503_0
    replace p503 := eq_true p503
    replace q503 := eq_true q503
    refine start_ (n := 12) (S := fun w' => w'.cell? ⟨gb502, 0, none⟩ = some (.string a0_0) ∧ w'.cell? ⟨gb502, 1, none⟩ = some (u503001) ∧ w'.cell? ⟨gb500, 0, none⟩ = some (.string a0_0) ∧ w'.cell? ⟨gb500, 1, none⟩ = some (.slice (some ad503) l0_1.length c0_1) ∧ w'.cell? (ad503.add (x4_1).toNat) = some (.slice A503_0 (rd_L9 l0_1 x4_1).length c503_0)) (ds := [11]) #[false, false, false, false, false, false, false, false, false, false, false, false] (by kernel_rfl) rfl rfl ⟨(qkc BK502.out 0).trans rfl, (qkc BK502.out 1).trans rfl, (qkc BK500.out 0).trans rfl, (qkc BK500.out 1).trans rfl, ((HB.out.cell (World.block_lt_of_cell? w _ hw503_0)).trans hw503_0)⟩ (fun hHeld => ?_); refine with_tabW barbicanlaw26_entry.tab5 barbicanlaw26_entry.bits5 (fun HT_ HW_ => ?_)
    generalize wr.drew = w17 at HO_503001 BK500 BK501 BK502 HB HR503_0 hx503_0 hHeld ⊢
    refine pu_ 0 (some 15) HT_ ?_
    refine pu_ 2 (some 17) HT_ ?_
    refine pu_ 4 (some 19) HT_ ?_
    refine take_ (i := 1) (N := some 16) (v := ?_) (a' := ?_) #[true, true, true, false, true, false, false, false, false, false, false, false] rfl rfl (take_ofW HT_.out HW_.out (by kernel_rfl)) (fun _ _ _ h => h) (Or.inl ⟨by rfl, ?_⟩) hHeld ?_ ?_
    rotate_left
    ·rintro w' ⟨s0, s1, s2, s3, s4⟩
     go_simp
     with_reducible rfl
    rotate_left
    ·simp only [Act.put, List.setIfInBounds_toArray, List.set_cons_zero, List.set_cons_succ, i64_w, i32_w]
     rfl
    refine take_ (i := 3) (N := some 18) (v := ?_) (a' := ?_) #[true, true, true, true, true, false, false, false, false, false, false, false] rfl rfl (take_ofW HT_.out HW_.out (by kernel_rfl)) (fun _ _ _ h => h) (Or.inl ⟨by rfl, ?_⟩) hHeld ?_ ?_
    rotate_left
    ·rintro w' ⟨s0, s1, s2, s3, s4⟩
     go_simp
     with_reducible rfl
    rotate_left
    ·simp only [Act.put, List.setIfInBounds_toArray, List.set_cons_zero, List.set_cons_succ, i64_w, i32_w]
     rfl
    refine pu_ 5 (some 20) HT_ ?_
    refine take_ (i := 6) (N := some 21) (v := ?_) (a' := ?_) #[true, true, true, true, true, true, true, false, false, false, false, false] rfl rfl (take_ofW HT_.out HW_.out (by kernel_rfl)) (fun _ _ _ h => h) (Or.inl ⟨by rfl, ?_⟩) hHeld ?_ ?_
    rotate_left
    ·rintro w' ⟨s0, s1, s2, s3, s4⟩
     go_simp
     with_reducible rfl
    rotate_left
    ·simp only [Act.put, List.setIfInBounds_toArray, List.set_cons_zero, List.set_cons_succ, i64_w, i32_w]
     rfl
    refine one_ (i := 7) (N := some 22) #[true, true, true, true, true, true, true, true, false, false, false, false] rfl rfl (one_of HT_.out (by kernel_rfl)) (by decide) (fun K hK => ?_)
    refine goes_ Tryz.func22 (by kernel_rfl) rfl #[.slice A503_0 (rd_L9 l0_1 x4_1).length c503_0] (by rfl) rfl rfl (by (try simp only [List.map_toArray, List.map_cons, List.map_nil]); first | done | rfl | (simp only [List.length_drop, List.length_take]; rfl)) ?_
    with_reducible refine (barbicanlaw26_twin2.calls _ _ (rd_L9 l0_1 x4_1) t504 _ ?side1 ?side2 A12.out).mono ?_
    (case side1 => repeat (first | exact (Kd.C_below HR503_0.out HB.out) | (with_reducible refine Kd.C_alloc ?_ _) | (with_reducible refine Kd.C_drewN ?_ _) | (with_reducible refine Kd.C_drew ?_)))
    (case side2 => exact HC503_0.out)
    rintro e w18 ⟨v505, rfl, ho0, hb⟩
    refine ⟨_, rfl, ?_⟩
    replace HO_503001 := Aside0.mk (Kd.S_elder' (by (with_reducible repeat (first | apply Kd.S_alloc | apply Kd.S_drewN | apply Kd.S_drew)); exact HO_503001.out) (Kd.R_base ho0) hb)
    have HO506 := Rl_ ho0 HB
    replace BK500 := kB_ BK500 hb
    replace BK501 := kB_ BK501 hb
    replace BK502 := kB_ BK502 hb
    replace HB := bS_ HB hb
    (try clear hb); (try clear ho0)
    obtain ⟨Ao20, co20, eo20⟩ := Kd.R_slice HO506.out
    (first | subst eo20 | (injection eo20 with f1_ f2_ f3_; have f4_ := f1_.symm; have f5_ := f3_.symm; clear f1_ f2_ f3_; subst f4_; subst f5_))
    refine hK.out _ _ ⟨(qkc BK502.out 0).trans rfl, (qkc BK502.out 1).trans rfl, (qkc BK500.out 0).trans rfl, (qkc BK500.out 1).trans rfl, ((HB.out.cell (World.block_lt_of_cell? w _ hw503_0)).trans hw503_0)⟩ (fun hHeld => ?_)
    clear hK K
    refine norm_ (a' := ?_) ?_ ?_
    rotate_left
    ·show Act.put _ (some 22) _ = _
     simp only [Act.put, List.setIfInBounds_toArray, List.set_cons_zero, List.set_cons_succ, i64_w, i32_w]
     rfl
    refine one_ (i := 8) (N := some 23) #[true, true, true, true, true, true, true, true, true, false, false, false] rfl rfl (one_of HT_.out (by kernel_rfl)) (by decide) (fun K hK => ?_)
    refine value_ (w1 := ?_) (v := ?_) (by rfl) rfl ?_ ?_
    rotate_left 2
    ·go_simp
     constructor
     ·rfl
     rfl
    refine hK.out _ _ ⟨(qkc (qka BK502.out _) 0).trans rfl, (qkc (qka BK502.out _) 1).trans rfl, (qkc (qka BK500.out _) 0).trans rfl, (qkc (qka BK500.out _) 1).trans rfl, (World.cell?_alloc_lt _ _ _ (World.block_lt_of_cell? _ _ (((HB.out.cell (World.block_lt_of_cell? w _ hw503_0)).trans hw503_0)))).trans (((HB.out.cell (World.block_lt_of_cell? w _ hw503_0)).trans hw503_0))⟩ (fun hHeld => ?_)
    clear hK K
    refine norm_ (a' := ?_) ?_ ?_
    rotate_left
    ·show Act.put _ (some 23) _ = _
     simp only [Act.put, List.setIfInBounds_toArray, List.set_cons_zero, List.set_cons_succ, i64_w, i32_w]
     rfl
    refine one_ (i := 9) (N := some 24) #[true, true, true, true, true, true, true, true, true, true, false, false] rfl rfl (one_of HT_.out (by kernel_rfl)) (by decide) (fun K hK => ?_)
    refine Kd.S_append_step (Kd.slice 63 k63) (w0 := w) w.heap.size (by rfl) (.tmp 16) (.tmp 23) 47 64 (.slice none 0 0) 24 rfl Tryz.underlying47 info64 rfl (by decide) (by omega) u503001 x503001_1 t504 [.slice Ao20 t504.length co20] (fun _ => True) (fun k_ => some k_ = (.slice Ao20 t504.length co20 : Value).ownBlock) rfl rfl ?aP (fun k_ hk_ => ((Kd.R_mono (ok' := fun k_ => ((fun _ => True)) k_ ∧ some k_ ≠ (u503001 : Value).ownBlock) (Kd.R_apart' (HO506.out) (Kd.S_typed HO_503001.out) (by decide)) (fun k_ hk => ⟨trivial, hk.2⟩))).1 k_ hk_.symm) ?aF ?aO ?aB ?aS ?aL ?_
    (case aP => exact Kd.M_row (Kd.R_mono (Kd.R_tight rfl (Kd.R_mono (ok' := fun k_ => ((fun _ => True)) k_ ∧ some k_ ≠ (u503001 : Value).ownBlock) (Kd.R_apart' (HO506.out) (Kd.S_typed HO_503001.out) (by decide)) (fun k_ hk => ⟨trivial, hk.2⟩))) (fun _ h_ => h_)))
    (case aB => exact (bw_ HB.out))
    (case aF => exact (fun _ _ => trivial))
    (case aO => exact (by (with_reducible repeat (first | apply Kd.S_alloc | apply Kd.S_drewN | apply Kd.S_drew)); exact Kd.S_mono HO_503001.out (fun k_ hk => ⟨trivial, fun e_ => hk.2 e_⟩)))
    (case aS => exact (qbz (bw_ HB.out)))
    (case aL => have := LMc13.out; omega)
    intro v508 w19 ho hb hg hat
    rw [← Ny507.out] at ho
    replace BK500 := gR_ BK500 hg (Kd.S_ne HO_503001.out BK500.out (by decide))
    replace BK501 := gR_ BK501 hg (Kd.S_ne HO_503001.out BK501.out (by decide))
    replace BK502 := gR_ BK502 hg (Kd.S_ne HO_503001.out BK502.out (by decide))
    replace HB := Aside0.mk (hb)
    have HO509 := Aside0.mk (ho)
    clear HO_503001 HO506
    clear ho hb hg hat
    obtain ⟨Ao21, co21, eo21⟩ := Kd.S_slice HO509.out
    (first | subst eo21 | (injection eo21 with f1_ f2_ f3_; have f4_ := f1_.symm; have f5_ := f3_.symm; clear f1_ f2_ f3_; subst f4_; subst f5_))
    refine hK.out _ _ ⟨(qkc BK502.out 0).trans rfl, (qkc BK502.out 1).trans rfl, (qkc BK500.out 0).trans rfl, (qkc BK500.out 1).trans rfl, ((HB.out.cell (World.block_lt_of_cell? w _ hw503_0)).trans hw503_0)⟩ (fun hHeld => ?_)
    clear hK K
    refine norm_ (a' := ?_) ?_ ?_
    rotate_left
    ·show Act.put _ (some 24) _ = _
     simp only [Act.put, List.setIfInBounds_toArray, List.set_cons_zero, List.set_cons_succ, i64_w, i32_w]
     rfl
    refine pu_ 10 (some 25) HT_ ?_
    refine last_ (i := 11) (N := none) #[true, true, true, true, true, true, true, true, true, true, true, true] rfl rfl (one_of HT_.out (by kernel_rfl)) (by decide) (fun K hK => ?_)
    have hs22 : w19.cell? ⟨gb502, 1, none⟩ = some (u503001) := (qkc BK502.out 1).trans rfl
    have hfs22 := qkf BK502.out 1
    have hns22_0 := NB500_502.out
    have hns22_1 := NB501_502.out
    have hms22_0 := NB502_500.out
    have hms22_1 := NB502_501.out
    refine skip_ (w1 := ?_) ?sh1 ?sh2 ?_ ?_
    case sh1 => rfl
    case sh2 => rfl
    rotate_left
    ·go_simp
     rfl
    refine hK.out _ _ ?_
    clear hK K
    refine done_ (done_of HT_.out (by kernel_rfl)) ?_
    try go_wp2
    go_roundg k1
    case measure => have := HK1.out; omega
    case rel => exact ⟨(wrap64 (x4_1 + 1)), (y507), (.slice Ao21 y507.length co21), fe_, H', ⟨by have := HK1.out; omega⟩, ⟨by (with_reducible repeat (first | apply Kd.S_alloc | apply Kd.S_drewN | apply Kd.S_drew)); exact Kd.S_mono (Kd.S_far (p := ⟨gb502, 1, none⟩) (Kd.S_types HO509.out BK502.out (by decide)) (fun _ hk => hk.2) (.slice Ao21 y507.length co21)) (fun _ hk => trivial)⟩, ⟨bp_ BK500⟩, ⟨bp_ BK501⟩, ⟨bp_ BK502⟩, ⟨bw_ HB.out⟩⟩
   rw [if_neg c10] at H
   have c10b0 := dcF c10
   clear c10
   obtain ⟨rfl, rfl⟩ := so2 H
   have hnb23 := NB500_501.out
   have hnc23 := NB501_500.out
   have hnb24 := NB500_502.out
   have hnc24 := NB502_500.out
   obtain ⟨hcz25_0, hcz25_1, hfz25_0, hfz25_1⟩ := zf2_ BK500
   have hnb26 := NB502_501.out
   have hnc26 := NB501_502.out
   obtain ⟨hcz27_0, hcz27_1, hfz27_0, hfz27_1⟩ := zf2_ BK502
   obtain ⟨hcz28_0, hcz28_1, hfz28_0, hfz28_1⟩ := zf2_ BK501
   obtain ⟨Ao29, co29, eo29⟩ := Kd.S_slice HO_503001.out
   subst eo29
   go_wp2
   refine bodyPost_ret (results_cell_row rfl _ _ gb501 50 #[.string a0_0, .slice Ao29 x503001_1.length co29] (0, 0) _ rfl (bp_ BK501) Tryz.underlying50 rfl (by kernel_rfl)) rfl ?_
   exact ⟨_, fr_, by (with_reducible repeat (first | apply Kd.S_alloc | apply Kd.S_drewN | apply Kd.S_drew)); exact Kd.S_mono (Kd.S_far (p := ⟨gb501, 1, none⟩) (Kd.S_far (p := ⟨gb501, 0, none⟩) (Kd.S_types HO_503001.out BK501.out (by decide)) (fun _ hk => hk.2) (.string a0_0)) (fun _ hk => hk.2) (.slice Ao29 x503001_1.length co29)) (fun _ hk => trivial), bw_ HB.out⟩

/-! ### barbicanlaw26_lists: function 18 -/
def barbicanlaw26_lists.l0 : Nat → List (List (S63)) → List (List (S63)) → Int → Option (Bool)
 | 0, _, _, _ => none
 | k + 1, x0, x1, x5 => if x5 < (x0.length : Int) then (if 0 ≤ x5 then (if x5 < (x1.length : Int) then ((barbicanlaw26_values.f k (rd_L9 x0 x5) (rd_L9 x1 x5)).bind fun t512 => (if t512 = true then (barbicanlaw26_lists.l0 k x0 x1 (wrap64 (x5 + 1))) else (some false))) else (none)) else (none)) else (some true)
def barbicanlaw26_lists.f (k : Nat) (l0 : List (List (S63))) (l1 : List (List (S63))) : Option (Bool) := if (l0.length : Int) = (l1.length : Int) then (barbicanlaw26_lists.l0 k l0 l1 0) else (some false)
set_option maxHeartbeats 8000000 in
set_option maxRecDepth 100000 in
theorem barbicanlaw26_lists.calls (k : Nat) (A0 : Option Addr) (c0 : Nat) (l0 : List (List (S63))) (A1 : Option Addr) (c1 : Nat) (l1 : List (List (S63))) (r : Bool) (w : World) (hr0 : Kd.C (Kd.slice 63 k63) w A0 l0.length l0) (hc0 : l0.length ≤ c0) (hr1 : Kd.C (Kd.slice 63 k63) w A1 l1.length l1) (hc1 : l1.length ≤ c1) (h : barbicanlaw26_lists.f k l0 l1 = some r) :
  Calls Tryz.prog 18 #[.slice A0 l0.length c0, .slice A1 l1.length c1] w fun e w' => e = .returned (.bool r) ∧ Drawn0 w w' := by
 have HR0 := Aside0.mk hr0
 have HC0 := Aside0.mk hc0
 clear hr0 hc0
 have HR1 := Aside0.mk hr1
 have HC1 := Aside0.mk hc1
 clear hr1 hc1
 have H : (if (l0.length : Int) = (l1.length : Int) then (barbicanlaw26_lists.l0 k l0 l1 0) else (some false)) = some r := h
 clear h
 by_cases c3 : (l0.length : Int) = (l1.length : Int)
 ·rw [if_pos c3] at H
  have ⟨c3b0, c3b1⟩ := eqT c3
  have c3b2 : (l0.length == l1.length) = true := by first | simpa using c3 | (simp at c3 ⊢; omega)
  clear c3
  have H' := Aside0.mk H
  clear H
  go_enter Tryz.func18, Tryz.ntmps18
  go_wp2
  repeat (go_quiet (fail); try go_wp2)
  go_loopg [5] k (fun kq v5 w' => ∃ (x5_1 : Int), v5 = .int .i64 x5_1 ∧ Aside0 (barbicanlaw26_lists.l0 kq l0 l1 x5_1 = some r) ∧ Aside0 (kq ≤ k) ∧ Drawn0 w w')
  case atStart => exact ⟨(0), fe_, H', ⟨Nat.le_refl _⟩, by repeat (first | exact Drawn0.refl _ | apply Drawn0.step)⟩
  case round =>
   clear H'
   (try clear c1); (try clear c3); (try clear c3b0); (try clear c3b1); (try clear c3b2)
   obtain ⟨x5_1, rfl, HA, HK1, ⟨m1, rfl⟩⟩ := hrel
   cases gk with
   | zero => exact absurd HA.out (by simp [barbicanlaw26_lists.l0])
   | succ k1 =>
    have H := HA.out
    clear HA
    simp only [barbicanlaw26_lists.l0] at H
    by_cases c4 : x5_1 < (l0.length : Int)
    ·rw [if_pos c4] at H
     have c4b0 := dcT c4
     clear c4
     have c5 : 0 ≤ x5_1 := Classical.byContradiction fun c5 => by rw [if_neg c5] at H; exact absurd H (by simp)
     rw [if_pos c5] at H
     have c5b0 := dcT c5
     clear c5
     have c6 : x5_1 < (l1.length : Int) := Classical.byContradiction fun c6 => by rw [if_neg c6] at H; exact absurd H (by simp)
     rw [if_pos c6] at H
     have c6b0 := dcT c6
     clear c6
     obtain ⟨t512, A7, H⟩ := bn_ H; (try dsimp only at H)
     by_cases c8 : t512 = true
     ·subst c8
      rw [if_pos rfl] at H
      have H' := Aside0.mk H
      clear H
      have p510 : 0 ≤ (x5_1 : Int) := ode_
      have q510 : x5_1 < (l0.length : Int) := ode_
      obtain ⟨ad510, A510_0, c510_0, e510, hx510_0, hl510_0, hi510_0⟩ := at_L9 HR0.out x5_1 p510 q510
      cases e510
      have HR510_0 := Aside0.mk hi510_0
      have HC510_0 := Aside0.mk hl510_0
      clear hi510_0 hl510_0
      replace p510 := eq_true p510
      replace q510 := eq_true q510
      have p511 : 0 ≤ (x5_1 : Int) := ode_
      have q511 : x5_1 < (l1.length : Int) := ode_
      obtain ⟨ad511, A511_0, c511_0, e511, hx511_0, hl511_0, hi511_0⟩ := at_L9 HR1.out x5_1 p511 q511
      cases e511
      have HR511_0 := Aside0.mk hi511_0
      have HC511_0 := Aside0.mk hl511_0
      clear hi511_0 hl511_0
      replace p511 := eq_true p511
      replace q511 := eq_true q511
      go_wp2_with (first | (go_at_call 38; (with_reducible refine (barbicanlaw26_values.calls k1 _ _ (rd_L9 l0 x5_1) _ _ (rd_L9 l1 x5_1) true _ ?side1 ?side2 ?side3 ?side4 A7.out).mono ?_); (case side1 => exact kC_ HR510_0.out); (case side2 => exact HC510_0.out); (case side3 => exact kC_ HR511_0.out); (case side4 => exact HC511_0.out); rintro e w' ⟨rfl, ⟨nd, rfl⟩⟩; (try first | exact ⟨rfl, _, World.drewN_drewN _ _ _⟩ | exact ⟨rfl, _, Eq.trans (World.drewN_drewN _ _ _) (congrArg (World.drewN _) (Nat.add_assoc _ _ _))⟩)))
      repeat (go_quiet (first | (go_at_call 38; (with_reducible refine (barbicanlaw26_values.calls k1 _ _ (rd_L9 l0 x5_1) _ _ (rd_L9 l1 x5_1) true _ ?side1 ?side2 ?side3 ?side4 A7.out).mono ?_); (case side1 => repeat (first | exact HR510_0.out | (with_reducible refine Kd.C_alloc ?_ _) | (with_reducible refine Kd.C_drewN ?_ _) | (with_reducible refine Kd.C_drew ?_))); (case side2 => exact HC510_0.out); (case side3 => repeat (first | exact HR511_0.out | (with_reducible refine Kd.C_alloc ?_ _) | (with_reducible refine Kd.C_drewN ?_ _) | (with_reducible refine Kd.C_drew ?_))); (case side4 => exact HC511_0.out); rintro e w' ⟨rfl, ⟨nd, rfl⟩⟩; (try first | exact ⟨rfl, _, World.drewN_drewN _ _ _⟩ | exact ⟨rfl, _, Eq.trans (World.drewN_drewN _ _ _) (congrArg (World.drewN _) (Nat.add_assoc _ _ _))⟩))); try go_wp2_with (first | (go_at_call 38; (with_reducible refine (barbicanlaw26_values.calls k1 _ _ (rd_L9 l0 x5_1) _ _ (rd_L9 l1 x5_1) true _ ?side1 ?side2 ?side3 ?side4 A7.out).mono ?_); (case side1 => repeat (first | exact HR510_0.out | (with_reducible refine Kd.C_alloc ?_ _) | (with_reducible refine Kd.C_drewN ?_ _) | (with_reducible refine Kd.C_drew ?_))); (case side2 => exact HC510_0.out); (case side3 => repeat (first | exact HR511_0.out | (with_reducible refine Kd.C_alloc ?_ _) | (with_reducible refine Kd.C_drewN ?_ _) | (with_reducible refine Kd.C_drew ?_))); (case side4 => exact HC511_0.out); rintro e w' ⟨rfl, ⟨nd, rfl⟩⟩; (try first | exact ⟨rfl, _, World.drewN_drewN _ _ _⟩ | exact ⟨rfl, _, Eq.trans (World.drewN_drewN _ _ _) (congrArg (World.drewN _) (Nat.add_assoc _ _ _))⟩))))
      go_roundg k1
      case measure => have := HK1.out; omega
      case rel => exact ⟨(wrap64 (x5_1 + 1)), fe_, H', ⟨by have := HK1.out; omega⟩, by repeat (first | exact Drawn0.refl _ | apply Drawn0.step)⟩
     replace c8 := Bool.eq_false_iff.mpr c8
     subst c8
     rw [if_neg (show ¬ (false = true) by decide)] at H
     obtain rfl := Option.some.inj H
     have p510 : 0 ≤ (x5_1 : Int) := ode_
     have q510 : x5_1 < (l0.length : Int) := ode_
     obtain ⟨ad510, A510_0, c510_0, e510, hx510_0, hl510_0, hi510_0⟩ := at_L9 HR0.out x5_1 p510 q510
     cases e510
     have HR510_0 := Aside0.mk hi510_0
     have HC510_0 := Aside0.mk hl510_0
     clear hi510_0 hl510_0
     replace p510 := eq_true p510
     replace q510 := eq_true q510
     have p511 : 0 ≤ (x5_1 : Int) := ode_
     have q511 : x5_1 < (l1.length : Int) := ode_
     obtain ⟨ad511, A511_0, c511_0, e511, hx511_0, hl511_0, hi511_0⟩ := at_L9 HR1.out x5_1 p511 q511
     cases e511
     have HR511_0 := Aside0.mk hi511_0
     have HC511_0 := Aside0.mk hl511_0
     clear hi511_0 hl511_0
     replace p511 := eq_true p511
     replace q511 := eq_true q511
     go_wp2_with (first | (go_at_call 38; (with_reducible refine (barbicanlaw26_values.calls k1 _ _ (rd_L9 l0 x5_1) _ _ (rd_L9 l1 x5_1) false _ ?side1 ?side2 ?side3 ?side4 A7.out).mono ?_); (case side1 => exact kC_ HR510_0.out); (case side2 => exact HC510_0.out); (case side3 => exact kC_ HR511_0.out); (case side4 => exact HC511_0.out); rintro e w' ⟨rfl, ⟨nd, rfl⟩⟩; (try first | exact ⟨rfl, _, World.drewN_drewN _ _ _⟩ | exact ⟨rfl, _, Eq.trans (World.drewN_drewN _ _ _) (congrArg (World.drewN _) (Nat.add_assoc _ _ _))⟩)))
     repeat (go_quiet (first | (go_at_call 38; (with_reducible refine (barbicanlaw26_values.calls k1 _ _ (rd_L9 l0 x5_1) _ _ (rd_L9 l1 x5_1) false _ ?side1 ?side2 ?side3 ?side4 A7.out).mono ?_); (case side1 => repeat (first | exact HR510_0.out | (with_reducible refine Kd.C_alloc ?_ _) | (with_reducible refine Kd.C_drewN ?_ _) | (with_reducible refine Kd.C_drew ?_))); (case side2 => exact HC510_0.out); (case side3 => repeat (first | exact HR511_0.out | (with_reducible refine Kd.C_alloc ?_ _) | (with_reducible refine Kd.C_drewN ?_ _) | (with_reducible refine Kd.C_drew ?_))); (case side4 => exact HC511_0.out); rintro e w' ⟨rfl, ⟨nd, rfl⟩⟩; (try first | exact ⟨rfl, _, World.drewN_drewN _ _ _⟩ | exact ⟨rfl, _, Eq.trans (World.drewN_drewN _ _ _) (congrArg (World.drewN _) (Nat.add_assoc _ _ _))⟩))); try go_wp2_with (first | (go_at_call 38; (with_reducible refine (barbicanlaw26_values.calls k1 _ _ (rd_L9 l0 x5_1) _ _ (rd_L9 l1 x5_1) false _ ?side1 ?side2 ?side3 ?side4 A7.out).mono ?_); (case side1 => repeat (first | exact HR510_0.out | (with_reducible refine Kd.C_alloc ?_ _) | (with_reducible refine Kd.C_drewN ?_ _) | (with_reducible refine Kd.C_drew ?_))); (case side2 => exact HC510_0.out); (case side3 => repeat (first | exact HR511_0.out | (with_reducible refine Kd.C_alloc ?_ _) | (with_reducible refine Kd.C_drewN ?_ _) | (with_reducible refine Kd.C_drew ?_))); (case side4 => exact HC511_0.out); rintro e w' ⟨rfl, ⟨nd, rfl⟩⟩; (try first | exact ⟨rfl, _, World.drewN_drewN _ _ _⟩ | exact ⟨rfl, _, Eq.trans (World.drewN_drewN _ _ _) (congrArg (World.drewN _) (Nat.add_assoc _ _ _))⟩))))
     go_ret
     exact ⟨by first | rfl | (simp; done) | (simp [*]; done) | (simp [bne]; done), by repeat (first | exact Drawn0.refl _ | apply Drawn0.step)⟩
    rw [if_neg c4] at H
    have c4b0 := dcF c4
    clear c4
    obtain rfl := Option.some.inj H
    go_wp2
    repeat (go_quiet (fail); try go_wp2)
    go_ret
    exact ⟨by first | rfl | (simp; done) | (simp [*]; done) | (simp [bne]; done), by repeat (first | exact Drawn0.refl _ | apply Drawn0.step)⟩
 rw [if_neg c3] at H
 have ⟨c3b0, c3b1⟩ := eqF c3
 have c3b2 : (l0.length == l1.length) = false := by first | simpa using c3 | (simp at c3 ⊢; omega)
 obtain rfl := Option.some.inj H
 go_enter Tryz.func18, Tryz.ntmps18
 go_wp2
 repeat (go_quiet (fail); try go_wp2)
 go_ret
 exact ⟨by first | rfl | (simp; done) | (simp [*]; done) | (simp [bne]; done), by repeat (first | exact Drawn0.refl _ | apply Drawn0.step)⟩

/-! ### barbicanref03_Uints: function 49 -/

/-! ### barbicanref26_counts: function 23 -/

/-! ### barbicanref15_Find: function 24 -/

end Go.Proofs.YtddkbhglbkfelaaGreatDoor.T
