import Derived.Test.YtddkbhglbkfelaaGreatDoorPkTx0
import Derived.Test.YtddkbhglbkfelaaGreatDoorPkTx4
import Derived.Test.YtddkbhglbkfelaaGreatDoorPkTx5
import Derived.Test.YtddkbhglbkfelaaGreatDoorPkTx13
namespace Go.Proofs.YtddkbhglbkfelaaGreatDoor.T
open Go.RowKit Go.Proofs.YtddkbhglbkfelaaGreatDoorW.PrintWords Go.Proofs.YtddkbhglbkfelaaGreatDoorW.PrintLast Go.Proofs.YtddkbhglbkfelaaGreatDoorW.PrintMore Go.Proofs.YtddkbhglbkfelaaGreatDoorX
attribute [local go_sem] max2_int min2_int max_two min_two max_three min_three max_four min_four
set_option linter.unusedVariables false
set_option linter.unusedSimpArgs false

/-! ### barbicanlaw26_done: function 8 -/
def barbicanlaw26_done.l0 : Nat → Int → Int → Int → List Int → List (S68) → Int → Int → List Int → List (S68) → Option (Int × Int × List Int × (List (S68)))
 | 0, _, _, _, _, _, _, _, _, _ => none
 | k + 1, x4, x398000, x398001, x398002, x398003, x400000, x400001, x400002, x400003 => if x4 < (x398003.length : Int) then (if 0 ≤ x4 then ((barbicanlaw26_twin2.f ((rd_T68 x398003 x4).f2)).bind fun t405 => (if x400003.length < 2932031007402 then (barbicanlaw26_done.l0 k (wrap64 (x4 + 1)) x398000 x398001 x398002 x398003 x400000 x400001 x400002 (x400003 ++ [(⟨(rd_T68 x398003 x4).f0, (rd_T68 x398003 x4).f1, t405⟩ : S68)])) else (none))) else (none)) else (some (x400000, x400001, x400002, x400003))
def barbicanlaw26_done.f (k : Nat) (a0_0 : Int) (a0_1 : Int) (l0_2 : List Int) (l0_3 : List (S68)) : Option (Int × Int × List Int × (List (S68))) := if ([] : List Int).length + l0_2.length < 17592186044416 then (barbicanlaw26_done.l0 k 0 a0_0 a0_1 l0_2 l0_3 a0_0 a0_1 (([] : List Int) ++ l0_2) ([] : List (S68))) else (none)
set_option maxHeartbeats 8000000 in
set_option maxRecDepth 100000 in
theorem barbicanlaw26_done.calls (k : Nat) (a0_0 : Int) (a0_1 : Int) (A0_2 : Option Addr) (c0_2 : Nat) (l0_2 : List Int) (A0_3 : Option Addr) (c0_3 : Nat) (l0_3 : List (S68)) (r1 : Int) (r2 : Int) (r3 : List Int) (r4 : List (S68)) (w : World) (hr0_2 : Kd.C (Kd.int .i64) w A0_2 l0_2.length l0_2) (hc0_2 : l0_2.length ≤ c0_2) (hr0_3 : Kd.C k68 w A0_3 l0_3.length l0_3) (hc0_3 : l0_3.length ≤ c0_3) (h : barbicanlaw26_done.f k a0_0 a0_1 l0_2 l0_3 = some (r1, r2, r3, r4)) :
  Calls Tryz.prog 8 #[.agg #[.int .i64 a0_0, .int .i64 a0_1, .slice A0_2 l0_2.length c0_2, .slice A0_3 l0_3.length c0_3]] w fun e w' => ∃ v2_ v3_ : Value, e = .returned (.agg #[.int .i64 r1, .int .i64 r2, v2_, v3_]) ∧ Kd.R (Kd.int .i64) 3 w' w.heap.size (fun _ => True) v2_ r3 ∧ Kd.S k68 68 w' w.heap.size (fun _ => True) v3_ r4 ∧ Below w.heap.size w w' := by
 have hu26 := Tryz.underlying26
 have hu35 := Tryz.underlying35
 have hu68 := Tryz.underlying68
 have HR0_2 := Aside0.mk hr0_2
 have HC0_2 := Aside0.mk hc0_2
 clear hr0_2 hc0_2
 have HR0_3 := Aside0.mk hr0_3
 have HC0_3 := Aside0.mk hc0_3
 clear hr0_3 hc0_3
 have HB := Aside0.mk (Below.refl w.heap.size w)
 have H : (if ([] : List Int).length + l0_2.length < 17592186044416 then (barbicanlaw26_done.l0 k 0 a0_0 a0_1 l0_2 l0_3 a0_0 a0_1 (([] : List Int) ++ l0_2) ([] : List (S68))) else (none)) = some (r1, r2, r3, r4) := h
 clear h
 have c2 : ([] : List Int).length + l0_2.length < 17592186044416 := Classical.byContradiction fun c2 => by rw [if_neg c2] at H; exact absurd H (by simp)
 rw [if_pos c2] at H
 have LMc2 := Aside0.mk c2
 clear c2
 first | (revert H; with_reducible refine nm_ fun y400 hy400 H => ?_) | (generalize hy400 : (([] : List Int) ++ l0_2 : List Int) = y400 at H; replace hy400 := hy400.symm)
 have Ny400 := Aside0.mk hy400; clear hy400
 have H' := Aside0.mk H
 clear H
 go_enter Tryz.func8, Tryz.ntmps8
 go_wp2_with (first | ((with_reducible refine qgd (N := 1) rfl ?_); refine qB_ 1 #[.int .i64 a0_0, .int .i64 a0_1, .slice A0_2 l0_2.length c0_2, .slice A0_3 l0_3.length c0_3] 26 ?_; intro gb397 hg w3 hbox hb; have BK397 := Aside0.mk (hbox); have GW397 := gE_ hg HB; have GE397 := gE_ hg HB; replace HB := bS_ HB hb; clear hb hbox hg) | ((with_reducible refine qgd (N := 2) rfl ?_); refine qB_ 2 #[.int .i64 0, .int .i64 0, .slice none 0 0, .slice none 0 0] 35 ?_; intro gb398 hg w4 hbox hb; have BK398 := Aside0.mk (hbox); have GW398 := gE_ hg HB; have GE398 := gE_ hg HB; replace HB := bS_ HB hb; have NB397_398 := Aside0.mk ((by rw [hg]; exact Nat.ne_of_lt (blk_lt (g := gb397) (o := .cells #[.int .i64 a0_0, .int .i64 a0_1, .slice A0_2 l0_2.length c0_2, .slice A0_3 l0_3.length c0_3] 26 (0, 0)) (bl_ BK397.out)) : gb397 ≠ gb398)); have NB398_397 := Aside0.mk ((by rw [hg]; exact Nat.ne_of_gt (blk_lt (g := gb397) (o := .cells #[.int .i64 a0_0, .int .i64 a0_1, .slice A0_2 l0_2.length c0_2, .slice A0_3 l0_3.length c0_3] 26 (0, 0)) (bl_ BK397.out)) : gb398 ≠ gb397)); replace BK397 := kB_ BK397 hb; clear hb hbox hg; have hnb5 := NB397_398.out; have hnc5 := NB398_397.out; obtain ⟨hcz6_0, hcz6_1, hcz6_2, hcz6_3, hfz6_0, hfz6_1, hfz6_2, hfz6_3⟩ := zf4_ BK397) | ((with_reducible refine qgd (N := 3) rfl ?_); refine qB_ 3 #[.int .i64 0, .int .i64 0, .slice none 0 0, .slice none 0 0] 35 ?_; intro gb399 hg w7 hbox hb; have BK399 := Aside0.mk (hbox); have GW399 := gE_ hg HB; have GE399 := gE_ hg HB; replace HB := bS_ HB hb; have NB397_399 := Aside0.mk ((by rw [hg]; exact Nat.ne_of_lt (blk_lt (g := gb397) (o := .cells #[.int .i64 a0_0, .int .i64 a0_1, .slice A0_2 l0_2.length c0_2, .slice A0_3 l0_3.length c0_3] 26 (0, 0)) (bl_ BK397.out)) : gb397 ≠ gb399)); have NB399_397 := Aside0.mk ((by rw [hg]; exact Nat.ne_of_gt (blk_lt (g := gb397) (o := .cells #[.int .i64 a0_0, .int .i64 a0_1, .slice A0_2 l0_2.length c0_2, .slice A0_3 l0_3.length c0_3] 26 (0, 0)) (bl_ BK397.out)) : gb399 ≠ gb397)); replace BK397 := kB_ BK397 hb; have NB398_399 := Aside0.mk ((by rw [hg]; exact Nat.ne_of_lt (blk_lt (g := gb398) (o := .cells #[.int .i64 0, .int .i64 0, .slice none 0 0, .slice none 0 0] 35 (0, 0)) (bl_ BK398.out)) : gb398 ≠ gb399)); have NB399_398 := Aside0.mk ((by rw [hg]; exact Nat.ne_of_gt (blk_lt (g := gb398) (o := .cells #[.int .i64 0, .int .i64 0, .slice none 0 0, .slice none 0 0] 35 (0, 0)) (bl_ BK398.out)) : gb399 ≠ gb398)); replace BK398 := kB_ BK398 hb; clear hb hbox hg; have hnb8 := NB399_397.out; have hnc8 := NB397_399.out; have hnb9 := NB399_398.out; have hnc9 := NB398_399.out; obtain ⟨hcz10_0, hcz10_1, hcz10_2, hcz10_3, hfz10_0, hfz10_1, hfz10_2, hfz10_3⟩ := zf4_ BK399; obtain ⟨hcz11_0, hcz11_1, hcz11_2, hcz11_3, hfz11_0, hfz11_1, hfz11_2, hfz11_3⟩ := zf4_ BK397) | ((with_reducible refine gate_builtin (b := .append) (xs := #[.tmp 12, .tmp 14]) rfl ?_); at_builtin; refine Kd.R_append_rows (Kd.int .i64) (w0 := w) w.heap.size rfl (.tmp 12) (.tmp 14) 23 3 (.int .i64 0) 8 rfl Tryz.underlying23 info3 rfl (by decide) (by omega) (.slice none 0 0) ([] : List Int) l0_2 _ _ _ (fun _ => True) (fun _ => False) rfl rfl ?aO ?aR (fun _ _ h => h) (fun _ h => h.elim) (fun _ _ => trivial) (bw_ HB.out) (qbz (bw_ HB.out)) (by have := LMc2.out; omega) ?_; (case aR => exact Kd.C_below HR0_2.out (bw_ HB.out)); (case aO => exact ((Kd.R_nil _ _ _ _ (fun _ => True)))); intro v401 w12 ho hb hg hat; rw [← Ny400.out] at ho; replace BK397 := Aside0.mk (blk_grown (g := gb397) (o := .cells #[.int .i64 a0_0, .int .i64 a0_1, .slice A0_2 l0_2.length c0_2, .slice A0_3 l0_3.length c0_3] 26 (0, 0)) (bp_ BK397) hg (by simp [Value.ownBlock])); replace BK398 := Aside0.mk (blk_grown (g := gb398) (o := .cells #[.int .i64 0, .int .i64 0, .slice none 0 0, .slice none 0 0] 35 (0, 0)) (bp_ BK398) hg (by simp [Value.ownBlock])); replace BK399 := Aside0.mk (blk_grown (g := gb399) (o := .cells #[.int .i64 a0_0, .int .i64 a0_1, .slice none 0 0, .slice none 0 0] 35 (0, 0)) (bp_ BK399) hg (by simp [Value.ownBlock])); replace HB := Aside0.mk (hb); have HO402 := Aside0.mk (ho); clear ho hb hg hat; obtain ⟨Ao13, co13, eo13⟩ := Kd.R_slice HO402.out; subst eo13; obtain ⟨hcz14_0, hcz14_1, hcz14_2, hcz14_3, hfz14_0, hfz14_1, hfz14_2, hfz14_3⟩ := zf4_ BK399))
 go_loopg [4] k (fun kq v4 w' => ∃ (x4_1 : Int) (x400003_1 : List (S68)) (u400003 : Value), v4 = .int .i64 x4_1 ∧ Aside0 (barbicanlaw26_done.l0 kq x4_1 a0_0 a0_1 l0_2 l0_3 a0_0 a0_1 y400 x400003_1 = some (r1, r2, r3, r4)) ∧ Aside0 (kq ≤ k) ∧ Aside0 (Kd.R (Kd.int .i64) 3 w' w.heap.size (fun _ => True) (.slice Ao13 y400.length co13) y400) ∧ Aside0 (Kd.S k68 68 w' w.heap.size (fun _ => True) u400003 x400003_1) ∧ Aside0 (w'.heap[gb397]? = some (.cells #[.int .i64 a0_0, .int .i64 a0_1, (.slice A0_2 l0_2.length c0_2), (.slice A0_3 l0_3.length c0_3)] 26 (0, 0))) ∧ Aside0 (w'.heap[gb398]? = some (.cells #[.int .i64 0, .int .i64 0, (.slice none 0 0), (.slice none 0 0)] 35 (0, 0))) ∧ Aside0 (w'.heap[gb399]? = some (.cells #[.int .i64 a0_0, .int .i64 a0_1, (.slice Ao13 y400.length co13), u400003] 35 (0, 0))) ∧ Aside0 (Below w.heap.size w w'))
 case atStart => exact ⟨(0), (([] : List (S68))), (.slice none 0 0), fe_, H', ⟨Nat.le_refl _⟩, ⟨by (with_reducible repeat (first | apply Kd.R_alloc | apply Kd.R_drewN | apply Kd.R_drew)); exact Kd.R_mono (Kd.R_far (p := ⟨gb399, 2, none⟩) (Kd.R_types HO402.out BK399.out (by decide)) (fun _ hk => hk.2) (.slice Ao13 y400.length co13)) (fun _ hk => trivial)⟩, ⟨by first | exact Kd.S_nil _ _ _ _ _ | exact Kd.N_nil _ _ _ _ _ | exact Kd.V_nil _ _ _ _ _ | exact Kd.Q_nil _ _ _ _ _ | exact Kd.R_nil _ _ _ _ _⟩, ⟨bp_ BK397⟩, ⟨bp_ BK398⟩, ⟨bp_ BK399⟩, ⟨bw_ HB.out⟩⟩
 case round =>
  clear H'
  (try clear c2); (try clear hcz10_0); (try clear hcz10_1); (try clear hcz10_2); (try clear hcz10_3); (try clear hcz11_0); (try clear hcz11_1); (try clear hcz11_2)
  (try clear hcz11_3); (try clear hcz14_0); (try clear hcz14_1); (try clear hcz14_2); (try clear hcz14_3); (try clear hcz6_0); (try clear hcz6_1); (try clear hcz6_2); (try clear hcz6_3); (try clear hfz10_0); (try clear hfz10_1); (try clear hfz10_2)
  (try clear hfz10_3); (try clear hfz11_0); (try clear hfz11_1); (try clear hfz11_2); (try clear hfz11_3); (try clear hfz14_0); (try clear hfz14_1); (try clear hfz14_2); (try clear hfz14_3); (try clear hfz6_0); (try clear hfz6_1); (try clear hfz6_2)
  (try clear hfz6_3)
  obtain ⟨x4_1, x400003_1, u400003, rfl, HA, HK1, HO_400002, HO_400003, BK397, BK398, BK399, HB⟩ := hrel
  cases gk with
  | zero => exact absurd HA.out (by simp [barbicanlaw26_done.l0])
  | succ k1 =>
   have H := HA.out
   clear HA
   simp only [barbicanlaw26_done.l0] at H
   by_cases c15 : x4_1 < (l0_3.length : Int)
   ·rw [if_pos c15] at H
    have c15b0 := dcT c15
    clear c15
    have c16 : 0 ≤ x4_1 := Classical.byContradiction fun c16 => by rw [if_neg c16] at H; exact absurd H (by simp)
    rw [if_pos c16] at H
    have c16b0 := dcT c16
    clear c16
    obtain ⟨t405, A17, H⟩ := bn_ H; (try dsimp only at H)
    have c18 : x400003_1.length < 2932031007402 := Classical.byContradiction fun c18 => by rw [if_neg c18] at H; exact absurd H (by simp)
    rw [if_pos c18] at H
    have LMc18 := Aside0.mk c18
    clear c18
    first | (revert H; with_reducible refine nm_ fun y408 hy408 H => ?_) | (generalize hy408 : (x400003_1 ++ [(⟨(rd_T68 l0_3 x4_1).f0, (rd_T68 l0_3 x4_1).f1, t405⟩ : S68)] : List (S68)) = y408 at H; replace hy408 := hy408.symm)
    have Ny408 := Aside0.mk hy408; clear hy408
    have H' := Aside0.mk H
    clear H
    have hnb19 := NB397_398.out
    have hnc19 := NB398_397.out
    have hnb20 := NB397_399.out
    have hnc20 := NB399_397.out
    obtain ⟨hcz21_0, hcz21_1, hcz21_2, hcz21_3, hfz21_0, hfz21_1, hfz21_2, hfz21_3⟩ := zf4_ BK397
    have p403 : 0 ≤ (x4_1 : Int) := ode_
    have q403 : x4_1 < (l0_3.length : Int) := ode_
    obtain ⟨ad403, A403_2, c403_2, e403, hx403_0, hx403_1, hx403_2, hl403_2, hi403_2⟩ := at_T68 HR0_3.out x4_1 p403 q403
    cases e403
    replace hx403_0 := hc_ HB hx403_0
    replace hx403_1 := hc_ HB hx403_1
    replace hx403_2 := hc_ HB hx403_2
    have HR403_2 := Aside0.mk hi403_2
    have HC403_2 := Aside0.mk hl403_2
    clear hi403_2 hl403_2
    replace p403 := eq_true p403
    replace q403 := eq_true q403
    go_wp2_with (first | ((with_reducible refine qgd (N := 5) rfl ?_); refine qB_ 5 #[.string (⟨#[]⟩ : ByteArray), .bool false, .slice none 0 0] 68 ?_; intro gb404 hg w22 hbox hb; replace HO_400002 := RB_ HO_400002 hb; replace HO_400003 := Aside0.mk (Kd.S_below (Kd.S_elderB (by (with_reducible repeat (first | apply Kd.S_alloc | apply Kd.S_drewN | apply Kd.S_drew)); exact HO_400003.out) gb404 (Nat.le_of_eq hg.symm)) hb); have BK404 := Aside0.mk (hbox); have GW404 := gE_ hg HB; have GE404 := gE_ hg HB; replace HB := bS_ HB hb; have NB397_404 := Aside0.mk ((by rw [hg]; exact Nat.ne_of_lt (blk_lt (g := gb397) (o := .cells #[.int .i64 a0_0, .int .i64 a0_1, .slice A0_2 l0_2.length c0_2, .slice (some ad403) l0_3.length c0_3] 26 (0, 0)) (bl_ BK397.out)) : gb397 ≠ gb404)); have NB404_397 := Aside0.mk ((by rw [hg]; exact Nat.ne_of_gt (blk_lt (g := gb397) (o := .cells #[.int .i64 a0_0, .int .i64 a0_1, .slice A0_2 l0_2.length c0_2, .slice (some ad403) l0_3.length c0_3] 26 (0, 0)) (bl_ BK397.out)) : gb404 ≠ gb397)); replace BK397 := kB_ BK397 hb; have NB398_404 := Aside0.mk ((by rw [hg]; exact Nat.ne_of_lt (blk_lt (g := gb398) (o := .cells #[.int .i64 0, .int .i64 0, .slice none 0 0, .slice none 0 0] 35 (0, 0)) (bl_ BK398.out)) : gb398 ≠ gb404)); have NB404_398 := Aside0.mk ((by rw [hg]; exact Nat.ne_of_gt (blk_lt (g := gb398) (o := .cells #[.int .i64 0, .int .i64 0, .slice none 0 0, .slice none 0 0] 35 (0, 0)) (bl_ BK398.out)) : gb404 ≠ gb398)); replace BK398 := kB_ BK398 hb; have NB399_404 := Aside0.mk ((by rw [hg]; exact Nat.ne_of_lt (blk_lt (g := gb399) (o := .cells #[.int .i64 a0_0, .int .i64 a0_1, .slice Ao13 y400.length co13, u400003] 35 (0, 0)) (bl_ BK399.out)) : gb399 ≠ gb404)); have NB404_399 := Aside0.mk ((by rw [hg]; exact Nat.ne_of_gt (blk_lt (g := gb399) (o := .cells #[.int .i64 a0_0, .int .i64 a0_1, .slice Ao13 y400.length co13, u400003] 35 (0, 0)) (bl_ BK399.out)) : gb404 ≠ gb399)); replace BK399 := kB_ BK399 hb; clear hb hbox hg; have hnb23 := NB404_397.out; have hnc23 := NB397_404.out; have hnb24 := NB404_398.out; have hnc24 := NB398_404.out; have hnb25 := NB404_399.out; have hnc25 := NB399_404.out; obtain ⟨hcz26_0, hcz26_1, hcz26_2, hfz26_0, hfz26_1, hfz26_2⟩ := zf3_ BK404) | ((with_reducible refine qgc (f := 22) rfl ?_); refine gL_ (some 31) Tryz.func22 #[.slice A403_2 ((rd_T68 l0_3 x4_1).f2).length c403_2] ?_; (with_reducible refine (barbicanlaw26_twin2.calls _ _ ((rd_T68 l0_3 x4_1).f2) t405 _ ?side1 ?side2 A17.out).mono ?_); (case side1 => exact Kd.C_below HR403_2.out (bw_ HB.out)); (case side2 => exact HC403_2.out); rintro e w27 ⟨v406, rfl, ho0, hb⟩; refine ⟨_, rfl, ?_⟩; replace HO_400002 := Aside0.mk (Kd.R_below (by (with_reducible repeat (first | apply Kd.R_alloc | apply Kd.R_drewN | apply Kd.R_drew)); exact (Kd.R_mono (Kd.R_far (p := ⟨gb404, 2, none⟩) (Kd.R_far (p := ⟨gb404, 1, none⟩) (Kd.R_far (p := ⟨gb404, 0, none⟩) (Kd.R_types HO_400002.out BK404.out (by decide)) (fun _ hk => hk.2) (.string ((rd_T68 l0_3 x4_1).f0))) (fun _ hk => hk.2) (.bool ((rd_T68 l0_3 x4_1).f1))) (fun _ hk => hk.2) (.slice A403_2 ((rd_T68 l0_3 x4_1).f2).length c403_2)) (fun _ h_ => h_.1))) hb); replace HO_400003 := Aside0.mk (Kd.S_elder' (by (with_reducible repeat (first | apply Kd.S_alloc | apply Kd.S_drewN | apply Kd.S_drew)); exact (Kd.S_mono (Kd.S_far (p := ⟨gb404, 2, none⟩) (Kd.S_far (p := ⟨gb404, 1, none⟩) (Kd.S_far (p := ⟨gb404, 0, none⟩) (Kd.S_mono HO_400003.out (fun k_ hk => (⟨hk, hk.2⟩ : _ ∧ k_ ≠ gb404))) (fun _ hk => hk.2) (.string ((rd_T68 l0_3 x4_1).f0))) (fun _ hk => hk.2) (.bool ((rd_T68 l0_3 x4_1).f1))) (fun _ hk => hk.2) (.slice A403_2 ((rd_T68 l0_3 x4_1).f2).length c403_2)) (fun _ h_ => h_.1))) (Kd.R_base ho0) hb); have HO407 := Rl_ ho0 HB; replace BK397 := Aside0.mk (qkb (g := gb397) (o := .cells #[.int .i64 a0_0, .int .i64 a0_1, .slice A0_2 l0_2.length c0_2, .slice (some ad403) l0_3.length c0_3] 26 (0, 0)) (bp_ BK397) hb); replace BK398 := Aside0.mk (qkb (g := gb398) (o := .cells #[.int .i64 0, .int .i64 0, .slice none 0 0, .slice none 0 0] 35 (0, 0)) (bp_ BK398) hb); replace BK399 := Aside0.mk (qkb (g := gb399) (o := .cells #[.int .i64 a0_0, .int .i64 a0_1, .slice Ao13 y400.length co13, u400003] 35 (0, 0)) (bp_ BK399) hb); replace BK404 := Aside0.mk (qkb (g := gb404) (o := .cells #[.string ((rd_T68 l0_3 x4_1).f0), .bool ((rd_T68 l0_3 x4_1).f1), .slice A403_2 ((rd_T68 l0_3 x4_1).f2).length c403_2] 68 (0, 0)) (bp_ BK404) hb); replace HB := bS_ HB hb; clear hb; (try clear ho0); obtain ⟨Ao28, co28, eo28⟩ := Kd.R_slice HO407.out; subst eo28; obtain ⟨hcz29_0, hcz29_1, hcz29_2, hfz29_0, hfz29_1, hfz29_2⟩ := zf3_ BK404) | ((with_reducible refine gate_store (t := 64) (p := 32) rfl ?_); refine store_event (t := 64) (p := 32) (v := ?vo_w30) (w1 := (w27.setCell ⟨gb404, 2, none⟩ (.slice Ao28 t405.length co28))) ?hg ?ho ?hn ?hr ?_; (case ho => rfl); (case hg => rfl); (case hn => rfl); (case hr => first | (go_simp; done) | (go_simp; rfl)); intro w30 hw; replace HO_400002 : Aside0 (Kd.R (Kd.int .i64) 3 w30 w.heap.size (fun _ => True) (.slice Ao13 y400.length co13) y400) := ⟨(by rw [hw]; exact (by (with_reducible repeat (first | apply Kd.R_alloc | apply Kd.R_drewN | apply Kd.R_drew)); exact Kd.R_mono (Kd.R_far (p := ⟨gb404, 2, none⟩) (Kd.R_types HO_400002.out BK404.out (by decide)) (fun _ hk => hk.2) (.slice Ao28 t405.length co28)) (fun _ hk => trivial)))⟩; replace HO_400003 : Aside0 (Kd.S k68 68 w30 w.heap.size (fun k_ => some k_ ≠ (.slice Ao28 t405.length co28 : Value).ownBlock ∧ k_ ≠ gb404) u400003 x400003_1) := ⟨(by rw [hw]; exact (by (with_reducible repeat (first | apply Kd.S_alloc | apply Kd.S_drewN | apply Kd.S_drew)); exact Kd.S_mono (Kd.S_far (p := ⟨gb404, 2, none⟩) (Kd.S_mono HO_400003.out (fun k_ hk => (⟨hk, hk.1.2⟩ : _ ∧ k_ ≠ gb404))) (fun _ hk => hk.2) (.slice Ao28 t405.length co28)) (fun _ hk => ⟨hk.1.2, hk.1.1.2⟩)))⟩; replace HO407 : Aside0 (Kd.R k63 63 w30 w.heap.size (fun _ => True) (.slice Ao28 t405.length co28) t405) := ⟨(by rw [hw]; exact (by (with_reducible repeat (first | apply Kd.R_alloc | apply Kd.R_drewN | apply Kd.R_drew)); exact Kd.R_mono (Kd.R_far (p := ⟨gb404, 2, none⟩) (Kd.R_types HO407.out BK404.out (by decide)) (fun _ hk => hk.2) (.slice Ao28 t405.length co28)) (fun _ hk => trivial)))⟩; replace BK397 : Aside0 (w30.heap[gb397]? = some (.cells #[.int .i64 a0_0, .int .i64 a0_1, .slice A0_2 l0_2.length c0_2, .slice (some ad403) l0_3.length c0_3] 26 (0, 0))) := ⟨(by rw [hw]; exact (bp_ BK397))⟩; replace BK398 : Aside0 (w30.heap[gb398]? = some (.cells #[.int .i64 0, .int .i64 0, .slice none 0 0, .slice none 0 0] 35 (0, 0))) := ⟨(by rw [hw]; exact (bp_ BK398))⟩; replace BK399 : Aside0 (w30.heap[gb399]? = some (.cells #[.int .i64 a0_0, .int .i64 a0_1, .slice Ao13 y400.length co13, u400003] 35 (0, 0))) := ⟨(by rw [hw]; exact (bp_ BK399))⟩; replace BK404 : Aside0 (w30.heap[gb404]? = some (.cells #[.string ((rd_T68 l0_3 x4_1).f0), .bool ((rd_T68 l0_3 x4_1).f1), .slice Ao28 t405.length co28] 68 (0, 0))) := ⟨(by rw [hw]; exact (bp_ BK404))⟩; replace HB : Aside0 (Below w.heap.size w w30) := ⟨(by rw [hw]; exact (bw_ HB.out))⟩; clear hw; have hnb31 := NB399_398.out; have hnc31 := NB398_399.out; obtain ⟨hcz32_0, hcz32_1, hcz32_2, hcz32_3, hfz32_0, hfz32_1, hfz32_2, hfz32_3⟩ := zf4_ BK399; obtain ⟨hcz33_0, hcz33_1, hcz33_2, hfz33_0, hfz33_1, hfz33_2⟩ := zf3_ BK404) | ((with_reducible refine gate_builtin (b := .append) (xs := #[.tmp 34, .tmp 36]) rfl ?_); at_builtin; refine Kd.S_append k68 (w0 := w) w.heap.size rfl (.tmp 34) (.tmp 36) 24 68 (.agg #[(.string ⟨#[]⟩), (.bool false), (.slice none 0 0)]) 48 rfl Tryz.underlying24 info68 rfl (by decide) (by omega) u400003 x400003_1 (⟨(rd_T68 l0_3 x4_1).f0, (rd_T68 l0_3 x4_1).f1, t405⟩ : S68) [.string ((rd_T68 l0_3 x4_1).f0), .bool ((rd_T68 l0_3 x4_1).f1), .slice Ao28 t405.length co28] (fun k_ => k_ ≠ gb404) (fun k_ => some k_ = (.slice Ao28 t405.length co28 : Value).ownBlock) rfl rfl ?aP (fun k_ hk_ => ((Kd.R_mono (ok' := fun k_ => ((fun k_ => k_ ≠ gb404)) k_ ∧ some k_ ≠ (u400003 : Value).ownBlock) (Kd.R_types (Kd.R_apart' (HO407.out) (Kd.S_typed HO_400003.out) (by decide)) BK404.out (by decide)) (fun k_ hk => ⟨hk.2, hk.1.2⟩))).1 k_ hk_.symm) (fun k_ hk => Kd.freshB (g := gb404) (o := .cells #[.string ((rd_T68 l0_3 x4_1).f0), .bool ((rd_T68 l0_3 x4_1).f1), .slice Ao28 t405.length co28] 68 (0, 0)) (bl_ BK404.out) k_ hk) ?aO (bw_ HB.out) (qbz (bw_ HB.out)) (by have := LMc18.out; omega) ?_; (case aP => exact k68_mkM _ _ _ (⟨(rd_T68 l0_3 x4_1).f0, (rd_T68 l0_3 x4_1).f1, t405⟩ : S68) (Kd.R_mono (Kd.R_tight rfl (Kd.R_mono (ok' := fun k_ => ((fun k_ => k_ ≠ gb404)) k_ ∧ some k_ ≠ (u400003 : Value).ownBlock) (Kd.R_types (Kd.R_apart' (HO407.out) (Kd.S_typed HO_400003.out) (by decide)) BK404.out (by decide)) (fun k_ hk => ⟨hk.2, hk.1.2⟩))) (fun _ h_ => h_))); (case aO => exact (by (with_reducible repeat (first | apply Kd.S_alloc | apply Kd.S_drewN | apply Kd.S_drew)); exact Kd.S_mono HO_400003.out (fun k_ hk => ⟨hk.2, fun e_ => hk.1 e_⟩))); intro v409 w34 ho hb hg hat; rw [← Ny408.out] at ho; replace HO_400002 := Aside0.mk (Kd.R_over' (kR_ HO_400002.out) (Kd.S_typed (by (with_reducible repeat (first | apply Kd.S_alloc | apply Kd.S_drewN | apply Kd.S_drew)); exact HO_400003.out)) (by decide) hg); replace BK397 := gR_ BK397 hg (Kd.S_ne HO_400003.out BK397.out (by decide)); replace BK398 := gR_ BK398 hg (Kd.S_ne HO_400003.out BK398.out (by decide)); replace BK399 := gR_ BK399 hg (Kd.S_ne HO_400003.out BK399.out (by decide)); replace BK404 := gR_ BK404 hg (Kd.S_away HO_400003.out (fun _ hk => hk.2)); replace HB := Aside0.mk (hb); have HO410 := Aside0.mk (ho); clear HO_400003 HO407 ho hb hg hat; obtain ⟨Ao35, co35, eo35⟩ := Kd.S_slice HO410.out; subst eo35; obtain ⟨hcz36_0, hcz36_1, hcz36_2, hcz36_3, hfz36_0, hfz36_1, hfz36_2, hfz36_3⟩ := zf4_ BK399))
    go_roundg k1
    case measure => have := HK1.out; omega
    case rel => exact ⟨(wrap64 (x4_1 + 1)), (y408), (.slice Ao35 y408.length co35), fe_, H', ⟨by have := HK1.out; omega⟩, ⟨by (with_reducible repeat (first | apply Kd.R_alloc | apply Kd.R_drewN | apply Kd.R_drew)); exact Kd.R_mono (Kd.R_far (p := ⟨gb399, 3, none⟩) (Kd.R_types HO_400002.out BK399.out (by decide)) (fun _ hk => hk.2) (.slice Ao35 y408.length co35)) (fun _ hk => trivial)⟩, ⟨by (with_reducible repeat (first | apply Kd.S_alloc | apply Kd.S_drewN | apply Kd.S_drew)); exact Kd.S_mono (Kd.S_far (p := ⟨gb399, 3, none⟩) (Kd.S_types HO410.out BK399.out (by decide)) (fun _ hk => hk.2) (.slice Ao35 y408.length co35)) (fun _ hk => trivial)⟩, ⟨bp_ BK397⟩, ⟨bp_ BK398⟩, ⟨bp_ BK399⟩, ⟨bw_ HB.out⟩⟩
   rw [if_neg c15] at H
   have c15b0 := dcF c15
   clear c15
   obtain ⟨rfl, rfl, rfl, rfl⟩ := so4 H
   have hnb37 := NB397_398.out
   have hnc37 := NB398_397.out
   have hnb38 := NB397_399.out
   have hnc38 := NB399_397.out
   obtain ⟨hcz39_0, hcz39_1, hcz39_2, hcz39_3, hfz39_0, hfz39_1, hfz39_2, hfz39_3⟩ := zf4_ BK397
   have hnb40 := NB399_398.out
   have hnc40 := NB398_399.out
   obtain ⟨hcz41_0, hcz41_1, hcz41_2, hcz41_3, hfz41_0, hfz41_1, hfz41_2, hfz41_3⟩ := zf4_ BK399
   obtain ⟨hcz42_0, hcz42_1, hcz42_2, hcz42_3, hfz42_0, hfz42_1, hfz42_2, hfz42_3⟩ := zf4_ BK398
   obtain ⟨Ao43, co43, eo43⟩ := Kd.S_slice HO_400003.out
   subst eo43
   go_wp2
   refine bodyPost_ret (results_cell_row rfl _ _ gb398 35 #[.int .i64 a0_0, .int .i64 a0_1, .slice Ao13 y400.length co13, .slice Ao43 x400003_1.length co43] (0, 0) _ rfl (bp_ BK398) Tryz.underlying35 rfl (by kernel_rfl)) rfl ?_
   exact ⟨_, _, by first | rfl | (simp [errW_none, errW_some] <;> rfl) | (simp [*, errW_none, errW_some] <;> rfl), by (with_reducible repeat (first | apply Kd.R_alloc | apply Kd.R_drewN | apply Kd.R_drew)); exact Kd.R_mono (Kd.R_far (p := ⟨gb398, 3, none⟩) (Kd.R_far (p := ⟨gb398, 2, none⟩) (Kd.R_far (p := ⟨gb398, 1, none⟩) (Kd.R_far (p := ⟨gb398, 0, none⟩) (Kd.R_types HO_400002.out BK398.out (by decide)) (fun _ hk => hk.2) (.int .i64 a0_0)) (fun _ hk => hk.2) (.int .i64 a0_1)) (fun _ hk => hk.2) (.slice Ao13 y400.length co13)) (fun _ hk => hk.2) (.slice Ao43 x400003_1.length co43)) (fun _ hk => trivial), by (with_reducible repeat (first | apply Kd.S_alloc | apply Kd.S_drewN | apply Kd.S_drew)); exact Kd.S_mono (Kd.S_far (p := ⟨gb398, 3, none⟩) (Kd.S_far (p := ⟨gb398, 2, none⟩) (Kd.S_far (p := ⟨gb398, 1, none⟩) (Kd.S_far (p := ⟨gb398, 0, none⟩) (Kd.S_types HO_400003.out BK398.out (by decide)) (fun _ hk => hk.2) (.int .i64 a0_0)) (fun _ hk => hk.2) (.int .i64 a0_1)) (fun _ hk => hk.2) (.slice Ao13 y400.length co13)) (fun _ hk => hk.2) (.slice Ao43 x400003_1.length co43)) (fun _ hk => trivial), bw_ HB.out⟩

/-! ### pack_Int: function 96 -/
def pack_Int.f (k : Nat) (l0 : List Int) : Option (Int × Int × Option Int) := (pack_Uint.f k l0).bind fun bt421 => (some (Go.bits .xor .i64 (wrap64 (bt421.1 / 2)) (wrap64 (-(wrap64 (Go.bits .and .u64 bt421.1 1)))), bt421.2.1, bt421.2.2))
set_option maxHeartbeats 8000000 in
set_option maxRecDepth 100000 in
theorem pack_Int.calls (k : Nat) (A0 : Option Addr) (c0 : Nat) (l0 : List Int) (r1 : Int) (r2 : Int) (r3 : Option Int) (w : World) (hr0 : Kd.C (Kd.int .u8) w A0 l0.length l0) (hc0 : l0.length ≤ c0) (h : pack_Int.f k l0 = some (r1, r2, r3)) :
  Calls Tryz.prog 96 #[.slice A0 l0.length c0] w fun e w' => e = .returned (.tuple #[.int .i64 r1, .int .i64 r2, errW r3]) ∧ Drawn0 w w' := by
 have HR0 := Aside0.mk hr0
 have HC0 := Aside0.mk hc0
 clear hr0 hc0
 have H : ((pack_Uint.f k l0).bind fun bt421 => (some (Go.bits .xor .i64 (wrap64 (bt421.1 / 2)) (wrap64 (-(wrap64 (Go.bits .and .u64 bt421.1 1)))), bt421.2.1, bt421.2.2))) = some (r1, r2, r3) := h
 clear h
 obtain ⟨⟨t421, t422, t423⟩, A2, H⟩ := bn_ H; (try dsimp only at H)
 obtain ⟨rfl, rfl, rfl⟩ := so3 H
 go_enter Tryz.func96, Tryz.ntmps96
 go_wp2_with (first | ((with_reducible refine qgc (f := 55) rfl ?_); refine gL_ (some 10) Tryz.func55 #[.slice A0 l0.length c0] ?_; (with_reducible refine (pack_Uint.calls k _ _ l0 t421 t422 t423 _ ?side1 ?side2 A2.out).mono ?_); (case side1 => exact kC_ HR0.out); (case side2 => exact HC0.out); rintro e w' ⟨rfl, ⟨nd, rfl⟩⟩; refine ⟨_, rfl, ?_⟩; (try simp only [errW_none, errW_some])))
 go_ret3
 exact ⟨by first | rfl | (simp; done) | (simp [*]; done) | (simp [bne]; done), by repeat (first | exact Drawn0.refl _ | apply Drawn0.step)⟩

/-! ### row_one: function 91 -/
def row_one.j0 : Nat → List Int → Bool → Option (Int × Int × ByteArray × Bool × Int × Option Int)
 | 0, _, _ => none
 | k + 1, x1, x46 => if x46 = true then ((value_Null.f).bind fun bt440 => (some (bt440.1, bt440.2.1, bt440.2.2.1, bt440.2.2.2, 0, some 3))) else (if 0 < (x1.length : Int) then ((value_Bool.f ((rd x1 0) == 1)).bind fun bt445 => (some (bt445.1, bt445.2.1, bt445.2.2.1, bt445.2.2.2, 1, none))) else (none))
def row_one.f (k : Nat) (a0 : Int) (l1 : List Int) : Option (Int × Int × ByteArray × Bool × Int × Option Int) := if a0 = 1 then ((pack_Int.f k l1).bind fun bt425 => ((value_Int.f bt425.1).bind fun bt428 => (some (bt428.1, bt428.2.1, bt428.2.2.1, bt428.2.2.2, bt425.2.1, bt425.2.2)))) else (if a0 = 2 then ((pack_Text.f k l1 4096).bind fun bt432 => ((value_Text.f bt432.1).bind fun bt435 => (some (bt435.1, bt435.2.1, bt435.2.2.1, bt435.2.2.2, bt432.2.1, bt432.2.2)))) else (if (l1.length : Int) = 0 then (row_one.j0 k l1 true) else (if 0 < (l1.length : Int) then (row_one.j0 k l1 (decide ((rd l1 0) > 1))) else (none))))
set_option maxHeartbeats 8000000 in
set_option maxRecDepth 100000 in
theorem row_one.calls (k : Nat) (a0 : Int) (A1 : Option Addr) (c1 : Nat) (l1 : List Int) (r1 : Int) (r2 : Int) (r3 : ByteArray) (r4 : Bool) (r5 : Int) (r6 : Option Int) (w : World) (hr1 : Kd.C (Kd.int .u8) w A1 l1.length l1) (hc1 : l1.length ≤ c1) (h : row_one.f k a0 l1 = some (r1, r2, r3, r4, r5, r6)) :
  Calls Tryz.prog 91 #[.int .i64 a0, .slice A1 l1.length c1] w fun e w' => e = .returned (.tuple #[.agg #[.int .i64 r1, .int .i64 r2, .string r3, .bool r4], .int .i64 r5, errW r6]) ∧ Below w.heap.size w w' := by
 have hu63 := Tryz.underlying63
 have hu32 := Tryz.underlying32
 have hu65 := Tryz.underlying65
 have HR1 := Aside0.mk hr1
 have HC1 := Aside0.mk hc1
 clear hr1 hc1
 have HB := Aside0.mk (Below.refl w.heap.size w)
 have H : (if a0 = 1 then ((pack_Int.f k l1).bind fun bt425 => ((value_Int.f bt425.1).bind fun bt428 => (some (bt428.1, bt428.2.1, bt428.2.2.1, bt428.2.2.2, bt425.2.1, bt425.2.2)))) else (if a0 = 2 then ((pack_Text.f k l1 4096).bind fun bt432 => ((value_Text.f bt432.1).bind fun bt435 => (some (bt435.1, bt435.2.1, bt435.2.2.1, bt435.2.2.2, bt432.2.1, bt432.2.2)))) else (if (l1.length : Int) = 0 then (row_one.j0 k l1 true) else (if 0 < (l1.length : Int) then (row_one.j0 k l1 (decide ((rd l1 0) > 1))) else (none))))) = some (r1, r2, r3, r4, r5, r6) := h
 clear h
 by_cases c3 : a0 = 1
 ·rw [if_pos c3] at H
  have ⟨c3b0, c3b1⟩ := eqT c3
  clear c3
  obtain ⟨⟨t425, t426, t427⟩, A4, H⟩ := bn_ H; (try dsimp only at H)
  obtain ⟨⟨t428, t429, t430, t431⟩, A5, H⟩ := bn_ H; (try dsimp only at H)
  obtain ⟨rfl, rfl, rfl, rfl, rfl, rfl⟩ := so6 H
  go_enter Tryz.func91, Tryz.ntmps91
  go_wp2_with (first | ((with_reducible refine qgd (N := 4) rfl ?_); refine qB_ 4 #[.int .i64 0, .int .i64 0, .string (⟨#[]⟩ : ByteArray), .bool false] 63 ?_; intro gb424 hg w6 hbox hb; have BK424 := Aside0.mk (hbox); have GW424 := gE_ hg HB; have GE424 := gE_ hg HB; replace HB := bS_ HB hb; clear hb hbox hg) | ((with_reducible refine qgc (f := 96) rfl ?_); refine gL_ (some 18) Tryz.func96 #[.slice A1 l1.length c1] ?_; (with_reducible refine (pack_Int.calls k _ _ l1 t425 t426 t427 _ ?side1 ?side2 A4.out).mono ?_); (case side1 => exact kC_ (Kd.C_below HR1.out HB.out)); (case side2 => exact HC1.out); rintro e w' ⟨rfl, ⟨nd, rfl⟩⟩; refine ⟨_, rfl, ?_⟩; (try simp only [errW_none, errW_some]); (try (rw [drewN_self w6]; generalize hq_ : World.drewN w6 _ = w6; have n0_ : Aside0 (w6.heap[gb424]? = some (.cells #[.int .i64 0, .int .i64 0, .string (⟨#[]⟩ : ByteArray), .bool false] 63 (0, 0))) := ⟨by rw [← hq_]; exact (bl_ BK424.out)⟩; have n1_ : Aside0 (Below w.heap.size w w6) := ⟨by rw [← hq_]; exact (bw_ HB.out)⟩; clear BK424 HB hq_; have BK424 := n0_; have HB := n1_; clear n0_ n1_))) | ((with_reducible refine qgc (f := 97) rfl ?_); refine gL_ (some 23) Tryz.func97 #[.int .i64 t425] ?_; (with_reducible refine (value_Int.calls t425 t428 t429 t430 t431 _ A5.out).mono ?_); rintro e w7 ⟨rfl, hb⟩; refine ⟨_, rfl, ?_⟩; replace BK424 := kB_ BK424 hb; replace HB := bS_ HB hb; clear hb; obtain ⟨hcz8_0, hcz8_1, hcz8_2, hcz8_3, hfz8_0, hfz8_1, hfz8_2, hfz8_3⟩ := zf4_ BK424))
  refine bodyPost_ret (results_ctt rfl _ _ gb424 63 #[.int .i64 t428, .int .i64 t429, .string t430, .bool t431] (0, 0) _ rfl (bp_ BK424) Tryz.underlying63 rfl (by kernel_rfl)) rfl ?_
  exact ⟨fr_, bw_ HB.out⟩
 rw [if_neg c3] at H
 have ⟨c3b0, c3b1⟩ := eqF c3
 by_cases c9 : a0 = 2
 ·rw [if_pos c9] at H
  have ⟨c9b0, c9b1⟩ := eqT c9
  clear c9
  obtain ⟨⟨t432, t433, t434⟩, A10, H⟩ := bn_ H; (try dsimp only at H)
  obtain ⟨⟨t435, t436, t437, t438⟩, A11, H⟩ := bn_ H; (try dsimp only at H)
  obtain ⟨rfl, rfl, rfl, rfl, rfl, rfl⟩ := so6 H
  go_enter Tryz.func91, Tryz.ntmps91
  go_wp2_with (first | ((with_reducible refine qgd (N := 4) rfl ?_); refine qB_ 4 #[.int .i64 0, .int .i64 0, .string (⟨#[]⟩ : ByteArray), .bool false] 63 ?_; intro gb424 hg w12 hbox hb; have BK424 := Aside0.mk (hbox); have GW424 := gE_ hg HB; have GE424 := gE_ hg HB; replace HB := bS_ HB hb; clear hb hbox hg) | ((with_reducible refine qgc (f := 82) rfl ?_); refine gL_ (some 30) Tryz.func82 #[.slice A1 l1.length c1, .int .i64 4096] ?_; (with_reducible refine (pack_Text.calls k _ _ l1 4096 t432 t433 t434 _ ?side1 ?side2 A10.out).mono ?_); (case side1 => exact kC_ (Kd.C_below HR1.out HB.out)); (case side2 => exact HC1.out); rintro e w' ⟨rfl, ⟨nd, rfl⟩⟩; refine ⟨_, rfl, ?_⟩; (try simp only [errW_none, errW_some]); (try (rw [drewN_self w12]; generalize hq_ : World.drewN w12 _ = w12; have n0_ : Aside0 (w12.heap[gb424]? = some (.cells #[.int .i64 0, .int .i64 0, .string (⟨#[]⟩ : ByteArray), .bool false] 63 (0, 0))) := ⟨by rw [← hq_]; exact (bl_ BK424.out)⟩; have n1_ : Aside0 (Below w.heap.size w w12) := ⟨by rw [← hq_]; exact (bw_ HB.out)⟩; clear BK424 HB hq_; have BK424 := n0_; have HB := n1_; clear n0_ n1_))) | ((with_reducible refine qgc (f := 98) rfl ?_); refine gL_ (some 35) Tryz.func98 #[.string t432] ?_; (with_reducible refine (value_Text.calls t432 t435 t436 t437 t438 _ A11.out).mono ?_); rintro e w13 ⟨rfl, hb⟩; refine ⟨_, rfl, ?_⟩; replace BK424 := kB_ BK424 hb; replace HB := bS_ HB hb; clear hb; obtain ⟨hcz14_0, hcz14_1, hcz14_2, hcz14_3, hfz14_0, hfz14_1, hfz14_2, hfz14_3⟩ := zf4_ BK424))
  refine bodyPost_ret (results_ctt rfl _ _ gb424 63 #[.int .i64 t435, .int .i64 t436, .string t437, .bool t438] (0, 0) _ rfl (bp_ BK424) Tryz.underlying63 rfl (by kernel_rfl)) rfl ?_
  exact ⟨fr_, bw_ HB.out⟩
 rw [if_neg c9] at H
 have ⟨c9b0, c9b1⟩ := eqF c9
 have HC15 := Aside0.mk H
 clear H
 go_enter Tryz.func91, Tryz.ntmps91
 go_upto_region 8 with (first | ((with_reducible refine qgd (N := 4) rfl ?_); refine qbe ?hg (N := 4) ?hd (cs := #[.int .i64 0, .int .i64 0, .string (⟨#[]⟩ : ByteArray), .bool false]) (t := 63) ?hr ?_; (case hd => rfl); (case hg => rfl); (case hr => first | (go_simp; done) | (go_simp; rfl)); intro gb424 hg w16 hbox hb; have n0_ := Aside0.mk (below_step (bw_ HB.out) hb); have n1_ := Aside0.mk (hbox); have n2_ := Aside0.mk ((by rw [hg]; exact (qbz (bw_ HB.out)) : w.heap.size ≤ gb424)); have n3_ := Aside0.mk ((by rw [hg]; exact (qbz (bw_ HB.out)) : w.heap.size ≤ gb424)); clear HB; have HB := n0_; have BK424 := n1_; have GW424 := n2_; have GE424 := n3_; clear n0_ n1_ n2_ n3_; clear hb hbox hg))
 (try simp only [Act.put, List.setIfInBounds_toArray, List.set_cons_zero, List.set_cons_succ])
 go_cut [46] (fun v46 wc => ∃ (kq : Nat) (x46_14 : Bool), v46 = .bool x46_14 ∧ Aside0 (row_one.j0 kq l1 x46_14 = some (r1, r2, r3, r4, r5, r6)) ∧ Aside0 (kq ≤ k) ∧ Aside0 (wc.heap[gb424]? = some (.cells #[.int .i64 0, .int .i64 0, .string (⟨#[]⟩ : ByteArray), .bool false] 63 (0, 0))) ∧ Aside0 (Below w.heap.size w wc))
 case first =>
  have H := HC15.out
  clear HC15
  by_cases c17 : (l1.length : Int) = 0
  ·rw [if_pos c17] at H
   have ⟨c17b0, c17b1⟩ := eqT c17
   clear c17
   (first | rw [c17b0] | (simp only [i64_w, i32_w]; rw [c17b0]) | skip)
   have H' := Aside0.mk H
   clear H
   go_wp2
   refine Met.intro ?_
   go_step
   (repeat apply Exists.intro)
   refine ⟨?rel, ?frm⟩
   case frm => first | rfl | (simp only [c3b0, c3b1, c9b0, c9b1, c17b0, c17b1]; first | done | rfl)
   case rel => exact ⟨_, (true), fe_, H', ⟨by first | omega | exact Nat.le_refl _⟩, ⟨bp_ BK424⟩, ⟨bw_ HB.out⟩⟩
  rw [if_neg c17] at H
  have ⟨c17b0, c17b1⟩ := eqF c17
  have c17b2 : ¬ (l1 = []) := fun h_ => c17 (by rw [h_]; rfl)
  (first | rw [c17b0] | (simp only [i64_w, i32_w]; rw [c17b0]) | skip)
  have c18 : 0 < (l1.length : Int) := Classical.byContradiction fun c18 => by rw [if_neg c18] at H; exact absurd H (by simp)
  rw [if_pos c18] at H
  have c18b0 := dcT c18
  have c18b1 : decide (0 < l1.length) = true := decide_eq_true (by omega)
  clear c18
  have H' := Aside0.mk H
  clear H
  have p439 : 0 ≤ (0 : Int) := (by omega)
  have q439 : 0 < (l1.length : Int) := ode_
  obtain ⟨ad439, e439, hx439_0⟩ := Kd.at_int HR1.out 0 p439 q439
  cases e439
  have qi439 : (0 < l1.length) = True := eq_true (by omega)
  (try rw [show ((0 : Int)).toNat = 0 from rfl] at hx439_0)
  (try rw [Addr.add_zero'] at hx439_0)
  replace hx439_0 := hc_ HB hx439_0
  replace p439 := eq_true p439
  replace q439 := eq_true q439
  go_wp2
  refine Met.intro ?_
  go_step
  (repeat apply Exists.intro)
  refine ⟨?rel, ?frm⟩
  case frm => first | rfl | (simp only [c3b0, c3b1, c9b0, c9b1, c17b0, c17b1, c18b0, c18b1]; first | done | rfl)
  case rel => exact ⟨_, (decide ((rd l1 0) > 1)), fe_, H', ⟨by first | omega | exact Nat.le_refl _⟩, ⟨bp_ BK424⟩, ⟨bw_ HB.out⟩⟩
 clear HC15
 (try clear c1); (try clear c3); (try clear c3b0); (try clear c3b1); (try clear c9); (try clear c9b0)
 (try clear c9b1); (try clear c17); (try clear c17b0); (try clear c17b1); (try clear c17b2); (try clear c18); (try clear c18b0); (try clear c18b1); (try clear hcz14_0); (try clear hcz14_1); (try clear hcz14_2); (try clear hcz14_3)
 (try clear hcz8_0); (try clear hcz8_1); (try clear hcz8_2); (try clear hcz8_3); (try clear hfz14_0); (try clear hfz14_1); (try clear hfz14_2); (try clear hfz14_3); (try clear hfz8_0); (try clear hfz8_1); (try clear hfz8_2); (try clear hfz8_3)
 (try clear hx439_0); (try clear p439); (try clear q439)
 obtain ⟨kq, x46_14, rfl, HA, HJ14, BK424, HB⟩ := hcut
 cases kq with
 | zero => exact absurd HA.out (by simp [row_one.j0])
 | succ kj14 =>
  have H := HA.out
  clear HA
  simp only [row_one.j0] at H
  by_cases c19 : x46_14 = true
  ·subst c19
   rw [if_pos rfl] at H
   obtain ⟨⟨t440, t441, t442, t443⟩, A20, H⟩ := bn_ H; (try dsimp only at H)
   obtain ⟨rfl, rfl, rfl, rfl, rfl, rfl⟩ := so6 H
   go_wp2_with (first | ((with_reducible refine qgc (f := 90) rfl ?_); refine gL_ (some 47) Tryz.func90 #[] ?_; (with_reducible refine (value_Null.calls  t440 t441 t442 t443 _ A20.out).mono ?_); rintro e w21 ⟨rfl, hb⟩; refine ⟨_, rfl, ?_⟩; replace BK424 := kB_ BK424 hb; replace HB := bS_ HB hb; clear hb; obtain ⟨hcz22_0, hcz22_1, hcz22_2, hcz22_3, hfz22_0, hfz22_1, hfz22_2, hfz22_3⟩ := zf4_ BK424))
   refine bodyPost_ret (results_ctt rfl _ _ gb424 63 #[.int .i64 t440, .int .i64 t441, .string t442, .bool t443] (0, 0) _ rfl (bp_ BK424) Tryz.underlying63 rfl (by kernel_rfl)) rfl ?_
   exact ⟨fr_, bw_ HB.out⟩
  replace c19 := Bool.eq_false_iff.mpr c19
  subst c19
  rw [if_neg (show ¬ (false = true) by decide)] at H
  have c23 : 0 < (l1.length : Int) := Classical.byContradiction fun c23 => by rw [if_neg c23] at H; exact absurd H (by simp)
  rw [if_pos c23] at H
  have c23b0 := dcT c23
  have c23b1 : decide (0 < l1.length) = true := decide_eq_true (by omega)
  clear c23
  obtain ⟨⟨t445, t446, t447, t448⟩, A24, H⟩ := bn_ H; (try dsimp only at H)
  obtain ⟨rfl, rfl, rfl, rfl, rfl, rfl⟩ := so6 H
  have p444 : 0 ≤ (0 : Int) := (by omega)
  have q444 : 0 < (l1.length : Int) := ode_
  obtain ⟨ad444, e444, hx444_0⟩ := Kd.at_int HR1.out 0 p444 q444
  cases e444
  have qi444 : (0 < l1.length) = True := eq_true (by omega)
  (try rw [show ((0 : Int)).toNat = 0 from rfl] at hx444_0)
  (try rw [Addr.add_zero'] at hx444_0)
  replace hx444_0 := hc_ HB hx444_0
  replace p444 := eq_true p444
  replace q444 := eq_true q444
  go_wp2_with (first | ((with_reducible refine qgc (f := 99) rfl ?_); refine gL_ (some 53) Tryz.func99 #[.bool ((rd l1 0) == 1)] ?_; (with_reducible refine (value_Bool.calls ((rd l1 0) == 1) t445 t446 t447 t448 _ A24.out).mono ?_); rintro e w25 ⟨rfl, hb⟩; refine ⟨_, rfl, ?_⟩; replace BK424 := kB_ BK424 hb; replace HB := bS_ HB hb; clear hb; obtain ⟨hcz26_0, hcz26_1, hcz26_2, hcz26_3, hfz26_0, hfz26_1, hfz26_2, hfz26_3⟩ := zf4_ BK424))
  refine bodyPost_ret (results_ctt rfl _ _ gb424 63 #[.int .i64 t445, .int .i64 t446, .string t447, .bool t448] (0, 0) _ rfl (bp_ BK424) Tryz.underlying63 rfl (by kernel_rfl)) rfl ?_
  exact ⟨fr_, bw_ HB.out⟩

end Go.Proofs.YtddkbhglbkfelaaGreatDoor.T
