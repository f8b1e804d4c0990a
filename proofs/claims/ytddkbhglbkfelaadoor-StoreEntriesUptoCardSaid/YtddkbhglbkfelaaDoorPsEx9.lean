import Derived.Test.YtddkbhglbkfelaaDoorPsEx0
import Derived.Test.YtddkbhglbkfelaaDoorPsEx8
namespace Go.Proofs.YtddkbhglbkfelaaDoor.E
open Go.RowKit Go.Proofs.YtddkbhglbkfelaaDoorW.PrintWords Go.Proofs.YtddkbhglbkfelaaDoorW.PrintLast Go.Proofs.YtddkbhglbkfelaaDoorW.PrintMore Go.Proofs.YtddkbhglbkfelaaDoorX
attribute [local go_sem] max2_int min2_int max_two min_two max_three min_three max_four min_four
set_option linter.unusedVariables false
set_option linter.unusedSimpArgs false

/-! ### barbicanref06_Encode: function 20 -/
mutual
def barbicanref06_Encode.l0 : Nat → List (S72) → Int → Option (ByteArray × Int)
 | 0, _, _ => none
 | k + 1, x0, x4 => if x4 < (x0.length : Int) then (if 0 ≤ x4 then ((barbicanref05_Valid.f k ((rd_T72 x0 x4).f0) ((rd_T72 x0 x4).f1) ((rd_T72 x0 x4).f2) ((rd_T72 x0 x4).f3)).bind fun t226 => (if t226 = 0 then (barbicanref06_Encode.l0 k x0 (wrap64 (x4 + 1))) else (some ((⟨#[]⟩ : ByteArray), t226)))) else (none)) else (if (x0.length : Int) > 16 then (some ((⟨#[]⟩ : ByteArray), 2)) else (barbicanref06_Encode.l1 k x0 ([] : List Int) 0))
def barbicanref06_Encode.l1 : Nat → List (S72) → List Int → Int → Option (ByteArray × Int)
 | 0, _, _, _ => none
 | k + 1, x0, x6, x7 => if x7 < (x0.length : Int) then (if 0 ≤ x7 then (if x6.length < 140737488355328 then ((some (x6 ++ [(wrap64 (((rd_T72 x0 x7).f0) + 1)) % 256] : List Int)).bind fun y229 => (if ((rd_T72 x0 x7).f0) = 1 then (barbicanref06_Encode.l2 k x0 y229 x7 7 ((rd_T72 x0 x7).f0) ((rd_T72 x0 x7).f1) ((rd_T72 x0 x7).f2) ((rd_T72 x0 x7).f3)) else (if ((rd_T72 x0 x7).f0) = 2 then (if y229.length + ((rd_T72 x0 x7).f2).size < 140737488355328 then ((some (y229 ++ bytesOf ((rd_T72 x0 x7).f2) : List Int)).bind fun y238 => (if y238.length < 140737488355328 then (barbicanref06_Encode.l1 k x0 (y238 ++ [0]) (wrap64 (x7 + 1))) else (none))) else (none)) else (if ((rd_T72 x0 x7).f0) = 3 then (if (rd_T72 x0 x7).f3 = true then (if y229.length < 140737488355328 then (barbicanref06_Encode.l1 k x0 (y229 ++ [1]) (wrap64 (x7 + 1))) else (none)) else (if y229.length < 140737488355328 then (barbicanref06_Encode.l1 k x0 (y229 ++ [0]) (wrap64 (x7 + 1))) else (none))) else (barbicanref06_Encode.l1 k x0 y229 (wrap64 (x7 + 1))))))) else (none)) else (none)) else (some (strOfNums x6, 0))
def barbicanref06_Encode.l2 : Nat → List (S72) → List Int → Int → Int → Int → Int → ByteArray → Bool → Option (ByteArray × Int)
 | 0, _, _, _, _, _, _, _, _ => none
 | k + 1, x0, x6, x7, x9, x229000, x229001, x229002, x229003 => if x9 ≥ 0 then (if 0 ≤ (IntKind.u64.wrap (wrap64 (8 * x9))) then (if x9 = 7 then (if x6.length < 140737488355328 then (barbicanref06_Encode.l2 k x0 (x6 ++ [Go.bits .xor .u8 ((shr .u64 (IntKind.u64.wrap (x229001)) (IntKind.u64.wrap (wrap64 (8 * x9)))) % 256) 128]) x7 (wrap64 (x9 - 1)) x229000 x229001 x229002 x229003) else (none)) else (if x6.length < 140737488355328 then (barbicanref06_Encode.l2 k x0 (x6 ++ [(shr .u64 (IntKind.u64.wrap (x229001)) (IntKind.u64.wrap (wrap64 (8 * x9)))) % 256]) x7 (wrap64 (x9 - 1)) x229000 x229001 x229002 x229003) else (none))) else (none)) else (barbicanref06_Encode.l1 k x0 x6 (wrap64 (x7 + 1)))
end
def barbicanref06_Encode.f (k : Nat) (l0 : List (S72)) : Option (ByteArray × Int) := barbicanref06_Encode.l0 k l0 0
set_option maxHeartbeats 8000000 in
set_option maxRecDepth 100000 in
theorem barbicanref06_Encode.calls (k : Nat) (A0 : Option Addr) (c0 : Nat) (l0 : List (S72)) (r1 : ByteArray) (r2 : Int) (w : World) (hr0 : Kd.C k72 w A0 l0.length l0) (hc0 : l0.length ≤ c0) (h : barbicanref06_Encode.f k l0 = some (r1, r2)) :
  Calls Tryd.prog 20 #[.slice A0 l0.length c0] w fun e w' => e = .returned (.tuple #[.string r1, .int .i64 r2]) ∧ Below w.heap.size w w' := by
 have hu72 := Tryd.underlying72
 have HR0 := Aside0.mk hr0
 have HC0 := Aside0.mk hc0
 clear hr0 hc0
 have HB := Aside0.mk (Below.refl w.heap.size w)
 have H : (barbicanref06_Encode.l0 k l0 0) = some (r1, r2) := h
 clear h
 have H' := Aside0.mk H
 clear H
 go_enter Tryd.func20, Tryd.ntmps20
 go_wp2
 go_loopg [4] k (fun kq v4 w' => ∃ (x4_1 : Int), v4 = .int .i64 x4_1 ∧ Aside0 (barbicanref06_Encode.l0 kq l0 x4_1 = some (r1, r2)) ∧ Aside0 (kq ≤ k) ∧ Aside0 (Below w.heap.size w w'))
 case atStart => exact ⟨(0), (by first | rfl | (simp; done) | (simp [*]; done) | (simp [bne]; done)), H', ⟨Nat.le_refl _⟩, ⟨bw_ HB.out⟩⟩
 case round =>
  clear H'
  obtain ⟨x4_1, rfl, HA, HK1, HB⟩ := hrel
  cases gk with
  | zero => exact absurd HA.out (by simp [barbicanref06_Encode.l0])
  | succ k1 =>
   have H := HA.out
   clear HA
   simp only [barbicanref06_Encode.l0] at H
   by_cases c2 : x4_1 < (l0.length : Int)
   ·rw [if_pos c2] at H
    have c2b0 : decide (x4_1 < (l0.length : Int)) = true := decide_eq_true c2
    clear c2
    have c3 : 0 ≤ x4_1 := Classical.byContradiction fun c3 => by rw [if_neg c3] at H; exact absurd H (by simp)
    rw [if_pos c3] at H
    have c3b0 : decide (0 ≤ x4_1) = true := decide_eq_true c3
    clear c3
    replace H := Option.bind_eq_some_iff.mp H
    obtain ⟨t226, A40, H⟩ := H
    (try dsimp only at H)
    have A4 := Aside0.mk A40
    clear A40
    by_cases c5 : t226 = 0
    ·rw [if_pos c5] at H
     have c5b0 : (t226 == 0) = true := beq_iff_eq.mpr c5
     have c5b1 : (t226 != 0) = false := bne_eq_false_iff_eq.mpr c5
     clear c5
     have H' := Aside0.mk H
     clear H
     have p225 : 0 ≤ (x4_1 : Int) := ode_
     have q225 : x4_1 < (l0.length : Int) := ode_
     obtain ⟨ad225, e225, hx225_0, hx225_1, hx225_2, hx225_3⟩ := at_T72 HR0.out x4_1 p225 q225
     cases e225
     replace hx225_0 := (HB.out.cell (World.block_lt_of_cell? w _ hx225_0)).trans hx225_0
     replace hx225_1 := (HB.out.cell (World.block_lt_of_cell? w _ hx225_1)).trans hx225_1
     replace hx225_2 := (HB.out.cell (World.block_lt_of_cell? w _ hx225_2)).trans hx225_2
     replace hx225_3 := (HB.out.cell (World.block_lt_of_cell? w _ hx225_3)).trans hx225_3
     replace p225 := eq_true p225
     replace q225 := eq_true q225
     go_wp2_with (first | ((with_reducible refine qgc (f := 34) rfl ?_); refine goesL_ (some 21) rfl rfl Tryd.func34 (by kernel_rfl) rfl #[.agg #[.int .i64 ((rd_T72 l0 x4_1).f0), .int .i64 ((rd_T72 l0 x4_1).f1), .string ((rd_T72 l0 x4_1).f2), .bool ((rd_T72 l0 x4_1).f3)]] rfl (by (try simp only [List.map_toArray, List.map_cons, List.map_nil]); first | done | rfl | (simp only [List.length_drop, List.length_take]; rfl)) ?_; (with_reducible refine (barbicanref05_Valid.calls k1 ((rd_T72 l0 x4_1).f0) ((rd_T72 l0 x4_1).f1) ((rd_T72 l0 x4_1).f2) ((rd_T72 l0 x4_1).f3) t226 _ A4.out).mono ?_); rintro e w6 ⟨rfl, hb⟩; refine ⟨_, rfl, ?_⟩; have n0_ := Aside0.mk (below_step (bw_ HB.out) hb); clear HB; have HB := n0_; clear n0_; (try clear hb); (try clear hb2); (try clear hk); (try clear hi)))
     go_roundg k1
     case measure => have := HK1.out; omega
     case rel => exact ⟨(wrap64 (x4_1 + 1)), (by first | rfl | (simp; done) | (simp [*]; done) | (simp [bne]; done)), H', ⟨by have := HK1.out; omega⟩, ⟨bw_ HB.out⟩⟩
    rw [if_neg c5] at H
    have c5b0 : (t226 == 0) = false := beq_eq_false_iff_ne.mpr c5
    have c5b1 : (t226 != 0) = true := bne_iff_ne.mpr c5
    simp only [Option.some.injEq, Prod.mk.injEq] at H
    obtain ⟨rfl, rfl⟩ := H
    have p225 : 0 ≤ (x4_1 : Int) := ode_
    have q225 : x4_1 < (l0.length : Int) := ode_
    obtain ⟨ad225, e225, hx225_0, hx225_1, hx225_2, hx225_3⟩ := at_T72 HR0.out x4_1 p225 q225
    cases e225
    replace hx225_0 := (HB.out.cell (World.block_lt_of_cell? w _ hx225_0)).trans hx225_0
    replace hx225_1 := (HB.out.cell (World.block_lt_of_cell? w _ hx225_1)).trans hx225_1
    replace hx225_2 := (HB.out.cell (World.block_lt_of_cell? w _ hx225_2)).trans hx225_2
    replace hx225_3 := (HB.out.cell (World.block_lt_of_cell? w _ hx225_3)).trans hx225_3
    replace p225 := eq_true p225
    replace q225 := eq_true q225
    go_wp2_with (first | ((with_reducible refine qgc (f := 34) rfl ?_); refine goesL_ (some 21) rfl rfl Tryd.func34 (by kernel_rfl) rfl #[.agg #[.int .i64 ((rd_T72 l0 x4_1).f0), .int .i64 ((rd_T72 l0 x4_1).f1), .string ((rd_T72 l0 x4_1).f2), .bool ((rd_T72 l0 x4_1).f3)]] rfl (by (try simp only [List.map_toArray, List.map_cons, List.map_nil]); first | done | rfl | (simp only [List.length_drop, List.length_take]; rfl)) ?_; (with_reducible refine (barbicanref05_Valid.calls k1 ((rd_T72 l0 x4_1).f0) ((rd_T72 l0 x4_1).f1) ((rd_T72 l0 x4_1).f2) ((rd_T72 l0 x4_1).f3) t226 _ A4.out).mono ?_); rintro e w7 ⟨rfl, hb⟩; refine ⟨_, rfl, ?_⟩; have n0_ := Aside0.mk (below_step (bw_ HB.out) hb); clear HB; have HB := n0_; clear n0_; (try clear hb); (try clear hb2); (try clear hk); (try clear hi)))
    go_ret2
    exact ⟨by first | rfl | (simp [errW_none, errW_some] <;> rfl) | (simp [*, errW_none, errW_some] <;> rfl), bw_ HB.out⟩
   rw [if_neg c2] at H
   have c2b0 : decide (x4_1 < (l0.length : Int)) = false := decide_eq_false c2
   clear c2
   by_cases c8 : (l0.length : Int) > 16
   ·rw [if_pos c8] at H
    have c8b0 : decide (16 < (l0.length : Int)) = true := decide_eq_true c8
    have c8b1 : decide (16 < l0.length) = true := decide_eq_true (by omega)
    clear c8
    simp only [Option.some.injEq, Prod.mk.injEq] at H
    obtain ⟨rfl, rfl⟩ := H
    go_wp2
    go_ret2
    exact ⟨by first | rfl | (simp [errW_none, errW_some] <;> rfl) | (simp [*, errW_none, errW_some] <;> rfl), bw_ HB.out⟩
   rw [if_neg c8] at H
   have c8b0 : decide (16 < (l0.length : Int)) = false := decide_eq_false c8
   have c8b1 : decide (16 < l0.length) = false := decide_eq_false (by omega)
   clear c8
   have H' := Aside0.mk H
   clear H
   go_wp2
   go_loopg [6, 7] k1 (fun kq v6 v7 w' => ∃ (x6_2 : List Int) (x7_2 : Int), v7 = .int .i64 x7_2 ∧ Aside0 (barbicanref06_Encode.l1 kq l0 x6_2 x7_2 = some (r1, r2)) ∧ Aside0 (kq ≤ k1) ∧ Aside0 (Kd.R (Kd.int .u8) 5 w' w.heap.size (fun _ => True) v6 x6_2) ∧ Aside0 (Below w.heap.size w w'))
   case atStart => exact ⟨(([] : List Int)), (0), (by first | rfl | (simp; done) | (simp [*]; done) | (simp [bne]; done)), H', ⟨Nat.le_refl _⟩, ⟨by first | exact Kd.R_nil _ _ _ _ _ | exact Kd.N_nil _ _ _ _ _ | exact Kd.V_nil _ _ _ _ _ | exact Kd.Q_nil _ _ _ _ _ | exact Kd.S_nil _ _ _ _ _⟩, ⟨bw_ HB.out⟩⟩
   case round =>
    clear H'
    (try clear c2); (try clear c2b0); (try clear p2); (try clear q2); (try clear hx2); (try clear c3); (try clear c3b0); (try clear c5); (try clear c5b0); (try clear c5b1); (try clear p6); (try clear c8)
    (try clear c8b0); (try clear c8b1); (try clear hx225_0); (try clear hx225_1); (try clear hx225_2); (try clear hx225_3); (try clear p225); (try clear q225)
    obtain ⟨x6_2, x7_2, rfl, HA, HK2, HO_6, HB⟩ := hrel
    cases gk with
    | zero => exact absurd HA.out (by simp [barbicanref06_Encode.l1])
    | succ k2 =>
     have H := HA.out
     clear HA
     simp only [barbicanref06_Encode.l1] at H
     by_cases c9 : x7_2 < (l0.length : Int)
     ·rw [if_pos c9] at H
      have c9b0 : decide (x7_2 < (l0.length : Int)) = true := decide_eq_true c9
      clear c9
      have c10 : 0 ≤ x7_2 := Classical.byContradiction fun c10 => by rw [if_neg c10] at H; exact absurd H (by simp)
      rw [if_pos c10] at H
      have c10b0 : decide (0 ≤ x7_2) = true := decide_eq_true c10
      clear c10
      have c11 : x6_2.length < 140737488355328 := Classical.byContradiction fun c11 => by rw [if_neg c11] at H; exact absurd H (by simp)
      rw [if_pos c11] at H
      have LMc11 := Aside0.mk c11
      clear c11
      obtain ⟨y229, hy229⟩ : ∃ y_ : List Int, y_ = (x6_2 ++ [(wrap64 (((rd_T72 l0 x7_2).f0) + 1)) % 256]) := ⟨_, rfl⟩
      replace H : (if ((rd_T72 l0 x7_2).f0) = 1 then (barbicanref06_Encode.l2 k2 l0 y229 x7_2 7 ((rd_T72 l0 x7_2).f0) ((rd_T72 l0 x7_2).f1) ((rd_T72 l0 x7_2).f2) ((rd_T72 l0 x7_2).f3)) else (if ((rd_T72 l0 x7_2).f0) = 2 then (if y229.length + ((rd_T72 l0 x7_2).f2).size < 140737488355328 then ((some (y229 ++ bytesOf ((rd_T72 l0 x7_2).f2) : List Int)).bind fun y238 => (if y238.length < 140737488355328 then (barbicanref06_Encode.l1 k2 l0 (y238 ++ [0]) (wrap64 (x7_2 + 1))) else (none))) else (none)) else (if ((rd_T72 l0 x7_2).f0) = 3 then (if (rd_T72 l0 x7_2).f3 = true then (if y229.length < 140737488355328 then (barbicanref06_Encode.l1 k2 l0 (y229 ++ [1]) (wrap64 (x7_2 + 1))) else (none)) else (if y229.length < 140737488355328 then (barbicanref06_Encode.l1 k2 l0 (y229 ++ [0]) (wrap64 (x7_2 + 1))) else (none))) else (barbicanref06_Encode.l1 k2 l0 y229 (wrap64 (x7_2 + 1)))))) = some (r1, r2) := by first | (rw [hy229]; with_reducible exact H) | (have H2_ := (Option.bind_some _ _).symm.trans H; rw [hy229]; with_reducible exact H2_) | (have H2_ := (Option.bind_some _ _).symm.trans H; with_reducible exact H2_) | with_reducible exact H | (rw [hy229]; exact H) | exact H
      have Ny229 := Aside0.mk hy229
      clear hy229
      by_cases c12 : ((rd_T72 l0 x7_2).f0) = 1
      ·rw [if_pos c12] at H
       have c12b0 : (((rd_T72 l0 x7_2).f0) == 1) = true := beq_iff_eq.mpr c12
       have c12b1 : (((rd_T72 l0 x7_2).f0) != 1) = false := bne_eq_false_iff_eq.mpr c12
       clear c12
       have H' := Aside0.mk H
       clear H
       have p227 : 0 ≤ (x7_2 : Int) := ode_
       have q227 : x7_2 < (l0.length : Int) := ode_
       obtain ⟨ad227, e227, hx227_0, hx227_1, hx227_2, hx227_3⟩ := at_T72 HR0.out x7_2 p227 q227
       cases e227
       replace hx227_0 := (HB.out.cell (World.block_lt_of_cell? w _ hx227_0)).trans hx227_0
       replace hx227_1 := (HB.out.cell (World.block_lt_of_cell? w _ hx227_1)).trans hx227_1
       replace hx227_2 := (HB.out.cell (World.block_lt_of_cell? w _ hx227_2)).trans hx227_2
       replace hx227_3 := (HB.out.cell (World.block_lt_of_cell? w _ hx227_3)).trans hx227_3
       replace p227 := eq_true p227
       replace q227 := eq_true q227
       go_wp2_with (first | ((with_reducible refine qgd (N := 8) rfl ?_); refine qbe ?hg (N := 8) ?hd (cs := #[.int .i64 0, .int .i64 0, .string (⟨#[]⟩ : ByteArray), .bool false]) (t := 72) ?hr ?_; (case hd => rfl); (case hg => rfl); (case hr => first | (go_simp; done) | (go_simp; rfl)); intro gb228 hg w13 hbox hb; have n0_ := Aside0.mk (Kd.R_below (kR_ HO_6.out) hb); have n1_ := Aside0.mk (below_step (bw_ HB.out) hb); have n2_ := Aside0.mk (hbox); have n3_ := Aside0.mk ((by rw [hg]; exact (qbz (bw_ HB.out)) : w.heap.size ≤ gb228)); have n4_ := Aside0.mk ((by rw [hg]; exact (qbz (bw_ HB.out)) : w.heap.size ≤ gb228)); clear HO_6; clear HB; have HO_6 := n0_; have HB := n1_; have BK228 := n2_; have GW228 := n3_; have GE228 := n4_; clear n0_ n1_ n2_ n3_ n4_; clear hb hbox hg; have hcz14_0 : w13.cell? ⟨gb228, 0, none⟩ = some (.int .i64 0) := (qkc BK228.out 0).trans rfl; have hcz14_1 : w13.cell? ⟨gb228, 1, none⟩ = some (.int .i64 0) := (qkc BK228.out 1).trans rfl; have hcz14_2 : w13.cell? ⟨gb228, 2, none⟩ = some (.string (⟨#[]⟩ : ByteArray)) := (qkc BK228.out 2).trans rfl; have hcz14_3 : w13.cell? ⟨gb228, 3, none⟩ = some (.bool false) := (qkc BK228.out 3).trans rfl; have hfz14_0 := qkf BK228.out 0; have hfz14_1 := qkf BK228.out 1; have hfz14_2 := qkf BK228.out 2; have hfz14_3 := qkf BK228.out 3) | ((with_reducible refine gate_builtin (b := .append) (xs := #[.tmp 38, .tmp 43]) rfl ?_); at_builtin; refine Kd.R_append (Kd.int .u8) (w0 := w) w.heap.size rfl (.tmp 38) (.tmp 43) 25 5 (.int .u8 0) 1 rfl Tryd.underlying25 info5 rfl (by decide) (by omega) u6 x6_2 ((wrap64 (((rd_T72 l0 x7_2).f0) + 1)) % 256) [.int .u8 ((wrap64 (((rd_T72 l0 x7_2).f0) + 1)) % 256)] (fun _ => True) (fun _ => False) rfl (by first | (go_simp; done) | (go_simp; rfl)) ?aP (fun _ hk => hk.elim) ?aF ?aO ?aB ?aS ?aL ?_; (case aP => exact rfl); (case aB => exact (bw_ HB.out)); (case aF => exact (fun _ _ => trivial)); (case aO => exact (by (with_reducible repeat (first | apply Kd.R_alloc | apply Kd.R_drewN | apply Kd.R_drew)); exact Kd.R_mono (Kd.R_far (p := ⟨gb228, 3, none⟩) (Kd.R_far (p := ⟨gb228, 2, none⟩) (Kd.R_far (p := ⟨gb228, 1, none⟩) (Kd.R_far (p := ⟨gb228, 0, none⟩) (Kd.R_types HO_6.out BK228.out (by decide)) (fun _ hk => hk.2) (.int .i64 ((rd_T72 l0 x7_2).f0))) (fun _ hk => hk.2) (.int .i64 ((rd_T72 l0 x7_2).f1))) (fun _ hk => hk.2) (.string ((rd_T72 l0 x7_2).f2))) (fun _ hk => hk.2) (.bool ((rd_T72 l0 x7_2).f3))) (fun _ hk => trivial))); (case aS => exact (qbz (bw_ HB.out))); (case aL => have := LMc11.out; omega); intro v230 w15 ho hb hg hat; rw [← Ny229.out] at ho; have n0_ := Aside0.mk (blk_grown (g := gb228) (o := .cells #[.int .i64 ((rd_T72 l0 x7_2).f0), .int .i64 ((rd_T72 l0 x7_2).f1), .string ((rd_T72 l0 x7_2).f2), .bool ((rd_T72 l0 x7_2).f3)] 72 (0, 0)) (by (with_reducible repeat (first | refine qkN ?_ _ | refine qkd ?_ | refine qka ?_ _)); refine qkp (cs := #[.int .i64 ((rd_T72 l0 x7_2).f0), .int .i64 ((rd_T72 l0 x7_2).f1), .string ((rd_T72 l0 x7_2).f2), .bool false]) ?_ 3 _ rfl; (with_reducible repeat (first | refine qkN ?_ _ | refine qkd ?_ | refine qka ?_ _)); refine qkp (cs := #[.int .i64 ((rd_T72 l0 x7_2).f0), .int .i64 ((rd_T72 l0 x7_2).f1), .string (⟨#[]⟩ : ByteArray), .bool false]) ?_ 2 _ rfl; (with_reducible repeat (first | refine qkN ?_ _ | refine qkd ?_ | refine qka ?_ _)); refine qkp (cs := #[.int .i64 ((rd_T72 l0 x7_2).f0), .int .i64 0, .string (⟨#[]⟩ : ByteArray), .bool false]) ?_ 1 _ rfl; (with_reducible repeat (first | refine qkN ?_ _ | refine qkd ?_ | refine qka ?_ _)); refine qkp (cs := #[.int .i64 0, .int .i64 0, .string (⟨#[]⟩ : ByteArray), .bool false]) ?_ 0 _ rfl; (with_reducible repeat (first | refine qkN ?_ _ | refine qkd ?_ | refine qka ?_ _)); exact BK228.out) hg (Kd.R_ne HO_6.out BK228.out (by decide))); have n1_ := Aside0.mk (hb); have n2_ := Aside0.mk (ho); clear BK228; clear HB; clear HO_6; have BK228 := n0_; have HB := n1_; have HO231 := n2_; clear n0_ n1_ n2_; clear ho hb hg hat; have hcz16_0 : w15.cell? ⟨gb228, 0, none⟩ = some (.int .i64 ((rd_T72 l0 x7_2).f0)) := (qkc BK228.out 0).trans rfl; have hcz16_1 : w15.cell? ⟨gb228, 1, none⟩ = some (.int .i64 ((rd_T72 l0 x7_2).f1)) := (qkc BK228.out 1).trans rfl; have hcz16_2 : w15.cell? ⟨gb228, 2, none⟩ = some (.string ((rd_T72 l0 x7_2).f2)) := (qkc BK228.out 2).trans rfl; have hcz16_3 : w15.cell? ⟨gb228, 3, none⟩ = some (.bool ((rd_T72 l0 x7_2).f3)) := (qkc BK228.out 3).trans rfl; have hfz16_0 := qkf BK228.out 0; have hfz16_1 := qkf BK228.out 1; have hfz16_2 := qkf BK228.out 2; have hfz16_3 := qkf BK228.out 3))
       go_loopg [6, 9] k2 (fun kq v6 v9 w' => ∃ (x6_3 : List Int) (x9_3 : Int), v9 = .int .i64 x9_3 ∧ Aside0 (barbicanref06_Encode.l2 kq l0 x6_3 x7_2 x9_3 ((rd_T72 l0 x7_2).f0) ((rd_T72 l0 x7_2).f1) ((rd_T72 l0 x7_2).f2) ((rd_T72 l0 x7_2).f3) = some (r1, r2)) ∧ Aside0 (kq ≤ k2) ∧ Aside0 (Kd.R (Kd.int .u8) 5 w' w.heap.size (fun _ => True) v6 x6_3) ∧ Aside0 (w'.heap[gb228]? = some (.cells #[.int .i64 ((rd_T72 l0 x7_2).f0), .int .i64 ((rd_T72 l0 x7_2).f1), .string ((rd_T72 l0 x7_2).f2), .bool ((rd_T72 l0 x7_2).f3)] 72 (0, 0))) ∧ Aside0 (Below w.heap.size w w'))
       case atStart => exact ⟨(y229), (7), (by first | rfl | (simp; done) | (simp [*]; done) | (simp [bne]; done)), H', ⟨Nat.le_refl _⟩, ⟨by (with_reducible repeat (first | apply Kd.R_alloc | apply Kd.R_drewN | apply Kd.R_drew)); exact HO231.out⟩, ⟨by (with_reducible repeat (first | refine qkN ?_ _ | refine qkd ?_ | refine qka ?_ _)); exact BK228.out⟩, ⟨bw_ HB.out⟩⟩
       case round =>
        clear H'
        (try clear c1); (try clear c2); (try clear c2b0); (try clear p2); (try clear q2); (try clear hx2); (try clear c3); (try clear c3b0); (try clear c5); (try clear c5b0); (try clear c5b1); (try clear p6)
        (try clear c8); (try clear c8b0); (try clear c8b1); (try clear c9); (try clear c9b0); (try clear c10); (try clear c10b0); (try clear c11); (try clear c12); (try clear c12b0); (try clear c12b1); (try clear hcz14_0)
        (try clear hcz14_1); (try clear hcz14_2); (try clear hcz14_3); (try clear hcz16_0); (try clear hcz16_1); (try clear hcz16_2); (try clear hcz16_3); (try clear hfz14_0); (try clear hfz14_1); (try clear hfz14_2); (try clear hfz14_3); (try clear hfz16_0)
        (try clear hfz16_1); (try clear hfz16_2); (try clear hfz16_3); (try clear hx225_0); (try clear hx225_1); (try clear hx225_2); (try clear hx225_3); (try clear hx227_0); (try clear hx227_1); (try clear hx227_2); (try clear hx227_3); (try clear p2)
        (try clear p225); (try clear p227); (try clear p6); (try clear q2); (try clear q225); (try clear q227)
        obtain ⟨x6_3, x9_3, rfl, HA, HK3, HO_6, BK228, HB⟩ := hrel
        cases gk with
        | zero => exact absurd HA.out (by simp [barbicanref06_Encode.l2])
        | succ k3 =>
         have H := HA.out
         clear HA
         simp only [barbicanref06_Encode.l2] at H
         by_cases c17 : x9_3 ≥ 0
         ·rw [if_pos c17] at H
          have c17b0 : decide (0 ≤ x9_3) = true := decide_eq_true c17
          clear c17
          obtain ⟨ji18, hji18⟩ : ∃ j_ : Int, (IntKind.u64.wrap (wrap64 (8 * x9_3))) = j_ := ⟨_, rfl⟩
          replace H : (if 0 ≤ (ji18) then (if x9_3 = 7 then (if x6_3.length < 140737488355328 then (barbicanref06_Encode.l2 k3 l0 (x6_3 ++ [Go.bits .xor .u8 ((shr .u64 (IntKind.u64.wrap (((rd_T72 l0 x7_2).f1))) (ji18)) % 256) 128]) x7_2 (wrap64 (x9_3 - 1)) ((rd_T72 l0 x7_2).f0) ((rd_T72 l0 x7_2).f1) ((rd_T72 l0 x7_2).f2) ((rd_T72 l0 x7_2).f3)) else (none)) else (if x6_3.length < 140737488355328 then (barbicanref06_Encode.l2 k3 l0 (x6_3 ++ [(shr .u64 (IntKind.u64.wrap (((rd_T72 l0 x7_2).f1))) (ji18)) % 256]) x7_2 (wrap64 (x9_3 - 1)) ((rd_T72 l0 x7_2).f0) ((rd_T72 l0 x7_2).f1) ((rd_T72 l0 x7_2).f2) ((rd_T72 l0 x7_2).f3)) else (none))) else (none)) = some (r1, r2) := by first | (rw [hji18] at H; exact H) | (simp only [hji18] at H ⊢; exact H)
          have c19 : 0 ≤ (ji18) := Classical.byContradiction fun c19 => by rw [if_neg c19] at H; exact absurd H (by simp)
          rw [if_pos c19] at H
          have c19b0 := eq_true c19
          have c19b1 : decide (0 ≤ (ji18)) = true := decide_eq_true c19
          clear c19
          obtain ⟨ji20, hji20⟩ : ∃ j_ : Int, (shr .u64 (IntKind.u64.wrap (((rd_T72 l0 x7_2).f1))) (ji18)) = j_ := ⟨_, rfl⟩
          replace H : (if x9_3 = 7 then (if x6_3.length < 140737488355328 then (barbicanref06_Encode.l2 k3 l0 (x6_3 ++ [Go.bits .xor .u8 ((ji20) % 256) 128]) x7_2 (wrap64 (x9_3 - 1)) ((rd_T72 l0 x7_2).f0) ((rd_T72 l0 x7_2).f1) ((rd_T72 l0 x7_2).f2) ((rd_T72 l0 x7_2).f3)) else (none)) else (if x6_3.length < 140737488355328 then (barbicanref06_Encode.l2 k3 l0 (x6_3 ++ [(ji20) % 256]) x7_2 (wrap64 (x9_3 - 1)) ((rd_T72 l0 x7_2).f0) ((rd_T72 l0 x7_2).f1) ((rd_T72 l0 x7_2).f2) ((rd_T72 l0 x7_2).f3)) else (none))) = some (r1, r2) := by first | (rw [hji20] at H; exact H) | (simp only [hji20] at H ⊢; exact H)
          have hji20_ : ((IntKind.u64.wrap (((rd_T72 l0 x7_2).f1))) / 2 ^ min (ji18).toNat 64) = ji20 := hji20
          have hji20z : (ji18) ≤ 64 → ((IntKind.u64.wrap (((rd_T72 l0 x7_2).f1))) / 2 ^ (ji18).toNat) = ji20 := shr_small hji20
          by_cases c21 : x9_3 = 7
          ·rw [if_pos c21] at H
           have c21b0 : (x9_3 == 7) = true := beq_iff_eq.mpr c21
           have c21b1 : (x9_3 != 7) = false := bne_eq_false_iff_eq.mpr c21
           clear c21
           have c22 : x6_3.length < 140737488355328 := Classical.byContradiction fun c22 => by rw [if_neg c22] at H; exact absurd H (by simp)
           rw [if_pos c22] at H
           have LMc22 := Aside0.mk c22
           clear c22
           obtain ⟨y232, hy232⟩ : ∃ y_ : List Int, y_ = (x6_3 ++ [Go.bits .xor .u8 ((ji20) % 256) 128]) := ⟨_, rfl⟩
           replace H : (barbicanref06_Encode.l2 k3 l0 y232 x7_2 (wrap64 (x9_3 - 1)) ((rd_T72 l0 x7_2).f0) ((rd_T72 l0 x7_2).f1) ((rd_T72 l0 x7_2).f2) ((rd_T72 l0 x7_2).f3)) = some (r1, r2) := by first | (rw [hy232]; with_reducible exact H) | (have H2_ := (Option.bind_some _ _).symm.trans H; rw [hy232]; with_reducible exact H2_) | (have H2_ := (Option.bind_some _ _).symm.trans H; with_reducible exact H2_) | with_reducible exact H | (rw [hy232]; exact H) | exact H
           have Ny232 := Aside0.mk hy232
           clear hy232
           have H' := Aside0.mk H
           clear H
           have hcz23_0 : wr.cell? ⟨gb228, 0, none⟩ = some (.int .i64 ((rd_T72 l0 x7_2).f0)) := (qkc BK228.out 0).trans rfl
           have hcz23_1 : wr.cell? ⟨gb228, 1, none⟩ = some (.int .i64 ((rd_T72 l0 x7_2).f1)) := (qkc BK228.out 1).trans rfl
           have hcz23_2 : wr.cell? ⟨gb228, 2, none⟩ = some (.string ((rd_T72 l0 x7_2).f2)) := (qkc BK228.out 2).trans rfl
           have hcz23_3 : wr.cell? ⟨gb228, 3, none⟩ = some (.bool ((rd_T72 l0 x7_2).f3)) := (qkc BK228.out 3).trans rfl
           have hfz23_0 := qkf BK228.out 0
           have hfz23_1 := qkf BK228.out 1
           have hfz23_2 := qkf BK228.out 2
           have hfz23_3 := qkf BK228.out 3
           go_wp2_with (first | ((with_reducible refine gate_builtin (b := .append) (xs := #[.tmp 65, .tmp 67]) rfl ?_); at_builtin; refine Kd.R_append (Kd.int .u8) (w0 := w) w.heap.size rfl (.tmp 65) (.tmp 67) 25 5 (.int .u8 0) 1 rfl Tryd.underlying25 info5 rfl (by decide) (by omega) u6 x6_3 (Go.bits .xor .u8 ((ji20) % 256) 128) [.int .u8 (Go.bits .xor .u8 ((ji20) % 256) 128)] (fun _ => True) (fun _ => False) rfl rfl ?aP (fun _ hk => hk.elim) ?aF ?aO ?aB ?aS ?aL ?_; (case aP => exact rfl); (case aB => exact (bw_ HB.out)); (case aF => exact (fun _ _ => trivial)); (case aO => exact (kR_ HO_6.out)); (case aS => exact (qbz (bw_ HB.out))); (case aL => have := LMc22.out; omega); intro v233 w24 ho hb hg hat; rw [← Ny232.out] at ho; have n0_ := Aside0.mk (blk_grown (g := gb228) (o := .cells #[.int .i64 ((rd_T72 l0 x7_2).f0), .int .i64 ((rd_T72 l0 x7_2).f1), .string ((rd_T72 l0 x7_2).f2), .bool ((rd_T72 l0 x7_2).f3)] 72 (0, 0)) (bl_ BK228.out) hg (Kd.R_ne HO_6.out BK228.out (by decide))); have n1_ := Aside0.mk (hb); have n2_ := Aside0.mk (ho); clear BK228; clear HB; clear HO_6; have BK228 := n0_; have HB := n1_; have HO234 := n2_; clear n0_ n1_ n2_; clear ho hb hg hat))
           go_roundg k3
           case measure => have := HK1.out; have := HK2.out; have := HK3.out; omega
           case rel => exact ⟨(y232), (wrap64 (x9_3 - 1)), (by first | rfl | (simp; done) | (simp [*]; done) | (simp [bne]; done)), H', ⟨by have := HK1.out; have := HK2.out; have := HK3.out; omega⟩, ⟨by (with_reducible repeat (first | apply Kd.R_alloc | apply Kd.R_drewN | apply Kd.R_drew)); exact HO234.out⟩, ⟨by (with_reducible repeat (first | refine qkN ?_ _ | refine qkd ?_ | refine qka ?_ _)); exact BK228.out⟩, ⟨bw_ HB.out⟩⟩
          rw [if_neg c21] at H
          have c21b0 : (x9_3 == 7) = false := beq_eq_false_iff_ne.mpr c21
          have c21b1 : (x9_3 != 7) = true := bne_iff_ne.mpr c21
          have c25 : x6_3.length < 140737488355328 := Classical.byContradiction fun c25 => by rw [if_neg c25] at H; exact absurd H (by simp)
          rw [if_pos c25] at H
          have LMc25 := Aside0.mk c25
          clear c25
          obtain ⟨y235, hy235⟩ : ∃ y_ : List Int, y_ = (x6_3 ++ [(ji20) % 256]) := ⟨_, rfl⟩
          replace H : (barbicanref06_Encode.l2 k3 l0 y235 x7_2 (wrap64 (x9_3 - 1)) ((rd_T72 l0 x7_2).f0) ((rd_T72 l0 x7_2).f1) ((rd_T72 l0 x7_2).f2) ((rd_T72 l0 x7_2).f3)) = some (r1, r2) := by first | (rw [hy235]; with_reducible exact H) | (have H2_ := (Option.bind_some _ _).symm.trans H; rw [hy235]; with_reducible exact H2_) | (have H2_ := (Option.bind_some _ _).symm.trans H; with_reducible exact H2_) | with_reducible exact H | (rw [hy235]; exact H) | exact H
          have Ny235 := Aside0.mk hy235
          clear hy235
          have H' := Aside0.mk H
          clear H
          have hcz26_0 : wr.cell? ⟨gb228, 0, none⟩ = some (.int .i64 ((rd_T72 l0 x7_2).f0)) := (qkc BK228.out 0).trans rfl
          have hcz26_1 : wr.cell? ⟨gb228, 1, none⟩ = some (.int .i64 ((rd_T72 l0 x7_2).f1)) := (qkc BK228.out 1).trans rfl
          have hcz26_2 : wr.cell? ⟨gb228, 2, none⟩ = some (.string ((rd_T72 l0 x7_2).f2)) := (qkc BK228.out 2).trans rfl
          have hcz26_3 : wr.cell? ⟨gb228, 3, none⟩ = some (.bool ((rd_T72 l0 x7_2).f3)) := (qkc BK228.out 3).trans rfl
          have hfz26_0 := qkf BK228.out 0
          have hfz26_1 := qkf BK228.out 1
          have hfz26_2 := qkf BK228.out 2
          have hfz26_3 := qkf BK228.out 3
          go_wp2_with (first | ((with_reducible refine gate_builtin (b := .append) (xs := #[.tmp 65, .tmp 67]) rfl ?_); at_builtin; refine Kd.R_append (Kd.int .u8) (w0 := w) w.heap.size rfl (.tmp 65) (.tmp 67) 25 5 (.int .u8 0) 1 rfl Tryd.underlying25 info5 rfl (by decide) (by omega) u6 x6_3 ((ji20) % 256) [.int .u8 ((ji20) % 256)] (fun _ => True) (fun _ => False) rfl rfl ?aP (fun _ hk => hk.elim) ?aF ?aO ?aB ?aS ?aL ?_; (case aP => exact rfl); (case aB => exact (bw_ HB.out)); (case aF => exact (fun _ _ => trivial)); (case aO => exact (kR_ HO_6.out)); (case aS => exact (qbz (bw_ HB.out))); (case aL => have := LMc25.out; omega); intro v236 w27 ho hb hg hat; rw [← Ny235.out] at ho; have n0_ := Aside0.mk (blk_grown (g := gb228) (o := .cells #[.int .i64 ((rd_T72 l0 x7_2).f0), .int .i64 ((rd_T72 l0 x7_2).f1), .string ((rd_T72 l0 x7_2).f2), .bool ((rd_T72 l0 x7_2).f3)] 72 (0, 0)) (bl_ BK228.out) hg (Kd.R_ne HO_6.out BK228.out (by decide))); have n1_ := Aside0.mk (hb); have n2_ := Aside0.mk (ho); clear BK228; clear HB; clear HO_6; have BK228 := n0_; have HB := n1_; have HO237 := n2_; clear n0_ n1_ n2_; clear ho hb hg hat))
          go_roundg k3
          case measure => have := HK1.out; have := HK2.out; have := HK3.out; omega
          case rel => exact ⟨(y235), (wrap64 (x9_3 - 1)), (by first | rfl | (simp; done) | (simp [*]; done) | (simp [bne]; done)), H', ⟨by have := HK1.out; have := HK2.out; have := HK3.out; omega⟩, ⟨by (with_reducible repeat (first | apply Kd.R_alloc | apply Kd.R_drewN | apply Kd.R_drew)); exact HO237.out⟩, ⟨by (with_reducible repeat (first | refine qkN ?_ _ | refine qkd ?_ | refine qka ?_ _)); exact BK228.out⟩, ⟨bw_ HB.out⟩⟩
         rw [if_neg c17] at H
         have c17b0 : decide (0 ≤ x9_3) = false := decide_eq_false c17
         clear c17
         have H' := Aside0.mk H
         clear H
         go_wp2
         go_roundg k3
         case measure => have := HK1.out; have := HK2.out; have := HK3.out; omega
         case rel => exact ⟨(x6_3), (wrap64 (x7_2 + 1)), (by first | rfl | (simp; done) | (simp [*]; done) | (simp [bne]; done)), H', ⟨by have := HK1.out; have := HK2.out; have := HK3.out; omega⟩, ⟨by (with_reducible repeat (first | apply Kd.R_alloc | apply Kd.R_drewN | apply Kd.R_drew)); exact HO_6.out⟩, ⟨bw_ HB.out⟩⟩
      rw [if_neg c12] at H
      have c12b0 : (((rd_T72 l0 x7_2).f0) == 1) = false := beq_eq_false_iff_ne.mpr c12
      have c12b1 : (((rd_T72 l0 x7_2).f0) != 1) = true := bne_iff_ne.mpr c12
      by_cases c28 : ((rd_T72 l0 x7_2).f0) = 2
      ·rw [if_pos c28] at H
       have c28b0 : (((rd_T72 l0 x7_2).f0) == 2) = true := beq_iff_eq.mpr c28
       have c28b1 : (((rd_T72 l0 x7_2).f0) != 2) = false := bne_eq_false_iff_eq.mpr c28
       clear c28
       have c29 : y229.length + ((rd_T72 l0 x7_2).f2).size < 140737488355328 := Classical.byContradiction fun c29 => by rw [if_neg c29] at H; exact absurd H (by simp)
       rw [if_pos c29] at H
       have LMc29 := Aside0.mk c29
       clear c29
       obtain ⟨y238, hy238⟩ : ∃ y_ : List Int, y_ = (y229 ++ bytesOf ((rd_T72 l0 x7_2).f2)) := ⟨_, rfl⟩
       replace H : (if y238.length < 140737488355328 then (barbicanref06_Encode.l1 k2 l0 (y238 ++ [0]) (wrap64 (x7_2 + 1))) else (none)) = some (r1, r2) := by first | (rw [hy238]; with_reducible exact H) | (have H2_ := (Option.bind_some _ _).symm.trans H; rw [hy238]; with_reducible exact H2_) | (have H2_ := (Option.bind_some _ _).symm.trans H; with_reducible exact H2_) | with_reducible exact H | (rw [hy238]; exact H) | exact H
       have Ny238 := Aside0.mk hy238
       clear hy238
       have c30 : y238.length < 140737488355328 := Classical.byContradiction fun c30 => by rw [if_neg c30] at H; exact absurd H (by simp)
       rw [if_pos c30] at H
       have LMc30 := Aside0.mk c30
       clear c30
       obtain ⟨y241, hy241⟩ : ∃ y_ : List Int, y_ = (y238 ++ [0]) := ⟨_, rfl⟩
       replace H : (barbicanref06_Encode.l1 k2 l0 y241 (wrap64 (x7_2 + 1))) = some (r1, r2) := by first | (rw [hy241]; with_reducible exact H) | (have H2_ := (Option.bind_some _ _).symm.trans H; rw [hy241]; with_reducible exact H2_) | (have H2_ := (Option.bind_some _ _).symm.trans H; with_reducible exact H2_) | with_reducible exact H | (rw [hy241]; exact H) | exact H
       have Ny241 := Aside0.mk hy241
       clear hy241
       have H' := Aside0.mk H
       clear H
       have p227 : 0 ≤ (x7_2 : Int) := ode_
       have q227 : x7_2 < (l0.length : Int) := ode_
       obtain ⟨ad227, e227, hx227_0, hx227_1, hx227_2, hx227_3⟩ := at_T72 HR0.out x7_2 p227 q227
       cases e227
       replace hx227_0 := (HB.out.cell (World.block_lt_of_cell? w _ hx227_0)).trans hx227_0
       replace hx227_1 := (HB.out.cell (World.block_lt_of_cell? w _ hx227_1)).trans hx227_1
       replace hx227_2 := (HB.out.cell (World.block_lt_of_cell? w _ hx227_2)).trans hx227_2
       replace hx227_3 := (HB.out.cell (World.block_lt_of_cell? w _ hx227_3)).trans hx227_3
       replace p227 := eq_true p227
       replace q227 := eq_true q227
       go_wp2_with (first | ((with_reducible refine qgd (N := 8) rfl ?_); refine qbe ?hg (N := 8) ?hd (cs := #[.int .i64 0, .int .i64 0, .string (⟨#[]⟩ : ByteArray), .bool false]) (t := 72) ?hr ?_; (case hd => rfl); (case hg => rfl); (case hr => first | (go_simp; done) | (go_simp; rfl)); intro gb228 hg w31 hbox hb; have n0_ := Aside0.mk (Kd.R_below (kR_ HO_6.out) hb); have n1_ := Aside0.mk (below_step (bw_ HB.out) hb); have n2_ := Aside0.mk (hbox); have n3_ := Aside0.mk ((by rw [hg]; exact (qbz (bw_ HB.out)) : w.heap.size ≤ gb228)); have n4_ := Aside0.mk ((by rw [hg]; exact (qbz (bw_ HB.out)) : w.heap.size ≤ gb228)); clear HO_6; clear HB; have HO_6 := n0_; have HB := n1_; have BK228 := n2_; have GW228 := n3_; have GE228 := n4_; clear n0_ n1_ n2_ n3_ n4_; clear hb hbox hg; have hcz32_0 : w31.cell? ⟨gb228, 0, none⟩ = some (.int .i64 0) := (qkc BK228.out 0).trans rfl; have hcz32_1 : w31.cell? ⟨gb228, 1, none⟩ = some (.int .i64 0) := (qkc BK228.out 1).trans rfl; have hcz32_2 : w31.cell? ⟨gb228, 2, none⟩ = some (.string (⟨#[]⟩ : ByteArray)) := (qkc BK228.out 2).trans rfl; have hcz32_3 : w31.cell? ⟨gb228, 3, none⟩ = some (.bool false) := (qkc BK228.out 3).trans rfl; have hfz32_0 := qkf BK228.out 0; have hfz32_1 := qkf BK228.out 1; have hfz32_2 := qkf BK228.out 2; have hfz32_3 := qkf BK228.out 3) | ((with_reducible refine gate_builtin (b := .append) (xs := #[.tmp 38, .tmp 43]) rfl ?_); at_builtin; refine Kd.R_append (Kd.int .u8) (w0 := w) w.heap.size rfl (.tmp 38) (.tmp 43) 25 5 (.int .u8 0) 1 rfl Tryd.underlying25 info5 rfl (by decide) (by omega) u6 x6_2 ((wrap64 (((rd_T72 l0 x7_2).f0) + 1)) % 256) [.int .u8 ((wrap64 (((rd_T72 l0 x7_2).f0) + 1)) % 256)] (fun _ => True) (fun _ => False) rfl (by first | (go_simp; done) | (go_simp; rfl)) ?aP (fun _ hk => hk.elim) ?aF ?aO ?aB ?aS ?aL ?_; (case aP => exact rfl); (case aB => exact (bw_ HB.out)); (case aF => exact (fun _ _ => trivial)); (case aO => exact (by (with_reducible repeat (first | apply Kd.R_alloc | apply Kd.R_drewN | apply Kd.R_drew)); exact Kd.R_mono (Kd.R_far (p := ⟨gb228, 3, none⟩) (Kd.R_far (p := ⟨gb228, 2, none⟩) (Kd.R_far (p := ⟨gb228, 1, none⟩) (Kd.R_far (p := ⟨gb228, 0, none⟩) (Kd.R_types HO_6.out BK228.out (by decide)) (fun _ hk => hk.2) (.int .i64 ((rd_T72 l0 x7_2).f0))) (fun _ hk => hk.2) (.int .i64 ((rd_T72 l0 x7_2).f1))) (fun _ hk => hk.2) (.string ((rd_T72 l0 x7_2).f2))) (fun _ hk => hk.2) (.bool ((rd_T72 l0 x7_2).f3))) (fun _ hk => trivial))); (case aS => exact (qbz (bw_ HB.out))); (case aL => have := LMc11.out; omega); intro v230 w33 ho hb hg hat; rw [← Ny229.out] at ho; have n0_ := Aside0.mk (blk_grown (g := gb228) (o := .cells #[.int .i64 ((rd_T72 l0 x7_2).f0), .int .i64 ((rd_T72 l0 x7_2).f1), .string ((rd_T72 l0 x7_2).f2), .bool ((rd_T72 l0 x7_2).f3)] 72 (0, 0)) (by (with_reducible repeat (first | refine qkN ?_ _ | refine qkd ?_ | refine qka ?_ _)); refine qkp (cs := #[.int .i64 ((rd_T72 l0 x7_2).f0), .int .i64 ((rd_T72 l0 x7_2).f1), .string ((rd_T72 l0 x7_2).f2), .bool false]) ?_ 3 _ rfl; (with_reducible repeat (first | refine qkN ?_ _ | refine qkd ?_ | refine qka ?_ _)); refine qkp (cs := #[.int .i64 ((rd_T72 l0 x7_2).f0), .int .i64 ((rd_T72 l0 x7_2).f1), .string (⟨#[]⟩ : ByteArray), .bool false]) ?_ 2 _ rfl; (with_reducible repeat (first | refine qkN ?_ _ | refine qkd ?_ | refine qka ?_ _)); refine qkp (cs := #[.int .i64 ((rd_T72 l0 x7_2).f0), .int .i64 0, .string (⟨#[]⟩ : ByteArray), .bool false]) ?_ 1 _ rfl; (with_reducible repeat (first | refine qkN ?_ _ | refine qkd ?_ | refine qka ?_ _)); refine qkp (cs := #[.int .i64 0, .int .i64 0, .string (⟨#[]⟩ : ByteArray), .bool false]) ?_ 0 _ rfl; (with_reducible repeat (first | refine qkN ?_ _ | refine qkd ?_ | refine qka ?_ _)); exact BK228.out) hg (Kd.R_ne HO_6.out BK228.out (by decide))); have n1_ := Aside0.mk (hb); have n2_ := Aside0.mk (ho); clear BK228; clear HB; clear HO_6; have BK228 := n0_; have HB := n1_; have HO231 := n2_; clear n0_ n1_ n2_; clear ho hb hg hat; have hcz34_0 : w33.cell? ⟨gb228, 0, none⟩ = some (.int .i64 ((rd_T72 l0 x7_2).f0)) := (qkc BK228.out 0).trans rfl; have hcz34_1 : w33.cell? ⟨gb228, 1, none⟩ = some (.int .i64 ((rd_T72 l0 x7_2).f1)) := (qkc BK228.out 1).trans rfl; have hcz34_2 : w33.cell? ⟨gb228, 2, none⟩ = some (.string ((rd_T72 l0 x7_2).f2)) := (qkc BK228.out 2).trans rfl; have hcz34_3 : w33.cell? ⟨gb228, 3, none⟩ = some (.bool ((rd_T72 l0 x7_2).f3)) := (qkc BK228.out 3).trans rfl; have hfz34_0 := qkf BK228.out 0; have hfz34_1 := qkf BK228.out 1; have hfz34_2 := qkf BK228.out 2; have hfz34_3 := qkf BK228.out 3) | (at_builtin; refine print_append_str (w0 := w) w.heap.size rfl (.tmp 71) _ 25 9 5 rfl Tryd.underlying25 Tryd.underlying9 info5 v230 y229 ((rd_T72 l0 x7_2).f2) rfl rfl ?aO ?aB ?aS ?aL ?_; (case aB => exact (bw_ HB.out)); (case aO => exact (Kd.own_of_R (kR_ HO231.out))); (case aS => exact (qbz (bw_ HB.out))); (case aL => have := LMc29.out; omega); intro v239 w35 ho0 hb hg; have ho := Kd.R_of_own (h1 := fun _ => rfl) (ok := fun _ => True) ho0 (fun _ _ => trivial); clear ho0; have hat := True.intro; rw [← Ny238.out] at ho; change Kd.R (Kd.int .u8) 5 w35 w.heap.size (fun _ => True) v239 y238 at ho; have n0_ := Aside0.mk (blk_grown (g := gb228) (o := .cells #[.int .i64 ((rd_T72 l0 x7_2).f0), .int .i64 ((rd_T72 l0 x7_2).f1), .string ((rd_T72 l0 x7_2).f2), .bool ((rd_T72 l0 x7_2).f3)] 72 (0, 0)) (bl_ BK228.out) hg (Kd.R_ne HO231.out BK228.out (by decide))); have n1_ := Aside0.mk (hb); have n2_ := Aside0.mk (ho); clear BK228; clear HB; clear HO231; have BK228 := n0_; have HB := n1_; have HO240 := n2_; clear n0_ n1_ n2_; clear ho hb hg hat) | ((with_reducible refine gate_builtin (b := .append) (xs := #[.tmp 74, .tmp 75]) rfl ?_); at_builtin; refine Kd.R_append (Kd.int .u8) (w0 := w) w.heap.size rfl (.tmp 74) (.tmp 75) 25 5 (.int .u8 0) 1 rfl Tryd.underlying25 info5 rfl (by decide) (by omega) v239 y238 0 [.int .u8 0] (fun _ => True) (fun _ => False) rfl rfl ?aP (fun _ hk => hk.elim) ?aF ?aO ?aB ?aS ?aL ?_; (case aP => exact rfl); (case aB => exact (bw_ HB.out)); (case aF => exact (fun _ _ => trivial)); (case aO => exact (kR_ HO240.out)); (case aS => exact (qbz (bw_ HB.out))); (case aL => have := LMc30.out; omega); intro v242 w36 ho hb hg hat; rw [← Ny241.out] at ho; have n0_ := Aside0.mk (blk_grown (g := gb228) (o := .cells #[.int .i64 ((rd_T72 l0 x7_2).f0), .int .i64 ((rd_T72 l0 x7_2).f1), .string ((rd_T72 l0 x7_2).f2), .bool ((rd_T72 l0 x7_2).f3)] 72 (0, 0)) (bl_ BK228.out) hg (Kd.R_ne HO240.out BK228.out (by decide))); have n1_ := Aside0.mk (hb); have n2_ := Aside0.mk (ho); clear BK228; clear HB; clear HO240; have BK228 := n0_; have HB := n1_; have HO243 := n2_; clear n0_ n1_ n2_; clear ho hb hg hat))
       go_roundg k2
       case measure => have := HK1.out; have := HK2.out; omega
       case rel => exact ⟨(y241), (wrap64 (x7_2 + 1)), (by first | rfl | (simp; done) | (simp [*]; done) | (simp [bne]; done)), H', ⟨by have := HK1.out; have := HK2.out; omega⟩, ⟨by (with_reducible repeat (first | apply Kd.R_alloc | apply Kd.R_drewN | apply Kd.R_drew)); exact HO243.out⟩, ⟨bw_ HB.out⟩⟩
      rw [if_neg c28] at H
      have c28b0 : (((rd_T72 l0 x7_2).f0) == 2) = false := beq_eq_false_iff_ne.mpr c28
      have c28b1 : (((rd_T72 l0 x7_2).f0) != 2) = true := bne_iff_ne.mpr c28
      by_cases c37 : ((rd_T72 l0 x7_2).f0) = 3
      ·rw [if_pos c37] at H
       have c37b0 : (((rd_T72 l0 x7_2).f0) == 3) = true := beq_iff_eq.mpr c37
       have c37b1 : (((rd_T72 l0 x7_2).f0) != 3) = false := bne_eq_false_iff_eq.mpr c37
       clear c37
       obtain ⟨bq38, hbq38⟩ : ∃ b_ : Bool, b_ = ((rd_T72 l0 x7_2).f3) := ⟨_, rfl⟩
       replace H : (if bq38 = true then (if y229.length < 140737488355328 then (barbicanref06_Encode.l1 k2 l0 (y229 ++ [1]) (wrap64 (x7_2 + 1))) else (none)) else (if y229.length < 140737488355328 then (barbicanref06_Encode.l1 k2 l0 (y229 ++ [0]) (wrap64 (x7_2 + 1))) else (none))) = some (r1, r2) := by rw [← hbq38] at H; exact H
       have Nbq38 := Aside0.mk hbq38
       clear hbq38
       by_cases c39 : bq38 = true
       ·subst c39
        rw [if_pos rfl] at H
        have c40 : y229.length < 140737488355328 := Classical.byContradiction fun c40 => by rw [if_neg c40] at H; exact absurd H (by simp)
        rw [if_pos c40] at H
        have LMc40 := Aside0.mk c40
        clear c40
        obtain ⟨y244, hy244⟩ : ∃ y_ : List Int, y_ = (y229 ++ [1]) := ⟨_, rfl⟩
        replace H : (barbicanref06_Encode.l1 k2 l0 y244 (wrap64 (x7_2 + 1))) = some (r1, r2) := by first | (rw [hy244]; with_reducible exact H) | (have H2_ := (Option.bind_some _ _).symm.trans H; rw [hy244]; with_reducible exact H2_) | (have H2_ := (Option.bind_some _ _).symm.trans H; with_reducible exact H2_) | with_reducible exact H | (rw [hy244]; exact H) | exact H
        have Ny244 := Aside0.mk hy244
        clear hy244
        have H' := Aside0.mk H
        clear H
        have p227 : 0 ≤ (x7_2 : Int) := ode_
        have q227 : x7_2 < (l0.length : Int) := ode_
        obtain ⟨ad227, e227, hx227_0, hx227_1, hx227_2, hx227_3⟩ := at_T72 HR0.out x7_2 p227 q227
        (try rw [← Nbq38.out] at hx227_3)
        cases e227
        replace hx227_0 := (HB.out.cell (World.block_lt_of_cell? w _ hx227_0)).trans hx227_0
        replace hx227_1 := (HB.out.cell (World.block_lt_of_cell? w _ hx227_1)).trans hx227_1
        replace hx227_2 := (HB.out.cell (World.block_lt_of_cell? w _ hx227_2)).trans hx227_2
        replace hx227_3 := (HB.out.cell (World.block_lt_of_cell? w _ hx227_3)).trans hx227_3
        replace p227 := eq_true p227
        replace q227 := eq_true q227
        go_wp2_with (first | ((with_reducible refine qgd (N := 8) rfl ?_); refine qbe ?hg (N := 8) ?hd (cs := #[.int .i64 0, .int .i64 0, .string (⟨#[]⟩ : ByteArray), .bool false]) (t := 72) ?hr ?_; (case hd => rfl); (case hg => rfl); (case hr => first | (go_simp; done) | (go_simp; rfl)); intro gb228 hg w41 hbox hb; have n0_ := Aside0.mk (Kd.R_below (kR_ HO_6.out) hb); have n1_ := Aside0.mk (below_step (bw_ HB.out) hb); have n2_ := Aside0.mk (hbox); have n3_ := Aside0.mk ((by rw [hg]; exact (qbz (bw_ HB.out)) : w.heap.size ≤ gb228)); have n4_ := Aside0.mk ((by rw [hg]; exact (qbz (bw_ HB.out)) : w.heap.size ≤ gb228)); clear HO_6; clear HB; have HO_6 := n0_; have HB := n1_; have BK228 := n2_; have GW228 := n3_; have GE228 := n4_; clear n0_ n1_ n2_ n3_ n4_; clear hb hbox hg; have hcz42_0 : w41.cell? ⟨gb228, 0, none⟩ = some (.int .i64 0) := (qkc BK228.out 0).trans rfl; have hcz42_1 : w41.cell? ⟨gb228, 1, none⟩ = some (.int .i64 0) := (qkc BK228.out 1).trans rfl; have hcz42_2 : w41.cell? ⟨gb228, 2, none⟩ = some (.string (⟨#[]⟩ : ByteArray)) := (qkc BK228.out 2).trans rfl; have hcz42_3 : w41.cell? ⟨gb228, 3, none⟩ = some (.bool false) := (qkc BK228.out 3).trans rfl; have hfz42_0 := qkf BK228.out 0; have hfz42_1 := qkf BK228.out 1; have hfz42_2 := qkf BK228.out 2; have hfz42_3 := qkf BK228.out 3) | ((with_reducible refine gate_builtin (b := .append) (xs := #[.tmp 38, .tmp 43]) rfl ?_); at_builtin; refine Kd.R_append (Kd.int .u8) (w0 := w) w.heap.size rfl (.tmp 38) (.tmp 43) 25 5 (.int .u8 0) 1 rfl Tryd.underlying25 info5 rfl (by decide) (by omega) u6 x6_2 ((wrap64 (((rd_T72 l0 x7_2).f0) + 1)) % 256) [.int .u8 ((wrap64 (((rd_T72 l0 x7_2).f0) + 1)) % 256)] (fun _ => True) (fun _ => False) rfl (by first | (go_simp; done) | (go_simp; rfl)) ?aP (fun _ hk => hk.elim) ?aF ?aO ?aB ?aS ?aL ?_; (case aP => exact rfl); (case aB => exact (bw_ HB.out)); (case aF => exact (fun _ _ => trivial)); (case aO => exact (by (with_reducible repeat (first | apply Kd.R_alloc | apply Kd.R_drewN | apply Kd.R_drew)); exact Kd.R_mono (Kd.R_far (p := ⟨gb228, 3, none⟩) (Kd.R_far (p := ⟨gb228, 2, none⟩) (Kd.R_far (p := ⟨gb228, 1, none⟩) (Kd.R_far (p := ⟨gb228, 0, none⟩) (Kd.R_types HO_6.out BK228.out (by decide)) (fun _ hk => hk.2) (.int .i64 ((rd_T72 l0 x7_2).f0))) (fun _ hk => hk.2) (.int .i64 ((rd_T72 l0 x7_2).f1))) (fun _ hk => hk.2) (.string ((rd_T72 l0 x7_2).f2))) (fun _ hk => hk.2) (.bool true)) (fun _ hk => trivial))); (case aS => exact (qbz (bw_ HB.out))); (case aL => have := LMc11.out; omega); intro v230 w43 ho hb hg hat; rw [← Ny229.out] at ho; have n0_ := Aside0.mk (blk_grown (g := gb228) (o := .cells #[.int .i64 ((rd_T72 l0 x7_2).f0), .int .i64 ((rd_T72 l0 x7_2).f1), .string ((rd_T72 l0 x7_2).f2), .bool true] 72 (0, 0)) (by (with_reducible repeat (first | refine qkN ?_ _ | refine qkd ?_ | refine qka ?_ _)); refine qkp (cs := #[.int .i64 ((rd_T72 l0 x7_2).f0), .int .i64 ((rd_T72 l0 x7_2).f1), .string ((rd_T72 l0 x7_2).f2), .bool false]) ?_ 3 _ rfl; (with_reducible repeat (first | refine qkN ?_ _ | refine qkd ?_ | refine qka ?_ _)); refine qkp (cs := #[.int .i64 ((rd_T72 l0 x7_2).f0), .int .i64 ((rd_T72 l0 x7_2).f1), .string (⟨#[]⟩ : ByteArray), .bool false]) ?_ 2 _ rfl; (with_reducible repeat (first | refine qkN ?_ _ | refine qkd ?_ | refine qka ?_ _)); refine qkp (cs := #[.int .i64 ((rd_T72 l0 x7_2).f0), .int .i64 0, .string (⟨#[]⟩ : ByteArray), .bool false]) ?_ 1 _ rfl; (with_reducible repeat (first | refine qkN ?_ _ | refine qkd ?_ | refine qka ?_ _)); refine qkp (cs := #[.int .i64 0, .int .i64 0, .string (⟨#[]⟩ : ByteArray), .bool false]) ?_ 0 _ rfl; (with_reducible repeat (first | refine qkN ?_ _ | refine qkd ?_ | refine qka ?_ _)); exact BK228.out) hg (Kd.R_ne HO_6.out BK228.out (by decide))); have n1_ := Aside0.mk (hb); have n2_ := Aside0.mk (ho); clear BK228; clear HB; clear HO_6; have BK228 := n0_; have HB := n1_; have HO231 := n2_; clear n0_ n1_ n2_; clear ho hb hg hat; have hcz44_0 : w43.cell? ⟨gb228, 0, none⟩ = some (.int .i64 ((rd_T72 l0 x7_2).f0)) := (qkc BK228.out 0).trans rfl; have hcz44_1 : w43.cell? ⟨gb228, 1, none⟩ = some (.int .i64 ((rd_T72 l0 x7_2).f1)) := (qkc BK228.out 1).trans rfl; have hcz44_2 : w43.cell? ⟨gb228, 2, none⟩ = some (.string ((rd_T72 l0 x7_2).f2)) := (qkc BK228.out 2).trans rfl; have hcz44_3 : w43.cell? ⟨gb228, 3, none⟩ = some (.bool true) := (qkc BK228.out 3).trans rfl; have hfz44_0 := qkf BK228.out 0; have hfz44_1 := qkf BK228.out 1; have hfz44_2 := qkf BK228.out 2; have hfz44_3 := qkf BK228.out 3) | ((with_reducible refine gate_builtin (b := .append) (xs := #[.tmp 81, .tmp 82]) rfl ?_); at_builtin; refine Kd.R_append (Kd.int .u8) (w0 := w) w.heap.size rfl (.tmp 81) (.tmp 82) 25 5 (.int .u8 0) 1 rfl Tryd.underlying25 info5 rfl (by decide) (by omega) v230 y229 1 [.int .u8 1] (fun _ => True) (fun _ => False) rfl rfl ?aP (fun _ hk => hk.elim) ?aF ?aO ?aB ?aS ?aL ?_; (case aP => exact rfl); (case aB => exact (bw_ HB.out)); (case aF => exact (fun _ _ => trivial)); (case aO => exact (kR_ HO231.out)); (case aS => exact (qbz (bw_ HB.out))); (case aL => have := LMc40.out; omega); intro v245 w45 ho hb hg hat; rw [← Ny244.out] at ho; have n0_ := Aside0.mk (blk_grown (g := gb228) (o := .cells #[.int .i64 ((rd_T72 l0 x7_2).f0), .int .i64 ((rd_T72 l0 x7_2).f1), .string ((rd_T72 l0 x7_2).f2), .bool true] 72 (0, 0)) (bl_ BK228.out) hg (Kd.R_ne HO231.out BK228.out (by decide))); have n1_ := Aside0.mk (hb); have n2_ := Aside0.mk (ho); clear BK228; clear HB; clear HO231; have BK228 := n0_; have HB := n1_; have HO246 := n2_; clear n0_ n1_ n2_; clear ho hb hg hat))
        go_roundg k2
        case measure => have := HK1.out; have := HK2.out; omega
        case rel => (try rw [← Nbq38.out]); exact ⟨(y244), (wrap64 (x7_2 + 1)), (by first | rfl | (simp; done) | (simp [*]; done) | (simp [bne]; done)), H', ⟨by have := HK1.out; have := HK2.out; omega⟩, ⟨by (with_reducible repeat (first | apply Kd.R_alloc | apply Kd.R_drewN | apply Kd.R_drew)); exact HO246.out⟩, ⟨bw_ HB.out⟩⟩
       replace c39 := Bool.eq_false_iff.mpr c39
       subst c39
       rw [if_neg (show ¬ (false = true) by decide)] at H
       have c46 : y229.length < 140737488355328 := Classical.byContradiction fun c46 => by rw [if_neg c46] at H; exact absurd H (by simp)
       rw [if_pos c46] at H
       have LMc46 := Aside0.mk c46
       clear c46
       obtain ⟨y247, hy247⟩ : ∃ y_ : List Int, y_ = (y229 ++ [0]) := ⟨_, rfl⟩
       replace H : (barbicanref06_Encode.l1 k2 l0 y247 (wrap64 (x7_2 + 1))) = some (r1, r2) := by first | (rw [hy247]; with_reducible exact H) | (have H2_ := (Option.bind_some _ _).symm.trans H; rw [hy247]; with_reducible exact H2_) | (have H2_ := (Option.bind_some _ _).symm.trans H; with_reducible exact H2_) | with_reducible exact H | (rw [hy247]; exact H) | exact H
       have Ny247 := Aside0.mk hy247
       clear hy247
       have H' := Aside0.mk H
       clear H
       have p227 : 0 ≤ (x7_2 : Int) := ode_
       have q227 : x7_2 < (l0.length : Int) := ode_
       obtain ⟨ad227, e227, hx227_0, hx227_1, hx227_2, hx227_3⟩ := at_T72 HR0.out x7_2 p227 q227
       (try rw [← Nbq38.out] at hx227_3)
       cases e227
       replace hx227_0 := (HB.out.cell (World.block_lt_of_cell? w _ hx227_0)).trans hx227_0
       replace hx227_1 := (HB.out.cell (World.block_lt_of_cell? w _ hx227_1)).trans hx227_1
       replace hx227_2 := (HB.out.cell (World.block_lt_of_cell? w _ hx227_2)).trans hx227_2
       replace hx227_3 := (HB.out.cell (World.block_lt_of_cell? w _ hx227_3)).trans hx227_3
       replace p227 := eq_true p227
       replace q227 := eq_true q227
       go_wp2_with (first | ((with_reducible refine qgd (N := 8) rfl ?_); refine qbe ?hg (N := 8) ?hd (cs := #[.int .i64 0, .int .i64 0, .string (⟨#[]⟩ : ByteArray), .bool false]) (t := 72) ?hr ?_; (case hd => rfl); (case hg => rfl); (case hr => first | (go_simp; done) | (go_simp; rfl)); intro gb228 hg w47 hbox hb; have n0_ := Aside0.mk (Kd.R_below (kR_ HO_6.out) hb); have n1_ := Aside0.mk (below_step (bw_ HB.out) hb); have n2_ := Aside0.mk (hbox); have n3_ := Aside0.mk ((by rw [hg]; exact (qbz (bw_ HB.out)) : w.heap.size ≤ gb228)); have n4_ := Aside0.mk ((by rw [hg]; exact (qbz (bw_ HB.out)) : w.heap.size ≤ gb228)); clear HO_6; clear HB; have HO_6 := n0_; have HB := n1_; have BK228 := n2_; have GW228 := n3_; have GE228 := n4_; clear n0_ n1_ n2_ n3_ n4_; clear hb hbox hg; have hcz48_0 : w47.cell? ⟨gb228, 0, none⟩ = some (.int .i64 0) := (qkc BK228.out 0).trans rfl; have hcz48_1 : w47.cell? ⟨gb228, 1, none⟩ = some (.int .i64 0) := (qkc BK228.out 1).trans rfl; have hcz48_2 : w47.cell? ⟨gb228, 2, none⟩ = some (.string (⟨#[]⟩ : ByteArray)) := (qkc BK228.out 2).trans rfl; have hcz48_3 : w47.cell? ⟨gb228, 3, none⟩ = some (.bool false) := (qkc BK228.out 3).trans rfl; have hfz48_0 := qkf BK228.out 0; have hfz48_1 := qkf BK228.out 1; have hfz48_2 := qkf BK228.out 2; have hfz48_3 := qkf BK228.out 3) | ((with_reducible refine gate_builtin (b := .append) (xs := #[.tmp 38, .tmp 43]) rfl ?_); at_builtin; refine Kd.R_append (Kd.int .u8) (w0 := w) w.heap.size rfl (.tmp 38) (.tmp 43) 25 5 (.int .u8 0) 1 rfl Tryd.underlying25 info5 rfl (by decide) (by omega) u6 x6_2 ((wrap64 (((rd_T72 l0 x7_2).f0) + 1)) % 256) [.int .u8 ((wrap64 (((rd_T72 l0 x7_2).f0) + 1)) % 256)] (fun _ => True) (fun _ => False) rfl (by first | (go_simp; done) | (go_simp; rfl)) ?aP (fun _ hk => hk.elim) ?aF ?aO ?aB ?aS ?aL ?_; (case aP => exact rfl); (case aB => exact (bw_ HB.out)); (case aF => exact (fun _ _ => trivial)); (case aO => exact (by (with_reducible repeat (first | apply Kd.R_alloc | apply Kd.R_drewN | apply Kd.R_drew)); exact Kd.R_mono (Kd.R_far (p := ⟨gb228, 3, none⟩) (Kd.R_far (p := ⟨gb228, 2, none⟩) (Kd.R_far (p := ⟨gb228, 1, none⟩) (Kd.R_far (p := ⟨gb228, 0, none⟩) (Kd.R_types HO_6.out BK228.out (by decide)) (fun _ hk => hk.2) (.int .i64 ((rd_T72 l0 x7_2).f0))) (fun _ hk => hk.2) (.int .i64 ((rd_T72 l0 x7_2).f1))) (fun _ hk => hk.2) (.string ((rd_T72 l0 x7_2).f2))) (fun _ hk => hk.2) (.bool false)) (fun _ hk => trivial))); (case aS => exact (qbz (bw_ HB.out))); (case aL => have := LMc11.out; omega); intro v230 w49 ho hb hg hat; rw [← Ny229.out] at ho; have n0_ := Aside0.mk (blk_grown (g := gb228) (o := .cells #[.int .i64 ((rd_T72 l0 x7_2).f0), .int .i64 ((rd_T72 l0 x7_2).f1), .string ((rd_T72 l0 x7_2).f2), .bool false] 72 (0, 0)) (by (with_reducible repeat (first | refine qkN ?_ _ | refine qkd ?_ | refine qka ?_ _)); refine qkp (cs := #[.int .i64 ((rd_T72 l0 x7_2).f0), .int .i64 ((rd_T72 l0 x7_2).f1), .string ((rd_T72 l0 x7_2).f2), .bool false]) ?_ 3 _ rfl; (with_reducible repeat (first | refine qkN ?_ _ | refine qkd ?_ | refine qka ?_ _)); refine qkp (cs := #[.int .i64 ((rd_T72 l0 x7_2).f0), .int .i64 ((rd_T72 l0 x7_2).f1), .string (⟨#[]⟩ : ByteArray), .bool false]) ?_ 2 _ rfl; (with_reducible repeat (first | refine qkN ?_ _ | refine qkd ?_ | refine qka ?_ _)); refine qkp (cs := #[.int .i64 ((rd_T72 l0 x7_2).f0), .int .i64 0, .string (⟨#[]⟩ : ByteArray), .bool false]) ?_ 1 _ rfl; (with_reducible repeat (first | refine qkN ?_ _ | refine qkd ?_ | refine qka ?_ _)); refine qkp (cs := #[.int .i64 0, .int .i64 0, .string (⟨#[]⟩ : ByteArray), .bool false]) ?_ 0 _ rfl; (with_reducible repeat (first | refine qkN ?_ _ | refine qkd ?_ | refine qka ?_ _)); exact BK228.out) hg (Kd.R_ne HO_6.out BK228.out (by decide))); have n1_ := Aside0.mk (hb); have n2_ := Aside0.mk (ho); clear BK228; clear HB; clear HO_6; have BK228 := n0_; have HB := n1_; have HO231 := n2_; clear n0_ n1_ n2_; clear ho hb hg hat; have hcz50_0 : w49.cell? ⟨gb228, 0, none⟩ = some (.int .i64 ((rd_T72 l0 x7_2).f0)) := (qkc BK228.out 0).trans rfl; have hcz50_1 : w49.cell? ⟨gb228, 1, none⟩ = some (.int .i64 ((rd_T72 l0 x7_2).f1)) := (qkc BK228.out 1).trans rfl; have hcz50_2 : w49.cell? ⟨gb228, 2, none⟩ = some (.string ((rd_T72 l0 x7_2).f2)) := (qkc BK228.out 2).trans rfl; have hcz50_3 : w49.cell? ⟨gb228, 3, none⟩ = some (.bool false) := (qkc BK228.out 3).trans rfl; have hfz50_0 := qkf BK228.out 0; have hfz50_1 := qkf BK228.out 1; have hfz50_2 := qkf BK228.out 2; have hfz50_3 := qkf BK228.out 3) | ((with_reducible refine gate_builtin (b := .append) (xs := #[.tmp 84, .tmp 85]) rfl ?_); at_builtin; refine Kd.R_append (Kd.int .u8) (w0 := w) w.heap.size rfl (.tmp 84) (.tmp 85) 25 5 (.int .u8 0) 1 rfl Tryd.underlying25 info5 rfl (by decide) (by omega) v230 y229 0 [.int .u8 0] (fun _ => True) (fun _ => False) rfl rfl ?aP (fun _ hk => hk.elim) ?aF ?aO ?aB ?aS ?aL ?_; (case aP => exact rfl); (case aB => exact (bw_ HB.out)); (case aF => exact (fun _ _ => trivial)); (case aO => exact (kR_ HO231.out)); (case aS => exact (qbz (bw_ HB.out))); (case aL => have := LMc46.out; omega); intro v248 w51 ho hb hg hat; rw [← Ny247.out] at ho; have n0_ := Aside0.mk (blk_grown (g := gb228) (o := .cells #[.int .i64 ((rd_T72 l0 x7_2).f0), .int .i64 ((rd_T72 l0 x7_2).f1), .string ((rd_T72 l0 x7_2).f2), .bool false] 72 (0, 0)) (bl_ BK228.out) hg (Kd.R_ne HO231.out BK228.out (by decide))); have n1_ := Aside0.mk (hb); have n2_ := Aside0.mk (ho); clear BK228; clear HB; clear HO231; have BK228 := n0_; have HB := n1_; have HO249 := n2_; clear n0_ n1_ n2_; clear ho hb hg hat))
       go_roundg k2
       case measure => have := HK1.out; have := HK2.out; omega
       case rel => (try rw [← Nbq38.out]); exact ⟨(y247), (wrap64 (x7_2 + 1)), (by first | rfl | (simp; done) | (simp [*]; done) | (simp [bne]; done)), H', ⟨by have := HK1.out; have := HK2.out; omega⟩, ⟨by (with_reducible repeat (first | apply Kd.R_alloc | apply Kd.R_drewN | apply Kd.R_drew)); exact HO249.out⟩, ⟨bw_ HB.out⟩⟩
      rw [if_neg c37] at H
      have c37b0 : (((rd_T72 l0 x7_2).f0) == 3) = false := beq_eq_false_iff_ne.mpr c37
      have c37b1 : (((rd_T72 l0 x7_2).f0) != 3) = true := bne_iff_ne.mpr c37
      have H' := Aside0.mk H
      clear H
      have p227 : 0 ≤ (x7_2 : Int) := ode_
      have q227 : x7_2 < (l0.length : Int) := ode_
      obtain ⟨ad227, e227, hx227_0, hx227_1, hx227_2, hx227_3⟩ := at_T72 HR0.out x7_2 p227 q227
      cases e227
      replace hx227_0 := (HB.out.cell (World.block_lt_of_cell? w _ hx227_0)).trans hx227_0
      replace hx227_1 := (HB.out.cell (World.block_lt_of_cell? w _ hx227_1)).trans hx227_1
      replace hx227_2 := (HB.out.cell (World.block_lt_of_cell? w _ hx227_2)).trans hx227_2
      replace hx227_3 := (HB.out.cell (World.block_lt_of_cell? w _ hx227_3)).trans hx227_3
      replace p227 := eq_true p227
      replace q227 := eq_true q227
      go_wp2_with (first | ((with_reducible refine qgd (N := 8) rfl ?_); refine qbe ?hg (N := 8) ?hd (cs := #[.int .i64 0, .int .i64 0, .string (⟨#[]⟩ : ByteArray), .bool false]) (t := 72) ?hr ?_; (case hd => rfl); (case hg => rfl); (case hr => first | (go_simp; done) | (go_simp; rfl)); intro gb228 hg w52 hbox hb; have n0_ := Aside0.mk (Kd.R_below (kR_ HO_6.out) hb); have n1_ := Aside0.mk (below_step (bw_ HB.out) hb); have n2_ := Aside0.mk (hbox); have n3_ := Aside0.mk ((by rw [hg]; exact (qbz (bw_ HB.out)) : w.heap.size ≤ gb228)); have n4_ := Aside0.mk ((by rw [hg]; exact (qbz (bw_ HB.out)) : w.heap.size ≤ gb228)); clear HO_6; clear HB; have HO_6 := n0_; have HB := n1_; have BK228 := n2_; have GW228 := n3_; have GE228 := n4_; clear n0_ n1_ n2_ n3_ n4_; clear hb hbox hg; have hcz53_0 : w52.cell? ⟨gb228, 0, none⟩ = some (.int .i64 0) := (qkc BK228.out 0).trans rfl; have hcz53_1 : w52.cell? ⟨gb228, 1, none⟩ = some (.int .i64 0) := (qkc BK228.out 1).trans rfl; have hcz53_2 : w52.cell? ⟨gb228, 2, none⟩ = some (.string (⟨#[]⟩ : ByteArray)) := (qkc BK228.out 2).trans rfl; have hcz53_3 : w52.cell? ⟨gb228, 3, none⟩ = some (.bool false) := (qkc BK228.out 3).trans rfl; have hfz53_0 := qkf BK228.out 0; have hfz53_1 := qkf BK228.out 1; have hfz53_2 := qkf BK228.out 2; have hfz53_3 := qkf BK228.out 3) | ((with_reducible refine gate_builtin (b := .append) (xs := #[.tmp 38, .tmp 43]) rfl ?_); at_builtin; refine Kd.R_append (Kd.int .u8) (w0 := w) w.heap.size rfl (.tmp 38) (.tmp 43) 25 5 (.int .u8 0) 1 rfl Tryd.underlying25 info5 rfl (by decide) (by omega) u6 x6_2 ((wrap64 (((rd_T72 l0 x7_2).f0) + 1)) % 256) [.int .u8 ((wrap64 (((rd_T72 l0 x7_2).f0) + 1)) % 256)] (fun _ => True) (fun _ => False) rfl (by first | (go_simp; done) | (go_simp; rfl)) ?aP (fun _ hk => hk.elim) ?aF ?aO ?aB ?aS ?aL ?_; (case aP => exact rfl); (case aB => exact (bw_ HB.out)); (case aF => exact (fun _ _ => trivial)); (case aO => exact (by (with_reducible repeat (first | apply Kd.R_alloc | apply Kd.R_drewN | apply Kd.R_drew)); exact Kd.R_mono (Kd.R_far (p := ⟨gb228, 3, none⟩) (Kd.R_far (p := ⟨gb228, 2, none⟩) (Kd.R_far (p := ⟨gb228, 1, none⟩) (Kd.R_far (p := ⟨gb228, 0, none⟩) (Kd.R_types HO_6.out BK228.out (by decide)) (fun _ hk => hk.2) (.int .i64 ((rd_T72 l0 x7_2).f0))) (fun _ hk => hk.2) (.int .i64 ((rd_T72 l0 x7_2).f1))) (fun _ hk => hk.2) (.string ((rd_T72 l0 x7_2).f2))) (fun _ hk => hk.2) (.bool ((rd_T72 l0 x7_2).f3))) (fun _ hk => trivial))); (case aS => exact (qbz (bw_ HB.out))); (case aL => have := LMc11.out; omega); intro v230 w54 ho hb hg hat; rw [← Ny229.out] at ho; have n0_ := Aside0.mk (blk_grown (g := gb228) (o := .cells #[.int .i64 ((rd_T72 l0 x7_2).f0), .int .i64 ((rd_T72 l0 x7_2).f1), .string ((rd_T72 l0 x7_2).f2), .bool ((rd_T72 l0 x7_2).f3)] 72 (0, 0)) (by (with_reducible repeat (first | refine qkN ?_ _ | refine qkd ?_ | refine qka ?_ _)); refine qkp (cs := #[.int .i64 ((rd_T72 l0 x7_2).f0), .int .i64 ((rd_T72 l0 x7_2).f1), .string ((rd_T72 l0 x7_2).f2), .bool false]) ?_ 3 _ rfl; (with_reducible repeat (first | refine qkN ?_ _ | refine qkd ?_ | refine qka ?_ _)); refine qkp (cs := #[.int .i64 ((rd_T72 l0 x7_2).f0), .int .i64 ((rd_T72 l0 x7_2).f1), .string (⟨#[]⟩ : ByteArray), .bool false]) ?_ 2 _ rfl; (with_reducible repeat (first | refine qkN ?_ _ | refine qkd ?_ | refine qka ?_ _)); refine qkp (cs := #[.int .i64 ((rd_T72 l0 x7_2).f0), .int .i64 0, .string (⟨#[]⟩ : ByteArray), .bool false]) ?_ 1 _ rfl; (with_reducible repeat (first | refine qkN ?_ _ | refine qkd ?_ | refine qka ?_ _)); refine qkp (cs := #[.int .i64 0, .int .i64 0, .string (⟨#[]⟩ : ByteArray), .bool false]) ?_ 0 _ rfl; (with_reducible repeat (first | refine qkN ?_ _ | refine qkd ?_ | refine qka ?_ _)); exact BK228.out) hg (Kd.R_ne HO_6.out BK228.out (by decide))); have n1_ := Aside0.mk (hb); have n2_ := Aside0.mk (ho); clear BK228; clear HB; clear HO_6; have BK228 := n0_; have HB := n1_; have HO231 := n2_; clear n0_ n1_ n2_; clear ho hb hg hat; have hcz55_0 : w54.cell? ⟨gb228, 0, none⟩ = some (.int .i64 ((rd_T72 l0 x7_2).f0)) := (qkc BK228.out 0).trans rfl; have hcz55_1 : w54.cell? ⟨gb228, 1, none⟩ = some (.int .i64 ((rd_T72 l0 x7_2).f1)) := (qkc BK228.out 1).trans rfl; have hcz55_2 : w54.cell? ⟨gb228, 2, none⟩ = some (.string ((rd_T72 l0 x7_2).f2)) := (qkc BK228.out 2).trans rfl; have hcz55_3 : w54.cell? ⟨gb228, 3, none⟩ = some (.bool ((rd_T72 l0 x7_2).f3)) := (qkc BK228.out 3).trans rfl; have hfz55_0 := qkf BK228.out 0; have hfz55_1 := qkf BK228.out 1; have hfz55_2 := qkf BK228.out 2; have hfz55_3 := qkf BK228.out 3))
      go_roundg k2
      case measure => have := HK1.out; have := HK2.out; omega
      case rel => exact ⟨(y229), (wrap64 (x7_2 + 1)), (by first | rfl | (simp; done) | (simp [*]; done) | (simp [bne]; done)), H', ⟨by have := HK1.out; have := HK2.out; omega⟩, ⟨by (with_reducible repeat (first | apply Kd.R_alloc | apply Kd.R_drewN | apply Kd.R_drew)); exact HO231.out⟩, ⟨bw_ HB.out⟩⟩
     rw [if_neg c9] at H
     have c9b0 : decide (x7_2 < (l0.length : Int)) = false := decide_eq_false c9
     clear c9
     simp only [Option.some.injEq, Prod.mk.injEq] at H
     obtain ⟨rfl, rfl⟩ := H
     have hcv56 := own_string (P := Tryd.prog) Tryd.underlying25 Tryd.underlying5 Tryd.underlying9 (Kd.own_of_R HO_6.out)
     go_wp2
     go_ret2
     exact ⟨by first | rfl | (simp [errW_none, errW_some] <;> rfl) | (simp [*, errW_none, errW_some] <;> rfl), bw_ HB.out⟩

end Go.Proofs.YtddkbhglbkfelaaDoor.E
