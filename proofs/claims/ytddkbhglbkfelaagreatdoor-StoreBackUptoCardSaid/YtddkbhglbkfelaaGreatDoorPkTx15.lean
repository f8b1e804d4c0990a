import Derived.Test.YtddkbhglbkfelaaGreatDoorPkTx0
import Derived.Test.YtddkbhglbkfelaaGreatDoorPkTx5
import Derived.Test.YtddkbhglbkfelaaGreatDoorPkTx12
import Derived.Test.YtddkbhglbkfelaaGreatDoorPkTx14
namespace Go.Proofs.YtddkbhglbkfelaaGreatDoor.T
open Go.RowKit Go.Proofs.YtddkbhglbkfelaaGreatDoorW.PrintWords Go.Proofs.YtddkbhglbkfelaaGreatDoorW.PrintLast Go.Proofs.YtddkbhglbkfelaaGreatDoorW.PrintMore Go.Proofs.YtddkbhglbkfelaaGreatDoorX
attribute [local go_sem] max2_int min2_int max_two min_two max_three min_three max_four min_four
set_option linter.unusedVariables false
set_option linter.unusedSimpArgs false

/-! ### row_Decode: function 77 -/
mutual
def row_Decode.l0 : Nat → List Int → List (S63) → List (S118) → Int → Int → ByteArray → List (S118) → Option ((List (S63)) × Option Int)
 | 0, _, _, _, _, _, _, _ => none
 | k + 1, x1, x6, x15, x16, x17, x450000, x450001 => if x17 < x16 then (if 0 ≤ x17 then (if x17 < (x15.length : Int) then (if (x1.length : Int) = 0 then (row_Decode.j1 k x1 x6 x15 x16 x17 true x450000 x450001 ((rd_T118 x15 x17).f0) ((rd_T118 x15 x17).f1) ((rd_T118 x15 x17).f2) ((rd_T118 x15 x17).f3)) else (if 0 < (x1.length : Int) then (row_Decode.j1 k x1 x6 x15 x16 x17 (decide ((rd x1 0) > 1)) x450000 x450001 ((rd_T118 x15 x17).f0) ((rd_T118 x15 x17).f1) ((rd_T118 x15 x17).f2) ((rd_T118 x15 x17).f3)) else (none))) else (none)) else (none)) else (if (x1.length : Int) > 0 then (some (([] : List (S63)), some 3)) else ((row_Check.f k x450000 x450001 x6).bind fun t450 => (if t450.isNone = true then (some (x6, none)) else (some (([] : List (S63)), some 3)))))
def row_Decode.j1 : Nat → List Int → List (S63) → List (S118) → Int → Int → Bool → ByteArray → List (S118) → ByteArray → Int → Bool → Bool → Option ((List (S63)) × Option Int)
 | 0, _, _, _, _, _, _, _, _, _, _, _, _ => none
 | k + 1, x1, x6, x15, x16, x17, x29, x450000, x450001, x454000, x454001, x454002, x454003 => if x29 = true then (some (([] : List (S63)), some 3)) else (if 0 < (x1.length : Int) then (if 1 ≤ (x1.length : Int) then ((some (x1.drop 1 : List Int)).bind fun y456 => ((value_Null.f).bind fun bt461 => (if (rd x1 0) = 1 then ((row_one.f k x454001 y456).bind fun bt466 => (if bt466.2.2.2.2.2.isNone = true then (if bt466.1 = x454001 then (if 0 ≤ bt466.2.2.2.2.1 then (if bt466.2.2.2.2.1 ≤ (y456.length : Int) then (if x6.length < 3518437208883 then (row_Decode.l0 k (y456.drop (bt466.2.2.2.2.1 : Int).toNat) (x6 ++ [(⟨bt466.1, bt466.2.1, bt466.2.2.1, bt466.2.2.2.1⟩ : S63)]) x15 x16 (wrap64 (x17 + 1)) x450000 x450001) else (none)) else (none)) else (none)) else (some (([] : List (S63)), some 3))) else (some (([] : List (S63)), some 3)))) else (if x6.length < 3518437208883 then (row_Decode.l0 k y456 (x6 ++ [(⟨bt461.1, bt461.2.1, bt461.2.2.1, bt461.2.2.2⟩ : S63)]) x15 x16 (wrap64 (x17 + 1)) x450000 x450001) else (none))))) else (none)) else (none))
end
def row_Decode.f (k : Nat) (a0_0 : ByteArray) (l0_1 : List (S118)) (l1 : List Int) : Option ((List (S63)) × Option Int) := row_Decode.l0 k l1 ([] : List (S63)) l0_1 (l0_1.length : Int) 0 a0_0 l0_1
set_option maxHeartbeats 8000000 in
set_option maxRecDepth 100000 in
theorem row_Decode.calls (k : Nat) (a0_0 : ByteArray) (A0_1 : Option Addr) (c0_1 : Nat) (l0_1 : List (S118)) (P1_ : Nat → Prop) (A1 : Option Addr) (c1 : Nat) (l1 : List Int) (r1 : List (S63)) (r2 : Option Int) (w : World) (hr0_1 : Kd.C k118 w A0_1 l0_1.length l0_1) (hc0_1 : l0_1.length ≤ c0_1) (hs1 : Kd.V (Kd.int .u8) 5 w w.heap.size (fun k_ => P1_ k_) (.slice A1 l1.length c1) l1) (h : row_Decode.f k a0_0 l0_1 l1 = some (r1, r2)) :
  Calls Tryz.prog 77 #[.agg #[.string a0_0, .slice A0_1 l0_1.length c0_1], .slice A1 l1.length c1] w fun e w' => ∃ v0_ : Value, e = .returned (.tuple #[v0_, errW r2]) ∧ Kd.R k63 63 w' w.heap.size (fun k_ => (w.heap.size ≤ k_)) v0_ r1 ∧ Below w.heap.size w w' := by
 have hu59 := Tryz.underlying59
 have hu118 := Tryz.underlying118
 have hu63 := Tryz.underlying63
 have hu32 := Tryz.underlying32
 have hu65 := Tryz.underlying65
 have HR0_1 := Aside0.mk hr0_1
 have HC0_1 := Aside0.mk hc0_1
 clear hr0_1 hc0_1
 have HO1 := Aside0.mk (show Kd.V (Kd.int .u8) 5 w w.heap.size (fun k_ => (P1_ k_ ∨ w.heap.size ≤ k_)) (.slice A1 l1.length c1) l1 from Kd.V_mono hs1 (fun k_ hk => .inl hk))
 have HB := Aside0.mk (Below.refl w.heap.size w)
 have H : (row_Decode.l0 k l1 ([] : List (S63)) l0_1 (l0_1.length : Int) 0 a0_0 l0_1) = some (r1, r2) := h
 clear h
 have H' := Aside0.mk H
 clear H
 go_enter Tryz.func77, Tryz.ntmps77
 go_wp2_with (first | ((with_reducible refine qgd (N := 2) rfl ?_); refine qB_ 2 #[.string a0_0, .slice A0_1 l0_1.length c0_1] 59 ?_; intro gb449 hg w3 hbox hb; replace HO1 := Aside0.mk (Kd.V_below (Kd.V_elderB (kV_ HO1.out) gb449 (Nat.le_of_eq hg.symm)) hb); have BK449 := Aside0.mk (hbox); have GW449 := gE_ hg HB; have GE449 := gE_ hg HB; replace HB := bS_ HB hb; clear hb hbox hg; obtain ⟨hcz4_0, hcz4_1, hfz4_0, hfz4_1⟩ := zf2_ BK449))
 go_loopg [1, 6, 17] k (fun kq v1 v6 v17 w' => ∃ (x1_1 : List Int) (x6_1 : List (S63)) (x17_1 : Int), v17 = .int .i64 x17_1 ∧ Aside0 (row_Decode.l0 kq x1_1 x6_1 l0_1 (l0_1.length : Int) x17_1 a0_0 l0_1 = some (r1, r2)) ∧ Aside0 (kq ≤ k) ∧ Aside0 (Kd.V (Kd.int .u8) 5 w' w.heap.size (fun k_ => (P1_ k_ ∨ w.heap.size ≤ k_) ∧ some k_ ≠ (v6 : Value).ownBlock ∧ k_ ≠ gb449) v1 x1_1) ∧ Aside0 (Kd.R k63 63 w' w.heap.size (fun k_ => (w.heap.size ≤ k_)) v6 x6_1) ∧ Aside0 (w'.heap[gb449]? = some (.cells #[.string a0_0, (.slice A0_1 l0_1.length c0_1)] 59 (0, 0))) ∧ Aside0 (Below w.heap.size w w'))
 case atStart => exact ⟨(l1), (([] : List (S63))), (0), fe_, H', ⟨Nat.le_refl _⟩, ⟨by (with_reducible repeat (first | apply Kd.V_alloc | apply Kd.V_drewN | apply Kd.V_drew)); exact Kd.V_mono HO1.out (fun _ hk => ⟨hk.1, ⟨(by simp [Value.ownBlock]), hk.2⟩⟩)⟩, ⟨by first | exact Kd.R_nil _ _ _ _ _ | exact Kd.N_nil _ _ _ _ _ | exact Kd.V_nil _ _ _ _ _ | exact Kd.Q_nil _ _ _ _ _ | exact Kd.S_nil _ _ _ _ _⟩, ⟨bp_ BK449⟩, ⟨bw_ HB.out⟩⟩
 case round =>
  clear H'
  (try clear c1); (try clear hcz4_0); (try clear hcz4_1); (try clear hfz4_0); (try clear hfz4_1)
  obtain ⟨x1_1, x6_1, x17_1, rfl, HA, HK1, HO_1, HO_6, BK449, HB⟩ := hrel
  cases gk with
  | zero => exact absurd HA.out (by simp [row_Decode.l0])
  | succ k1 =>
   have H := HA.out
   clear HA
   simp only [row_Decode.l0] at H
   by_cases c5 : x17_1 < (l0_1.length : Int)
   ·rw [if_pos c5] at H
    have c5b0 := dcT c5
    clear c5
    have c6 : 0 ≤ x17_1 := Classical.byContradiction fun c6 => by rw [if_neg c6] at H; exact absurd H (by simp)
    rw [if_pos c6] at H
    have c6b0 := dcT c6
    clear c6
    have c7 : x17_1 < (l0_1.length : Int) := Classical.byContradiction fun c7 => by rw [if_neg c7] at H; exact absurd H (by simp)
    rw [if_pos c7] at H
    have c7b0 := dcT c7
    clear c7
    have HC8 := Aside0.mk H
    clear H
    have p452 : 0 ≤ (x17_1 : Int) := ode_
    have q452 : x17_1 < (l0_1.length : Int) := ode_
    obtain ⟨ad452, e452, hx452_0, hx452_1, hx452_2, hx452_3⟩ := at_T118 HR0_1.out x17_1 p452 q452
    cases e452
    replace hx452_0 := hc_ HB hx452_0
    replace hx452_1 := hc_ HB hx452_1
    replace hx452_2 := hc_ HB hx452_2
    replace hx452_3 := hc_ HB hx452_3
    replace p452 := eq_true p452
    replace q452 := eq_true q452
    go_upto_region 5 with (first | ((with_reducible refine qgd (N := 8) rfl ?_); refine qbe ?hg (N := 8) ?hd (cs := #[.string (⟨#[]⟩ : ByteArray), .int .i64 0, .bool false, .bool false]) (t := 118) ?hr ?_; (case hd => rfl); (case hg => rfl); (case hr => first | (go_simp; done) | (go_simp; rfl)); intro gb453 hg w9 hbox hb; have n0_ := Aside0.mk (Kd.V_below (Kd.V_elderB (kV_ HO_1.out) gb453 (Nat.le_of_eq hg.symm)) hb); have n1_ := Aside0.mk (Kd.R_below (kR_ HO_6.out) hb); have n2_ := Aside0.mk (qkb (g := gb449) (o := .cells #[.string a0_0, .slice (some ad452) l0_1.length c0_1] 59 (0, 0)) (bl_ BK449.out) hb); have n3_ := Aside0.mk (below_step (bw_ HB.out) hb); have n4_ := Aside0.mk (hbox); have n5_ := Aside0.mk ((by rw [hg]; exact (qbz (bw_ HB.out)) : w.heap.size ≤ gb453)); have n6_ := Aside0.mk ((by rw [hg]; exact (qbz (bw_ HB.out)) : w.heap.size ≤ gb453)); have n7_ := Aside0.mk ((by rw [hg]; exact Nat.ne_of_lt (blk_lt (g := gb449) (o := .cells #[.string a0_0, .slice (some ad452) l0_1.length c0_1] 59 (0, 0)) (bl_ BK449.out)) : gb449 ≠ gb453)); have n8_ := Aside0.mk ((by rw [hg]; exact Nat.ne_of_gt (blk_lt (g := gb449) (o := .cells #[.string a0_0, .slice (some ad452) l0_1.length c0_1] 59 (0, 0)) (bl_ BK449.out)) : gb453 ≠ gb449)); clear HO_1; clear HO_6; clear BK449; clear HB; have HO_1 := n0_; have HO_6 := n1_; have BK449 := n2_; have HB := n3_; have BK453 := n4_; have GW453 := n5_; have GE453 := n6_; have NB449_453 := n7_; have NB453_449 := n8_; clear n0_ n1_ n2_ n3_ n4_ n5_ n6_ n7_ n8_; clear hb hbox hg; have hnb10 := NB453_449.out; have hnc10 := NB449_453.out; have hcz11_0 : w9.cell? ⟨gb453, 0, none⟩ = some (.string (⟨#[]⟩ : ByteArray)) := (qkc BK453.out 0).trans rfl; have hcz11_1 : w9.cell? ⟨gb453, 1, none⟩ = some (.int .i64 0) := (qkc BK453.out 1).trans rfl; have hcz11_2 : w9.cell? ⟨gb453, 2, none⟩ = some (.bool false) := (qkc BK453.out 2).trans rfl; have hcz11_3 : w9.cell? ⟨gb453, 3, none⟩ = some (.bool false) := (qkc BK453.out 3).trans rfl; have hfz11_0 := qkf BK453.out 0; have hfz11_1 := qkf BK453.out 1; have hfz11_2 := qkf BK453.out 2; have hfz11_3 := qkf BK453.out 3))
    (try simp only [Act.put, List.setIfInBounds_toArray, List.set_cons_zero, List.set_cons_succ])
    go_cut [29] (fun v29 wc => ∃ (kq : Nat) (x29_7 : Bool), v29 = .bool x29_7 ∧ Aside0 (row_Decode.j1 kq x1_1 x6_1 l0_1 (l0_1.length : Int) x17_1 x29_7 a0_0 l0_1 ((rd_T118 l0_1 x17_1).f0) ((rd_T118 l0_1 x17_1).f1) ((rd_T118 l0_1 x17_1).f2) ((rd_T118 l0_1 x17_1).f3) = some (r1, r2)) ∧ Aside0 (kq ≤ k1) ∧ Aside0 (Kd.V (Kd.int .u8) 5 wc w.heap.size (fun k_ => (P1_ k_ ∨ w.heap.size ≤ k_) ∧ some k_ ≠ (u6 : Value).ownBlock ∧ k_ ≠ gb449 ∧ k_ ≠ gb453) u1 x1_1) ∧ Aside0 (Kd.R k63 63 wc w.heap.size (fun k_ => (w.heap.size ≤ k_)) u6 x6_1) ∧ Aside0 (wc.heap[gb449]? = some (.cells #[.string a0_0, (.slice (some ad452) l0_1.length c0_1)] 59 (0, 0))) ∧ Aside0 (wc.heap[gb453]? = some (.cells #[.string ((rd_T118 l0_1 x17_1).f0), .int .i64 ((rd_T118 l0_1 x17_1).f1), .bool ((rd_T118 l0_1 x17_1).f2), .bool ((rd_T118 l0_1 x17_1).f3)] 118 (0, 0))) ∧ Aside0 (Below w.heap.size w wc))
    case first =>
     have H := HC8.out
     clear HC8
     by_cases c12 : (x1_1.length : Int) = 0
     ·rw [if_pos c12] at H
      have ⟨c12b0, c12b1⟩ := eqT c12
      clear c12
      (first | rw [c12b0] | (simp only [i64_w, i32_w]; rw [c12b0]) | skip)
      have H' := Aside0.mk H
      clear H
      obtain ⟨Ao13, co13, eo13⟩ := Kd.V_slice HO_1.out
      subst eo13
      go_wp2
      refine Met.intro ?_
      go_step
      (repeat apply Exists.intro)
      refine ⟨?rel, ?frm⟩
      case frm => first | rfl | (simp only [c5b0, c6b0, c7b0, c12b0, c12b1]; first | done | rfl)
      case rel => exact ⟨_, (true), fe_, H', ⟨by have := HK1.out; first | omega | exact Nat.le_refl _⟩, ⟨by (with_reducible repeat (first | apply Kd.V_alloc | apply Kd.V_drewN | apply Kd.V_drew)); exact Kd.V_mono (Kd.V_far (p := ⟨gb453, 3, none⟩) (Kd.V_far (p := ⟨gb453, 2, none⟩) (Kd.V_far (p := ⟨gb453, 1, none⟩) (Kd.V_far (p := ⟨gb453, 0, none⟩) (Kd.V_mono HO_1.out (fun k_ hk => (⟨hk, hk.2⟩ : _ ∧ k_ ≠ gb453))) (fun _ hk => hk.2) (.string ((rd_T118 l0_1 x17_1).f0))) (fun _ hk => hk.2) (.int .i64 ((rd_T118 l0_1 x17_1).f1))) (fun _ hk => hk.2) (.bool ((rd_T118 l0_1 x17_1).f2))) (fun _ hk => hk.2) (.bool ((rd_T118 l0_1 x17_1).f3))) (fun _ hk => ⟨hk.1.1.1, ⟨hk.1.1.2.1, ⟨hk.1.1.2.2, hk.1.2⟩⟩⟩)⟩, ⟨by (with_reducible repeat (first | apply Kd.R_alloc | apply Kd.R_drewN | apply Kd.R_drew)); exact Kd.R_mono (Kd.R_far (p := ⟨gb453, 3, none⟩) (Kd.R_far (p := ⟨gb453, 2, none⟩) (Kd.R_far (p := ⟨gb453, 1, none⟩) (Kd.R_far (p := ⟨gb453, 0, none⟩) (Kd.R_types HO_6.out BK453.out (by decide)) (fun _ hk => hk.2) (.string ((rd_T118 l0_1 x17_1).f0))) (fun _ hk => hk.2) (.int .i64 ((rd_T118 l0_1 x17_1).f1))) (fun _ hk => hk.2) (.bool ((rd_T118 l0_1 x17_1).f2))) (fun _ hk => hk.2) (.bool ((rd_T118 l0_1 x17_1).f3))) (fun _ hk => hk.1)⟩, ⟨bp_ BK449⟩, ⟨bp_ BK453⟩, ⟨bw_ HB.out⟩⟩
     rw [if_neg c12] at H
     have ⟨c12b0, c12b1⟩ := eqF c12
     have c12b2 : ¬ (x1_1 = []) := fun h_ => c12 (by rw [h_]; rfl)
     (first | rw [c12b0] | (simp only [i64_w, i32_w]; rw [c12b0]) | skip)
     have c14 : 0 < (x1_1.length : Int) := Classical.byContradiction fun c14 => by rw [if_neg c14] at H; exact absurd H (by simp)
     rw [if_pos c14] at H
     have c14b0 := dcT c14
     have c14b1 : decide (0 < x1_1.length) = true := decide_eq_true (by omega)
     clear c14
     have H' := Aside0.mk H
     clear H
     obtain ⟨Ao15, co15, eo15⟩ := Kd.V_slice HO_1.out
     subst eo15
     have p454 : 0 ≤ (0 : Int) := (by omega)
     have q454 : 0 < (x1_1.length : Int) := ode_
     obtain ⟨ad454, e454, hx454_0⟩ := Kd.at_int (Kd.V_reads' (Kd.V_far (p := ⟨gb453, 3, none⟩) (Kd.V_far (p := ⟨gb453, 2, none⟩) (Kd.V_far (p := ⟨gb453, 1, none⟩) (Kd.V_far (p := ⟨gb453, 0, none⟩) (Kd.V_mono HO_1.out (fun k_ hk => (⟨hk, hk.2⟩ : _ ∧ k_ ≠ gb453))) (fun _ hk => hk.2) (.string ((rd_T118 l0_1 x17_1).f0))) (fun _ hk => hk.2) (.int .i64 ((rd_T118 l0_1 x17_1).f1))) (fun _ hk => hk.2) (.bool ((rd_T118 l0_1 x17_1).f2))) (fun _ hk => hk.2) (.bool ((rd_T118 l0_1 x17_1).f3)))).2.2 0 p454 q454
     cases e454
     have qi454 : (0 < x1_1.length) = True := eq_true (by omega)
     (try rw [show ((0 : Int)).toNat = 0 from rfl] at hx454_0)
     (try rw [Addr.add_zero'] at hx454_0)
     replace p454 := eq_true p454
     replace q454 := eq_true q454
     go_wp2
     refine Met.intro ?_
     go_step
     (repeat apply Exists.intro)
     refine ⟨?rel, ?frm⟩
     case frm => first | rfl | (simp only [c5b0, c6b0, c7b0, c12b0, c12b1, c14b0, c14b1]; first | done | rfl)
     case rel => exact ⟨_, (decide ((rd x1_1 0) > 1)), fe_, H', ⟨by have := HK1.out; first | omega | exact Nat.le_refl _⟩, ⟨by (with_reducible repeat (first | apply Kd.V_alloc | apply Kd.V_drewN | apply Kd.V_drew)); exact Kd.V_mono (Kd.V_far (p := ⟨gb453, 3, none⟩) (Kd.V_far (p := ⟨gb453, 2, none⟩) (Kd.V_far (p := ⟨gb453, 1, none⟩) (Kd.V_far (p := ⟨gb453, 0, none⟩) (Kd.V_mono HO_1.out (fun k_ hk => (⟨hk, hk.2⟩ : _ ∧ k_ ≠ gb453))) (fun _ hk => hk.2) (.string ((rd_T118 l0_1 x17_1).f0))) (fun _ hk => hk.2) (.int .i64 ((rd_T118 l0_1 x17_1).f1))) (fun _ hk => hk.2) (.bool ((rd_T118 l0_1 x17_1).f2))) (fun _ hk => hk.2) (.bool ((rd_T118 l0_1 x17_1).f3))) (fun _ hk => ⟨hk.1.1.1, ⟨hk.1.1.2.1, ⟨hk.1.1.2.2, hk.1.2⟩⟩⟩)⟩, ⟨by (with_reducible repeat (first | apply Kd.R_alloc | apply Kd.R_drewN | apply Kd.R_drew)); exact Kd.R_mono (Kd.R_far (p := ⟨gb453, 3, none⟩) (Kd.R_far (p := ⟨gb453, 2, none⟩) (Kd.R_far (p := ⟨gb453, 1, none⟩) (Kd.R_far (p := ⟨gb453, 0, none⟩) (Kd.R_types HO_6.out BK453.out (by decide)) (fun _ hk => hk.2) (.string ((rd_T118 l0_1 x17_1).f0))) (fun _ hk => hk.2) (.int .i64 ((rd_T118 l0_1 x17_1).f1))) (fun _ hk => hk.2) (.bool ((rd_T118 l0_1 x17_1).f2))) (fun _ hk => hk.2) (.bool ((rd_T118 l0_1 x17_1).f3))) (fun _ hk => hk.1)⟩, ⟨bp_ BK449⟩, ⟨bp_ BK453⟩, ⟨bw_ HB.out⟩⟩
    clear HC8
    (try clear c1); (try clear c5); (try clear c5b0); (try clear c6); (try clear c6b0); (try clear c7); (try clear c7b0)
    (try clear c12); (try clear c12b0); (try clear c12b1); (try clear c12b2); (try clear c14); (try clear c14b0); (try clear c14b1); (try clear hcz11_0); (try clear hcz11_1); (try clear hcz11_2); (try clear hcz11_3)
    (try clear hcz4_0); (try clear hcz4_1); (try clear hfz11_0); (try clear hfz11_1); (try clear hfz11_2); (try clear hfz11_3); (try clear hfz4_0); (try clear hfz4_1); (try clear hx452_0); (try clear hx452_1); (try clear hx452_2); (try clear hx452_3)
    (try clear hx454_0); (try clear p452); (try clear p454); (try clear q452); (try clear q454)
    obtain ⟨kq, x29_7, rfl, HA, HJ7, HO_1, HO_6, BK449, BK453, HB⟩ := hcut
    cases kq with
    | zero => exact absurd HA.out (by simp [row_Decode.j1])
    | succ kj7 =>
     have H := HA.out
     clear HA
     simp only [row_Decode.j1] at H
     by_cases c16 : x29_7 = true
     ·subst c16
      rw [if_pos rfl] at H
      obtain ⟨rfl, rfl⟩ := so2 H
      go_wp2
      go_ret2
      exact ⟨_, fr_, by first | exact Kd.R_nil _ _ _ _ _ | exact Kd.N_nil _ _ _ _ _ | exact Kd.V_nil _ _ _ _ _ | exact Kd.Q_nil _ _ _ _ _ | exact Kd.S_nil _ _ _ _ _, bw_ HB.out⟩
     replace c16 := Bool.eq_false_iff.mpr c16
     subst c16
     rw [if_neg (show ¬ (false = true) by decide)] at H
     have c17 : 0 < (x1_1.length : Int) := Classical.byContradiction fun c17 => by rw [if_neg c17] at H; exact absurd H (by simp)
     rw [if_pos c17] at H
     have c17b0 := dcT c17
     have c17b1 : decide (0 < x1_1.length) = true := decide_eq_true (by omega)
     clear c17
     have c18 : 1 ≤ (x1_1.length : Int) := Classical.byContradiction fun c18 => by rw [if_neg c18] at H; exact absurd H (by simp)
     rw [if_pos c18] at H
     have c18b0 := eq_true c18
     have c18b1 : decide (1 ≤ (x1_1.length : Int)) = true := decide_eq_true c18
     clear c18
     first | (revert H; with_reducible refine nm_ fun y456 hy456 H => ?_) | (generalize hy456 : (x1_1.drop 1 : List Int) = y456 at H; replace hy456 := hy456.symm)
     have Ny456 := Aside0.mk hy456; clear hy456
     obtain ⟨⟨t461, t462, t463, t464⟩, A19, H⟩ := bn_ H; (try dsimp only at H)
     by_cases c20 : (rd x1_1 0) = 1
     ·rw [if_pos c20] at H
      have ⟨c20b0, c20b1⟩ := eqT c20
      clear c20
      obtain ⟨⟨t466, t467, t468, t469, t470, t471⟩, A21, H⟩ := bn_ H; (try dsimp only at H)
      rcases t471 with _ | q473
      ·have H1 : (if t466 = ((rd_T118 l0_1 x17_1).f1) then (if 0 ≤ t470 then (if t470 ≤ (y456.length : Int) then (if x6_1.length < 3518437208883 then (row_Decode.l0 kj7 (y456.drop (t470 : Int).toNat) (x6_1 ++ [(⟨t466, t467, t468, t469⟩ : S63)]) l0_1 (l0_1.length : Int) (wrap64 (x17_1 + 1)) a0_0 l0_1) else (none)) else (none)) else (none)) else (some (([] : List (S63)), some 3))) = some (r1, r2) := by rw [if_pos (show (none : Option Int).isNone = true by rfl)] at H; exact H
       clear H
       have H := H1
       clear H1
       try simp only [errW_none, errW_some]
       by_cases c22 : t466 = ((rd_T118 l0_1 x17_1).f1)
       ·rw [if_pos c22] at H
        have ⟨c22b0, c22b1⟩ := eqT c22
        clear c22
        have c23 : 0 ≤ t470 := Classical.byContradiction fun c23 => by rw [if_neg c23] at H; exact absurd H (by simp)
        rw [if_pos c23] at H
        have c23b0 := eq_true c23
        have c23b1 : decide (0 ≤ t470) = true := decide_eq_true c23
        clear c23
        have c24 : t470 ≤ (y456.length : Int) := Classical.byContradiction fun c24 => by rw [if_neg c24] at H; exact absurd H (by simp)
        rw [if_pos c24] at H
        have c24b0 := eq_true c24
        have c24b1 : decide (t470 ≤ (y456.length : Int)) = true := decide_eq_true c24
        clear c24
        first | (revert H; with_reducible refine nm_ fun y474 hy474 H => ?_) | (generalize hy474 : (y456.drop (t470 : Int).toNat : List Int) = y474 at H; replace hy474 := hy474.symm)
        have Ny474 := Aside0.mk hy474; clear hy474
        have c25 : x6_1.length < 3518437208883 := Classical.byContradiction fun c25 => by rw [if_neg c25] at H; exact absurd H (by simp)
        rw [if_pos c25] at H
        have LMc25 := Aside0.mk c25
        clear c25
        first | (revert H; with_reducible refine nm_ fun y479 hy479 H => ?_) | (generalize hy479 : (x6_1 ++ [(⟨t466, t467, t468, t469⟩ : S63)] : List (S63)) = y479 at H; replace hy479 := hy479.symm)
        have Ny479 := Aside0.mk hy479; clear hy479
        have H' := Aside0.mk H
        clear H
        obtain ⟨Ao26, co26, eo26⟩ := Kd.V_slice HO_1.out
        subst eo26
        have p455 : 0 ≤ (0 : Int) := (by omega)
        have q455 : 0 < (x1_1.length : Int) := ode_
        obtain ⟨ad455, e455, hx455_0⟩ := Kd.at_int (Kd.V_reads' HO_1.out).2.2 0 p455 q455
        cases e455
        have qi455 : (0 < x1_1.length) = True := eq_true (by omega)
        (try rw [show ((0 : Int)).toNat = 0 from rfl] at hx455_0)
        (try rw [Addr.add_zero'] at hx455_0)
        replace p455 := eq_true p455
        replace q455 := eq_true q455
        have q27 : (1 : Int) ≤ ((x1_1.length : Int) : Int) := ode_
        obtain ⟨i027, hi027, _, hsz27, _⟩ := info_parts info5
        have hroom27 : x1_1.length ≤ co26 := (Kd.V_reads' HO_1.out).2.1
        have hC27 : Kd.F (Kd.int .u8) _ _ (some ad455) x1_1.length x1_1 := (Kd.V_at (base := w.heap.size) HO_1.out).2.2
        have hcut27 := cut_from (P := Tryz.prog) 27 5 .i64 Tryz.underlying27 hi027 1 hsz27 (some ad455) x1_1.length co26 1 (by omega) q27
        have hr27 := Kd.F_cut (m := (1 : Int).toNat) (c := co26) hC27 (by omega) hroom27
        obtain ⟨A27, hA27⟩ : ∃ A1, A1 = (if co26 = (1 : Int).toNat then (some ad455) else ((some ad455) : Option Addr).map (·.add ((1 : Int).toNat * 1))) := ⟨_, rfl⟩
        obtain ⟨c27, hc27⟩ : ∃ c1, c1 = co26 - (1 : Int).toNat := ⟨_, rfl⟩
        have hy27 : y456.length = x1_1.length - (1 : Int).toNat := (by rw [Ny456.out, List.length_drop] <;> omega)
        rw [show (x1_1).drop (1 : Int).toNat = y456 from Ny456.out.symm] at hr27
        replace hr27 : Kd.F (Kd.int .u8) _ _ A27 y456.length y456 := (by rw [hA27]; exact hr27)
        rw [← hy27, ← hA27, ← hc27] at hcut27
        have HO460 := Aside0.mk (show Kd.V (Kd.int .u8) 5 _ w.heap.size _ (.slice A27 y456.length c27) y456 from Kd.V_mk (by rw [hy27, hc27]; exact Nat.sub_le_sub_right hroom27 _) hr27)
        have HC460 := Aside0.mk (show y456.length ≤ c27 from by rw [hy27, hc27]; exact Nat.sub_le_sub_right hroom27 _)
        clear hr27 hC27 hroom27 hi027 hsz27 hc27
        have KY27 := Aside0.mk hy27
        have KA27 := Aside0.mk hA27
        clear hy27 hA27
        replace q27 := eq_true q27
        try go_wp2_with (first | ((with_reducible refine qgc (f := 90) rfl ?_); refine gL_ (some 37) Tryz.func90 #[] ?_; (with_reducible refine (value_Null.calls  t461 t462 t463 t464 _ A19.out).mono ?_); rintro e w28 ⟨rfl, hb⟩; refine ⟨_, rfl, ?_⟩; replace HO_1 := VB_ HO_1 hb; replace HO_6 := RB_ HO_6 hb; replace HO460 := VB_ HO460 hb; replace BK449 := kB_ BK449 hb; replace BK453 := kB_ BK453 hb; replace HB := bS_ HB hb; clear hb) | ((with_reducible refine qgd (N := 10) rfl ?_); refine qB_ 10 #[.int .i64 0, .int .i64 0, .string (⟨#[]⟩ : ByteArray), .bool false] 63 ?_; intro gb465 hg w29 hbox hb; replace HO_1 := Aside0.mk (Kd.V_below (Kd.V_elderB (kV_ HO_1.out) gb465 (Nat.le_of_eq hg.symm)) hb); replace HO_6 := Aside0.mk (Kd.R_below (Kd.R_elderB (kR_ HO_6.out) gb465 (Nat.le_of_eq hg.symm)) hb); replace HO460 := Aside0.mk (Kd.V_below (Kd.V_elderB (kV_ HO460.out) gb465 (Nat.le_of_eq hg.symm)) hb); have BK465 := Aside0.mk (hbox); have GW465 := gE_ hg HB; have GE465 := gE_ hg HB; replace HB := bS_ HB hb; have NB449_465 := Aside0.mk ((by rw [hg]; exact Nat.ne_of_lt (blk_lt (g := gb449) (o := .cells #[.string a0_0, .slice (some ad452) l0_1.length c0_1] 59 (0, 0)) (bl_ BK449.out)) : gb449 ≠ gb465)); have NB465_449 := Aside0.mk ((by rw [hg]; exact Nat.ne_of_gt (blk_lt (g := gb449) (o := .cells #[.string a0_0, .slice (some ad452) l0_1.length c0_1] 59 (0, 0)) (bl_ BK449.out)) : gb465 ≠ gb449)); replace BK449 := kB_ BK449 hb; have NB453_465 := Aside0.mk ((by rw [hg]; exact Nat.ne_of_lt (blk_lt (g := gb453) (o := .cells #[.string ((rd_T118 l0_1 x17_1).f0), .int .i64 ((rd_T118 l0_1 x17_1).f1), .bool ((rd_T118 l0_1 x17_1).f2), .bool ((rd_T118 l0_1 x17_1).f3)] 118 (0, 0)) (bl_ BK453.out)) : gb453 ≠ gb465)); have NB465_453 := Aside0.mk ((by rw [hg]; exact Nat.ne_of_gt (blk_lt (g := gb453) (o := .cells #[.string ((rd_T118 l0_1 x17_1).f0), .int .i64 ((rd_T118 l0_1 x17_1).f1), .bool ((rd_T118 l0_1 x17_1).f2), .bool ((rd_T118 l0_1 x17_1).f3)] 118 (0, 0)) (bl_ BK453.out)) : gb465 ≠ gb453)); replace BK453 := kB_ BK453 hb; clear hb hbox hg; have hnb30 := NB465_449.out; have hnc30 := NB449_465.out; have hnb31 := NB465_453.out; have hnc31 := NB453_465.out; obtain ⟨hcz32_0, hcz32_1, hcz32_2, hcz32_3, hfz32_0, hfz32_1, hfz32_2, hfz32_3⟩ := zf4_ BK465; have hnb33 := NB453_449.out; have hnc33 := NB449_453.out; obtain ⟨hcz34_0, hcz34_1, hcz34_2, hcz34_3, hfz34_0, hfz34_1, hfz34_2, hfz34_3⟩ := zf4_ BK453) | ((with_reducible refine qgc (f := 91) rfl ?_); refine gL_ (some 43) Tryz.func91 #[.int .i64 ((rd_T118 l0_1 x17_1).f1), .slice A27 y456.length c27] ?_; (with_reducible refine (row_one.calls kj7 ((rd_T118 l0_1 x17_1).f1) _ _ y456 t466 t467 t468 t469 t470 none _ ?side1 ?side2 A21.out).mono ?_); (case side1 => exact (Kd.V_reads' (e := 5) (base := w.heap.size) (n := y456.length) (c := c27) (by (with_reducible repeat (first | apply Kd.V_alloc | apply Kd.V_drewN | apply Kd.V_drew)); exact (Kd.V_mono (Kd.V_far (p := ⟨gb465, 3, none⟩) (Kd.V_far (p := ⟨gb465, 2, none⟩) (Kd.V_far (p := ⟨gb465, 1, none⟩) (Kd.V_far (p := ⟨gb465, 0, none⟩) (Kd.V_mono HO460.out (fun k_ hk => (⟨hk, hk.2⟩ : _ ∧ k_ ≠ gb465))) (fun _ hk => hk.2) (.int .i64 t461)) (fun _ hk => hk.2) (.int .i64 t462)) (fun _ hk => hk.2) (.string t463)) (fun _ hk => hk.2) (.bool t464)) (fun _ h_ => h_.1)))).2.2); (case side2 => exact (Kd.V_reads' HO460.out).2.1); rintro e w35 ⟨rfl, hb⟩; refine ⟨_, rfl, ?_⟩; replace HO_1 := Aside0.mk (Kd.V_below (by (with_reducible repeat (first | apply Kd.V_alloc | apply Kd.V_drewN | apply Kd.V_drew)); exact (Kd.V_mono (Kd.V_far (p := ⟨gb465, 3, none⟩) (Kd.V_far (p := ⟨gb465, 2, none⟩) (Kd.V_far (p := ⟨gb465, 1, none⟩) (Kd.V_far (p := ⟨gb465, 0, none⟩) (Kd.V_mono HO_1.out (fun k_ hk => (⟨hk, hk.2⟩ : _ ∧ k_ ≠ gb465))) (fun _ hk => hk.2) (.int .i64 t461)) (fun _ hk => hk.2) (.int .i64 t462)) (fun _ hk => hk.2) (.string t463)) (fun _ hk => hk.2) (.bool t464)) (fun _ h_ => h_.1))) hb); replace HO_6 := Aside0.mk (Kd.R_below (by (with_reducible repeat (first | apply Kd.R_alloc | apply Kd.R_drewN | apply Kd.R_drew)); exact (Kd.R_mono (Kd.R_far (p := ⟨gb465, 3, none⟩) (Kd.R_far (p := ⟨gb465, 2, none⟩) (Kd.R_far (p := ⟨gb465, 1, none⟩) (Kd.R_far (p := ⟨gb465, 0, none⟩) (Kd.R_mono HO_6.out (fun k_ hk => (⟨hk, hk.2⟩ : _ ∧ k_ ≠ gb465))) (fun _ hk => hk.2) (.int .i64 t461)) (fun _ hk => hk.2) (.int .i64 t462)) (fun _ hk => hk.2) (.string t463)) (fun _ hk => hk.2) (.bool t464)) (fun _ h_ => h_.1))) hb); replace HO460 := Aside0.mk (Kd.V_below (by (with_reducible repeat (first | apply Kd.V_alloc | apply Kd.V_drewN | apply Kd.V_drew)); exact (Kd.V_mono (Kd.V_far (p := ⟨gb465, 3, none⟩) (Kd.V_far (p := ⟨gb465, 2, none⟩) (Kd.V_far (p := ⟨gb465, 1, none⟩) (Kd.V_far (p := ⟨gb465, 0, none⟩) (Kd.V_mono HO460.out (fun k_ hk => (⟨hk, hk.2⟩ : _ ∧ k_ ≠ gb465))) (fun _ hk => hk.2) (.int .i64 t461)) (fun _ hk => hk.2) (.int .i64 t462)) (fun _ hk => hk.2) (.string t463)) (fun _ hk => hk.2) (.bool t464)) (fun _ h_ => h_.1))) hb); replace BK449 := Aside0.mk (qkb (g := gb449) (o := .cells #[.string a0_0, .slice (some ad452) l0_1.length c0_1] 59 (0, 0)) (bp_ BK449) hb); replace BK453 := Aside0.mk (qkb (g := gb453) (o := .cells #[.string ((rd_T118 l0_1 x17_1).f0), .int .i64 ((rd_T118 l0_1 x17_1).f1), .bool ((rd_T118 l0_1 x17_1).f2), .bool ((rd_T118 l0_1 x17_1).f3)] 118 (0, 0)) (bp_ BK453) hb); replace BK465 := Aside0.mk (qkb (g := gb465) (o := .cells #[.int .i64 t461, .int .i64 t462, .string t463, .bool t464] 63 (0, 0)) (bp_ BK465) hb); replace HB := bS_ HB hb; clear hb; (try simp only [errW_none, errW_some])) | ((with_reducible refine qgd (N := 11) rfl ?_); refine qB_ 11 #[.int .i64 0, .int .i64 0, .string (⟨#[]⟩ : ByteArray), .bool false] 63 ?_; intro gb472 hg w36 hbox hb; replace HO_1 := Aside0.mk (Kd.V_below (Kd.V_elderB (kV_ HO_1.out) gb472 (Nat.le_of_eq hg.symm)) hb); replace HO_6 := Aside0.mk (Kd.R_below (Kd.R_elderB (kR_ HO_6.out) gb472 (Nat.le_of_eq hg.symm)) hb); replace HO460 := Aside0.mk (Kd.V_below (Kd.V_elderB (kV_ HO460.out) gb472 (Nat.le_of_eq hg.symm)) hb); have BK472 := Aside0.mk (hbox); have GW472 := gE_ hg HB; have GE472 := gE_ hg HB; replace HB := bS_ HB hb; have NB449_472 := Aside0.mk ((by rw [hg]; exact Nat.ne_of_lt (blk_lt (g := gb449) (o := .cells #[.string a0_0, .slice (some ad452) l0_1.length c0_1] 59 (0, 0)) (bl_ BK449.out)) : gb449 ≠ gb472)); have NB472_449 := Aside0.mk ((by rw [hg]; exact Nat.ne_of_gt (blk_lt (g := gb449) (o := .cells #[.string a0_0, .slice (some ad452) l0_1.length c0_1] 59 (0, 0)) (bl_ BK449.out)) : gb472 ≠ gb449)); replace BK449 := kB_ BK449 hb; have NB453_472 := Aside0.mk ((by rw [hg]; exact Nat.ne_of_lt (blk_lt (g := gb453) (o := .cells #[.string ((rd_T118 l0_1 x17_1).f0), .int .i64 ((rd_T118 l0_1 x17_1).f1), .bool ((rd_T118 l0_1 x17_1).f2), .bool ((rd_T118 l0_1 x17_1).f3)] 118 (0, 0)) (bl_ BK453.out)) : gb453 ≠ gb472)); have NB472_453 := Aside0.mk ((by rw [hg]; exact Nat.ne_of_gt (blk_lt (g := gb453) (o := .cells #[.string ((rd_T118 l0_1 x17_1).f0), .int .i64 ((rd_T118 l0_1 x17_1).f1), .bool ((rd_T118 l0_1 x17_1).f2), .bool ((rd_T118 l0_1 x17_1).f3)] 118 (0, 0)) (bl_ BK453.out)) : gb472 ≠ gb453)); replace BK453 := kB_ BK453 hb; have NB465_472 := Aside0.mk ((by rw [hg]; exact Nat.ne_of_lt (blk_lt (g := gb465) (o := .cells #[.int .i64 t461, .int .i64 t462, .string t463, .bool t464] 63 (0, 0)) (bl_ BK465.out)) : gb465 ≠ gb472)); have NB472_465 := Aside0.mk ((by rw [hg]; exact Nat.ne_of_gt (blk_lt (g := gb465) (o := .cells #[.int .i64 t461, .int .i64 t462, .string t463, .bool t464] 63 (0, 0)) (bl_ BK465.out)) : gb472 ≠ gb465)); replace BK465 := kB_ BK465 hb; clear hb hbox hg; have hnb37 := NB472_449.out; have hnc37 := NB449_472.out; have hnb38 := NB472_453.out; have hnc38 := NB453_472.out; have hnb39 := NB472_465.out; have hnc39 := NB465_472.out; obtain ⟨hcz40_0, hcz40_1, hcz40_2, hcz40_3, hfz40_0, hfz40_1, hfz40_2, hfz40_3⟩ := zf4_ BK472; obtain ⟨hcz41_0, hcz41_1, hcz41_2, hcz41_3, hfz41_0, hfz41_1, hfz41_2, hfz41_3⟩ := zf4_ BK453))
        have n0_ : Aside0 (Kd.V (Kd.int .u8) 5 ((((w36.setCell ⟨gb472, 0, none⟩ (.int .i64 t466)).setCell ⟨gb472, 1, none⟩ (.int .i64 t467)).setCell ⟨gb472, 2, none⟩ (.string t468)).setCell ⟨gb472, 3, none⟩ (.bool t469)) w.heap.size (fun k_ => (P1_ k_ ∨ w.heap.size ≤ k_) ∧ some k_ ≠ (u6 : Value).ownBlock ∧ k_ ≠ gb449 ∧ k_ ≠ gb453 ∧ k_ ≠ gb465 ∧ k_ ≠ gb472) (.slice (some ad455) x1_1.length co26) x1_1) := ⟨by (with_reducible repeat (first | apply Kd.V_alloc | apply Kd.V_drewN | apply Kd.V_drew)); exact Kd.V_mono (Kd.V_far (p := ⟨gb472, 3, none⟩) (Kd.V_far (p := ⟨gb472, 2, none⟩) (Kd.V_far (p := ⟨gb472, 1, none⟩) (Kd.V_far (p := ⟨gb472, 0, none⟩) (Kd.V_mono HO_1.out (fun k_ hk => (⟨hk, hk.2⟩ : _ ∧ k_ ≠ gb472))) (fun _ hk => hk.2) (.int .i64 t466)) (fun _ hk => hk.2) (.int .i64 t467)) (fun _ hk => hk.2) (.string t468)) (fun _ hk => hk.2) (.bool t469)) (fun _ hk => ⟨hk.1.1.1.1, ⟨hk.1.1.1.2.1, ⟨hk.1.1.1.2.2.1, ⟨hk.1.1.1.2.2.2, ⟨hk.1.1.2, hk.1.2⟩⟩⟩⟩⟩)⟩
        have n1_ : Aside0 (Kd.R k63 63 ((((w36.setCell ⟨gb472, 0, none⟩ (.int .i64 t466)).setCell ⟨gb472, 1, none⟩ (.int .i64 t467)).setCell ⟨gb472, 2, none⟩ (.string t468)).setCell ⟨gb472, 3, none⟩ (.bool t469)) w.heap.size (fun k_ => (w.heap.size ≤ k_) ∧ k_ ≠ gb465 ∧ k_ ≠ gb472) u6 x6_1) := ⟨by (with_reducible repeat (first | apply Kd.R_alloc | apply Kd.R_drewN | apply Kd.R_drew)); exact Kd.R_mono (Kd.R_far (p := ⟨gb472, 3, none⟩) (Kd.R_far (p := ⟨gb472, 2, none⟩) (Kd.R_far (p := ⟨gb472, 1, none⟩) (Kd.R_far (p := ⟨gb472, 0, none⟩) (Kd.R_mono HO_6.out (fun k_ hk => (⟨hk, hk.2⟩ : _ ∧ k_ ≠ gb472))) (fun _ hk => hk.2) (.int .i64 t466)) (fun _ hk => hk.2) (.int .i64 t467)) (fun _ hk => hk.2) (.string t468)) (fun _ hk => hk.2) (.bool t469)) (fun _ hk => ⟨hk.1.1.1, ⟨hk.1.1.2, hk.1.2⟩⟩)⟩
        have n2_ : Aside0 (Kd.V (Kd.int .u8) 5 ((((w36.setCell ⟨gb472, 0, none⟩ (.int .i64 t466)).setCell ⟨gb472, 1, none⟩ (.int .i64 t467)).setCell ⟨gb472, 2, none⟩ (.string t468)).setCell ⟨gb472, 3, none⟩ (.bool t469)) w.heap.size (fun k_ => (P1_ k_ ∨ w.heap.size ≤ k_) ∧ some k_ ≠ (u6 : Value).ownBlock ∧ k_ ≠ gb449 ∧ k_ ≠ gb453 ∧ k_ ≠ gb465 ∧ k_ ≠ gb472) (.slice A27 y456.length c27) y456) := ⟨by (with_reducible repeat (first | apply Kd.V_alloc | apply Kd.V_drewN | apply Kd.V_drew)); exact Kd.V_mono (Kd.V_far (p := ⟨gb472, 3, none⟩) (Kd.V_far (p := ⟨gb472, 2, none⟩) (Kd.V_far (p := ⟨gb472, 1, none⟩) (Kd.V_far (p := ⟨gb472, 0, none⟩) (Kd.V_mono HO460.out (fun k_ hk => (⟨hk, hk.2⟩ : _ ∧ k_ ≠ gb472))) (fun _ hk => hk.2) (.int .i64 t466)) (fun _ hk => hk.2) (.int .i64 t467)) (fun _ hk => hk.2) (.string t468)) (fun _ hk => hk.2) (.bool t469)) (fun _ hk => ⟨hk.1.1.1.1, ⟨hk.1.1.1.2.1, ⟨hk.1.1.1.2.2.1, ⟨hk.1.1.1.2.2.2, ⟨hk.1.1.2, hk.1.2⟩⟩⟩⟩⟩)⟩
        have n3_ : Aside0 (((((w36.setCell ⟨gb472, 0, none⟩ (.int .i64 t466)).setCell ⟨gb472, 1, none⟩ (.int .i64 t467)).setCell ⟨gb472, 2, none⟩ (.string t468)).setCell ⟨gb472, 3, none⟩ (.bool t469)).heap[gb449]? = some (.cells #[.string a0_0, .slice (some ad452) l0_1.length c0_1] 59 (0, 0))) := ⟨bp_ BK449⟩
        have n4_ : Aside0 (((((w36.setCell ⟨gb472, 0, none⟩ (.int .i64 t466)).setCell ⟨gb472, 1, none⟩ (.int .i64 t467)).setCell ⟨gb472, 2, none⟩ (.string t468)).setCell ⟨gb472, 3, none⟩ (.bool t469)).heap[gb453]? = some (.cells #[.string ((rd_T118 l0_1 x17_1).f0), .int .i64 ((rd_T118 l0_1 x17_1).f1), .bool ((rd_T118 l0_1 x17_1).f2), .bool ((rd_T118 l0_1 x17_1).f3)] 118 (0, 0))) := ⟨bp_ BK453⟩
        have n5_ : Aside0 (((((w36.setCell ⟨gb472, 0, none⟩ (.int .i64 t466)).setCell ⟨gb472, 1, none⟩ (.int .i64 t467)).setCell ⟨gb472, 2, none⟩ (.string t468)).setCell ⟨gb472, 3, none⟩ (.bool t469)).heap[gb465]? = some (.cells #[.int .i64 t461, .int .i64 t462, .string t463, .bool t464] 63 (0, 0))) := ⟨bp_ BK465⟩
        have n6_ : Aside0 (((((w36.setCell ⟨gb472, 0, none⟩ (.int .i64 t466)).setCell ⟨gb472, 1, none⟩ (.int .i64 t467)).setCell ⟨gb472, 2, none⟩ (.string t468)).setCell ⟨gb472, 3, none⟩ (.bool t469)).heap[gb472]? = some (.cells #[.int .i64 t466, .int .i64 t467, .string t468, .bool t469] 63 (0, 0))) := ⟨bp_ BK472⟩
        have n7_ : Aside0 (Below w.heap.size w ((((w36.setCell ⟨gb472, 0, none⟩ (.int .i64 t466)).setCell ⟨gb472, 1, none⟩ (.int .i64 t467)).setCell ⟨gb472, 2, none⟩ (.string t468)).setCell ⟨gb472, 3, none⟩ (.bool t469))) := ⟨bw_ HB.out⟩
        (try clear HO_1); (try clear HO_6); (try clear HO460); (try clear BK449); (try clear BK453); (try clear BK465); (try clear BK472); (try clear HB)
        generalize ((((w36.setCell ⟨gb472, 0, none⟩ (.int .i64 t466)).setCell ⟨gb472, 1, none⟩ (.int .i64 t467)).setCell ⟨gb472, 2, none⟩ (.string t468)).setCell ⟨gb472, 3, none⟩ (.bool t469)) = w42 at n0_ n1_ n2_ n3_ n4_ n5_ n6_ n7_ ⊢
        have HO_1 := n0_
        have HO_6 := n1_
        have HO460 := n2_
        have BK449 := n3_
        have BK453 := n4_
        have BK465 := n5_
        have BK472 := n6_
        have HB := n7_
        clear n0_ n1_ n2_ n3_ n4_ n5_ n6_ n7_
        replace HO_1 := Aside0.mk (Kd.V_drew HO_1.out)
        replace HO_6 := Aside0.mk (Kd.R_drew HO_6.out)
        replace HO460 := Aside0.mk (Kd.V_drew HO460.out)
        replace BK449 := kD_ BK449
        replace BK453 := kD_ BK453
        replace BK465 := kD_ BK465
        replace BK472 := kD_ BK472
        replace HB := bD_ HB
        have q44 : (t470 : Int) ≤ ((y456.length : Int) : Int) := ode_
        obtain ⟨i044, hi044, _, hsz44, _⟩ := info_parts info5
        have hroom44 : y456.length ≤ c27 := (Kd.V_reads' HO460.out).2.1
        have hC44 : Kd.F (Kd.int .u8) _ _ A27 y456.length y456 := (Kd.V_at (base := w.heap.size) HO460.out).2.2
        have q044 : (0 : Int) ≤ (t470 : Int) := ode_
        have hcut44 := cut_from (P := Tryz.prog) 27 5 .i64 Tryz.underlying27 hi044 1 hsz44 A27 y456.length c27 t470 q044 q44
        have hr44 := Kd.F_cut (m := (t470 : Int).toNat) (c := c27) hC44 (by omega) hroom44
        obtain ⟨A44, hA44⟩ : ∃ A1, A1 = (if c27 = (t470 : Int).toNat then A27 else (A27 : Option Addr).map (·.add ((t470 : Int).toNat * 1))) := ⟨_, rfl⟩
        obtain ⟨c44, hc44⟩ : ∃ c1, c1 = c27 - (t470 : Int).toNat := ⟨_, rfl⟩
        have hy44 : y474.length = y456.length - (t470 : Int).toNat := (by rw [Ny474.out, List.length_drop] <;> omega)
        rw [show (y456).drop (t470 : Int).toNat = y474 from Ny474.out.symm] at hr44
        replace hr44 : Kd.F (Kd.int .u8) _ _ A44 y474.length y474 := (by rw [hA44]; exact hr44)
        rw [← hy44, ← hA44, ← hc44] at hcut44
        have HO478 := Aside0.mk (show Kd.V (Kd.int .u8) 5 _ w.heap.size _ (.slice A44 y474.length c44) y474 from Kd.V_mk (by rw [hy44, hc44]; exact Nat.sub_le_sub_right hroom44 _) hr44)
        have HC478 := Aside0.mk (show y474.length ≤ c44 from by rw [hy44, hc44]; exact Nat.sub_le_sub_right hroom44 _)
        clear hr44 hC44 hroom44 hi044 hsz44 hc44
        have KY44 := Aside0.mk hy44
        have KA44 := Aside0.mk hA44
        clear hy44 hA44
        replace q44 := eq_true q44
        refine start_ (n := 6) (S := fun w' => w'.cell? ⟨gb472, 0, none⟩ = some (.int .i64 t466) ∧ w'.cell? ⟨gb472, 1, none⟩ = some (.int .i64 t467) ∧ w'.cell? ⟨gb472, 2, none⟩ = some (.string t468) ∧ w'.cell? ⟨gb472, 3, none⟩ = some (.bool t469)) (ds := []) #[false, false, false, false, false, false] (by kernel_rfl) rfl rfl ⟨(qkc BK472.out 0).trans rfl, (qkc BK472.out 1).trans rfl, (qkc BK472.out 2).trans rfl, (qkc BK472.out 3).trans rfl⟩ (fun hHeld => ?_)
        generalize w42.drew = w43 at HO_1 HO_6 HO460 BK449 BK453 BK465 BK472 HB HO478 hHeld ⊢
        refine pure_ (i := 1) (N := some 58) (v := ?_) (a' := ?_) #[false, true, false, false, false, false] rfl rfl (by kernel_rfl) (fun _ _ _ h => h) (Or.inl ⟨by rfl, ?_⟩) ?_ ?_
        rotate_left
        ·intro w'
         go_simp
         with_reducible rfl
        rotate_left
        ·simp only [Act.put, List.setIfInBounds_toArray, List.set_cons_zero, List.set_cons_succ, i64_w, i32_w]
         rfl
        refine pure_ (i := 2) (N := some 59) (v := ?_) (a' := ?_) #[false, true, true, false, false, false] rfl rfl (by kernel_rfl) (fun _ _ _ h => h) (Or.inl ⟨by rfl, ?_⟩) ?_ ?_
        rotate_left
        ·intro w'
         go_simp
         with_reducible rfl
        rotate_left
        ·simp only [Act.put, List.setIfInBounds_toArray, List.set_cons_zero, List.set_cons_succ, i64_w, i32_w]
         rfl
        refine pure_ (i := 3) (N := some 60) (v := ?_) (a' := ?_) #[false, true, true, true, false, false] rfl rfl (by kernel_rfl) (fun _ _ _ h => h) (Or.inl ⟨by rfl, ?_⟩) ?_ ?_
        rotate_left
        ·intro w'
         go_simp
         with_reducible rfl
        rotate_left
        ·simp only [Act.put, List.setIfInBounds_toArray, List.set_cons_zero, List.set_cons_succ, i64_w, i32_w]
         rfl
        refine take_ (i := 0) (N := some 57) (v := ?_) (a' := ?_) #[true, true, true, true, false, false] rfl rfl (by kernel_rfl) (fun _ _ _ h => h) (Or.inl ⟨by rfl, ?_⟩) hHeld ?_ ?_
        rotate_left
        ·rintro w' ⟨s0, s1, s2, s3⟩
         go_simp
         with_reducible rfl
        rotate_left
        ·simp only [Act.put, List.setIfInBounds_toArray, List.set_cons_zero, List.set_cons_succ, i64_w, i32_w]
         rfl
        refine one_ (i := 4) (N := none) #[true, true, true, true, true, false] rfl rfl (by kernel_rfl) (by decide) (fun K hK => ?_)
        have hs45 : w43.cell? ⟨gb465, 0, none⟩ = some (.int .i64 t461) := (qkc BK465.out 0).trans rfl
        have hfs45 := qkf BK465.out 0
        have hns45_0 := NB449_465.out
        have hns45_1 := NB453_465.out
        have hns45_3 := NB472_465.out
        have hms45_0 := NB465_449.out
        have hms45_1 := NB465_453.out
        have hms45_3 := NB465_472.out
        have hs46 : w43.cell? ⟨gb465, 1, none⟩ = some (.int .i64 t462) := (qkc BK465.out 1).trans rfl
        have hfs46 := qkf BK465.out 1
        have hs47 : w43.cell? ⟨gb465, 2, none⟩ = some (.string t463) := (qkc BK465.out 2).trans rfl
        have hfs47 := qkf BK465.out 2
        have hs48 : w43.cell? ⟨gb465, 3, none⟩ = some (.bool t464) := (qkc BK465.out 3).trans rfl
        have hfs48 := qkf BK465.out 3
        refine skip_ (w1 := ?_) ?sh1 ?sh2 ?_ ?_
        case sh1 => rfl
        case sh2 => rfl
        rotate_left
        ·go_simp
         rfl
        refine hK.out _ _ ⟨((cell_far (p := ⟨gb465, _, none⟩) NB472_465.out _).trans (((cell_far (p := ⟨gb465, _, none⟩) NB472_465.out _).trans (((cell_far (p := ⟨gb465, _, none⟩) NB472_465.out _).trans (((cell_far (p := ⟨gb465, _, none⟩) NB472_465.out _).trans (hHeld.1)))))))), ((cell_far (p := ⟨gb465, _, none⟩) NB472_465.out _).trans (((cell_far (p := ⟨gb465, _, none⟩) NB472_465.out _).trans (((cell_far (p := ⟨gb465, _, none⟩) NB472_465.out _).trans (((cell_far (p := ⟨gb465, _, none⟩) NB472_465.out _).trans (hHeld.2.1)))))))), ((cell_far (p := ⟨gb465, _, none⟩) NB472_465.out _).trans (((cell_far (p := ⟨gb465, _, none⟩) NB472_465.out _).trans (((cell_far (p := ⟨gb465, _, none⟩) NB472_465.out _).trans (((cell_far (p := ⟨gb465, _, none⟩) NB472_465.out _).trans (hHeld.2.2.1)))))))), ((cell_far (p := ⟨gb465, _, none⟩) NB472_465.out _).trans (((cell_far (p := ⟨gb465, _, none⟩) NB472_465.out _).trans (((cell_far (p := ⟨gb465, _, none⟩) NB472_465.out _).trans (((cell_far (p := ⟨gb465, _, none⟩) NB472_465.out _).trans (hHeld.2.2.2))))))))⟩ (fun hHeld => ?_)
        clear hK K
        refine pure_ (i := 5) (N := some 1) (v := ?_) (a' := ?_) #[true, true, true, true, true, true] rfl rfl (by kernel_rfl) (fun _ _ _ h => h) (Or.inl ⟨by rfl, ?_⟩) ?_ ?_
        rotate_left
        ·intro w'
         go_simp
         with_reducible rfl
        rotate_left
        ·simp only [Act.put, List.setIfInBounds_toArray, List.set_cons_zero, List.set_cons_succ, i64_w, i32_w]
         rfl
        refine done_ (by kernel_rfl) ?_
        obtain ⟨hcz49_0, hcz49_1, hcz49_2, hcz49_3, hfz49_0, hfz49_1, hfz49_2, hfz49_3⟩ := zf4_ BK465
        try go_wp2_with (first | ((with_reducible refine gate_builtin (b := .append) (xs := #[.tmp 61, .tmp 63]) rfl ?_); at_builtin; refine Kd.R_append k63 (w0 := w) w.heap.size rfl (.tmp 61) (.tmp 63) 64 63 (.agg #[(.int .i64 0), (.int .i64 0), (.string ⟨#[]⟩), (.bool false)]) 40 rfl Tryz.underlying64 info63 rfl (by decide) (by omega) u6 x6_1 (⟨t466, t467, t468, t469⟩ : S63) [.int .i64 t466, .int .i64 t467, .string t468, .bool t469] (fun k_ => (w.heap.size ≤ k_) ∧ k_ ≠ gb465 ∧ k_ ≠ gb472) (fun _ => False) rfl (by first | (go_simp; done) | (go_simp; rfl)) ?aP (fun _ hk => hk.elim) (fun k_ hk => ⟨(Nat.le_trans (qbz (bw_ HB.out)) hk), Kd.freshB (g := gb465) (o := .cells #[.int .i64 t466, .int .i64 t467, .string t468, .bool t469] 63 (0, 0)) (bp_ BK465) k_ hk, Kd.freshB (g := gb472) (o := .cells #[.int .i64 t466, .int .i64 t467, .string t468, .bool t469] 63 (0, 0)) (bp_ BK472) k_ hk⟩) ?aO (bw_ HB.out) (qbz (bw_ HB.out)) (by have := LMc25.out; omega) ?_; (case aP => exact k63_mkM _ _ _ (⟨t466, t467, t468, t469⟩ : S63)); (case aO => exact (by (with_reducible repeat (first | apply Kd.R_alloc | apply Kd.R_drewN | apply Kd.R_drew)); exact Kd.R_mono (Kd.R_far (p := ⟨gb465, 3, none⟩) (Kd.R_far (p := ⟨gb465, 2, none⟩) (Kd.R_far (p := ⟨gb465, 1, none⟩) (Kd.R_far (p := ⟨gb465, 0, none⟩) (Kd.R_mono HO_6.out (fun k_ hk => (⟨hk, hk.2.1⟩ : _ ∧ k_ ≠ gb465))) (fun _ hk => hk.2) (.int .i64 t466)) (fun _ hk => hk.2) (.int .i64 t467)) (fun _ hk => hk.2) (.string t468)) (fun _ hk => hk.2) (.bool t469)) (fun _ hk => ⟨hk.1.1, ⟨hk.1.2.1, hk.1.2.2⟩⟩))); intro v480 w50 ho hb hg hat; rw [← Ny479.out] at ho; replace HO_1 := Aside0.mk (Kd.V_afterv (ok := (fun k_ => (P1_ k_ ∨ w.heap.size ≤ k_) ∧ k_ ≠ gb449 ∧ k_ ≠ gb453 ∧ k_ ≠ gb465 ∧ k_ ≠ gb472)) (by (with_reducible repeat (first | apply Kd.V_alloc | apply Kd.V_drewN | apply Kd.V_drew)); exact Kd.V_mono (Kd.V_far (p := ⟨gb465, 3, none⟩) (Kd.V_far (p := ⟨gb465, 2, none⟩) (Kd.V_far (p := ⟨gb465, 1, none⟩) (Kd.V_far (p := ⟨gb465, 0, none⟩) (Kd.V_mono HO_1.out (fun k_ hk => (⟨hk, hk.2.2.2.2.1⟩ : _ ∧ k_ ≠ gb465))) (fun _ hk => hk.2) (.int .i64 t466)) (fun _ hk => hk.2) (.int .i64 t467)) (fun _ hk => hk.2) (.string t468)) (fun _ hk => hk.2) (.bool t469)) (fun _ hk => ⟨⟨hk.1.1, ⟨hk.1.2.2.1, ⟨hk.1.2.2.2.1, ⟨hk.1.2.2.2.2.1, hk.1.2.2.2.2.2⟩⟩⟩⟩, hk.1.2.1⟩)) hg hat); replace BK449 := Aside0.mk (blk_grown (g := gb449) (o := .cells #[.string a0_0, .slice (some ad452) l0_1.length c0_1] 59 (0, 0)) (bp_ BK449) hg (Kd.R_ne HO_6.out BK449.out (by decide))); replace BK453 := Aside0.mk (blk_grown (g := gb453) (o := .cells #[.string ((rd_T118 l0_1 x17_1).f0), .int .i64 ((rd_T118 l0_1 x17_1).f1), .bool ((rd_T118 l0_1 x17_1).f2), .bool ((rd_T118 l0_1 x17_1).f3)] 118 (0, 0)) (bp_ BK453) hg (Kd.R_ne HO_6.out BK453.out (by decide))); replace HO460 := Aside0.mk (Kd.V_afterv (ok := (fun k_ => (P1_ k_ ∨ w.heap.size ≤ k_) ∧ k_ ≠ gb449 ∧ k_ ≠ gb453 ∧ k_ ≠ gb465 ∧ k_ ≠ gb472)) (by (with_reducible repeat (first | apply Kd.V_alloc | apply Kd.V_drewN | apply Kd.V_drew)); exact Kd.V_mono (Kd.V_far (p := ⟨gb465, 3, none⟩) (Kd.V_far (p := ⟨gb465, 2, none⟩) (Kd.V_far (p := ⟨gb465, 1, none⟩) (Kd.V_far (p := ⟨gb465, 0, none⟩) (Kd.V_mono HO460.out (fun k_ hk => (⟨hk, hk.2.2.2.2.1⟩ : _ ∧ k_ ≠ gb465))) (fun _ hk => hk.2) (.int .i64 t466)) (fun _ hk => hk.2) (.int .i64 t467)) (fun _ hk => hk.2) (.string t468)) (fun _ hk => hk.2) (.bool t469)) (fun _ hk => ⟨⟨hk.1.1, ⟨hk.1.2.2.1, ⟨hk.1.2.2.2.1, ⟨hk.1.2.2.2.2.1, hk.1.2.2.2.2.2⟩⟩⟩⟩, hk.1.2.1⟩)) hg hat); replace BK465 := Aside0.mk (blk_grown (g := gb465) (o := .cells #[.int .i64 t466, .int .i64 t467, .string t468, .bool t469] 63 (0, 0)) (bp_ BK465) hg (Kd.R_away HO_6.out (fun _ hk => hk.2.1))); replace BK472 := Aside0.mk (blk_grown (g := gb472) (o := .cells #[.int .i64 t466, .int .i64 t467, .string t468, .bool t469] 63 (0, 0)) (bp_ BK472) hg (Kd.R_away HO_6.out (fun _ hk => hk.2.2))); replace HO478 := Aside0.mk (Kd.V_afterv (ok := (fun k_ => (P1_ k_ ∨ w.heap.size ≤ k_) ∧ k_ ≠ gb449 ∧ k_ ≠ gb453 ∧ k_ ≠ gb465 ∧ k_ ≠ gb472)) (by (with_reducible repeat (first | apply Kd.V_alloc | apply Kd.V_drewN | apply Kd.V_drew)); exact Kd.V_mono (Kd.V_far (p := ⟨gb465, 3, none⟩) (Kd.V_far (p := ⟨gb465, 2, none⟩) (Kd.V_far (p := ⟨gb465, 1, none⟩) (Kd.V_far (p := ⟨gb465, 0, none⟩) (Kd.V_mono HO478.out (fun k_ hk => (⟨hk, hk.2.2.2.2.1⟩ : _ ∧ k_ ≠ gb465))) (fun _ hk => hk.2) (.int .i64 t466)) (fun _ hk => hk.2) (.int .i64 t467)) (fun _ hk => hk.2) (.string t468)) (fun _ hk => hk.2) (.bool t469)) (fun _ hk => ⟨⟨hk.1.1, ⟨hk.1.2.2.1, ⟨hk.1.2.2.2.1, ⟨hk.1.2.2.2.2.1, hk.1.2.2.2.2.2⟩⟩⟩⟩, hk.1.2.1⟩)) hg hat); replace HB := Aside0.mk (hb); have HO481 := Aside0.mk (ho); clear HO_6 ho hb hg hat))
        go_roundg kj7
        case measure => have := HK1.out; have := HJ7.out; omega
        case rel => exact ⟨(y474), (y479), (wrap64 (x17_1 + 1)), fe_, H', ⟨by have := HK1.out; have := HJ7.out; omega⟩, ⟨by (with_reducible repeat (first | apply Kd.V_alloc | apply Kd.V_drewN | apply Kd.V_drew)); exact Kd.V_mono HO478.out (fun _ hk => ⟨hk.1.1, ⟨hk.2, hk.1.2.1⟩⟩)⟩, ⟨by (with_reducible repeat (first | apply Kd.R_alloc | apply Kd.R_drewN | apply Kd.R_drew)); exact Kd.R_mono HO481.out (fun _ hk => hk.1)⟩, ⟨bp_ BK449⟩, ⟨bw_ HB.out⟩⟩
       rw [if_neg c22] at H
       have ⟨c22b0, c22b1⟩ := eqF c22
       obtain ⟨rfl, rfl⟩ := so2 H
       obtain ⟨Ao51, co51, eo51⟩ := Kd.V_slice HO_1.out
       subst eo51
       have p455 : 0 ≤ (0 : Int) := (by omega)
       have q455 : 0 < (x1_1.length : Int) := ode_
       obtain ⟨ad455, e455, hx455_0⟩ := Kd.at_int (Kd.V_reads' HO_1.out).2.2 0 p455 q455
       cases e455
       have qi455 : (0 < x1_1.length) = True := eq_true (by omega)
       (try rw [show ((0 : Int)).toNat = 0 from rfl] at hx455_0)
       (try rw [Addr.add_zero'] at hx455_0)
       replace p455 := eq_true p455
       replace q455 := eq_true q455
       have q52 : (1 : Int) ≤ ((x1_1.length : Int) : Int) := ode_
       obtain ⟨i052, hi052, _, hsz52, _⟩ := info_parts info5
       have hroom52 : x1_1.length ≤ co51 := (Kd.V_reads' HO_1.out).2.1
       have hC52 : Kd.F (Kd.int .u8) _ _ (some ad455) x1_1.length x1_1 := (Kd.V_at (base := w.heap.size) HO_1.out).2.2
       have hcut52 := cut_from (P := Tryz.prog) 27 5 .i64 Tryz.underlying27 hi052 1 hsz52 (some ad455) x1_1.length co51 1 (by omega) q52
       have hr52 := Kd.F_cut (m := (1 : Int).toNat) (c := co51) hC52 (by omega) hroom52
       obtain ⟨A52, hA52⟩ : ∃ A1, A1 = (if co51 = (1 : Int).toNat then (some ad455) else ((some ad455) : Option Addr).map (·.add ((1 : Int).toNat * 1))) := ⟨_, rfl⟩
       obtain ⟨c52, hc52⟩ : ∃ c1, c1 = co51 - (1 : Int).toNat := ⟨_, rfl⟩
       have hy52 : y456.length = x1_1.length - (1 : Int).toNat := (by rw [Ny456.out, List.length_drop] <;> omega)
       rw [show (x1_1).drop (1 : Int).toNat = y456 from Ny456.out.symm] at hr52
       replace hr52 : Kd.F (Kd.int .u8) _ _ A52 y456.length y456 := (by rw [hA52]; exact hr52)
       rw [← hy52, ← hA52, ← hc52] at hcut52
       have HO460 := Aside0.mk (show Kd.V (Kd.int .u8) 5 _ w.heap.size _ (.slice A52 y456.length c52) y456 from Kd.V_mk (by rw [hy52, hc52]; exact Nat.sub_le_sub_right hroom52 _) hr52)
       have HC460 := Aside0.mk (show y456.length ≤ c52 from by rw [hy52, hc52]; exact Nat.sub_le_sub_right hroom52 _)
       clear hr52 hC52 hroom52 hi052 hsz52 hc52
       have KY52 := Aside0.mk hy52
       have KA52 := Aside0.mk hA52
       clear hy52 hA52
       replace q52 := eq_true q52
       go_wp2_with (first | ((with_reducible refine qgc (f := 90) rfl ?_); refine gL_ (some 37) Tryz.func90 #[] ?_; (with_reducible refine (value_Null.calls  t461 t462 t463 t464 _ A19.out).mono ?_); rintro e w53 ⟨rfl, hb⟩; refine ⟨_, rfl, ?_⟩; replace HO_1 := VB_ HO_1 hb; replace HO_6 := RB_ HO_6 hb; replace HO460 := VB_ HO460 hb; replace BK449 := kB_ BK449 hb; replace BK453 := kB_ BK453 hb; replace HB := bS_ HB hb; clear hb) | ((with_reducible refine qgd (N := 10) rfl ?_); refine qB_ 10 #[.int .i64 0, .int .i64 0, .string (⟨#[]⟩ : ByteArray), .bool false] 63 ?_; intro gb465 hg w54 hbox hb; replace HO_1 := Aside0.mk (Kd.V_below (Kd.V_elderB (kV_ HO_1.out) gb465 (Nat.le_of_eq hg.symm)) hb); replace HO_6 := Aside0.mk (Kd.R_below (Kd.R_elderB (kR_ HO_6.out) gb465 (Nat.le_of_eq hg.symm)) hb); replace HO460 := Aside0.mk (Kd.V_below (Kd.V_elderB (kV_ HO460.out) gb465 (Nat.le_of_eq hg.symm)) hb); have BK465 := Aside0.mk (hbox); have GW465 := gE_ hg HB; have GE465 := gE_ hg HB; replace HB := bS_ HB hb; have NB449_465 := Aside0.mk ((by rw [hg]; exact Nat.ne_of_lt (blk_lt (g := gb449) (o := .cells #[.string a0_0, .slice (some ad452) l0_1.length c0_1] 59 (0, 0)) (bl_ BK449.out)) : gb449 ≠ gb465)); have NB465_449 := Aside0.mk ((by rw [hg]; exact Nat.ne_of_gt (blk_lt (g := gb449) (o := .cells #[.string a0_0, .slice (some ad452) l0_1.length c0_1] 59 (0, 0)) (bl_ BK449.out)) : gb465 ≠ gb449)); replace BK449 := kB_ BK449 hb; have NB453_465 := Aside0.mk ((by rw [hg]; exact Nat.ne_of_lt (blk_lt (g := gb453) (o := .cells #[.string ((rd_T118 l0_1 x17_1).f0), .int .i64 ((rd_T118 l0_1 x17_1).f1), .bool ((rd_T118 l0_1 x17_1).f2), .bool ((rd_T118 l0_1 x17_1).f3)] 118 (0, 0)) (bl_ BK453.out)) : gb453 ≠ gb465)); have NB465_453 := Aside0.mk ((by rw [hg]; exact Nat.ne_of_gt (blk_lt (g := gb453) (o := .cells #[.string ((rd_T118 l0_1 x17_1).f0), .int .i64 ((rd_T118 l0_1 x17_1).f1), .bool ((rd_T118 l0_1 x17_1).f2), .bool ((rd_T118 l0_1 x17_1).f3)] 118 (0, 0)) (bl_ BK453.out)) : gb465 ≠ gb453)); replace BK453 := kB_ BK453 hb; clear hb hbox hg; have hnb55 := NB465_449.out; have hnc55 := NB449_465.out; have hnb56 := NB465_453.out; have hnc56 := NB453_465.out; obtain ⟨hcz57_0, hcz57_1, hcz57_2, hcz57_3, hfz57_0, hfz57_1, hfz57_2, hfz57_3⟩ := zf4_ BK465; have hnb58 := NB453_449.out; have hnc58 := NB449_453.out; obtain ⟨hcz59_0, hcz59_1, hcz59_2, hcz59_3, hfz59_0, hfz59_1, hfz59_2, hfz59_3⟩ := zf4_ BK453) | ((with_reducible refine qgc (f := 91) rfl ?_); refine gL_ (some 43) Tryz.func91 #[.int .i64 ((rd_T118 l0_1 x17_1).f1), .slice A52 y456.length c52] ?_; (with_reducible refine (row_one.calls kj7 ((rd_T118 l0_1 x17_1).f1) _ _ y456 t466 t467 t468 t469 t470 none _ ?side1 ?side2 A21.out).mono ?_); (case side1 => exact (Kd.V_reads' (e := 5) (base := w.heap.size) (n := y456.length) (c := c52) (by (with_reducible repeat (first | apply Kd.V_alloc | apply Kd.V_drewN | apply Kd.V_drew)); exact (Kd.V_mono (Kd.V_far (p := ⟨gb465, 3, none⟩) (Kd.V_far (p := ⟨gb465, 2, none⟩) (Kd.V_far (p := ⟨gb465, 1, none⟩) (Kd.V_far (p := ⟨gb465, 0, none⟩) (Kd.V_mono HO460.out (fun k_ hk => (⟨hk, hk.2⟩ : _ ∧ k_ ≠ gb465))) (fun _ hk => hk.2) (.int .i64 t461)) (fun _ hk => hk.2) (.int .i64 t462)) (fun _ hk => hk.2) (.string t463)) (fun _ hk => hk.2) (.bool t464)) (fun _ h_ => h_.1)))).2.2); (case side2 => exact (Kd.V_reads' HO460.out).2.1); rintro e w60 ⟨rfl, hb⟩; refine ⟨_, rfl, ?_⟩; replace HO_1 := Aside0.mk (Kd.V_below (by (with_reducible repeat (first | apply Kd.V_alloc | apply Kd.V_drewN | apply Kd.V_drew)); exact (Kd.V_mono (Kd.V_far (p := ⟨gb465, 3, none⟩) (Kd.V_far (p := ⟨gb465, 2, none⟩) (Kd.V_far (p := ⟨gb465, 1, none⟩) (Kd.V_far (p := ⟨gb465, 0, none⟩) (Kd.V_mono HO_1.out (fun k_ hk => (⟨hk, hk.2⟩ : _ ∧ k_ ≠ gb465))) (fun _ hk => hk.2) (.int .i64 t461)) (fun _ hk => hk.2) (.int .i64 t462)) (fun _ hk => hk.2) (.string t463)) (fun _ hk => hk.2) (.bool t464)) (fun _ h_ => h_.1))) hb); replace HO_6 := Aside0.mk (Kd.R_below (by (with_reducible repeat (first | apply Kd.R_alloc | apply Kd.R_drewN | apply Kd.R_drew)); exact (Kd.R_mono (Kd.R_far (p := ⟨gb465, 3, none⟩) (Kd.R_far (p := ⟨gb465, 2, none⟩) (Kd.R_far (p := ⟨gb465, 1, none⟩) (Kd.R_far (p := ⟨gb465, 0, none⟩) (Kd.R_mono HO_6.out (fun k_ hk => (⟨hk, hk.2⟩ : _ ∧ k_ ≠ gb465))) (fun _ hk => hk.2) (.int .i64 t461)) (fun _ hk => hk.2) (.int .i64 t462)) (fun _ hk => hk.2) (.string t463)) (fun _ hk => hk.2) (.bool t464)) (fun _ h_ => h_.1))) hb); replace HO460 := Aside0.mk (Kd.V_below (by (with_reducible repeat (first | apply Kd.V_alloc | apply Kd.V_drewN | apply Kd.V_drew)); exact (Kd.V_mono (Kd.V_far (p := ⟨gb465, 3, none⟩) (Kd.V_far (p := ⟨gb465, 2, none⟩) (Kd.V_far (p := ⟨gb465, 1, none⟩) (Kd.V_far (p := ⟨gb465, 0, none⟩) (Kd.V_mono HO460.out (fun k_ hk => (⟨hk, hk.2⟩ : _ ∧ k_ ≠ gb465))) (fun _ hk => hk.2) (.int .i64 t461)) (fun _ hk => hk.2) (.int .i64 t462)) (fun _ hk => hk.2) (.string t463)) (fun _ hk => hk.2) (.bool t464)) (fun _ h_ => h_.1))) hb); replace BK449 := Aside0.mk (qkb (g := gb449) (o := .cells #[.string a0_0, .slice (some ad452) l0_1.length c0_1] 59 (0, 0)) (bp_ BK449) hb); replace BK453 := Aside0.mk (qkb (g := gb453) (o := .cells #[.string ((rd_T118 l0_1 x17_1).f0), .int .i64 ((rd_T118 l0_1 x17_1).f1), .bool ((rd_T118 l0_1 x17_1).f2), .bool ((rd_T118 l0_1 x17_1).f3)] 118 (0, 0)) (bp_ BK453) hb); replace BK465 := Aside0.mk (qkb (g := gb465) (o := .cells #[.int .i64 t461, .int .i64 t462, .string t463, .bool t464] 63 (0, 0)) (bp_ BK465) hb); replace HB := bS_ HB hb; clear hb; (try simp only [errW_none, errW_some])) | ((with_reducible refine qgd (N := 11) rfl ?_); refine qB_ 11 #[.int .i64 0, .int .i64 0, .string (⟨#[]⟩ : ByteArray), .bool false] 63 ?_; intro gb472 hg w61 hbox hb; replace HO_1 := Aside0.mk (Kd.V_below (Kd.V_elderB (kV_ HO_1.out) gb472 (Nat.le_of_eq hg.symm)) hb); replace HO_6 := Aside0.mk (Kd.R_below (Kd.R_elderB (kR_ HO_6.out) gb472 (Nat.le_of_eq hg.symm)) hb); replace HO460 := Aside0.mk (Kd.V_below (Kd.V_elderB (kV_ HO460.out) gb472 (Nat.le_of_eq hg.symm)) hb); have BK472 := Aside0.mk (hbox); have GW472 := gE_ hg HB; have GE472 := gE_ hg HB; replace HB := bS_ HB hb; have NB449_472 := Aside0.mk ((by rw [hg]; exact Nat.ne_of_lt (blk_lt (g := gb449) (o := .cells #[.string a0_0, .slice (some ad452) l0_1.length c0_1] 59 (0, 0)) (bl_ BK449.out)) : gb449 ≠ gb472)); have NB472_449 := Aside0.mk ((by rw [hg]; exact Nat.ne_of_gt (blk_lt (g := gb449) (o := .cells #[.string a0_0, .slice (some ad452) l0_1.length c0_1] 59 (0, 0)) (bl_ BK449.out)) : gb472 ≠ gb449)); replace BK449 := kB_ BK449 hb; have NB453_472 := Aside0.mk ((by rw [hg]; exact Nat.ne_of_lt (blk_lt (g := gb453) (o := .cells #[.string ((rd_T118 l0_1 x17_1).f0), .int .i64 ((rd_T118 l0_1 x17_1).f1), .bool ((rd_T118 l0_1 x17_1).f2), .bool ((rd_T118 l0_1 x17_1).f3)] 118 (0, 0)) (bl_ BK453.out)) : gb453 ≠ gb472)); have NB472_453 := Aside0.mk ((by rw [hg]; exact Nat.ne_of_gt (blk_lt (g := gb453) (o := .cells #[.string ((rd_T118 l0_1 x17_1).f0), .int .i64 ((rd_T118 l0_1 x17_1).f1), .bool ((rd_T118 l0_1 x17_1).f2), .bool ((rd_T118 l0_1 x17_1).f3)] 118 (0, 0)) (bl_ BK453.out)) : gb472 ≠ gb453)); replace BK453 := kB_ BK453 hb; have NB465_472 := Aside0.mk ((by rw [hg]; exact Nat.ne_of_lt (blk_lt (g := gb465) (o := .cells #[.int .i64 t461, .int .i64 t462, .string t463, .bool t464] 63 (0, 0)) (bl_ BK465.out)) : gb465 ≠ gb472)); have NB472_465 := Aside0.mk ((by rw [hg]; exact Nat.ne_of_gt (blk_lt (g := gb465) (o := .cells #[.int .i64 t461, .int .i64 t462, .string t463, .bool t464] 63 (0, 0)) (bl_ BK465.out)) : gb472 ≠ gb465)); replace BK465 := kB_ BK465 hb; clear hb hbox hg; have hnb62 := NB472_449.out; have hnc62 := NB449_472.out; have hnb63 := NB472_453.out; have hnc63 := NB453_472.out; have hnb64 := NB472_465.out; have hnc64 := NB465_472.out; obtain ⟨hcz65_0, hcz65_1, hcz65_2, hcz65_3, hfz65_0, hfz65_1, hfz65_2, hfz65_3⟩ := zf4_ BK472; obtain ⟨hcz66_0, hcz66_1, hcz66_2, hcz66_3, hfz66_0, hfz66_1, hfz66_2, hfz66_3⟩ := zf4_ BK453))
       go_ret2
       exact ⟨_, fr_, by first | exact Kd.R_nil _ _ _ _ _ | exact Kd.N_nil _ _ _ _ _ | exact Kd.V_nil _ _ _ _ _ | exact Kd.Q_nil _ _ _ _ _ | exact Kd.S_nil _ _ _ _ _, bw_ HB.out⟩
      have H1 : (some (([] : List (S63)), some 3)) = some (r1, r2) := by rw [if_neg (show ¬ (some q473).isNone = true by simp)] at H; exact H
      clear H
      have H := H1
      clear H1
      try simp only [errW_none, errW_some]
      obtain ⟨rfl, rfl⟩ := so2 H
      obtain ⟨Ao67, co67, eo67⟩ := Kd.V_slice HO_1.out
      subst eo67
      have p455 : 0 ≤ (0 : Int) := (by omega)
      have q455 : 0 < (x1_1.length : Int) := ode_
      obtain ⟨ad455, e455, hx455_0⟩ := Kd.at_int (Kd.V_reads' HO_1.out).2.2 0 p455 q455
      cases e455
      have qi455 : (0 < x1_1.length) = True := eq_true (by omega)
      (try rw [show ((0 : Int)).toNat = 0 from rfl] at hx455_0)
      (try rw [Addr.add_zero'] at hx455_0)
      replace p455 := eq_true p455
      replace q455 := eq_true q455
      have q68 : (1 : Int) ≤ ((x1_1.length : Int) : Int) := ode_
      obtain ⟨i068, hi068, _, hsz68, _⟩ := info_parts info5
      have hroom68 : x1_1.length ≤ co67 := (Kd.V_reads' HO_1.out).2.1
      have hC68 : Kd.F (Kd.int .u8) _ _ (some ad455) x1_1.length x1_1 := (Kd.V_at (base := w.heap.size) HO_1.out).2.2
      have hcut68 := cut_from (P := Tryz.prog) 27 5 .i64 Tryz.underlying27 hi068 1 hsz68 (some ad455) x1_1.length co67 1 (by omega) q68
      have hr68 := Kd.F_cut (m := (1 : Int).toNat) (c := co67) hC68 (by omega) hroom68
      obtain ⟨A68, hA68⟩ : ∃ A1, A1 = (if co67 = (1 : Int).toNat then (some ad455) else ((some ad455) : Option Addr).map (·.add ((1 : Int).toNat * 1))) := ⟨_, rfl⟩
      obtain ⟨c68, hc68⟩ : ∃ c1, c1 = co67 - (1 : Int).toNat := ⟨_, rfl⟩
      have hy68 : y456.length = x1_1.length - (1 : Int).toNat := (by rw [Ny456.out, List.length_drop] <;> omega)
      rw [show (x1_1).drop (1 : Int).toNat = y456 from Ny456.out.symm] at hr68
      replace hr68 : Kd.F (Kd.int .u8) _ _ A68 y456.length y456 := (by rw [hA68]; exact hr68)
      rw [← hy68, ← hA68, ← hc68] at hcut68
      have HO460 := Aside0.mk (show Kd.V (Kd.int .u8) 5 _ w.heap.size _ (.slice A68 y456.length c68) y456 from Kd.V_mk (by rw [hy68, hc68]; exact Nat.sub_le_sub_right hroom68 _) hr68)
      have HC460 := Aside0.mk (show y456.length ≤ c68 from by rw [hy68, hc68]; exact Nat.sub_le_sub_right hroom68 _)
      clear hr68 hC68 hroom68 hi068 hsz68 hc68
      have KY68 := Aside0.mk hy68
      have KA68 := Aside0.mk hA68
      clear hy68 hA68
      replace q68 := eq_true q68
      go_wp2_with (first | ((with_reducible refine qgc (f := 90) rfl ?_); refine gL_ (some 37) Tryz.func90 #[] ?_; (with_reducible refine (value_Null.calls  t461 t462 t463 t464 _ A19.out).mono ?_); rintro e w69 ⟨rfl, hb⟩; refine ⟨_, rfl, ?_⟩; replace HO_1 := VB_ HO_1 hb; replace HO_6 := RB_ HO_6 hb; replace HO460 := VB_ HO460 hb; replace BK449 := kB_ BK449 hb; replace BK453 := kB_ BK453 hb; replace HB := bS_ HB hb; clear hb) | ((with_reducible refine qgd (N := 10) rfl ?_); refine qB_ 10 #[.int .i64 0, .int .i64 0, .string (⟨#[]⟩ : ByteArray), .bool false] 63 ?_; intro gb465 hg w70 hbox hb; replace HO_1 := Aside0.mk (Kd.V_below (Kd.V_elderB (kV_ HO_1.out) gb465 (Nat.le_of_eq hg.symm)) hb); replace HO_6 := Aside0.mk (Kd.R_below (Kd.R_elderB (kR_ HO_6.out) gb465 (Nat.le_of_eq hg.symm)) hb); replace HO460 := Aside0.mk (Kd.V_below (Kd.V_elderB (kV_ HO460.out) gb465 (Nat.le_of_eq hg.symm)) hb); have BK465 := Aside0.mk (hbox); have GW465 := gE_ hg HB; have GE465 := gE_ hg HB; replace HB := bS_ HB hb; have NB449_465 := Aside0.mk ((by rw [hg]; exact Nat.ne_of_lt (blk_lt (g := gb449) (o := .cells #[.string a0_0, .slice (some ad452) l0_1.length c0_1] 59 (0, 0)) (bl_ BK449.out)) : gb449 ≠ gb465)); have NB465_449 := Aside0.mk ((by rw [hg]; exact Nat.ne_of_gt (blk_lt (g := gb449) (o := .cells #[.string a0_0, .slice (some ad452) l0_1.length c0_1] 59 (0, 0)) (bl_ BK449.out)) : gb465 ≠ gb449)); replace BK449 := kB_ BK449 hb; have NB453_465 := Aside0.mk ((by rw [hg]; exact Nat.ne_of_lt (blk_lt (g := gb453) (o := .cells #[.string ((rd_T118 l0_1 x17_1).f0), .int .i64 ((rd_T118 l0_1 x17_1).f1), .bool ((rd_T118 l0_1 x17_1).f2), .bool ((rd_T118 l0_1 x17_1).f3)] 118 (0, 0)) (bl_ BK453.out)) : gb453 ≠ gb465)); have NB465_453 := Aside0.mk ((by rw [hg]; exact Nat.ne_of_gt (blk_lt (g := gb453) (o := .cells #[.string ((rd_T118 l0_1 x17_1).f0), .int .i64 ((rd_T118 l0_1 x17_1).f1), .bool ((rd_T118 l0_1 x17_1).f2), .bool ((rd_T118 l0_1 x17_1).f3)] 118 (0, 0)) (bl_ BK453.out)) : gb465 ≠ gb453)); replace BK453 := kB_ BK453 hb; clear hb hbox hg; have hnb71 := NB465_449.out; have hnc71 := NB449_465.out; have hnb72 := NB465_453.out; have hnc72 := NB453_465.out; obtain ⟨hcz73_0, hcz73_1, hcz73_2, hcz73_3, hfz73_0, hfz73_1, hfz73_2, hfz73_3⟩ := zf4_ BK465; have hnb74 := NB453_449.out; have hnc74 := NB449_453.out; obtain ⟨hcz75_0, hcz75_1, hcz75_2, hcz75_3, hfz75_0, hfz75_1, hfz75_2, hfz75_3⟩ := zf4_ BK453) | ((with_reducible refine qgc (f := 91) rfl ?_); refine gL_ (some 43) Tryz.func91 #[.int .i64 ((rd_T118 l0_1 x17_1).f1), .slice A68 y456.length c68] ?_; (with_reducible refine (row_one.calls kj7 ((rd_T118 l0_1 x17_1).f1) _ _ y456 t466 t467 t468 t469 t470 (some q473) _ ?side1 ?side2 A21.out).mono ?_); (case side1 => exact (Kd.V_reads' (e := 5) (base := w.heap.size) (n := y456.length) (c := c68) (by (with_reducible repeat (first | apply Kd.V_alloc | apply Kd.V_drewN | apply Kd.V_drew)); exact (Kd.V_mono (Kd.V_far (p := ⟨gb465, 3, none⟩) (Kd.V_far (p := ⟨gb465, 2, none⟩) (Kd.V_far (p := ⟨gb465, 1, none⟩) (Kd.V_far (p := ⟨gb465, 0, none⟩) (Kd.V_mono HO460.out (fun k_ hk => (⟨hk, hk.2⟩ : _ ∧ k_ ≠ gb465))) (fun _ hk => hk.2) (.int .i64 t461)) (fun _ hk => hk.2) (.int .i64 t462)) (fun _ hk => hk.2) (.string t463)) (fun _ hk => hk.2) (.bool t464)) (fun _ h_ => h_.1)))).2.2); (case side2 => exact (Kd.V_reads' HO460.out).2.1); rintro e w76 ⟨rfl, hb⟩; refine ⟨_, rfl, ?_⟩; replace HO_1 := Aside0.mk (Kd.V_below (by (with_reducible repeat (first | apply Kd.V_alloc | apply Kd.V_drewN | apply Kd.V_drew)); exact (Kd.V_mono (Kd.V_far (p := ⟨gb465, 3, none⟩) (Kd.V_far (p := ⟨gb465, 2, none⟩) (Kd.V_far (p := ⟨gb465, 1, none⟩) (Kd.V_far (p := ⟨gb465, 0, none⟩) (Kd.V_mono HO_1.out (fun k_ hk => (⟨hk, hk.2⟩ : _ ∧ k_ ≠ gb465))) (fun _ hk => hk.2) (.int .i64 t461)) (fun _ hk => hk.2) (.int .i64 t462)) (fun _ hk => hk.2) (.string t463)) (fun _ hk => hk.2) (.bool t464)) (fun _ h_ => h_.1))) hb); replace HO_6 := Aside0.mk (Kd.R_below (by (with_reducible repeat (first | apply Kd.R_alloc | apply Kd.R_drewN | apply Kd.R_drew)); exact (Kd.R_mono (Kd.R_far (p := ⟨gb465, 3, none⟩) (Kd.R_far (p := ⟨gb465, 2, none⟩) (Kd.R_far (p := ⟨gb465, 1, none⟩) (Kd.R_far (p := ⟨gb465, 0, none⟩) (Kd.R_mono HO_6.out (fun k_ hk => (⟨hk, hk.2⟩ : _ ∧ k_ ≠ gb465))) (fun _ hk => hk.2) (.int .i64 t461)) (fun _ hk => hk.2) (.int .i64 t462)) (fun _ hk => hk.2) (.string t463)) (fun _ hk => hk.2) (.bool t464)) (fun _ h_ => h_.1))) hb); replace HO460 := Aside0.mk (Kd.V_below (by (with_reducible repeat (first | apply Kd.V_alloc | apply Kd.V_drewN | apply Kd.V_drew)); exact (Kd.V_mono (Kd.V_far (p := ⟨gb465, 3, none⟩) (Kd.V_far (p := ⟨gb465, 2, none⟩) (Kd.V_far (p := ⟨gb465, 1, none⟩) (Kd.V_far (p := ⟨gb465, 0, none⟩) (Kd.V_mono HO460.out (fun k_ hk => (⟨hk, hk.2⟩ : _ ∧ k_ ≠ gb465))) (fun _ hk => hk.2) (.int .i64 t461)) (fun _ hk => hk.2) (.int .i64 t462)) (fun _ hk => hk.2) (.string t463)) (fun _ hk => hk.2) (.bool t464)) (fun _ h_ => h_.1))) hb); replace BK449 := Aside0.mk (qkb (g := gb449) (o := .cells #[.string a0_0, .slice (some ad452) l0_1.length c0_1] 59 (0, 0)) (bp_ BK449) hb); replace BK453 := Aside0.mk (qkb (g := gb453) (o := .cells #[.string ((rd_T118 l0_1 x17_1).f0), .int .i64 ((rd_T118 l0_1 x17_1).f1), .bool ((rd_T118 l0_1 x17_1).f2), .bool ((rd_T118 l0_1 x17_1).f3)] 118 (0, 0)) (bp_ BK453) hb); replace BK465 := Aside0.mk (qkb (g := gb465) (o := .cells #[.int .i64 t461, .int .i64 t462, .string t463, .bool t464] 63 (0, 0)) (bp_ BK465) hb); replace HB := bS_ HB hb; clear hb; (try simp only [errW_none, errW_some])) | ((with_reducible refine qgd (N := 11) rfl ?_); refine qB_ 11 #[.int .i64 0, .int .i64 0, .string (⟨#[]⟩ : ByteArray), .bool false] 63 ?_; intro gb472 hg w77 hbox hb; replace HO_1 := Aside0.mk (Kd.V_below (Kd.V_elderB (kV_ HO_1.out) gb472 (Nat.le_of_eq hg.symm)) hb); replace HO_6 := Aside0.mk (Kd.R_below (Kd.R_elderB (kR_ HO_6.out) gb472 (Nat.le_of_eq hg.symm)) hb); replace HO460 := Aside0.mk (Kd.V_below (Kd.V_elderB (kV_ HO460.out) gb472 (Nat.le_of_eq hg.symm)) hb); have BK472 := Aside0.mk (hbox); have GW472 := gE_ hg HB; have GE472 := gE_ hg HB; replace HB := bS_ HB hb; have NB449_472 := Aside0.mk ((by rw [hg]; exact Nat.ne_of_lt (blk_lt (g := gb449) (o := .cells #[.string a0_0, .slice (some ad452) l0_1.length c0_1] 59 (0, 0)) (bl_ BK449.out)) : gb449 ≠ gb472)); have NB472_449 := Aside0.mk ((by rw [hg]; exact Nat.ne_of_gt (blk_lt (g := gb449) (o := .cells #[.string a0_0, .slice (some ad452) l0_1.length c0_1] 59 (0, 0)) (bl_ BK449.out)) : gb472 ≠ gb449)); replace BK449 := kB_ BK449 hb; have NB453_472 := Aside0.mk ((by rw [hg]; exact Nat.ne_of_lt (blk_lt (g := gb453) (o := .cells #[.string ((rd_T118 l0_1 x17_1).f0), .int .i64 ((rd_T118 l0_1 x17_1).f1), .bool ((rd_T118 l0_1 x17_1).f2), .bool ((rd_T118 l0_1 x17_1).f3)] 118 (0, 0)) (bl_ BK453.out)) : gb453 ≠ gb472)); have NB472_453 := Aside0.mk ((by rw [hg]; exact Nat.ne_of_gt (blk_lt (g := gb453) (o := .cells #[.string ((rd_T118 l0_1 x17_1).f0), .int .i64 ((rd_T118 l0_1 x17_1).f1), .bool ((rd_T118 l0_1 x17_1).f2), .bool ((rd_T118 l0_1 x17_1).f3)] 118 (0, 0)) (bl_ BK453.out)) : gb472 ≠ gb453)); replace BK453 := kB_ BK453 hb; have NB465_472 := Aside0.mk ((by rw [hg]; exact Nat.ne_of_lt (blk_lt (g := gb465) (o := .cells #[.int .i64 t461, .int .i64 t462, .string t463, .bool t464] 63 (0, 0)) (bl_ BK465.out)) : gb465 ≠ gb472)); have NB472_465 := Aside0.mk ((by rw [hg]; exact Nat.ne_of_gt (blk_lt (g := gb465) (o := .cells #[.int .i64 t461, .int .i64 t462, .string t463, .bool t464] 63 (0, 0)) (bl_ BK465.out)) : gb472 ≠ gb465)); replace BK465 := kB_ BK465 hb; clear hb hbox hg; have hnb78 := NB472_449.out; have hnc78 := NB449_472.out; have hnb79 := NB472_453.out; have hnc79 := NB453_472.out; have hnb80 := NB472_465.out; have hnc80 := NB465_472.out; obtain ⟨hcz81_0, hcz81_1, hcz81_2, hcz81_3, hfz81_0, hfz81_1, hfz81_2, hfz81_3⟩ := zf4_ BK472))
      go_ret2
      exact ⟨_, fr_, by first | exact Kd.R_nil _ _ _ _ _ | exact Kd.N_nil _ _ _ _ _ | exact Kd.V_nil _ _ _ _ _ | exact Kd.Q_nil _ _ _ _ _ | exact Kd.S_nil _ _ _ _ _, bw_ HB.out⟩
     rw [if_neg c20] at H
     have ⟨c20b0, c20b1⟩ := eqF c20
     have c82 : x6_1.length < 3518437208883 := Classical.byContradiction fun c82 => by rw [if_neg c82] at H; exact absurd H (by simp)
     rw [if_pos c82] at H
     have LMc82 := Aside0.mk c82
     clear c82
     first | (revert H; with_reducible refine nm_ fun y482 hy482 H => ?_) | (generalize hy482 : (x6_1 ++ [(⟨t461, t462, t463, t464⟩ : S63)] : List (S63)) = y482 at H; replace hy482 := hy482.symm)
     have Ny482 := Aside0.mk hy482; clear hy482
     have H' := Aside0.mk H
     clear H
     obtain ⟨Ao83, co83, eo83⟩ := Kd.V_slice HO_1.out
     subst eo83
     have p455 : 0 ≤ (0 : Int) := (by omega)
     have q455 : 0 < (x1_1.length : Int) := ode_
     obtain ⟨ad455, e455, hx455_0⟩ := Kd.at_int (Kd.V_reads' HO_1.out).2.2 0 p455 q455
     cases e455
     have qi455 : (0 < x1_1.length) = True := eq_true (by omega)
     (try rw [show ((0 : Int)).toNat = 0 from rfl] at hx455_0)
     (try rw [Addr.add_zero'] at hx455_0)
     replace p455 := eq_true p455
     replace q455 := eq_true q455
     have q84 : (1 : Int) ≤ ((x1_1.length : Int) : Int) := ode_
     obtain ⟨i084, hi084, _, hsz84, _⟩ := info_parts info5
     have hroom84 : x1_1.length ≤ co83 := (Kd.V_reads' HO_1.out).2.1
     have hC84 : Kd.F (Kd.int .u8) _ _ (some ad455) x1_1.length x1_1 := (Kd.V_at (base := w.heap.size) HO_1.out).2.2
     have hcut84 := cut_from (P := Tryz.prog) 27 5 .i64 Tryz.underlying27 hi084 1 hsz84 (some ad455) x1_1.length co83 1 (by omega) q84
     have hr84 := Kd.F_cut (m := (1 : Int).toNat) (c := co83) hC84 (by omega) hroom84
     obtain ⟨A84, hA84⟩ : ∃ A1, A1 = (if co83 = (1 : Int).toNat then (some ad455) else ((some ad455) : Option Addr).map (·.add ((1 : Int).toNat * 1))) := ⟨_, rfl⟩
     obtain ⟨c84, hc84⟩ : ∃ c1, c1 = co83 - (1 : Int).toNat := ⟨_, rfl⟩
     have hy84 : y456.length = x1_1.length - (1 : Int).toNat := (by rw [Ny456.out, List.length_drop] <;> omega)
     rw [show (x1_1).drop (1 : Int).toNat = y456 from Ny456.out.symm] at hr84
     replace hr84 : Kd.F (Kd.int .u8) _ _ A84 y456.length y456 := (by rw [hA84]; exact hr84)
     rw [← hy84, ← hA84, ← hc84] at hcut84
     have HO460 := Aside0.mk (show Kd.V (Kd.int .u8) 5 _ w.heap.size _ (.slice A84 y456.length c84) y456 from Kd.V_mk (by rw [hy84, hc84]; exact Nat.sub_le_sub_right hroom84 _) hr84)
     have HC460 := Aside0.mk (show y456.length ≤ c84 from by rw [hy84, hc84]; exact Nat.sub_le_sub_right hroom84 _)
     clear hr84 hC84 hroom84 hi084 hsz84 hc84
     have KY84 := Aside0.mk hy84
     have KA84 := Aside0.mk hA84
     clear hy84 hA84
     replace q84 := eq_true q84
     go_wp2_with (first | ((with_reducible refine qgc (f := 90) rfl ?_); refine gL_ (some 37) Tryz.func90 #[] ?_; (with_reducible refine (value_Null.calls  t461 t462 t463 t464 _ A19.out).mono ?_); rintro e w85 ⟨rfl, hb⟩; refine ⟨_, rfl, ?_⟩; replace HO_1 := VB_ HO_1 hb; replace HO_6 := RB_ HO_6 hb; replace HO460 := VB_ HO460 hb; replace BK449 := kB_ BK449 hb; replace BK453 := kB_ BK453 hb; replace HB := bS_ HB hb; clear hb) | ((with_reducible refine qgd (N := 10) rfl ?_); refine qB_ 10 #[.int .i64 0, .int .i64 0, .string (⟨#[]⟩ : ByteArray), .bool false] 63 ?_; intro gb465 hg w86 hbox hb; replace HO_1 := Aside0.mk (Kd.V_below (Kd.V_elderB (kV_ HO_1.out) gb465 (Nat.le_of_eq hg.symm)) hb); replace HO_6 := Aside0.mk (Kd.R_below (Kd.R_elderB (kR_ HO_6.out) gb465 (Nat.le_of_eq hg.symm)) hb); replace HO460 := Aside0.mk (Kd.V_below (Kd.V_elderB (kV_ HO460.out) gb465 (Nat.le_of_eq hg.symm)) hb); have BK465 := Aside0.mk (hbox); have GW465 := gE_ hg HB; have GE465 := gE_ hg HB; replace HB := bS_ HB hb; have NB449_465 := Aside0.mk ((by rw [hg]; exact Nat.ne_of_lt (blk_lt (g := gb449) (o := .cells #[.string a0_0, .slice (some ad452) l0_1.length c0_1] 59 (0, 0)) (bl_ BK449.out)) : gb449 ≠ gb465)); have NB465_449 := Aside0.mk ((by rw [hg]; exact Nat.ne_of_gt (blk_lt (g := gb449) (o := .cells #[.string a0_0, .slice (some ad452) l0_1.length c0_1] 59 (0, 0)) (bl_ BK449.out)) : gb465 ≠ gb449)); replace BK449 := kB_ BK449 hb; have NB453_465 := Aside0.mk ((by rw [hg]; exact Nat.ne_of_lt (blk_lt (g := gb453) (o := .cells #[.string ((rd_T118 l0_1 x17_1).f0), .int .i64 ((rd_T118 l0_1 x17_1).f1), .bool ((rd_T118 l0_1 x17_1).f2), .bool ((rd_T118 l0_1 x17_1).f3)] 118 (0, 0)) (bl_ BK453.out)) : gb453 ≠ gb465)); have NB465_453 := Aside0.mk ((by rw [hg]; exact Nat.ne_of_gt (blk_lt (g := gb453) (o := .cells #[.string ((rd_T118 l0_1 x17_1).f0), .int .i64 ((rd_T118 l0_1 x17_1).f1), .bool ((rd_T118 l0_1 x17_1).f2), .bool ((rd_T118 l0_1 x17_1).f3)] 118 (0, 0)) (bl_ BK453.out)) : gb465 ≠ gb453)); replace BK453 := kB_ BK453 hb; clear hb hbox hg; have hnb87 := NB465_449.out; have hnc87 := NB449_465.out; have hnb88 := NB465_453.out; have hnc88 := NB453_465.out; obtain ⟨hcz89_0, hcz89_1, hcz89_2, hcz89_3, hfz89_0, hfz89_1, hfz89_2, hfz89_3⟩ := zf4_ BK465) | ((with_reducible refine gate_builtin (b := .append) (xs := #[.tmp 61, .tmp 63]) rfl ?_); at_builtin; refine Kd.R_append k63 (w0 := w) w.heap.size rfl (.tmp 61) (.tmp 63) 64 63 (.agg #[(.int .i64 0), (.int .i64 0), (.string ⟨#[]⟩), (.bool false)]) 40 rfl Tryz.underlying64 info63 rfl (by decide) (by omega) u6 x6_1 (⟨t461, t462, t463, t464⟩ : S63) [.int .i64 t461, .int .i64 t462, .string t463, .bool t464] (fun k_ => (w.heap.size ≤ k_) ∧ k_ ≠ gb465) (fun _ => False) rfl (by first | (go_simp; done) | (go_simp; rfl)) ?aP (fun _ hk => hk.elim) (fun k_ hk => ⟨(Nat.le_trans (qbz (bw_ HB.out)) hk), Kd.freshB (g := gb465) (o := .cells #[.int .i64 t461, .int .i64 t462, .string t463, .bool t464] 63 (0, 0)) (bp_ BK465) k_ hk⟩) ?aO (bw_ HB.out) (qbz (bw_ HB.out)) (by have := LMc82.out; omega) ?_; (case aP => exact k63_mkM _ _ _ (⟨t461, t462, t463, t464⟩ : S63)); (case aO => exact (by (with_reducible repeat (first | apply Kd.R_alloc | apply Kd.R_drewN | apply Kd.R_drew)); exact Kd.R_mono (Kd.R_far (p := ⟨gb465, 3, none⟩) (Kd.R_far (p := ⟨gb465, 2, none⟩) (Kd.R_far (p := ⟨gb465, 1, none⟩) (Kd.R_far (p := ⟨gb465, 0, none⟩) (Kd.R_mono HO_6.out (fun k_ hk => (⟨hk, hk.2⟩ : _ ∧ k_ ≠ gb465))) (fun _ hk => hk.2) (.int .i64 t461)) (fun _ hk => hk.2) (.int .i64 t462)) (fun _ hk => hk.2) (.string t463)) (fun _ hk => hk.2) (.bool t464)) (fun _ hk => ⟨hk.1.1, hk.1.2⟩))); intro v483 w90 ho hb hg hat; rw [← Ny482.out] at ho; replace HO_1 := Aside0.mk (Kd.V_afterv (ok := (fun k_ => (P1_ k_ ∨ w.heap.size ≤ k_) ∧ k_ ≠ gb449 ∧ k_ ≠ gb453 ∧ k_ ≠ gb465)) (by (with_reducible repeat (first | apply Kd.V_alloc | apply Kd.V_drewN | apply Kd.V_drew)); exact Kd.V_mono (Kd.V_far (p := ⟨gb465, 3, none⟩) (Kd.V_far (p := ⟨gb465, 2, none⟩) (Kd.V_far (p := ⟨gb465, 1, none⟩) (Kd.V_far (p := ⟨gb465, 0, none⟩) (Kd.V_mono HO_1.out (fun k_ hk => (⟨hk, hk.2⟩ : _ ∧ k_ ≠ gb465))) (fun _ hk => hk.2) (.int .i64 t461)) (fun _ hk => hk.2) (.int .i64 t462)) (fun _ hk => hk.2) (.string t463)) (fun _ hk => hk.2) (.bool t464)) (fun _ hk => ⟨⟨hk.1.1.1, ⟨hk.1.1.2.2.1, ⟨hk.1.1.2.2.2, hk.1.2⟩⟩⟩, hk.1.1.2.1⟩)) hg hat); replace BK449 := Aside0.mk (blk_grown (g := gb449) (o := .cells #[.string a0_0, .slice (some ad452) l0_1.length c0_1] 59 (0, 0)) (bp_ BK449) hg (Kd.R_ne HO_6.out BK449.out (by decide))); replace BK453 := Aside0.mk (blk_grown (g := gb453) (o := .cells #[.string ((rd_T118 l0_1 x17_1).f0), .int .i64 ((rd_T118 l0_1 x17_1).f1), .bool ((rd_T118 l0_1 x17_1).f2), .bool ((rd_T118 l0_1 x17_1).f3)] 118 (0, 0)) (bp_ BK453) hg (Kd.R_ne HO_6.out BK453.out (by decide))); replace HO460 := Aside0.mk (Kd.V_afterv (ok := (fun k_ => (P1_ k_ ∨ w.heap.size ≤ k_) ∧ k_ ≠ gb449 ∧ k_ ≠ gb453 ∧ k_ ≠ gb465)) (by (with_reducible repeat (first | apply Kd.V_alloc | apply Kd.V_drewN | apply Kd.V_drew)); exact Kd.V_mono (Kd.V_far (p := ⟨gb465, 3, none⟩) (Kd.V_far (p := ⟨gb465, 2, none⟩) (Kd.V_far (p := ⟨gb465, 1, none⟩) (Kd.V_far (p := ⟨gb465, 0, none⟩) (Kd.V_mono HO460.out (fun k_ hk => (⟨hk, hk.2⟩ : _ ∧ k_ ≠ gb465))) (fun _ hk => hk.2) (.int .i64 t461)) (fun _ hk => hk.2) (.int .i64 t462)) (fun _ hk => hk.2) (.string t463)) (fun _ hk => hk.2) (.bool t464)) (fun _ hk => ⟨⟨hk.1.1.1, ⟨hk.1.1.2.2.1, ⟨hk.1.1.2.2.2, hk.1.2⟩⟩⟩, hk.1.1.2.1⟩)) hg hat); replace BK465 := Aside0.mk (blk_grown (g := gb465) (o := .cells #[.int .i64 t461, .int .i64 t462, .string t463, .bool t464] 63 (0, 0)) (bp_ BK465) hg (Kd.R_away HO_6.out (fun _ hk => hk.2))); replace HB := Aside0.mk (hb); have HO484 := Aside0.mk (ho); clear HO_6 ho hb hg hat))
     go_roundg kj7
     case measure => have := HK1.out; have := HJ7.out; omega
     case rel => exact ⟨(y456), (y482), (wrap64 (x17_1 + 1)), fe_, H', ⟨by have := HK1.out; have := HJ7.out; omega⟩, ⟨by (with_reducible repeat (first | apply Kd.V_alloc | apply Kd.V_drewN | apply Kd.V_drew)); exact Kd.V_mono HO460.out (fun _ hk => ⟨hk.1.1, ⟨hk.2, hk.1.2.1⟩⟩)⟩, ⟨by (with_reducible repeat (first | apply Kd.R_alloc | apply Kd.R_drewN | apply Kd.R_drew)); exact Kd.R_mono HO484.out (fun _ hk => hk.1)⟩, ⟨bp_ BK449⟩, ⟨bw_ HB.out⟩⟩
   rw [if_neg c5] at H
   have c5b0 := dcF c5
   clear c5
   by_cases c91 : (x1_1.length : Int) > 0
   ·rw [if_pos c91] at H
    have c91b0 : decide (0 < (x1_1.length : Int)) = true := decide_eq_true c91
    have c91b1 : decide (0 < x1_1.length) = true := decide_eq_true (by omega)
    clear c91
    obtain ⟨rfl, rfl⟩ := so2 H
    obtain ⟨Ao92, co92, eo92⟩ := Kd.V_slice HO_1.out
    subst eo92
    go_wp2
    go_ret2
    exact ⟨_, fr_, by first | exact Kd.R_nil _ _ _ _ _ | exact Kd.N_nil _ _ _ _ _ | exact Kd.V_nil _ _ _ _ _ | exact Kd.Q_nil _ _ _ _ _ | exact Kd.S_nil _ _ _ _ _, bw_ HB.out⟩
   rw [if_neg c91] at H
   have c91b0 : decide (0 < (x1_1.length : Int)) = false := decide_eq_false c91
   have c91b1 : decide (0 < x1_1.length) = false := decide_eq_false (by omega)
   clear c91
   obtain ⟨t450, A93, H⟩ := bn_ H; (try dsimp only at H)
   rcases t450 with _ | q451
   ·have H1 : (some (x6_1, none)) = some (r1, r2) := by rw [if_pos (show (none : Option Int).isNone = true by rfl)] at H; exact H
    clear H
    have H := H1
    clear H1
    try simp only [errW_none, errW_some]
    obtain ⟨rfl, rfl⟩ := so2 H
    obtain ⟨Ao94, co94, eo94⟩ := Kd.V_slice HO_1.out
    subst eo94
    obtain ⟨hcz95_0, hcz95_1, hfz95_0, hfz95_1⟩ := zf2_ BK449
    obtain ⟨Ao96, co96, eo96⟩ := Kd.R_slice HO_6.out
    subst eo96
    go_wp2_with (first | (go_at_call 74; (with_reducible refine (row_Check.calls k1 a0_0 _ _ l0_1 _ _ x6_1 none _ ?side1 ?side2 ?side3 ?side4 A93.out).mono ?_); (case side1 => exact kC_ (Kd.C_below HR0_1.out HB.out)); (case side2 => exact HC0_1.out); (case side3 => exact kC_ ((Kd.R_reads' HO_6.out).2.2)); (case side4 => exact (Kd.R_reads' HO_6.out).2.1); rintro e w97 ⟨rfl, hb⟩; replace HO_1 := VB_ HO_1 hb; replace HO_6 := RB_ HO_6 hb; replace BK449 := kB_ BK449 hb; replace HB := bS_ HB hb; clear hb; (try simp only [errW_none, errW_some])))
    go_ret2
    exact ⟨_, fr_, by (with_reducible repeat (first | apply Kd.R_alloc | apply Kd.R_drewN | apply Kd.R_drew)); exact HO_6.out, bw_ HB.out⟩
   have H1 : (some (([] : List (S63)), some 3)) = some (r1, r2) := by rw [if_neg (show ¬ (some q451).isNone = true by simp)] at H; exact H
   clear H
   have H := H1
   clear H1
   try simp only [errW_none, errW_some]
   obtain ⟨rfl, rfl⟩ := so2 H
   obtain ⟨Ao98, co98, eo98⟩ := Kd.V_slice HO_1.out
   subst eo98
   obtain ⟨hcz99_0, hcz99_1, hfz99_0, hfz99_1⟩ := zf2_ BK449
   obtain ⟨Ao100, co100, eo100⟩ := Kd.R_slice HO_6.out
   subst eo100
   go_wp2_with (first | (go_at_call 74; (with_reducible refine (row_Check.calls k1 a0_0 _ _ l0_1 _ _ x6_1 (some q451) _ ?side1 ?side2 ?side3 ?side4 A93.out).mono ?_); (case side1 => exact kC_ (Kd.C_below HR0_1.out HB.out)); (case side2 => exact HC0_1.out); (case side3 => exact kC_ ((Kd.R_reads' HO_6.out).2.2)); (case side4 => exact (Kd.R_reads' HO_6.out).2.1); rintro e w101 ⟨rfl, hb⟩; replace HO_1 := VB_ HO_1 hb; replace HO_6 := RB_ HO_6 hb; replace BK449 := kB_ BK449 hb; replace HB := bS_ HB hb; clear hb; (try simp only [errW_none, errW_some])))
   go_ret2
   exact ⟨_, fr_, by first | exact Kd.R_nil _ _ _ _ _ | exact Kd.N_nil _ _ _ _ _ | exact Kd.V_nil _ _ _ _ _ | exact Kd.Q_nil _ _ _ _ _ | exact Kd.S_nil _ _ _ _ _, bw_ HB.out⟩

/-- A state of type 80 at block g of W; what its slices lead to came in by w0. -/
def IsS80 (w0 W : World) (g : Nat) (f0 : List Int) (f1 : Bool) : Prop := ∃ A0 c0, W.heap[g]? = some (.cells #[.slice A0 f0.length c0, .bool f1] 80 (0, 0)) ∧ w0.heap.size ≤ g ∧ Kd.C (Kd.int .u8) w0 A0 f0.length f0
theorem IsS80.grown {w0 W : World} {g : Nat} {f0 : List Int} {f1 : Bool} {W1 : World} {row : Option Nat} (h : IsS80 w0 W g f0 f1) (hw : W.grownBy W1 row) (hne : some g ≠ row) : IsS80 w0 W1 g f0 f1 := by
 obtain ⟨A0, c0, hb, hg, hr0⟩ := h
 exact ⟨A0, c0, blk_grown hb hw hne, hg, hr0⟩
theorem IsS80.below {w0 W : World} {g : Nat} {f0 : List Int} {f1 : Bool} {W1 : World} (h : IsS80 w0 W g f0 f1) (hw : Below W.heap.size W W1) : IsS80 w0 W1 g f0 f1 := h.grown (grown_of_below hw none) (by simp)
theorem IsS80.apart {w0 W : World} {g : Nat} {f0 : List Int} {f1 : Bool} {α : Type} {d : Kd α} {e : Nat} {base : Nat} {ok : Nat → Prop} {v : Value} {xs : List α} (h : IsS80 w0 W g f0 f1) (ho : d.R e W base ok v xs) (ht : ∀ q, q ∈ e :: d.E → q ≠ 80) : d.R e W base (fun k => ok k ∧ k ≠ g) v xs := by
 obtain ⟨A0, c0, hb, hg, hr0⟩ := h
 exact Kd.R_types ho hb ht
theorem IsS80.own_ne {w0 W : World} {g : Nat} {f0 : List Int} {f1 : Bool} {α : Type} {d : Kd α} {e : Nat} {base : Nat} {ok : Nat → Prop} {v : Value} {xs : List α} (h : IsS80 w0 W g f0 f1) (ho : d.R e W base ok v xs) (ht : e ≠ 80) : some g ≠ v.ownBlock := by
 obtain ⟨A0, c0, hb, hg, hr0⟩ := h
 exact Kd.R_ne ho hb ht
theorem IsS80.far {w0 W : World} {g : Nat} {f0 : List Int} {f1 : Bool} {p : Addr} (h : IsS80 w0 W g f0 f1) (hne : g ≠ p.block) (u : Value) : IsS80 w0 (W.setCell p u) g f0 f1 := by
 obtain ⟨A0, c0, hb, hg, hr0⟩ := h
 exact ⟨A0, c0, qkr hb hne u, hg, hr0⟩
theorem IsS80.new (w0 W : World) (A0 : Option Addr) (c0 : Nat) (f0 : List Int) (f1 : Bool) (hB : Below w0.heap.size w0 W) (hr0 : Kd.C (Kd.int .u8) w0 A0 f0.length f0) : IsS80 w0 (W.alloc (.cells #[.slice A0 f0.length c0, .bool f1] 80)) W.heap.size f0 f1 := ⟨A0, c0, by simpa using heap_alloc_new W _, hB.size, hr0⟩

/-! ### store_reader_done: function 32 -/

/-! ### EXT barbicanlaw26_num: function 12 -/
def barbicanlaw26_num.f (a0 : Option Int) : Option Int := some (a0.getD 0)
theorem barbicanlaw26_num.calls (a0 : Option Int) (r : Int) (w : World) (hG : GW w) (h : barbicanlaw26_num.f a0 = some r) :
  Calls Tryz.prog 12 #[errW a0] w fun e w' => e = .returned (.int .i64 r) ∧ Below w.heap.size w w' := by
 obtain rfl := Option.some.inj h
 have hu := Tryz.underlying65
 have hu2 := Tryz.underlying32
 cases a0 with
 | none =>
  simp only [errW_none]
  go_enter Tryz.func12, Tryz.ntmps12
  go_wp2
  go_ret
  exact ⟨rfl, below_alloc (Below.refl _ _) _⟩
 | some c =>
  simp only [errW_some]
  have hg : (w.alloc (.cells #[.int .i64 0] 65)).cell? ⟨0, 0, none⟩ = some (.iface 158 (.agg #[.pointer (some ⟨2, 32, none⟩)])) := by
   rw [World.cell?_alloc_lt _ _ ⟨0, 0, none⟩ (World.block_lt_of_cell? w _ hG.e)]; exact hG.e
  have C := fun ht hf => as_hit c ⟨w.heap.size, 0, none⟩ (.int .i64 0) (w.alloc (.cells #[.int .i64 0] 65)) hg ht hf
  go_enter Tryz.func12, Tryz.ntmps12
  go_wp2_with (go_at_call 37; refine (C (by simp) (by simp)).mono ?_; rintro e w' ⟨rfl, rfl⟩)
  go_ret
  refine ⟨rfl, ?_⟩
  repeat (first | exact Below.refl _ _ | apply below_alloc | refine Below.setCell ?_ (Nat.le_refl _) _)

end Go.Proofs.YtddkbhglbkfelaaGreatDoor.T
