import Derived.Test.YtddkbhglbkfelaaGreatDoorPkTx0
import Derived.Test.YtddkbhglbkfelaaGreatDoorPkTx5
import Derived.Test.YtddkbhglbkfelaaGreatDoorPkTx9
namespace Go.Proofs.YtddkbhglbkfelaaGreatDoor.T
open Go.RowKit Go.Proofs.YtddkbhglbkfelaaGreatDoorW.PrintWords Go.Proofs.YtddkbhglbkfelaaGreatDoorW.PrintLast Go.Proofs.YtddkbhglbkfelaaGreatDoorW.PrintMore Go.Proofs.YtddkbhglbkfelaaGreatDoorX
attribute [local go_sem] max2_int min2_int max_two min_two max_three min_three max_four min_four
set_option linter.unusedVariables false
set_option linter.unusedSimpArgs false

/-! ### row_Keys: function 73 -/
def row_Keys.l0 : Nat → List Int → List (S118) → Int → Int → Option (List Int)
 | 0, _, _, _, _ => none
 | k + 1, x3, x7, x8, x9 => if x9 < x8 then (if 0 ≤ x9 then (if x9 < (x7.length : Int) then (if (rd_T118 x7 x9).f2 = true then (if x3.length < 17592186044416 then (row_Keys.l0 k (x3 ++ [x9]) x7 x8 (wrap64 (x9 + 1))) else (none)) else (row_Keys.l0 k x3 x7 x8 (wrap64 (x9 + 1)))) else (none)) else (none)) else (some x3)
def row_Keys.f (k : Nat) (a0_0 : ByteArray) (l0_1 : List (S118)) : Option (List Int) := row_Keys.l0 k ([] : List Int) l0_1 (l0_1.length : Int) 0
set_option maxHeartbeats 8000000 in
set_option maxRecDepth 100000 in
theorem row_Keys.calls (k : Nat) (a0_0 : ByteArray) (A0_1 : Option Addr) (c0_1 : Nat) (l0_1 : List (S118)) (r : List Int) (w : World) (hr0_1 : Kd.C k118 w A0_1 l0_1.length l0_1) (hc0_1 : l0_1.length ≤ c0_1) (h : row_Keys.f k a0_0 l0_1 = some r) :
  Calls Tryz.prog 73 #[.agg #[.string a0_0, .slice A0_1 l0_1.length c0_1]] w fun e w' => ∃ v0_ : Value, e = .returned (v0_) ∧ Kd.R (Kd.int .i64) 3 w' w.heap.size (fun _ => True) v0_ r ∧ Below w.heap.size w w' := by
 have hu59 := Tryz.underlying59
 have hu118 := Tryz.underlying118
 have HR0_1 := Aside0.mk hr0_1
 have HC0_1 := Aside0.mk hc0_1
 clear hr0_1 hc0_1
 have HB := Aside0.mk (Below.refl w.heap.size w)
 have H : (row_Keys.l0 k ([] : List Int) l0_1 (l0_1.length : Int) 0) = some r := h
 clear h
 have H' := Aside0.mk H
 clear H
 go_enter Tryz.func73, Tryz.ntmps73
 go_wp2_with (first | ((with_reducible refine qgd (N := 1) rfl ?_); refine qB_ 1 #[.string a0_0, .slice A0_1 l0_1.length c0_1] 59 ?_; intro gb283 hg w2 hbox hb; have BK283 := Aside0.mk (hbox); have GW283 := gE_ hg HB; have GE283 := gE_ hg HB; replace HB := bS_ HB hb; clear hb hbox hg; obtain ⟨hcz3_0, hcz3_1, hfz3_0, hfz3_1⟩ := zf2_ BK283))
 go_loopg [3, 9] k (fun kq v3 v9 w' => ∃ (x3_1 : List Int) (x9_1 : Int), v9 = .int .i64 x9_1 ∧ Aside0 (row_Keys.l0 kq x3_1 l0_1 (l0_1.length : Int) x9_1 = some r) ∧ Aside0 (kq ≤ k) ∧ Aside0 (Kd.R (Kd.int .i64) 3 w' w.heap.size (fun _ => True) v3 x3_1) ∧ Aside0 (w'.heap[gb283]? = some (.cells #[.string a0_0, (.slice A0_1 l0_1.length c0_1)] 59 (0, 0))) ∧ Aside0 (Below w.heap.size w w'))
 case atStart => exact ⟨(([] : List Int)), (0), fe_, H', ⟨Nat.le_refl _⟩, ⟨by first | exact Kd.R_nil _ _ _ _ _ | exact Kd.N_nil _ _ _ _ _ | exact Kd.V_nil _ _ _ _ _ | exact Kd.Q_nil _ _ _ _ _ | exact Kd.S_nil _ _ _ _ _⟩, ⟨bp_ BK283⟩, ⟨bw_ HB.out⟩⟩
 case round =>
  clear H'
  (try clear hcz3_0); (try clear hcz3_1); (try clear hfz3_0); (try clear hfz3_1)
  obtain ⟨x3_1, x9_1, rfl, HA, HK1, HO_3, BK283, HB⟩ := hrel
  cases gk with
  | zero => exact absurd HA.out (by simp [row_Keys.l0])
  | succ k1 =>
   have H := HA.out
   clear HA
   simp only [row_Keys.l0] at H
   by_cases c4 : x9_1 < (l0_1.length : Int)
   ·rw [if_pos c4] at H
    have c4b0 := dcT c4
    clear c4
    have c5 : 0 ≤ x9_1 := Classical.byContradiction fun c5 => by rw [if_neg c5] at H; exact absurd H (by simp)
    rw [if_pos c5] at H
    have c5b0 := dcT c5
    clear c5
    have c6 : x9_1 < (l0_1.length : Int) := Classical.byContradiction fun c6 => by rw [if_neg c6] at H; exact absurd H (by simp)
    rw [if_pos c6] at H
    have c6b0 := dcT c6
    clear c6
    obtain ⟨bq7, hbq7⟩ : ∃ b_ : Bool, b_ = ((rd_T118 l0_1 x9_1).f2) := ⟨_, rfl⟩
    replace H : (if bq7 = true then (if x3_1.length < 17592186044416 then (row_Keys.l0 k1 (x3_1 ++ [x9_1]) l0_1 (l0_1.length : Int) (wrap64 (x9_1 + 1))) else (none)) else (row_Keys.l0 k1 x3_1 l0_1 (l0_1.length : Int) (wrap64 (x9_1 + 1)))) = some r := by rw [← hbq7] at H; exact H
    have Nbq7 := Aside0.mk hbq7
    clear hbq7
    by_cases c8 : bq7 = true
    ·subst c8
     rw [if_pos rfl] at H
     have c9 : x3_1.length < 17592186044416 := Classical.byContradiction fun c9 => by rw [if_neg c9] at H; exact absurd H (by simp)
     rw [if_pos c9] at H
     have LMc9 := Aside0.mk c9
     clear c9
     first | (revert H; with_reducible refine nm_ fun y286 hy286 H => ?_) | (generalize hy286 : (x3_1 ++ [x9_1] : List Int) = y286 at H; replace hy286 := hy286.symm)
     have Ny286 := Aside0.mk hy286; clear hy286
     have H' := Aside0.mk H
     clear H
     have p284 : 0 ≤ (x9_1 : Int) := ode_
     have q284 : x9_1 < (l0_1.length : Int) := ode_
     obtain ⟨ad284, e284, hx284_0, hx284_1, hx284_2, hx284_3⟩ := at_T118 HR0_1.out x9_1 p284 q284
     (try rw [← Nbq7.out] at hx284_2)
     (try rw [← Nbq7.out] at hx284_3)
     cases e284
     replace hx284_0 := hc_ HB hx284_0
     replace hx284_1 := hc_ HB hx284_1
     replace hx284_2 := hc_ HB hx284_2
     replace hx284_3 := hc_ HB hx284_3
     replace p284 := eq_true p284
     replace q284 := eq_true q284
     go_wp2_with (first | ((with_reducible refine qgd (N := 5) rfl ?_); refine qB_ 5 #[.string (⟨#[]⟩ : ByteArray), .int .i64 0, .bool false, .bool false] 118 ?_; intro gb285 hg w10 hbox hb; replace HO_3 := RB_ HO_3 hb; have BK285 := Aside0.mk (hbox); have GW285 := gE_ hg HB; have GE285 := gE_ hg HB; replace HB := bS_ HB hb; have NB283_285 := Aside0.mk ((by rw [hg]; exact Nat.ne_of_lt (blk_lt (g := gb283) (o := .cells #[.string a0_0, .slice (some ad284) l0_1.length c0_1] 59 (0, 0)) (bl_ BK283.out)) : gb283 ≠ gb285)); have NB285_283 := Aside0.mk ((by rw [hg]; exact Nat.ne_of_gt (blk_lt (g := gb283) (o := .cells #[.string a0_0, .slice (some ad284) l0_1.length c0_1] 59 (0, 0)) (bl_ BK283.out)) : gb285 ≠ gb283)); replace BK283 := kB_ BK283 hb; clear hb hbox hg; have hnb11 := NB285_283.out; have hnc11 := NB283_285.out; obtain ⟨hcz12_0, hcz12_1, hcz12_2, hcz12_3, hfz12_0, hfz12_1, hfz12_2, hfz12_3⟩ := zf4_ BK285) | ((with_reducible refine gate_builtin (b := .append) (xs := #[.tmp 16, .tmp 18]) rfl ?_); at_builtin; refine Kd.R_append (Kd.int .i64) (w0 := w) w.heap.size rfl (.tmp 16) (.tmp 18) 23 3 (.int .i64 0) 8 rfl Tryz.underlying23 info3 rfl (by decide) (by omega) u3 x3_1 x9_1 [.int .i64 x9_1] (fun _ => True) (fun _ => False) rfl (by first | (go_simp; done) | (go_simp; rfl)) ?aP (fun _ hk => hk.elim) (fun _ _ => trivial) ?aO (bw_ HB.out) (qbz (bw_ HB.out)) (by have := LMc9.out; omega) ?_; (case aP => exact rfl); (case aO => exact (by (with_reducible repeat (first | apply Kd.R_alloc | apply Kd.R_drewN | apply Kd.R_drew)); exact Kd.R_mono (Kd.R_far (p := ⟨gb285, 3, none⟩) (Kd.R_far (p := ⟨gb285, 2, none⟩) (Kd.R_far (p := ⟨gb285, 1, none⟩) (Kd.R_far (p := ⟨gb285, 0, none⟩) (Kd.R_types HO_3.out BK285.out (by decide)) (fun _ hk => hk.2) (.string ((rd_T118 l0_1 x9_1).f0))) (fun _ hk => hk.2) (.int .i64 ((rd_T118 l0_1 x9_1).f1))) (fun _ hk => hk.2) (.bool true)) (fun _ hk => hk.2) (.bool ((rd_T118 l0_1 x9_1).f3))) (fun _ hk => trivial))); intro v287 w13 ho hb hg hat; rw [← Ny286.out] at ho; replace BK283 := Aside0.mk (blk_grown (g := gb283) (o := .cells #[.string a0_0, .slice (some ad284) l0_1.length c0_1] 59 (0, 0)) (bp_ BK283) hg (Kd.R_ne HO_3.out BK283.out (by decide))); replace BK285 := Aside0.mk (blk_grown (g := gb285) (o := .cells #[.string ((rd_T118 l0_1 x9_1).f0), .int .i64 ((rd_T118 l0_1 x9_1).f1), .bool true, .bool ((rd_T118 l0_1 x9_1).f3)] 118 (0, 0)) (bp_ BK285) hg (Kd.R_ne HO_3.out BK285.out (by decide))); replace HB := Aside0.mk (hb); have HO288 := Aside0.mk (ho); clear HO_3 ho hb hg hat))
     go_roundg k1
     case measure => have := HK1.out; omega
     case rel => (try rw [← Nbq7.out]); exact ⟨(y286), (wrap64 (x9_1 + 1)), fe_, H', ⟨by have := HK1.out; omega⟩, ⟨by (with_reducible repeat (first | apply Kd.R_alloc | apply Kd.R_drewN | apply Kd.R_drew)); exact HO288.out⟩, ⟨bp_ BK283⟩, ⟨bw_ HB.out⟩⟩
    replace c8 := Bool.eq_false_iff.mpr c8
    subst c8
    rw [if_neg (show ¬ (false = true) by decide)] at H
    have H' := Aside0.mk H
    clear H
    have p284 : 0 ≤ (x9_1 : Int) := ode_
    have q284 : x9_1 < (l0_1.length : Int) := ode_
    obtain ⟨ad284, e284, hx284_0, hx284_1, hx284_2, hx284_3⟩ := at_T118 HR0_1.out x9_1 p284 q284
    (try rw [← Nbq7.out] at hx284_2)
    (try rw [← Nbq7.out] at hx284_3)
    cases e284
    replace hx284_0 := hc_ HB hx284_0
    replace hx284_1 := hc_ HB hx284_1
    replace hx284_2 := hc_ HB hx284_2
    replace hx284_3 := hc_ HB hx284_3
    replace p284 := eq_true p284
    replace q284 := eq_true q284
    go_wp2_with (first | ((with_reducible refine qgd (N := 5) rfl ?_); refine qB_ 5 #[.string (⟨#[]⟩ : ByteArray), .int .i64 0, .bool false, .bool false] 118 ?_; intro gb285 hg w14 hbox hb; replace HO_3 := RB_ HO_3 hb; have BK285 := Aside0.mk (hbox); have GW285 := gE_ hg HB; have GE285 := gE_ hg HB; replace HB := bS_ HB hb; have NB283_285 := Aside0.mk ((by rw [hg]; exact Nat.ne_of_lt (blk_lt (g := gb283) (o := .cells #[.string a0_0, .slice (some ad284) l0_1.length c0_1] 59 (0, 0)) (bl_ BK283.out)) : gb283 ≠ gb285)); have NB285_283 := Aside0.mk ((by rw [hg]; exact Nat.ne_of_gt (blk_lt (g := gb283) (o := .cells #[.string a0_0, .slice (some ad284) l0_1.length c0_1] 59 (0, 0)) (bl_ BK283.out)) : gb285 ≠ gb283)); replace BK283 := kB_ BK283 hb; clear hb hbox hg; have hnb15 := NB285_283.out; have hnc15 := NB283_285.out; obtain ⟨hcz16_0, hcz16_1, hcz16_2, hcz16_3, hfz16_0, hfz16_1, hfz16_2, hfz16_3⟩ := zf4_ BK285))
    go_roundg k1
    case measure => have := HK1.out; omega
    case rel => (try rw [← Nbq7.out]); exact ⟨(x3_1), (wrap64 (x9_1 + 1)), fe_, H', ⟨by have := HK1.out; omega⟩, ⟨by (with_reducible repeat (first | apply Kd.R_alloc | apply Kd.R_drewN | apply Kd.R_drew)); exact Kd.R_mono (Kd.R_far (p := ⟨gb285, 3, none⟩) (Kd.R_far (p := ⟨gb285, 2, none⟩) (Kd.R_far (p := ⟨gb285, 1, none⟩) (Kd.R_far (p := ⟨gb285, 0, none⟩) (Kd.R_types HO_3.out BK285.out (by decide)) (fun _ hk => hk.2) (.string ((rd_T118 l0_1 x9_1).f0))) (fun _ hk => hk.2) (.int .i64 ((rd_T118 l0_1 x9_1).f1))) (fun _ hk => hk.2) (.bool false)) (fun _ hk => hk.2) (.bool ((rd_T118 l0_1 x9_1).f3))) (fun _ hk => trivial)⟩, ⟨bp_ BK283⟩, ⟨bw_ HB.out⟩⟩
   rw [if_neg c4] at H
   have c4b0 := dcF c4
   clear c4
   obtain rfl := Option.some.inj H
   go_wp2
   go_ret
   exact ⟨_, fr_, by (with_reducible repeat (first | apply Kd.R_alloc | apply Kd.R_drewN | apply Kd.R_drew)); exact HO_3.out, bw_ HB.out⟩

/-! ### row_KeyOf: function 47 -/
def row_KeyOf.l0 : Nat → List (S63) → List Int → Int → Int → ByteArray → List (S118) → Option (ByteArray × Option Int)
 | 0, _, _, _, _, _, _ => none
 | k + 1, x1, x18, x19, x20, x290000, x290001 => if x20 < x19 then (if 0 ≤ x20 then (if x20 < (x18.length : Int) then (if x20 < (x1.length : Int) then ((value_Valid.f k ((rd_T63 x1 x20).f0) ((rd_T63 x1 x20).f1) ((rd_T63 x1 x20).f2) ((rd_T63 x1 x20).f3)).bind fun t297 => (if t297.isNone = true then (if 0 ≤ (rd x18 x20) then (if (rd x18 x20) < (x290001.length : Int) then (if ((rd_T63 x1 x20).f0) = ((rd_T118 x290001 (rd x18 x20)).f1) then (if ((rd_T63 x1 x20).f0) = 0 then (some ((⟨#[]⟩ : ByteArray), some 7)) else (row_KeyOf.l0 k x1 x18 x19 (wrap64 (x20 + 1)) x290000 x290001)) else (some ((⟨#[]⟩ : ByteArray), some 7))) else (none)) else (none)) else (some ((⟨#[]⟩ : ByteArray), some (t297.getD 0))))) else (none)) else (none)) else (none)) else ((order_Encode.f k x1).bind fun bt293 => (some (bt293.1, bt293.2)))
def row_KeyOf.f (k : Nat) (a0_0 : ByteArray) (l0_1 : List (S118)) (l1 : List (S63)) : Option (ByteArray × Option Int) := (row_Keys.f k a0_0 l0_1).bind fun t290 => (if (l1.length : Int) = (t290.length : Int) then (row_KeyOf.l0 k l1 t290 (t290.length : Int) 0 a0_0 l0_1) else (some ((⟨#[]⟩ : ByteArray), some 1)))
set_option maxHeartbeats 8000000 in
set_option maxRecDepth 100000 in
theorem row_KeyOf.calls (k : Nat) (a0_0 : ByteArray) (A0_1 : Option Addr) (c0_1 : Nat) (l0_1 : List (S118)) (A1 : Option Addr) (c1 : Nat) (l1 : List (S63)) (r1 : ByteArray) (r2 : Option Int) (w : World) (hr0_1 : Kd.C k118 w A0_1 l0_1.length l0_1) (hc0_1 : l0_1.length ≤ c0_1) (hr1 : Kd.C k63 w A1 l1.length l1) (hc1 : l1.length ≤ c1) (h : row_KeyOf.f k a0_0 l0_1 l1 = some (r1, r2)) :
  Calls Tryz.prog 47 #[.agg #[.string a0_0, .slice A0_1 l0_1.length c0_1], .slice A1 l1.length c1] w fun e w' => e = .returned (.tuple #[.string r1, errW r2]) ∧ Below w.heap.size w w' := by
 have hu59 := Tryz.underlying59
 have hu63 := Tryz.underlying63
 have hu32 := Tryz.underlying32
 have hu65 := Tryz.underlying65
 have HR0_1 := Aside0.mk hr0_1
 have HC0_1 := Aside0.mk hc0_1
 clear hr0_1 hc0_1
 have HR1 := Aside0.mk hr1
 have HC1 := Aside0.mk hc1
 clear hr1 hc1
 have HB := Aside0.mk (Below.refl w.heap.size w)
 have H : ((row_Keys.f k a0_0 l0_1).bind fun t290 => (if (l1.length : Int) = (t290.length : Int) then (row_KeyOf.l0 k l1 t290 (t290.length : Int) 0 a0_0 l0_1) else (some ((⟨#[]⟩ : ByteArray), some 1)))) = some (r1, r2) := h
 clear h
 obtain ⟨t290, A3, H⟩ := bn_ H; (try dsimp only at H)
 by_cases c4 : (l1.length : Int) = (t290.length : Int)
 ·rw [if_pos c4] at H
  have ⟨c4b0, c4b1⟩ := eqT c4
  have c4b2 : (l1.length == t290.length) = true := by first | simpa using c4 | (simp at c4 ⊢; omega)
  clear c4
  have H' := Aside0.mk H
  clear H
  go_enter Tryz.func47, Tryz.ntmps47
  go_wp2_with (first | ((with_reducible refine qgd (N := 2) rfl ?_); refine qB_ 2 #[.string a0_0, .slice A0_1 l0_1.length c0_1] 59 ?_; intro gb289 hg w5 hbox hb; have BK289 := Aside0.mk (hbox); have GW289 := gE_ hg HB; have GE289 := gE_ hg HB; replace HB := bS_ HB hb; clear hb hbox hg; obtain ⟨hcz6_0, hcz6_1, hfz6_0, hfz6_1⟩ := zf2_ BK289) | (go_at_call 73; (with_reducible refine (row_Keys.calls k a0_0 _ _ l0_1 t290 _ ?side1 ?side2 A3.out).mono ?_); (case side1 => exact kC_ (Kd.C_below HR0_1.out HB.out)); (case side2 => exact HC0_1.out); rintro e w7 ⟨v291, rfl, ho0, hb⟩; have HO292 := Rl_ ho0 HB; replace BK289 := kB_ BK289 hb; replace HB := bS_ HB hb; clear hb; (try clear ho0); obtain ⟨Ao8, co8, eo8⟩ := Kd.R_slice HO292.out; subst eo8))
  repeat (go_quiet (first | ((with_reducible refine qgd (N := 2) rfl ?_); refine qbe ?hg (N := 2) ?hd (cs := #[.string a0_0, .slice A0_1 l0_1.length c0_1]) (t := 59) ?hr ?_; (case hd => rfl); (case hg => rfl); (case hr => first | (go_simp; done) | (go_simp; rfl)); intro gb289 hg w5 hbox hb; have n0_ := Aside0.mk (below_step (bw_ HB.out) hb); have n1_ := Aside0.mk (hbox); have n2_ := Aside0.mk ((by rw [hg]; exact (qbz (bw_ HB.out)) : w.heap.size ≤ gb289)); have n3_ := Aside0.mk ((by rw [hg]; exact (qbz (bw_ HB.out)) : w.heap.size ≤ gb289)); clear HB; have HB := n0_; have BK289 := n1_; have GW289 := n2_; have GE289 := n3_; clear n0_ n1_ n2_ n3_; clear hb hbox hg; have hcz6_0 : w5.cell? ⟨gb289, 0, none⟩ = some (.string a0_0) := (qkc BK289.out 0).trans rfl; have hcz6_1 : w5.cell? ⟨gb289, 1, none⟩ = some (.slice A0_1 l0_1.length c0_1) := (qkc BK289.out 1).trans rfl; have hfz6_0 := qkf BK289.out 0; have hfz6_1 := qkf BK289.out 1) | (go_at_call 73; (with_reducible refine (row_Keys.calls k a0_0 _ _ l0_1 t290 _ ?side1 ?side2 A3.out).mono ?_); (case side1 => repeat (first | exact (Kd.C_below HR0_1.out HB.out) | (with_reducible refine Kd.C_alloc ?_ _) | (with_reducible refine Kd.C_drewN ?_ _) | (with_reducible refine Kd.C_drew ?_))); (case side2 => exact HC0_1.out); rintro e w7 ⟨v291, rfl, ho0, hb⟩; have n0_ := Aside0.mk (Kd.R_lower ho0 (qbz (bw_ HB.out))); have n1_ := Aside0.mk (qkb (g := gb289) (o := .cells #[.string a0_0, .slice A0_1 l0_1.length c0_1] 59 (0, 0)) (bl_ BK289.out) hb); have n2_ := Aside0.mk (below_step (bw_ HB.out) hb); clear BK289; clear HB; have HO292 := n0_; have BK289 := n1_; have HB := n2_; clear n0_ n1_ n2_; (try clear hb); (try clear hb2); (try clear hk); (try clear hi); (try clear ho0); obtain ⟨Ao8, co8, eo8⟩ := Kd.R_slice HO292.out; subst eo8)); try go_wp2_with (first | ((with_reducible refine qgd (N := 2) rfl ?_); refine qbe ?hg (N := 2) ?hd (cs := #[.string a0_0, .slice A0_1 l0_1.length c0_1]) (t := 59) ?hr ?_; (case hd => rfl); (case hg => rfl); (case hr => first | (go_simp; done) | (go_simp; rfl)); intro gb289 hg w5 hbox hb; have n0_ := Aside0.mk (below_step (bw_ HB.out) hb); have n1_ := Aside0.mk (hbox); have n2_ := Aside0.mk ((by rw [hg]; exact (qbz (bw_ HB.out)) : w.heap.size ≤ gb289)); have n3_ := Aside0.mk ((by rw [hg]; exact (qbz (bw_ HB.out)) : w.heap.size ≤ gb289)); clear HB; have HB := n0_; have BK289 := n1_; have GW289 := n2_; have GE289 := n3_; clear n0_ n1_ n2_ n3_; clear hb hbox hg; have hcz6_0 : w5.cell? ⟨gb289, 0, none⟩ = some (.string a0_0) := (qkc BK289.out 0).trans rfl; have hcz6_1 : w5.cell? ⟨gb289, 1, none⟩ = some (.slice A0_1 l0_1.length c0_1) := (qkc BK289.out 1).trans rfl; have hfz6_0 := qkf BK289.out 0; have hfz6_1 := qkf BK289.out 1) | (go_at_call 73; (with_reducible refine (row_Keys.calls k a0_0 _ _ l0_1 t290 _ ?side1 ?side2 A3.out).mono ?_); (case side1 => repeat (first | exact (Kd.C_below HR0_1.out HB.out) | (with_reducible refine Kd.C_alloc ?_ _) | (with_reducible refine Kd.C_drewN ?_ _) | (with_reducible refine Kd.C_drew ?_))); (case side2 => exact HC0_1.out); rintro e w7 ⟨v291, rfl, ho0, hb⟩; have n0_ := Aside0.mk (Kd.R_lower ho0 (qbz (bw_ HB.out))); have n1_ := Aside0.mk (qkb (g := gb289) (o := .cells #[.string a0_0, .slice A0_1 l0_1.length c0_1] 59 (0, 0)) (bl_ BK289.out) hb); have n2_ := Aside0.mk (below_step (bw_ HB.out) hb); clear BK289; clear HB; have HO292 := n0_; have BK289 := n1_; have HB := n2_; clear n0_ n1_ n2_; (try clear hb); (try clear hb2); (try clear hk); (try clear hi); (try clear ho0); obtain ⟨Ao8, co8, eo8⟩ := Kd.R_slice HO292.out; subst eo8)))
  go_loopg [20] k (fun kq v20 w' => ∃ (x20_1 : Int), v20 = .int .i64 x20_1 ∧ Aside0 (row_KeyOf.l0 kq l1 t290 (t290.length : Int) x20_1 a0_0 l0_1 = some (r1, r2)) ∧ Aside0 (kq ≤ k) ∧ Aside0 (Kd.R (Kd.int .i64) 3 w' w.heap.size (fun _ => True) (.slice Ao8 t290.length co8) t290) ∧ Aside0 (w'.heap[gb289]? = some (.cells #[.string a0_0, (.slice A0_1 l0_1.length c0_1)] 59 (0, 0))) ∧ Aside0 (Below w.heap.size w w'))
  case atStart => exact ⟨(0), fe_, H', ⟨Nat.le_refl _⟩, ⟨by (with_reducible repeat (first | apply Kd.R_alloc | apply Kd.R_drewN | apply Kd.R_drew)); exact HO292.out⟩, ⟨bp_ BK289⟩, ⟨bw_ HB.out⟩⟩
  case round =>
   clear H'
   (try clear c1); (try clear c4); (try clear c4b0); (try clear c4b1); (try clear c4b2); (try clear hcz6_0); (try clear hcz6_1); (try clear hfz6_0); (try clear hfz6_1)
   obtain ⟨x20_1, rfl, HA, HK1, HO_18, BK289, HB⟩ := hrel
   cases gk with
   | zero => exact absurd HA.out (by simp [row_KeyOf.l0])
   | succ k1 =>
    have H := HA.out
    clear HA
    simp only [row_KeyOf.l0] at H
    by_cases c9 : x20_1 < (t290.length : Int)
    ·rw [if_pos c9] at H
     have c9b0 := dcT c9
     clear c9
     have c10 : 0 ≤ x20_1 := Classical.byContradiction fun c10 => by rw [if_neg c10] at H; exact absurd H (by simp)
     rw [if_pos c10] at H
     have c10b0 := dcT c10
     clear c10
     have c11 : x20_1 < (t290.length : Int) := Classical.byContradiction fun c11 => by rw [if_neg c11] at H; exact absurd H (by simp)
     rw [if_pos c11] at H
     have c11b0 := dcT c11
     clear c11
     have c12 : x20_1 < (l1.length : Int) := Classical.byContradiction fun c12 => by rw [if_neg c12] at H; exact absurd H (by simp)
     rw [if_pos c12] at H
     have c12b0 := dcT c12
     clear c12
     obtain ⟨t297, A13, H⟩ := bn_ H; (try dsimp only at H)
     rcases t297 with _ | q298
     ·have H1 : (if 0 ≤ (rd t290 x20_1) then (if (rd t290 x20_1) < (l0_1.length : Int) then (if ((rd_T63 l1 x20_1).f0) = ((rd_T118 l0_1 (rd t290 x20_1)).f1) then (if ((rd_T63 l1 x20_1).f0) = 0 then (some ((⟨#[]⟩ : ByteArray), some 7)) else (row_KeyOf.l0 k1 l1 t290 (t290.length : Int) (wrap64 (x20_1 + 1)) a0_0 l0_1)) else (some ((⟨#[]⟩ : ByteArray), some 7))) else (none)) else (none)) = some (r1, r2) := by rw [if_pos (show (none : Option Int).isNone = true by rfl)] at H; exact H
      clear H
      have H := H1
      clear H1
      try simp only [errW_none, errW_some]
      have c14 : 0 ≤ (rd t290 x20_1) := Classical.byContradiction fun c14 => by rw [if_neg c14] at H; exact absurd H (by simp)
      rw [if_pos c14] at H
      have c14b0 := dcT c14
      clear c14
      have c15 : (rd t290 x20_1) < (l0_1.length : Int) := Classical.byContradiction fun c15 => by rw [if_neg c15] at H; exact absurd H (by simp)
      rw [if_pos c15] at H
      have c15b0 := dcT c15
      clear c15
      by_cases c16 : ((rd_T63 l1 x20_1).f0) = ((rd_T118 l0_1 (rd t290 x20_1)).f1)
      ·rw [if_pos c16] at H
       have ⟨c16b0, c16b1⟩ := eqT c16
       clear c16
       by_cases c17 : ((rd_T63 l1 x20_1).f0) = 0
       ·rw [if_pos c17] at H
        have ⟨c17b0, c17b1⟩ := eqT c17
        clear c17
        obtain ⟨rfl, rfl⟩ := so2 H
        have p295 : 0 ≤ (x20_1 : Int) := ode_
        have q295 : x20_1 < (t290.length : Int) := ode_
        obtain ⟨ad295, e295, hx295_0⟩ := Kd.at_int (Kd.R_reads' HO_18.out).2.2 x20_1 p295 q295
        cases e295
        replace p295 := eq_true p295
        replace q295 := eq_true q295
        have p296 : 0 ≤ (x20_1 : Int) := ode_
        have q296 : x20_1 < (l1.length : Int) := ode_
        obtain ⟨ad296, e296, hx296_0, hx296_1, hx296_2, hx296_3⟩ := at_T63 HR1.out x20_1 p296 q296
        cases e296
        replace hx296_0 := hc_ HB hx296_0
        replace hx296_1 := hc_ HB hx296_1
        replace hx296_2 := hc_ HB hx296_2
        replace hx296_3 := hc_ HB hx296_3
        replace p296 := eq_true p296
        replace q296 := eq_true q296
        go_wp2_with (first | (go_at_call 68; (with_reducible refine (value_Valid.calls k1 ((rd_T63 l1 x20_1).f0) ((rd_T63 l1 x20_1).f1) ((rd_T63 l1 x20_1).f2) ((rd_T63 l1 x20_1).f3) none _ A13.out).mono ?_); rintro e w18 ⟨rfl, hb⟩; replace HO_18 := RB_ HO_18 hb; replace BK289 := kB_ BK289 hb; replace HB := bS_ HB hb; clear hb; (try simp only [errW_none, errW_some]); have p299 : 0 ≤ (x20_1 : Int) := ode_; have q299 : x20_1 < (l1.length : Int) := ode_; obtain ⟨ad299, e299, hx299_0, hx299_1, hx299_2, hx299_3⟩ := at_T63 HR1.out x20_1 p299 q299; obtain rfl : ad296 = ad299 := (by injection e299); replace hx299_0 := (HB.out.cell (World.block_lt_of_cell? w _ hx299_0)).trans hx299_0; replace hx299_1 := (HB.out.cell (World.block_lt_of_cell? w _ hx299_1)).trans hx299_1; replace hx299_2 := (HB.out.cell (World.block_lt_of_cell? w _ hx299_2)).trans hx299_2; replace hx299_3 := (HB.out.cell (World.block_lt_of_cell? w _ hx299_3)).trans hx299_3; replace p299 := eq_true p299; replace q299 := eq_true q299; obtain ⟨hcz19_0, hcz19_1, hfz19_0, hfz19_1⟩ := zf2_ BK289; have p300 : 0 ≤ ((rd t290 x20_1) : Int) := ode_; have q300 : (rd t290 x20_1) < (l0_1.length : Int) := ode_; obtain ⟨ad300, e300, hx300_0, hx300_1, hx300_2, hx300_3⟩ := at_T118 HR0_1.out (rd t290 x20_1) p300 q300; cases e300; replace hx300_0 := (HB.out.cell (World.block_lt_of_cell? w _ hx300_0)).trans hx300_0; replace hx300_1 := (HB.out.cell (World.block_lt_of_cell? w _ hx300_1)).trans hx300_1; replace hx300_2 := (HB.out.cell (World.block_lt_of_cell? w _ hx300_2)).trans hx300_2; replace hx300_3 := (HB.out.cell (World.block_lt_of_cell? w _ hx300_3)).trans hx300_3; replace p300 := eq_true p300; replace q300 := eq_true q300; have p301 : 0 ≤ (x20_1 : Int) := ode_; have q301 : x20_1 < (l1.length : Int) := ode_; obtain ⟨ad301, e301, hx301_0, hx301_1, hx301_2, hx301_3⟩ := at_T63 HR1.out x20_1 p301 q301; obtain rfl : ad296 = ad301 := (by injection e301); replace hx301_0 := (HB.out.cell (World.block_lt_of_cell? w _ hx301_0)).trans hx301_0; replace hx301_1 := (HB.out.cell (World.block_lt_of_cell? w _ hx301_1)).trans hx301_1; replace hx301_2 := (HB.out.cell (World.block_lt_of_cell? w _ hx301_2)).trans hx301_2; replace hx301_3 := (HB.out.cell (World.block_lt_of_cell? w _ hx301_3)).trans hx301_3; replace p301 := eq_true p301; replace q301 := eq_true q301))
        repeat (go_quiet (first | (go_at_call 68; (with_reducible refine (value_Valid.calls k1 ((rd_T63 l1 x20_1).f0) ((rd_T63 l1 x20_1).f1) ((rd_T63 l1 x20_1).f2) ((rd_T63 l1 x20_1).f3) none _ A13.out).mono ?_); rintro e w18 ⟨rfl, hb⟩; have n0_ := Aside0.mk (Kd.R_below (kR_ HO_18.out) hb); have n1_ := Aside0.mk (qkb (g := gb289) (o := .cells #[.string a0_0, .slice A0_1 l0_1.length c0_1] 59 (0, 0)) (bl_ BK289.out) hb); have n2_ := Aside0.mk (below_step (bw_ HB.out) hb); clear HO_18; clear BK289; clear HB; have HO_18 := n0_; have BK289 := n1_; have HB := n2_; clear n0_ n1_ n2_; (try clear hb); (try clear hb2); (try clear hk); (try clear hi); (try simp only [errW_none, errW_some]); have p299 : 0 ≤ (x20_1 : Int) := ode_; have q299 : x20_1 < (l1.length : Int) := ode_; obtain ⟨ad299, e299, hx299_0, hx299_1, hx299_2, hx299_3⟩ := at_T63 HR1.out x20_1 p299 q299; obtain rfl : ad296 = ad299 := (by injection e299); replace hx299_0 := (HB.out.cell (World.block_lt_of_cell? w _ hx299_0)).trans hx299_0; replace hx299_1 := (HB.out.cell (World.block_lt_of_cell? w _ hx299_1)).trans hx299_1; replace hx299_2 := (HB.out.cell (World.block_lt_of_cell? w _ hx299_2)).trans hx299_2; replace hx299_3 := (HB.out.cell (World.block_lt_of_cell? w _ hx299_3)).trans hx299_3; replace p299 := eq_true p299; replace q299 := eq_true q299; have hcz19_0 : w18.cell? ⟨gb289, 0, none⟩ = some (.string a0_0) := (qkc BK289.out 0).trans rfl; have hcz19_1 : w18.cell? ⟨gb289, 1, none⟩ = some (.slice A0_1 l0_1.length c0_1) := (qkc BK289.out 1).trans rfl; have hfz19_0 := qkf BK289.out 0; have hfz19_1 := qkf BK289.out 1; have p300 : 0 ≤ ((rd t290 x20_1) : Int) := ode_; have q300 : (rd t290 x20_1) < (l0_1.length : Int) := ode_; obtain ⟨ad300, e300, hx300_0, hx300_1, hx300_2, hx300_3⟩ := at_T118 HR0_1.out (rd t290 x20_1) p300 q300; cases e300; replace hx300_0 := (HB.out.cell (World.block_lt_of_cell? w _ hx300_0)).trans hx300_0; replace hx300_1 := (HB.out.cell (World.block_lt_of_cell? w _ hx300_1)).trans hx300_1; replace hx300_2 := (HB.out.cell (World.block_lt_of_cell? w _ hx300_2)).trans hx300_2; replace hx300_3 := (HB.out.cell (World.block_lt_of_cell? w _ hx300_3)).trans hx300_3; replace p300 := eq_true p300; replace q300 := eq_true q300; have p301 : 0 ≤ (x20_1 : Int) := ode_; have q301 : x20_1 < (l1.length : Int) := ode_; obtain ⟨ad301, e301, hx301_0, hx301_1, hx301_2, hx301_3⟩ := at_T63 HR1.out x20_1 p301 q301; obtain rfl : ad296 = ad301 := (by injection e301); replace hx301_0 := (HB.out.cell (World.block_lt_of_cell? w _ hx301_0)).trans hx301_0; replace hx301_1 := (HB.out.cell (World.block_lt_of_cell? w _ hx301_1)).trans hx301_1; replace hx301_2 := (HB.out.cell (World.block_lt_of_cell? w _ hx301_2)).trans hx301_2; replace hx301_3 := (HB.out.cell (World.block_lt_of_cell? w _ hx301_3)).trans hx301_3; replace p301 := eq_true p301; replace q301 := eq_true q301)); try go_wp2_with (first | (go_at_call 68; (with_reducible refine (value_Valid.calls k1 ((rd_T63 l1 x20_1).f0) ((rd_T63 l1 x20_1).f1) ((rd_T63 l1 x20_1).f2) ((rd_T63 l1 x20_1).f3) none _ A13.out).mono ?_); rintro e w18 ⟨rfl, hb⟩; have n0_ := Aside0.mk (Kd.R_below (kR_ HO_18.out) hb); have n1_ := Aside0.mk (qkb (g := gb289) (o := .cells #[.string a0_0, .slice A0_1 l0_1.length c0_1] 59 (0, 0)) (bl_ BK289.out) hb); have n2_ := Aside0.mk (below_step (bw_ HB.out) hb); clear HO_18; clear BK289; clear HB; have HO_18 := n0_; have BK289 := n1_; have HB := n2_; clear n0_ n1_ n2_; (try clear hb); (try clear hb2); (try clear hk); (try clear hi); (try simp only [errW_none, errW_some]); have p299 : 0 ≤ (x20_1 : Int) := ode_; have q299 : x20_1 < (l1.length : Int) := ode_; obtain ⟨ad299, e299, hx299_0, hx299_1, hx299_2, hx299_3⟩ := at_T63 HR1.out x20_1 p299 q299; obtain rfl : ad296 = ad299 := (by injection e299); replace hx299_0 := (HB.out.cell (World.block_lt_of_cell? w _ hx299_0)).trans hx299_0; replace hx299_1 := (HB.out.cell (World.block_lt_of_cell? w _ hx299_1)).trans hx299_1; replace hx299_2 := (HB.out.cell (World.block_lt_of_cell? w _ hx299_2)).trans hx299_2; replace hx299_3 := (HB.out.cell (World.block_lt_of_cell? w _ hx299_3)).trans hx299_3; replace p299 := eq_true p299; replace q299 := eq_true q299; have hcz19_0 : w18.cell? ⟨gb289, 0, none⟩ = some (.string a0_0) := (qkc BK289.out 0).trans rfl; have hcz19_1 : w18.cell? ⟨gb289, 1, none⟩ = some (.slice A0_1 l0_1.length c0_1) := (qkc BK289.out 1).trans rfl; have hfz19_0 := qkf BK289.out 0; have hfz19_1 := qkf BK289.out 1; have p300 : 0 ≤ ((rd t290 x20_1) : Int) := ode_; have q300 : (rd t290 x20_1) < (l0_1.length : Int) := ode_; obtain ⟨ad300, e300, hx300_0, hx300_1, hx300_2, hx300_3⟩ := at_T118 HR0_1.out (rd t290 x20_1) p300 q300; cases e300; replace hx300_0 := (HB.out.cell (World.block_lt_of_cell? w _ hx300_0)).trans hx300_0; replace hx300_1 := (HB.out.cell (World.block_lt_of_cell? w _ hx300_1)).trans hx300_1; replace hx300_2 := (HB.out.cell (World.block_lt_of_cell? w _ hx300_2)).trans hx300_2; replace hx300_3 := (HB.out.cell (World.block_lt_of_cell? w _ hx300_3)).trans hx300_3; replace p300 := eq_true p300; replace q300 := eq_true q300; have p301 : 0 ≤ (x20_1 : Int) := ode_; have q301 : x20_1 < (l1.length : Int) := ode_; obtain ⟨ad301, e301, hx301_0, hx301_1, hx301_2, hx301_3⟩ := at_T63 HR1.out x20_1 p301 q301; obtain rfl : ad296 = ad301 := (by injection e301); replace hx301_0 := (HB.out.cell (World.block_lt_of_cell? w _ hx301_0)).trans hx301_0; replace hx301_1 := (HB.out.cell (World.block_lt_of_cell? w _ hx301_1)).trans hx301_1; replace hx301_2 := (HB.out.cell (World.block_lt_of_cell? w _ hx301_2)).trans hx301_2; replace hx301_3 := (HB.out.cell (World.block_lt_of_cell? w _ hx301_3)).trans hx301_3; replace p301 := eq_true p301; replace q301 := eq_true q301)))
        go_ret2
        exact ⟨fr_, bw_ HB.out⟩
       rw [if_neg c17] at H
       have ⟨c17b0, c17b1⟩ := eqF c17
       have H' := Aside0.mk H
       clear H
       have p295 : 0 ≤ (x20_1 : Int) := ode_
       have q295 : x20_1 < (t290.length : Int) := ode_
       obtain ⟨ad295, e295, hx295_0⟩ := Kd.at_int (Kd.R_reads' HO_18.out).2.2 x20_1 p295 q295
       cases e295
       replace p295 := eq_true p295
       replace q295 := eq_true q295
       have p296 : 0 ≤ (x20_1 : Int) := ode_
       have q296 : x20_1 < (l1.length : Int) := ode_
       obtain ⟨ad296, e296, hx296_0, hx296_1, hx296_2, hx296_3⟩ := at_T63 HR1.out x20_1 p296 q296
       cases e296
       replace hx296_0 := hc_ HB hx296_0
       replace hx296_1 := hc_ HB hx296_1
       replace hx296_2 := hc_ HB hx296_2
       replace hx296_3 := hc_ HB hx296_3
       replace p296 := eq_true p296
       replace q296 := eq_true q296
       go_wp2_with (first | (go_at_call 68; (with_reducible refine (value_Valid.calls k1 ((rd_T63 l1 x20_1).f0) ((rd_T63 l1 x20_1).f1) ((rd_T63 l1 x20_1).f2) ((rd_T63 l1 x20_1).f3) none _ A13.out).mono ?_); rintro e w20 ⟨rfl, hb⟩; replace HO_18 := RB_ HO_18 hb; replace BK289 := kB_ BK289 hb; replace HB := bS_ HB hb; clear hb; (try simp only [errW_none, errW_some]); have p299 : 0 ≤ (x20_1 : Int) := ode_; have q299 : x20_1 < (l1.length : Int) := ode_; obtain ⟨ad299, e299, hx299_0, hx299_1, hx299_2, hx299_3⟩ := at_T63 HR1.out x20_1 p299 q299; obtain rfl : ad296 = ad299 := (by injection e299); replace hx299_0 := (HB.out.cell (World.block_lt_of_cell? w _ hx299_0)).trans hx299_0; replace hx299_1 := (HB.out.cell (World.block_lt_of_cell? w _ hx299_1)).trans hx299_1; replace hx299_2 := (HB.out.cell (World.block_lt_of_cell? w _ hx299_2)).trans hx299_2; replace hx299_3 := (HB.out.cell (World.block_lt_of_cell? w _ hx299_3)).trans hx299_3; replace p299 := eq_true p299; replace q299 := eq_true q299; obtain ⟨hcz21_0, hcz21_1, hfz21_0, hfz21_1⟩ := zf2_ BK289; have p300 : 0 ≤ ((rd t290 x20_1) : Int) := ode_; have q300 : (rd t290 x20_1) < (l0_1.length : Int) := ode_; obtain ⟨ad300, e300, hx300_0, hx300_1, hx300_2, hx300_3⟩ := at_T118 HR0_1.out (rd t290 x20_1) p300 q300; cases e300; replace hx300_0 := (HB.out.cell (World.block_lt_of_cell? w _ hx300_0)).trans hx300_0; replace hx300_1 := (HB.out.cell (World.block_lt_of_cell? w _ hx300_1)).trans hx300_1; replace hx300_2 := (HB.out.cell (World.block_lt_of_cell? w _ hx300_2)).trans hx300_2; replace hx300_3 := (HB.out.cell (World.block_lt_of_cell? w _ hx300_3)).trans hx300_3; replace p300 := eq_true p300; replace q300 := eq_true q300; have p301 : 0 ≤ (x20_1 : Int) := ode_; have q301 : x20_1 < (l1.length : Int) := ode_; obtain ⟨ad301, e301, hx301_0, hx301_1, hx301_2, hx301_3⟩ := at_T63 HR1.out x20_1 p301 q301; obtain rfl : ad296 = ad301 := (by injection e301); replace hx301_0 := (HB.out.cell (World.block_lt_of_cell? w _ hx301_0)).trans hx301_0; replace hx301_1 := (HB.out.cell (World.block_lt_of_cell? w _ hx301_1)).trans hx301_1; replace hx301_2 := (HB.out.cell (World.block_lt_of_cell? w _ hx301_2)).trans hx301_2; replace hx301_3 := (HB.out.cell (World.block_lt_of_cell? w _ hx301_3)).trans hx301_3; replace p301 := eq_true p301; replace q301 := eq_true q301))
       repeat (go_quiet (first | (go_at_call 68; (with_reducible refine (value_Valid.calls k1 ((rd_T63 l1 x20_1).f0) ((rd_T63 l1 x20_1).f1) ((rd_T63 l1 x20_1).f2) ((rd_T63 l1 x20_1).f3) none _ A13.out).mono ?_); rintro e w20 ⟨rfl, hb⟩; have n0_ := Aside0.mk (Kd.R_below (kR_ HO_18.out) hb); have n1_ := Aside0.mk (qkb (g := gb289) (o := .cells #[.string a0_0, .slice A0_1 l0_1.length c0_1] 59 (0, 0)) (bl_ BK289.out) hb); have n2_ := Aside0.mk (below_step (bw_ HB.out) hb); clear HO_18; clear BK289; clear HB; have HO_18 := n0_; have BK289 := n1_; have HB := n2_; clear n0_ n1_ n2_; (try clear hb); (try clear hb2); (try clear hk); (try clear hi); (try simp only [errW_none, errW_some]); have p299 : 0 ≤ (x20_1 : Int) := ode_; have q299 : x20_1 < (l1.length : Int) := ode_; obtain ⟨ad299, e299, hx299_0, hx299_1, hx299_2, hx299_3⟩ := at_T63 HR1.out x20_1 p299 q299; obtain rfl : ad296 = ad299 := (by injection e299); replace hx299_0 := (HB.out.cell (World.block_lt_of_cell? w _ hx299_0)).trans hx299_0; replace hx299_1 := (HB.out.cell (World.block_lt_of_cell? w _ hx299_1)).trans hx299_1; replace hx299_2 := (HB.out.cell (World.block_lt_of_cell? w _ hx299_2)).trans hx299_2; replace hx299_3 := (HB.out.cell (World.block_lt_of_cell? w _ hx299_3)).trans hx299_3; replace p299 := eq_true p299; replace q299 := eq_true q299; have hcz21_0 : w20.cell? ⟨gb289, 0, none⟩ = some (.string a0_0) := (qkc BK289.out 0).trans rfl; have hcz21_1 : w20.cell? ⟨gb289, 1, none⟩ = some (.slice A0_1 l0_1.length c0_1) := (qkc BK289.out 1).trans rfl; have hfz21_0 := qkf BK289.out 0; have hfz21_1 := qkf BK289.out 1; have p300 : 0 ≤ ((rd t290 x20_1) : Int) := ode_; have q300 : (rd t290 x20_1) < (l0_1.length : Int) := ode_; obtain ⟨ad300, e300, hx300_0, hx300_1, hx300_2, hx300_3⟩ := at_T118 HR0_1.out (rd t290 x20_1) p300 q300; cases e300; replace hx300_0 := (HB.out.cell (World.block_lt_of_cell? w _ hx300_0)).trans hx300_0; replace hx300_1 := (HB.out.cell (World.block_lt_of_cell? w _ hx300_1)).trans hx300_1; replace hx300_2 := (HB.out.cell (World.block_lt_of_cell? w _ hx300_2)).trans hx300_2; replace hx300_3 := (HB.out.cell (World.block_lt_of_cell? w _ hx300_3)).trans hx300_3; replace p300 := eq_true p300; replace q300 := eq_true q300; have p301 : 0 ≤ (x20_1 : Int) := ode_; have q301 : x20_1 < (l1.length : Int) := ode_; obtain ⟨ad301, e301, hx301_0, hx301_1, hx301_2, hx301_3⟩ := at_T63 HR1.out x20_1 p301 q301; obtain rfl : ad296 = ad301 := (by injection e301); replace hx301_0 := (HB.out.cell (World.block_lt_of_cell? w _ hx301_0)).trans hx301_0; replace hx301_1 := (HB.out.cell (World.block_lt_of_cell? w _ hx301_1)).trans hx301_1; replace hx301_2 := (HB.out.cell (World.block_lt_of_cell? w _ hx301_2)).trans hx301_2; replace hx301_3 := (HB.out.cell (World.block_lt_of_cell? w _ hx301_3)).trans hx301_3; replace p301 := eq_true p301; replace q301 := eq_true q301)); try go_wp2_with (first | (go_at_call 68; (with_reducible refine (value_Valid.calls k1 ((rd_T63 l1 x20_1).f0) ((rd_T63 l1 x20_1).f1) ((rd_T63 l1 x20_1).f2) ((rd_T63 l1 x20_1).f3) none _ A13.out).mono ?_); rintro e w20 ⟨rfl, hb⟩; have n0_ := Aside0.mk (Kd.R_below (kR_ HO_18.out) hb); have n1_ := Aside0.mk (qkb (g := gb289) (o := .cells #[.string a0_0, .slice A0_1 l0_1.length c0_1] 59 (0, 0)) (bl_ BK289.out) hb); have n2_ := Aside0.mk (below_step (bw_ HB.out) hb); clear HO_18; clear BK289; clear HB; have HO_18 := n0_; have BK289 := n1_; have HB := n2_; clear n0_ n1_ n2_; (try clear hb); (try clear hb2); (try clear hk); (try clear hi); (try simp only [errW_none, errW_some]); have p299 : 0 ≤ (x20_1 : Int) := ode_; have q299 : x20_1 < (l1.length : Int) := ode_; obtain ⟨ad299, e299, hx299_0, hx299_1, hx299_2, hx299_3⟩ := at_T63 HR1.out x20_1 p299 q299; obtain rfl : ad296 = ad299 := (by injection e299); replace hx299_0 := (HB.out.cell (World.block_lt_of_cell? w _ hx299_0)).trans hx299_0; replace hx299_1 := (HB.out.cell (World.block_lt_of_cell? w _ hx299_1)).trans hx299_1; replace hx299_2 := (HB.out.cell (World.block_lt_of_cell? w _ hx299_2)).trans hx299_2; replace hx299_3 := (HB.out.cell (World.block_lt_of_cell? w _ hx299_3)).trans hx299_3; replace p299 := eq_true p299; replace q299 := eq_true q299; have hcz21_0 : w20.cell? ⟨gb289, 0, none⟩ = some (.string a0_0) := (qkc BK289.out 0).trans rfl; have hcz21_1 : w20.cell? ⟨gb289, 1, none⟩ = some (.slice A0_1 l0_1.length c0_1) := (qkc BK289.out 1).trans rfl; have hfz21_0 := qkf BK289.out 0; have hfz21_1 := qkf BK289.out 1; have p300 : 0 ≤ ((rd t290 x20_1) : Int) := ode_; have q300 : (rd t290 x20_1) < (l0_1.length : Int) := ode_; obtain ⟨ad300, e300, hx300_0, hx300_1, hx300_2, hx300_3⟩ := at_T118 HR0_1.out (rd t290 x20_1) p300 q300; cases e300; replace hx300_0 := (HB.out.cell (World.block_lt_of_cell? w _ hx300_0)).trans hx300_0; replace hx300_1 := (HB.out.cell (World.block_lt_of_cell? w _ hx300_1)).trans hx300_1; replace hx300_2 := (HB.out.cell (World.block_lt_of_cell? w _ hx300_2)).trans hx300_2; replace hx300_3 := (HB.out.cell (World.block_lt_of_cell? w _ hx300_3)).trans hx300_3; replace p300 := eq_true p300; replace q300 := eq_true q300; have p301 : 0 ≤ (x20_1 : Int) := ode_; have q301 : x20_1 < (l1.length : Int) := ode_; obtain ⟨ad301, e301, hx301_0, hx301_1, hx301_2, hx301_3⟩ := at_T63 HR1.out x20_1 p301 q301; obtain rfl : ad296 = ad301 := (by injection e301); replace hx301_0 := (HB.out.cell (World.block_lt_of_cell? w _ hx301_0)).trans hx301_0; replace hx301_1 := (HB.out.cell (World.block_lt_of_cell? w _ hx301_1)).trans hx301_1; replace hx301_2 := (HB.out.cell (World.block_lt_of_cell? w _ hx301_2)).trans hx301_2; replace hx301_3 := (HB.out.cell (World.block_lt_of_cell? w _ hx301_3)).trans hx301_3; replace p301 := eq_true p301; replace q301 := eq_true q301)))
       go_roundg k1
       case measure => have := HK1.out; omega
       case rel => exact ⟨(wrap64 (x20_1 + 1)), fe_, H', ⟨by have := HK1.out; omega⟩, ⟨by (with_reducible repeat (first | apply Kd.R_alloc | apply Kd.R_drewN | apply Kd.R_drew)); exact HO_18.out⟩, ⟨bp_ BK289⟩, ⟨bw_ HB.out⟩⟩
      rw [if_neg c16] at H
      have ⟨c16b0, c16b1⟩ := eqF c16
      obtain ⟨rfl, rfl⟩ := so2 H
      have p295 : 0 ≤ (x20_1 : Int) := ode_
      have q295 : x20_1 < (t290.length : Int) := ode_
      obtain ⟨ad295, e295, hx295_0⟩ := Kd.at_int (Kd.R_reads' HO_18.out).2.2 x20_1 p295 q295
      cases e295
      replace p295 := eq_true p295
      replace q295 := eq_true q295
      have p296 : 0 ≤ (x20_1 : Int) := ode_
      have q296 : x20_1 < (l1.length : Int) := ode_
      obtain ⟨ad296, e296, hx296_0, hx296_1, hx296_2, hx296_3⟩ := at_T63 HR1.out x20_1 p296 q296
      cases e296
      replace hx296_0 := hc_ HB hx296_0
      replace hx296_1 := hc_ HB hx296_1
      replace hx296_2 := hc_ HB hx296_2
      replace hx296_3 := hc_ HB hx296_3
      replace p296 := eq_true p296
      replace q296 := eq_true q296
      go_wp2_with (first | (go_at_call 68; (with_reducible refine (value_Valid.calls k1 ((rd_T63 l1 x20_1).f0) ((rd_T63 l1 x20_1).f1) ((rd_T63 l1 x20_1).f2) ((rd_T63 l1 x20_1).f3) none _ A13.out).mono ?_); rintro e w22 ⟨rfl, hb⟩; replace HO_18 := RB_ HO_18 hb; replace BK289 := kB_ BK289 hb; replace HB := bS_ HB hb; clear hb; (try simp only [errW_none, errW_some]); have p299 : 0 ≤ (x20_1 : Int) := ode_; have q299 : x20_1 < (l1.length : Int) := ode_; obtain ⟨ad299, e299, hx299_0, hx299_1, hx299_2, hx299_3⟩ := at_T63 HR1.out x20_1 p299 q299; obtain rfl : ad296 = ad299 := (by injection e299); replace hx299_0 := (HB.out.cell (World.block_lt_of_cell? w _ hx299_0)).trans hx299_0; replace hx299_1 := (HB.out.cell (World.block_lt_of_cell? w _ hx299_1)).trans hx299_1; replace hx299_2 := (HB.out.cell (World.block_lt_of_cell? w _ hx299_2)).trans hx299_2; replace hx299_3 := (HB.out.cell (World.block_lt_of_cell? w _ hx299_3)).trans hx299_3; replace p299 := eq_true p299; replace q299 := eq_true q299; obtain ⟨hcz23_0, hcz23_1, hfz23_0, hfz23_1⟩ := zf2_ BK289; have p300 : 0 ≤ ((rd t290 x20_1) : Int) := ode_; have q300 : (rd t290 x20_1) < (l0_1.length : Int) := ode_; obtain ⟨ad300, e300, hx300_0, hx300_1, hx300_2, hx300_3⟩ := at_T118 HR0_1.out (rd t290 x20_1) p300 q300; cases e300; replace hx300_0 := (HB.out.cell (World.block_lt_of_cell? w _ hx300_0)).trans hx300_0; replace hx300_1 := (HB.out.cell (World.block_lt_of_cell? w _ hx300_1)).trans hx300_1; replace hx300_2 := (HB.out.cell (World.block_lt_of_cell? w _ hx300_2)).trans hx300_2; replace hx300_3 := (HB.out.cell (World.block_lt_of_cell? w _ hx300_3)).trans hx300_3; replace p300 := eq_true p300; replace q300 := eq_true q300))
      repeat (go_quiet (first | (go_at_call 68; (with_reducible refine (value_Valid.calls k1 ((rd_T63 l1 x20_1).f0) ((rd_T63 l1 x20_1).f1) ((rd_T63 l1 x20_1).f2) ((rd_T63 l1 x20_1).f3) none _ A13.out).mono ?_); rintro e w22 ⟨rfl, hb⟩; have n0_ := Aside0.mk (Kd.R_below (kR_ HO_18.out) hb); have n1_ := Aside0.mk (qkb (g := gb289) (o := .cells #[.string a0_0, .slice A0_1 l0_1.length c0_1] 59 (0, 0)) (bl_ BK289.out) hb); have n2_ := Aside0.mk (below_step (bw_ HB.out) hb); clear HO_18; clear BK289; clear HB; have HO_18 := n0_; have BK289 := n1_; have HB := n2_; clear n0_ n1_ n2_; (try clear hb); (try clear hb2); (try clear hk); (try clear hi); (try simp only [errW_none, errW_some]); have p299 : 0 ≤ (x20_1 : Int) := ode_; have q299 : x20_1 < (l1.length : Int) := ode_; obtain ⟨ad299, e299, hx299_0, hx299_1, hx299_2, hx299_3⟩ := at_T63 HR1.out x20_1 p299 q299; obtain rfl : ad296 = ad299 := (by injection e299); replace hx299_0 := (HB.out.cell (World.block_lt_of_cell? w _ hx299_0)).trans hx299_0; replace hx299_1 := (HB.out.cell (World.block_lt_of_cell? w _ hx299_1)).trans hx299_1; replace hx299_2 := (HB.out.cell (World.block_lt_of_cell? w _ hx299_2)).trans hx299_2; replace hx299_3 := (HB.out.cell (World.block_lt_of_cell? w _ hx299_3)).trans hx299_3; replace p299 := eq_true p299; replace q299 := eq_true q299; have hcz23_0 : w22.cell? ⟨gb289, 0, none⟩ = some (.string a0_0) := (qkc BK289.out 0).trans rfl; have hcz23_1 : w22.cell? ⟨gb289, 1, none⟩ = some (.slice A0_1 l0_1.length c0_1) := (qkc BK289.out 1).trans rfl; have hfz23_0 := qkf BK289.out 0; have hfz23_1 := qkf BK289.out 1; have p300 : 0 ≤ ((rd t290 x20_1) : Int) := ode_; have q300 : (rd t290 x20_1) < (l0_1.length : Int) := ode_; obtain ⟨ad300, e300, hx300_0, hx300_1, hx300_2, hx300_3⟩ := at_T118 HR0_1.out (rd t290 x20_1) p300 q300; cases e300; replace hx300_0 := (HB.out.cell (World.block_lt_of_cell? w _ hx300_0)).trans hx300_0; replace hx300_1 := (HB.out.cell (World.block_lt_of_cell? w _ hx300_1)).trans hx300_1; replace hx300_2 := (HB.out.cell (World.block_lt_of_cell? w _ hx300_2)).trans hx300_2; replace hx300_3 := (HB.out.cell (World.block_lt_of_cell? w _ hx300_3)).trans hx300_3; replace p300 := eq_true p300; replace q300 := eq_true q300)); try go_wp2_with (first | (go_at_call 68; (with_reducible refine (value_Valid.calls k1 ((rd_T63 l1 x20_1).f0) ((rd_T63 l1 x20_1).f1) ((rd_T63 l1 x20_1).f2) ((rd_T63 l1 x20_1).f3) none _ A13.out).mono ?_); rintro e w22 ⟨rfl, hb⟩; have n0_ := Aside0.mk (Kd.R_below (kR_ HO_18.out) hb); have n1_ := Aside0.mk (qkb (g := gb289) (o := .cells #[.string a0_0, .slice A0_1 l0_1.length c0_1] 59 (0, 0)) (bl_ BK289.out) hb); have n2_ := Aside0.mk (below_step (bw_ HB.out) hb); clear HO_18; clear BK289; clear HB; have HO_18 := n0_; have BK289 := n1_; have HB := n2_; clear n0_ n1_ n2_; (try clear hb); (try clear hb2); (try clear hk); (try clear hi); (try simp only [errW_none, errW_some]); have p299 : 0 ≤ (x20_1 : Int) := ode_; have q299 : x20_1 < (l1.length : Int) := ode_; obtain ⟨ad299, e299, hx299_0, hx299_1, hx299_2, hx299_3⟩ := at_T63 HR1.out x20_1 p299 q299; obtain rfl : ad296 = ad299 := (by injection e299); replace hx299_0 := (HB.out.cell (World.block_lt_of_cell? w _ hx299_0)).trans hx299_0; replace hx299_1 := (HB.out.cell (World.block_lt_of_cell? w _ hx299_1)).trans hx299_1; replace hx299_2 := (HB.out.cell (World.block_lt_of_cell? w _ hx299_2)).trans hx299_2; replace hx299_3 := (HB.out.cell (World.block_lt_of_cell? w _ hx299_3)).trans hx299_3; replace p299 := eq_true p299; replace q299 := eq_true q299; have hcz23_0 : w22.cell? ⟨gb289, 0, none⟩ = some (.string a0_0) := (qkc BK289.out 0).trans rfl; have hcz23_1 : w22.cell? ⟨gb289, 1, none⟩ = some (.slice A0_1 l0_1.length c0_1) := (qkc BK289.out 1).trans rfl; have hfz23_0 := qkf BK289.out 0; have hfz23_1 := qkf BK289.out 1; have p300 : 0 ≤ ((rd t290 x20_1) : Int) := ode_; have q300 : (rd t290 x20_1) < (l0_1.length : Int) := ode_; obtain ⟨ad300, e300, hx300_0, hx300_1, hx300_2, hx300_3⟩ := at_T118 HR0_1.out (rd t290 x20_1) p300 q300; cases e300; replace hx300_0 := (HB.out.cell (World.block_lt_of_cell? w _ hx300_0)).trans hx300_0; replace hx300_1 := (HB.out.cell (World.block_lt_of_cell? w _ hx300_1)).trans hx300_1; replace hx300_2 := (HB.out.cell (World.block_lt_of_cell? w _ hx300_2)).trans hx300_2; replace hx300_3 := (HB.out.cell (World.block_lt_of_cell? w _ hx300_3)).trans hx300_3; replace p300 := eq_true p300; replace q300 := eq_true q300)))
      go_ret2
      exact ⟨fr_, bw_ HB.out⟩
     have H1 : (some ((⟨#[]⟩ : ByteArray), some q298)) = some (r1, r2) := by rw [if_neg (show ¬ (some q298).isNone = true by simp)] at H; exact H
     clear H
     have H := H1
     clear H1
     try simp only [errW_none, errW_some]
     obtain ⟨rfl, rfl⟩ := so2 H
     have p295 : 0 ≤ (x20_1 : Int) := ode_
     have q295 : x20_1 < (t290.length : Int) := ode_
     obtain ⟨ad295, e295, hx295_0⟩ := Kd.at_int (Kd.R_reads' HO_18.out).2.2 x20_1 p295 q295
     cases e295
     replace p295 := eq_true p295
     replace q295 := eq_true q295
     have p296 : 0 ≤ (x20_1 : Int) := ode_
     have q296 : x20_1 < (l1.length : Int) := ode_
     obtain ⟨ad296, e296, hx296_0, hx296_1, hx296_2, hx296_3⟩ := at_T63 HR1.out x20_1 p296 q296
     cases e296
     replace hx296_0 := hc_ HB hx296_0
     replace hx296_1 := hc_ HB hx296_1
     replace hx296_2 := hc_ HB hx296_2
     replace hx296_3 := hc_ HB hx296_3
     replace p296 := eq_true p296
     replace q296 := eq_true q296
     go_wp2_with (first | (go_at_call 68; (with_reducible refine (value_Valid.calls k1 ((rd_T63 l1 x20_1).f0) ((rd_T63 l1 x20_1).f1) ((rd_T63 l1 x20_1).f2) ((rd_T63 l1 x20_1).f3) (some q298) _ A13.out).mono ?_); rintro e w24 ⟨rfl, hb⟩; replace HO_18 := RB_ HO_18 hb; replace BK289 := kB_ BK289 hb; replace HB := bS_ HB hb; clear hb; (try simp only [errW_none, errW_some])))
     repeat (go_quiet (first | (go_at_call 68; (with_reducible refine (value_Valid.calls k1 ((rd_T63 l1 x20_1).f0) ((rd_T63 l1 x20_1).f1) ((rd_T63 l1 x20_1).f2) ((rd_T63 l1 x20_1).f3) (some q298) _ A13.out).mono ?_); rintro e w24 ⟨rfl, hb⟩; have n0_ := Aside0.mk (Kd.R_below (kR_ HO_18.out) hb); have n1_ := Aside0.mk (qkb (g := gb289) (o := .cells #[.string a0_0, .slice A0_1 l0_1.length c0_1] 59 (0, 0)) (bl_ BK289.out) hb); have n2_ := Aside0.mk (below_step (bw_ HB.out) hb); clear HO_18; clear BK289; clear HB; have HO_18 := n0_; have BK289 := n1_; have HB := n2_; clear n0_ n1_ n2_; (try clear hb); (try clear hb2); (try clear hk); (try clear hi); (try simp only [errW_none, errW_some]))); try go_wp2_with (first | (go_at_call 68; (with_reducible refine (value_Valid.calls k1 ((rd_T63 l1 x20_1).f0) ((rd_T63 l1 x20_1).f1) ((rd_T63 l1 x20_1).f2) ((rd_T63 l1 x20_1).f3) (some q298) _ A13.out).mono ?_); rintro e w24 ⟨rfl, hb⟩; have n0_ := Aside0.mk (Kd.R_below (kR_ HO_18.out) hb); have n1_ := Aside0.mk (qkb (g := gb289) (o := .cells #[.string a0_0, .slice A0_1 l0_1.length c0_1] 59 (0, 0)) (bl_ BK289.out) hb); have n2_ := Aside0.mk (below_step (bw_ HB.out) hb); clear HO_18; clear BK289; clear HB; have HO_18 := n0_; have BK289 := n1_; have HB := n2_; clear n0_ n1_ n2_; (try clear hb); (try clear hb2); (try clear hk); (try clear hi); (try simp only [errW_none, errW_some]))))
     go_ret2
     exact ⟨fr_, bw_ HB.out⟩
    rw [if_neg c9] at H
    have c9b0 := dcF c9
    clear c9
    obtain ⟨⟨t293, t294⟩, A25, H⟩ := bn_ H; (try dsimp only at H)
    obtain ⟨rfl, rfl⟩ := so2 H
    go_wp2_with (first | (go_at_call 42; (with_reducible refine (order_Encode.calls k1 _ _ l1 t293 t294 _ ?side1 ?side2 A25.out).mono ?_); (case side1 => exact kC_ (Kd.C_below HR1.out HB.out)); (case side2 => exact HC1.out); rintro e w26 ⟨rfl, hb⟩; replace HO_18 := RB_ HO_18 hb; replace BK289 := kB_ BK289 hb; replace HB := bS_ HB hb; clear hb; (try simp only [errW_none, errW_some])))
    repeat (go_quiet (first | (go_at_call 42; (with_reducible refine (order_Encode.calls k1 _ _ l1 t293 t294 _ ?side1 ?side2 A25.out).mono ?_); (case side1 => repeat (first | exact (Kd.C_below HR1.out HB.out) | (with_reducible refine Kd.C_alloc ?_ _) | (with_reducible refine Kd.C_drewN ?_ _) | (with_reducible refine Kd.C_drew ?_))); (case side2 => exact HC1.out); rintro e w26 ⟨rfl, hb⟩; have n0_ := Aside0.mk (Kd.R_below (kR_ HO_18.out) hb); have n1_ := Aside0.mk (qkb (g := gb289) (o := .cells #[.string a0_0, .slice A0_1 l0_1.length c0_1] 59 (0, 0)) (bl_ BK289.out) hb); have n2_ := Aside0.mk (below_step (bw_ HB.out) hb); clear HO_18; clear BK289; clear HB; have HO_18 := n0_; have BK289 := n1_; have HB := n2_; clear n0_ n1_ n2_; (try clear hb); (try clear hb2); (try clear hk); (try clear hi); (try simp only [errW_none, errW_some]))); try go_wp2_with (first | (go_at_call 42; (with_reducible refine (order_Encode.calls k1 _ _ l1 t293 t294 _ ?side1 ?side2 A25.out).mono ?_); (case side1 => repeat (first | exact (Kd.C_below HR1.out HB.out) | (with_reducible refine Kd.C_alloc ?_ _) | (with_reducible refine Kd.C_drewN ?_ _) | (with_reducible refine Kd.C_drew ?_))); (case side2 => exact HC1.out); rintro e w26 ⟨rfl, hb⟩; have n0_ := Aside0.mk (Kd.R_below (kR_ HO_18.out) hb); have n1_ := Aside0.mk (qkb (g := gb289) (o := .cells #[.string a0_0, .slice A0_1 l0_1.length c0_1] 59 (0, 0)) (bl_ BK289.out) hb); have n2_ := Aside0.mk (below_step (bw_ HB.out) hb); clear HO_18; clear BK289; clear HB; have HO_18 := n0_; have BK289 := n1_; have HB := n2_; clear n0_ n1_ n2_; (try clear hb); (try clear hb2); (try clear hk); (try clear hi); (try simp only [errW_none, errW_some]))))
    go_ret2
    exact ⟨fr_, bw_ HB.out⟩
 rw [if_neg c4] at H
 have ⟨c4b0, c4b1⟩ := eqF c4
 have c4b2 : (l1.length == t290.length) = false := by first | simpa using c4 | (simp at c4 ⊢; omega)
 obtain ⟨rfl, rfl⟩ := so2 H
 go_enter Tryz.func47, Tryz.ntmps47
 go_wp2_with (first | ((with_reducible refine qgd (N := 2) rfl ?_); refine qB_ 2 #[.string a0_0, .slice A0_1 l0_1.length c0_1] 59 ?_; intro gb289 hg w27 hbox hb; have BK289 := Aside0.mk (hbox); have GW289 := gE_ hg HB; have GE289 := gE_ hg HB; replace HB := bS_ HB hb; clear hb hbox hg; obtain ⟨hcz28_0, hcz28_1, hfz28_0, hfz28_1⟩ := zf2_ BK289) | (go_at_call 73; (with_reducible refine (row_Keys.calls k a0_0 _ _ l0_1 t290 _ ?side1 ?side2 A3.out).mono ?_); (case side1 => exact kC_ (Kd.C_below HR0_1.out HB.out)); (case side2 => exact HC0_1.out); rintro e w29 ⟨v291, rfl, ho0, hb⟩; have HO292 := Rl_ ho0 HB; replace BK289 := kB_ BK289 hb; replace HB := bS_ HB hb; clear hb; (try clear ho0); obtain ⟨Ao30, co30, eo30⟩ := Kd.R_slice HO292.out; subst eo30))
 repeat (go_quiet (first | ((with_reducible refine qgd (N := 2) rfl ?_); refine qbe ?hg (N := 2) ?hd (cs := #[.string a0_0, .slice A0_1 l0_1.length c0_1]) (t := 59) ?hr ?_; (case hd => rfl); (case hg => rfl); (case hr => first | (go_simp; done) | (go_simp; rfl)); intro gb289 hg w27 hbox hb; have n0_ := Aside0.mk (below_step (bw_ HB.out) hb); have n1_ := Aside0.mk (hbox); have n2_ := Aside0.mk ((by rw [hg]; exact (qbz (bw_ HB.out)) : w.heap.size ≤ gb289)); have n3_ := Aside0.mk ((by rw [hg]; exact (qbz (bw_ HB.out)) : w.heap.size ≤ gb289)); clear HB; have HB := n0_; have BK289 := n1_; have GW289 := n2_; have GE289 := n3_; clear n0_ n1_ n2_ n3_; clear hb hbox hg; have hcz28_0 : w27.cell? ⟨gb289, 0, none⟩ = some (.string a0_0) := (qkc BK289.out 0).trans rfl; have hcz28_1 : w27.cell? ⟨gb289, 1, none⟩ = some (.slice A0_1 l0_1.length c0_1) := (qkc BK289.out 1).trans rfl; have hfz28_0 := qkf BK289.out 0; have hfz28_1 := qkf BK289.out 1) | (go_at_call 73; (with_reducible refine (row_Keys.calls k a0_0 _ _ l0_1 t290 _ ?side1 ?side2 A3.out).mono ?_); (case side1 => repeat (first | exact (Kd.C_below HR0_1.out HB.out) | (with_reducible refine Kd.C_alloc ?_ _) | (with_reducible refine Kd.C_drewN ?_ _) | (with_reducible refine Kd.C_drew ?_))); (case side2 => exact HC0_1.out); rintro e w29 ⟨v291, rfl, ho0, hb⟩; have n0_ := Aside0.mk (Kd.R_lower ho0 (qbz (bw_ HB.out))); have n1_ := Aside0.mk (qkb (g := gb289) (o := .cells #[.string a0_0, .slice A0_1 l0_1.length c0_1] 59 (0, 0)) (bl_ BK289.out) hb); have n2_ := Aside0.mk (below_step (bw_ HB.out) hb); clear BK289; clear HB; have HO292 := n0_; have BK289 := n1_; have HB := n2_; clear n0_ n1_ n2_; (try clear hb); (try clear hb2); (try clear hk); (try clear hi); (try clear ho0); obtain ⟨Ao30, co30, eo30⟩ := Kd.R_slice HO292.out; subst eo30)); try go_wp2_with (first | ((with_reducible refine qgd (N := 2) rfl ?_); refine qbe ?hg (N := 2) ?hd (cs := #[.string a0_0, .slice A0_1 l0_1.length c0_1]) (t := 59) ?hr ?_; (case hd => rfl); (case hg => rfl); (case hr => first | (go_simp; done) | (go_simp; rfl)); intro gb289 hg w27 hbox hb; have n0_ := Aside0.mk (below_step (bw_ HB.out) hb); have n1_ := Aside0.mk (hbox); have n2_ := Aside0.mk ((by rw [hg]; exact (qbz (bw_ HB.out)) : w.heap.size ≤ gb289)); have n3_ := Aside0.mk ((by rw [hg]; exact (qbz (bw_ HB.out)) : w.heap.size ≤ gb289)); clear HB; have HB := n0_; have BK289 := n1_; have GW289 := n2_; have GE289 := n3_; clear n0_ n1_ n2_ n3_; clear hb hbox hg; have hcz28_0 : w27.cell? ⟨gb289, 0, none⟩ = some (.string a0_0) := (qkc BK289.out 0).trans rfl; have hcz28_1 : w27.cell? ⟨gb289, 1, none⟩ = some (.slice A0_1 l0_1.length c0_1) := (qkc BK289.out 1).trans rfl; have hfz28_0 := qkf BK289.out 0; have hfz28_1 := qkf BK289.out 1) | (go_at_call 73; (with_reducible refine (row_Keys.calls k a0_0 _ _ l0_1 t290 _ ?side1 ?side2 A3.out).mono ?_); (case side1 => repeat (first | exact (Kd.C_below HR0_1.out HB.out) | (with_reducible refine Kd.C_alloc ?_ _) | (with_reducible refine Kd.C_drewN ?_ _) | (with_reducible refine Kd.C_drew ?_))); (case side2 => exact HC0_1.out); rintro e w29 ⟨v291, rfl, ho0, hb⟩; have n0_ := Aside0.mk (Kd.R_lower ho0 (qbz (bw_ HB.out))); have n1_ := Aside0.mk (qkb (g := gb289) (o := .cells #[.string a0_0, .slice A0_1 l0_1.length c0_1] 59 (0, 0)) (bl_ BK289.out) hb); have n2_ := Aside0.mk (below_step (bw_ HB.out) hb); clear BK289; clear HB; have HO292 := n0_; have BK289 := n1_; have HB := n2_; clear n0_ n1_ n2_; (try clear hb); (try clear hb2); (try clear hk); (try clear hi); (try clear ho0); obtain ⟨Ao30, co30, eo30⟩ := Kd.R_slice HO292.out; subst eo30)))
 go_ret2
 exact ⟨fr_, bw_ HB.out⟩

/-! ### row_fits: function 89 -/
def row_fits.f (k : Nat) (a0_0 : ByteArray) (a0_1 : Int) (a0_2 : Bool) (a0_3 : Bool) (a1_0 : Int) (a1_1 : Int) (a1_2 : ByteArray) (a1_3 : Bool) : Option (Option Int) := (value_Valid.f k a1_0 a1_1 a1_2 a1_3).bind fun t304 => (if t304.isNone = true then (if a1_0 = 0 then (if a0_2 = true then (some (some 33)) else (if a0_3 = true then (some none) else (some (some 33)))) else (if a1_0 = a0_1 then (some none) else (some (some 7)))) else (some (some (t304.getD 0))))
set_option maxHeartbeats 8000000 in
set_option maxRecDepth 100000 in
theorem row_fits.calls (k : Nat) (a0_0 : ByteArray) (a0_1 : Int) (a0_2 : Bool) (a0_3 : Bool) (a1_0 : Int) (a1_1 : Int) (a1_2 : ByteArray) (a1_3 : Bool) (r : Option Int) (w : World) (h : row_fits.f k a0_0 a0_1 a0_2 a0_3 a1_0 a1_1 a1_2 a1_3 = some r) :
  Calls Tryz.prog 89 #[.agg #[.string a0_0, .int .i64 a0_1, .bool a0_2, .bool a0_3], .agg #[.int .i64 a1_0, .int .i64 a1_1, .string a1_2, .bool a1_3]] w fun e w' => e = .returned (errW r) ∧ Below w.heap.size w w' := by
 have hu118 := Tryz.underlying118
 have hu63 := Tryz.underlying63
 have hu32 := Tryz.underlying32
 have hu65 := Tryz.underlying65
 have HB := Aside0.mk (Below.refl w.heap.size w)
 have H : ((value_Valid.f k a1_0 a1_1 a1_2 a1_3).bind fun t304 => (if t304.isNone = true then (if a1_0 = 0 then (if a0_2 = true then (some (some 33)) else (if a0_3 = true then (some none) else (some (some 33)))) else (if a1_0 = a0_1 then (some none) else (some (some 7)))) else (some (some (t304.getD 0))))) = some r := h
 clear h
 obtain ⟨t304, A3, H⟩ := bn_ H; (try dsimp only at H)
 rcases t304 with _ | q305
 ·have H1 : (if a1_0 = 0 then (if a0_2 = true then (some (some 33)) else (if a0_3 = true then (some none) else (some (some 33)))) else (if a1_0 = a0_1 then (some none) else (some (some 7)))) = some r := by rw [if_pos (show (none : Option Int).isNone = true by rfl)] at H; exact H
  clear H
  have H := H1
  clear H1
  try simp only [errW_none, errW_some]
  by_cases c4 : a1_0 = 0
  ·rw [if_pos c4] at H
   have ⟨c4b0, c4b1⟩ := eqT c4
   clear c4
   by_cases c5 : a0_2 = true
   ·subst c5
    rw [if_pos rfl] at H
    obtain rfl := Option.some.inj H
    go_enter Tryz.func89, Tryz.ntmps89
    go_wp2_with (first | ((with_reducible refine qgd (N := 2) rfl ?_); refine qB_ 2 #[.string a0_0, .int .i64 a0_1, .bool true, .bool a0_3] 118 ?_; intro gb302 hg w6 hbox hb; have BK302 := Aside0.mk (hbox); have GW302 := gE_ hg HB; have GE302 := gE_ hg HB; replace HB := bS_ HB hb; clear hb hbox hg) | ((with_reducible refine qgd (N := 3) rfl ?_); refine qB_ 3 #[.int .i64 a1_0, .int .i64 a1_1, .string a1_2, .bool a1_3] 63 ?_; intro gb303 hg w7 hbox hb; have BK303 := Aside0.mk (hbox); have GW303 := gE_ hg HB; have GE303 := gE_ hg HB; replace HB := bS_ HB hb; have NB302_303 := Aside0.mk ((by rw [hg]; exact Nat.ne_of_lt (blk_lt (g := gb302) (o := .cells #[.string a0_0, .int .i64 a0_1, .bool true, .bool a0_3] 118 (0, 0)) (bl_ BK302.out)) : gb302 ≠ gb303)); have NB303_302 := Aside0.mk ((by rw [hg]; exact Nat.ne_of_gt (blk_lt (g := gb302) (o := .cells #[.string a0_0, .int .i64 a0_1, .bool true, .bool a0_3] 118 (0, 0)) (bl_ BK302.out)) : gb303 ≠ gb302)); replace BK302 := kB_ BK302 hb; clear hb hbox hg; have hnb8 := NB303_302.out; have hnc8 := NB302_303.out; obtain ⟨hcz9_0, hcz9_1, hcz9_2, hcz9_3, hfz9_0, hfz9_1, hfz9_2, hfz9_3⟩ := zf4_ BK303) | ((with_reducible refine qgc (f := 68) rfl ?_); refine gL_ (some 7) Tryz.func68 #[.agg #[.int .i64 a1_0, .int .i64 a1_1, .string a1_2, .bool a1_3]] ?_; (with_reducible refine (value_Valid.calls k a1_0 a1_1 a1_2 a1_3 none _ A3.out).mono ?_); rintro e w10 ⟨rfl, hb⟩; refine ⟨_, rfl, ?_⟩; replace BK302 := kB_ BK302 hb; replace BK303 := kB_ BK303 hb; replace HB := bS_ HB hb; clear hb; (try simp only [errW_none, errW_some]); obtain ⟨hcz11_0, hcz11_1, hcz11_2, hcz11_3, hfz11_0, hfz11_1, hfz11_2, hfz11_3⟩ := zf4_ BK303; obtain ⟨hcz12_0, hcz12_1, hcz12_2, hcz12_3, hfz12_0, hfz12_1, hfz12_2, hfz12_3⟩ := zf4_ BK302))
    go_ret
    exact ⟨fr_, bw_ HB.out⟩
   replace c5 := Bool.eq_false_iff.mpr c5
   subst c5
   rw [if_neg (show ¬ (false = true) by decide)] at H
   by_cases c13 : a0_3 = true
   ·subst c13
    rw [if_pos rfl] at H
    obtain rfl := Option.some.inj H
    go_enter Tryz.func89, Tryz.ntmps89
    go_wp2_with (first | ((with_reducible refine qgd (N := 2) rfl ?_); refine qB_ 2 #[.string a0_0, .int .i64 a0_1, .bool false, .bool true] 118 ?_; intro gb302 hg w14 hbox hb; have BK302 := Aside0.mk (hbox); have GW302 := gE_ hg HB; have GE302 := gE_ hg HB; replace HB := bS_ HB hb; clear hb hbox hg) | ((with_reducible refine qgd (N := 3) rfl ?_); refine qB_ 3 #[.int .i64 a1_0, .int .i64 a1_1, .string a1_2, .bool a1_3] 63 ?_; intro gb303 hg w15 hbox hb; have BK303 := Aside0.mk (hbox); have GW303 := gE_ hg HB; have GE303 := gE_ hg HB; replace HB := bS_ HB hb; have NB302_303 := Aside0.mk ((by rw [hg]; exact Nat.ne_of_lt (blk_lt (g := gb302) (o := .cells #[.string a0_0, .int .i64 a0_1, .bool false, .bool true] 118 (0, 0)) (bl_ BK302.out)) : gb302 ≠ gb303)); have NB303_302 := Aside0.mk ((by rw [hg]; exact Nat.ne_of_gt (blk_lt (g := gb302) (o := .cells #[.string a0_0, .int .i64 a0_1, .bool false, .bool true] 118 (0, 0)) (bl_ BK302.out)) : gb303 ≠ gb302)); replace BK302 := kB_ BK302 hb; clear hb hbox hg; have hnb16 := NB303_302.out; have hnc16 := NB302_303.out; obtain ⟨hcz17_0, hcz17_1, hcz17_2, hcz17_3, hfz17_0, hfz17_1, hfz17_2, hfz17_3⟩ := zf4_ BK303) | ((with_reducible refine qgc (f := 68) rfl ?_); refine gL_ (some 7) Tryz.func68 #[.agg #[.int .i64 a1_0, .int .i64 a1_1, .string a1_2, .bool a1_3]] ?_; (with_reducible refine (value_Valid.calls k a1_0 a1_1 a1_2 a1_3 none _ A3.out).mono ?_); rintro e w18 ⟨rfl, hb⟩; refine ⟨_, rfl, ?_⟩; replace BK302 := kB_ BK302 hb; replace BK303 := kB_ BK303 hb; replace HB := bS_ HB hb; clear hb; (try simp only [errW_none, errW_some]); obtain ⟨hcz19_0, hcz19_1, hcz19_2, hcz19_3, hfz19_0, hfz19_1, hfz19_2, hfz19_3⟩ := zf4_ BK303; obtain ⟨hcz20_0, hcz20_1, hcz20_2, hcz20_3, hfz20_0, hfz20_1, hfz20_2, hfz20_3⟩ := zf4_ BK302))
    go_ret
    exact ⟨fr_, bw_ HB.out⟩
   replace c13 := Bool.eq_false_iff.mpr c13
   subst c13
   rw [if_neg (show ¬ (false = true) by decide)] at H
   obtain rfl := Option.some.inj H
   go_enter Tryz.func89, Tryz.ntmps89
   go_wp2_with (first | ((with_reducible refine qgd (N := 2) rfl ?_); refine qB_ 2 #[.string a0_0, .int .i64 a0_1, .bool false, .bool false] 118 ?_; intro gb302 hg w21 hbox hb; have BK302 := Aside0.mk (hbox); have GW302 := gE_ hg HB; have GE302 := gE_ hg HB; replace HB := bS_ HB hb; clear hb hbox hg) | ((with_reducible refine qgd (N := 3) rfl ?_); refine qB_ 3 #[.int .i64 a1_0, .int .i64 a1_1, .string a1_2, .bool a1_3] 63 ?_; intro gb303 hg w22 hbox hb; have BK303 := Aside0.mk (hbox); have GW303 := gE_ hg HB; have GE303 := gE_ hg HB; replace HB := bS_ HB hb; have NB302_303 := Aside0.mk ((by rw [hg]; exact Nat.ne_of_lt (blk_lt (g := gb302) (o := .cells #[.string a0_0, .int .i64 a0_1, .bool false, .bool false] 118 (0, 0)) (bl_ BK302.out)) : gb302 ≠ gb303)); have NB303_302 := Aside0.mk ((by rw [hg]; exact Nat.ne_of_gt (blk_lt (g := gb302) (o := .cells #[.string a0_0, .int .i64 a0_1, .bool false, .bool false] 118 (0, 0)) (bl_ BK302.out)) : gb303 ≠ gb302)); replace BK302 := kB_ BK302 hb; clear hb hbox hg; have hnb23 := NB303_302.out; have hnc23 := NB302_303.out; obtain ⟨hcz24_0, hcz24_1, hcz24_2, hcz24_3, hfz24_0, hfz24_1, hfz24_2, hfz24_3⟩ := zf4_ BK303) | ((with_reducible refine qgc (f := 68) rfl ?_); refine gL_ (some 7) Tryz.func68 #[.agg #[.int .i64 a1_0, .int .i64 a1_1, .string a1_2, .bool a1_3]] ?_; (with_reducible refine (value_Valid.calls k a1_0 a1_1 a1_2 a1_3 none _ A3.out).mono ?_); rintro e w25 ⟨rfl, hb⟩; refine ⟨_, rfl, ?_⟩; replace BK302 := kB_ BK302 hb; replace BK303 := kB_ BK303 hb; replace HB := bS_ HB hb; clear hb; (try simp only [errW_none, errW_some]); obtain ⟨hcz26_0, hcz26_1, hcz26_2, hcz26_3, hfz26_0, hfz26_1, hfz26_2, hfz26_3⟩ := zf4_ BK303; obtain ⟨hcz27_0, hcz27_1, hcz27_2, hcz27_3, hfz27_0, hfz27_1, hfz27_2, hfz27_3⟩ := zf4_ BK302))
   go_ret
   exact ⟨fr_, bw_ HB.out⟩
  rw [if_neg c4] at H
  have ⟨c4b0, c4b1⟩ := eqF c4
  by_cases c28 : a1_0 = a0_1
  ·rw [if_pos c28] at H
   have ⟨c28b0, c28b1⟩ := eqT c28
   clear c28
   obtain rfl := Option.some.inj H
   go_enter Tryz.func89, Tryz.ntmps89
   go_wp2_with (first | ((with_reducible refine qgd (N := 2) rfl ?_); refine qB_ 2 #[.string a0_0, .int .i64 a0_1, .bool a0_2, .bool a0_3] 118 ?_; intro gb302 hg w29 hbox hb; have BK302 := Aside0.mk (hbox); have GW302 := gE_ hg HB; have GE302 := gE_ hg HB; replace HB := bS_ HB hb; clear hb hbox hg) | ((with_reducible refine qgd (N := 3) rfl ?_); refine qB_ 3 #[.int .i64 a1_0, .int .i64 a1_1, .string a1_2, .bool a1_3] 63 ?_; intro gb303 hg w30 hbox hb; have BK303 := Aside0.mk (hbox); have GW303 := gE_ hg HB; have GE303 := gE_ hg HB; replace HB := bS_ HB hb; have NB302_303 := Aside0.mk ((by rw [hg]; exact Nat.ne_of_lt (blk_lt (g := gb302) (o := .cells #[.string a0_0, .int .i64 a0_1, .bool a0_2, .bool a0_3] 118 (0, 0)) (bl_ BK302.out)) : gb302 ≠ gb303)); have NB303_302 := Aside0.mk ((by rw [hg]; exact Nat.ne_of_gt (blk_lt (g := gb302) (o := .cells #[.string a0_0, .int .i64 a0_1, .bool a0_2, .bool a0_3] 118 (0, 0)) (bl_ BK302.out)) : gb303 ≠ gb302)); replace BK302 := kB_ BK302 hb; clear hb hbox hg; have hnb31 := NB303_302.out; have hnc31 := NB302_303.out; obtain ⟨hcz32_0, hcz32_1, hcz32_2, hcz32_3, hfz32_0, hfz32_1, hfz32_2, hfz32_3⟩ := zf4_ BK303) | ((with_reducible refine qgc (f := 68) rfl ?_); refine gL_ (some 7) Tryz.func68 #[.agg #[.int .i64 a1_0, .int .i64 a1_1, .string a1_2, .bool a1_3]] ?_; (with_reducible refine (value_Valid.calls k a1_0 a1_1 a1_2 a1_3 none _ A3.out).mono ?_); rintro e w33 ⟨rfl, hb⟩; refine ⟨_, rfl, ?_⟩; replace BK302 := kB_ BK302 hb; replace BK303 := kB_ BK303 hb; replace HB := bS_ HB hb; clear hb; (try simp only [errW_none, errW_some]); obtain ⟨hcz34_0, hcz34_1, hcz34_2, hcz34_3, hfz34_0, hfz34_1, hfz34_2, hfz34_3⟩ := zf4_ BK303; obtain ⟨hcz35_0, hcz35_1, hcz35_2, hcz35_3, hfz35_0, hfz35_1, hfz35_2, hfz35_3⟩ := zf4_ BK302))
   go_ret
   exact ⟨fr_, bw_ HB.out⟩
  rw [if_neg c28] at H
  have ⟨c28b0, c28b1⟩ := eqF c28
  obtain rfl := Option.some.inj H
  go_enter Tryz.func89, Tryz.ntmps89
  go_wp2_with (first | ((with_reducible refine qgd (N := 2) rfl ?_); refine qB_ 2 #[.string a0_0, .int .i64 a0_1, .bool a0_2, .bool a0_3] 118 ?_; intro gb302 hg w36 hbox hb; have BK302 := Aside0.mk (hbox); have GW302 := gE_ hg HB; have GE302 := gE_ hg HB; replace HB := bS_ HB hb; clear hb hbox hg) | ((with_reducible refine qgd (N := 3) rfl ?_); refine qB_ 3 #[.int .i64 a1_0, .int .i64 a1_1, .string a1_2, .bool a1_3] 63 ?_; intro gb303 hg w37 hbox hb; have BK303 := Aside0.mk (hbox); have GW303 := gE_ hg HB; have GE303 := gE_ hg HB; replace HB := bS_ HB hb; have NB302_303 := Aside0.mk ((by rw [hg]; exact Nat.ne_of_lt (blk_lt (g := gb302) (o := .cells #[.string a0_0, .int .i64 a0_1, .bool a0_2, .bool a0_3] 118 (0, 0)) (bl_ BK302.out)) : gb302 ≠ gb303)); have NB303_302 := Aside0.mk ((by rw [hg]; exact Nat.ne_of_gt (blk_lt (g := gb302) (o := .cells #[.string a0_0, .int .i64 a0_1, .bool a0_2, .bool a0_3] 118 (0, 0)) (bl_ BK302.out)) : gb303 ≠ gb302)); replace BK302 := kB_ BK302 hb; clear hb hbox hg; have hnb38 := NB303_302.out; have hnc38 := NB302_303.out; obtain ⟨hcz39_0, hcz39_1, hcz39_2, hcz39_3, hfz39_0, hfz39_1, hfz39_2, hfz39_3⟩ := zf4_ BK303) | ((with_reducible refine qgc (f := 68) rfl ?_); refine gL_ (some 7) Tryz.func68 #[.agg #[.int .i64 a1_0, .int .i64 a1_1, .string a1_2, .bool a1_3]] ?_; (with_reducible refine (value_Valid.calls k a1_0 a1_1 a1_2 a1_3 none _ A3.out).mono ?_); rintro e w40 ⟨rfl, hb⟩; refine ⟨_, rfl, ?_⟩; replace BK302 := kB_ BK302 hb; replace BK303 := kB_ BK303 hb; replace HB := bS_ HB hb; clear hb; (try simp only [errW_none, errW_some]); obtain ⟨hcz41_0, hcz41_1, hcz41_2, hcz41_3, hfz41_0, hfz41_1, hfz41_2, hfz41_3⟩ := zf4_ BK303; obtain ⟨hcz42_0, hcz42_1, hcz42_2, hcz42_3, hfz42_0, hfz42_1, hfz42_2, hfz42_3⟩ := zf4_ BK302))
  go_ret
  exact ⟨fr_, bw_ HB.out⟩
 have H1 : (some (some q305)) = some r := by rw [if_neg (show ¬ (some q305).isNone = true by simp)] at H; exact H
 clear H
 have H := H1
 clear H1
 try simp only [errW_none, errW_some]
 obtain rfl := Option.some.inj H
 go_enter Tryz.func89, Tryz.ntmps89
 go_wp2_with (first | ((with_reducible refine qgd (N := 2) rfl ?_); refine qB_ 2 #[.string a0_0, .int .i64 a0_1, .bool a0_2, .bool a0_3] 118 ?_; intro gb302 hg w43 hbox hb; have BK302 := Aside0.mk (hbox); have GW302 := gE_ hg HB; have GE302 := gE_ hg HB; replace HB := bS_ HB hb; clear hb hbox hg) | ((with_reducible refine qgd (N := 3) rfl ?_); refine qB_ 3 #[.int .i64 a1_0, .int .i64 a1_1, .string a1_2, .bool a1_3] 63 ?_; intro gb303 hg w44 hbox hb; have BK303 := Aside0.mk (hbox); have GW303 := gE_ hg HB; have GE303 := gE_ hg HB; replace HB := bS_ HB hb; have NB302_303 := Aside0.mk ((by rw [hg]; exact Nat.ne_of_lt (blk_lt (g := gb302) (o := .cells #[.string a0_0, .int .i64 a0_1, .bool a0_2, .bool a0_3] 118 (0, 0)) (bl_ BK302.out)) : gb302 ≠ gb303)); have NB303_302 := Aside0.mk ((by rw [hg]; exact Nat.ne_of_gt (blk_lt (g := gb302) (o := .cells #[.string a0_0, .int .i64 a0_1, .bool a0_2, .bool a0_3] 118 (0, 0)) (bl_ BK302.out)) : gb303 ≠ gb302)); replace BK302 := kB_ BK302 hb; clear hb hbox hg; have hnb45 := NB303_302.out; have hnc45 := NB302_303.out; obtain ⟨hcz46_0, hcz46_1, hcz46_2, hcz46_3, hfz46_0, hfz46_1, hfz46_2, hfz46_3⟩ := zf4_ BK303) | ((with_reducible refine qgc (f := 68) rfl ?_); refine gL_ (some 7) Tryz.func68 #[.agg #[.int .i64 a1_0, .int .i64 a1_1, .string a1_2, .bool a1_3]] ?_; (with_reducible refine (value_Valid.calls k a1_0 a1_1 a1_2 a1_3 (some q305) _ A3.out).mono ?_); rintro e w47 ⟨rfl, hb⟩; refine ⟨_, rfl, ?_⟩; replace BK302 := kB_ BK302 hb; replace BK303 := kB_ BK303 hb; replace HB := bS_ HB hb; clear hb; (try simp only [errW_none, errW_some])))
 go_ret
 exact ⟨fr_, bw_ HB.out⟩

end Go.Proofs.YtddkbhglbkfelaaGreatDoor.T
