import Derived.Test.YtddkbhglbkfelaaGreatDoorPkTx0
import Derived.Test.YtddkbhglbkfelaaGreatDoorPkTx5
import Derived.Test.YtddkbhglbkfelaaGreatDoorPkTx6
namespace Go.Proofs.YtddkbhglbkfelaaGreatDoor.T
open Go.RowKit Go.Proofs.YtddkbhglbkfelaaGreatDoorW.PrintWords Go.Proofs.YtddkbhglbkfelaaGreatDoorW.PrintLast Go.Proofs.YtddkbhglbkfelaaGreatDoorW.PrintMore Go.Proofs.YtddkbhglbkfelaaGreatDoorX
attribute [local go_sem] max2_int min2_int max_two min_two max_three min_three max_four min_four
set_option linter.unusedVariables false
set_option linter.unusedSimpArgs false

/-! ### order_Decode: function 78 -/
def order_Decode.l0 : Nat → ByteArray → List (S63) → Option ((List (S63)) × Option Int)
 | 0, _, _ => none
 | k + 1, x0, x4 => if x0.toList = ([] : List UInt8) then (some (x4, none)) else ((order_one.f k x0).bind fun bt175 => (if bt175.2.2.2.2.2 = true then ((value_Valid.f k bt175.1 bt175.2.1 bt175.2.2.1 bt175.2.2.2.1).bind fun t182 => (if t182.isNone = true then (if (x4.length : Int) = 16 then (some (([] : List (S63)), some 3)) else (if x4.length < 3518437208883 then (order_Decode.l0 k bt175.2.2.2.2.1 (x4 ++ [(⟨bt175.1, bt175.2.1, bt175.2.2.1, bt175.2.2.2.1⟩ : S63)])) else (none))) else (some (([] : List (S63)), some 3)))) else (some (([] : List (S63)), some 3))))
def order_Decode.f (k : Nat) (a0 : ByteArray) : Option ((List (S63)) × Option Int) := order_Decode.l0 k a0 ([] : List (S63))
theorem order_Decode.mono_l : ∀ k, (∀ y0 y1, LeO (order_Decode.l0 k y0 y1) (order_Decode.l0 (k + 1) y0 y1))
 | 0 => fun _ _ r h => by simp [order_Decode.l0] at h
 | k + 1 => by
  have ih0 := order_Decode.mono_l k
  ·intro y0 y1
   unfold order_Decode.l0
   repeat' first
   | (with_reducible exact ih0 _ _)
   | (with_reducible exact order_one.mono _ _)
   | (with_reducible exact value_Valid.mono _ _ _ _ _)
   | (with_reducible exact LeO.refl _)
   | (with_reducible exact LeO.none _)
   | (with_reducible refine LeO.ite ?_ ?_)
   | (with_reducible refine LeO.bind ?_ (fun _ => ?_))
   | exact ih0 _ _
   | exact order_one.mono _ _
   | exact value_Valid.mono _ _ _ _ _
   | exact LeO.none _
   | refine LeO.ite ?_ ?_
   | refine LeO.bind ?_ (fun _ => ?_)
theorem order_Decode.mono : ∀ a0 k, LeO (order_Decode.f k a0) (order_Decode.f (k + 1) a0) := by
 intro a0 k
 have ih0 := order_Decode.mono_l k
 unfold order_Decode.f
 repeat' first
   | (with_reducible exact ih0 _ _)
   | (with_reducible exact order_one.mono _ _)
   | (with_reducible exact value_Valid.mono _ _ _ _ _)
   | (with_reducible exact LeO.refl _)
   | (with_reducible exact LeO.none _)
   | (with_reducible refine LeO.ite ?_ ?_)
   | (with_reducible refine LeO.bind ?_ (fun _ => ?_))
   | exact ih0 _ _
   | exact order_one.mono _ _
   | exact value_Valid.mono _ _ _ _ _
   | exact LeO.none _
   | refine LeO.ite ?_ ?_
   | refine LeO.bind ?_ (fun _ => ?_)
set_option maxHeartbeats 8000000 in
set_option maxRecDepth 100000 in
theorem order_Decode.calls (k : Nat) (a0 : ByteArray) (r1 : List (S63)) (r2 : Option Int) (w : World) (hG : GW w) (h : order_Decode.f k a0 = some (r1, r2)) :
  Calls Tryz.prog 78 #[.string a0] w fun e w' => ∃ v0_ : Value, e = .returned (.tuple #[v0_, errW r2]) ∧ Kd.R k63 63 w' w.heap.size (fun _ => True) v0_ r1 ∧ Below w.heap.size w w' := by
 have hu63 := Tryz.underlying63
 have hu32 := Tryz.underlying32
 have hu65 := Tryz.underlying65
 have HB := Aside0.mk (Below.refl w.heap.size w)
 have HG := Aside0.mk hG
 clear hG
 have H : (order_Decode.l0 k a0 ([] : List (S63))) = some (r1, r2) := h
 clear h
 have H' := Aside0.mk H
 clear H
 go_enter Tryz.func78, Tryz.ntmps78
 go_wp2
 go_loopg [0, 4] k (fun kq v0 v4 w' => ∃ (x0_1 : ByteArray) (x4_1 : List (S63)), v0 = .string x0_1 ∧ Aside0 (order_Decode.l0 kq x0_1 x4_1 = some (r1, r2)) ∧ Aside0 (kq ≤ k) ∧ Aside0 (Kd.R k63 63 w' w.heap.size (fun _ => True) v4 x4_1) ∧ Aside0 (Below w.heap.size w w'))
 case atStart => exact ⟨(a0), (([] : List (S63))), fe_, H', ⟨Nat.le_refl _⟩, ⟨by first | exact Kd.R_nil _ _ _ _ _ | exact Kd.N_nil _ _ _ _ _ | exact Kd.V_nil _ _ _ _ _ | exact Kd.Q_nil _ _ _ _ _ | exact Kd.S_nil _ _ _ _ _⟩, ⟨bw_ HB.out⟩⟩
 case round =>
  clear H'
  obtain ⟨x0_1, x4_1, rfl, HA, HK1, HO_4, HB⟩ := hrel
  cases gk with
  | zero => exact absurd HA.out (by simp [order_Decode.l0])
  | succ k1 =>
   have H := HA.out
   clear HA
   simp only [order_Decode.l0] at H
   by_cases c2 : x0_1.toList = ([] : List UInt8)
   ·rw [if_pos c2] at H
    have ⟨c2b0, c2b1⟩ := eqT c2
    clear c2
    obtain ⟨rfl, rfl⟩ := so2 H
    go_wp2
    go_ret2
    exact ⟨_, fr_, by (with_reducible repeat (first | apply Kd.R_alloc | apply Kd.R_drewN | apply Kd.R_drew)); exact HO_4.out, bw_ HB.out⟩
   rw [if_neg c2] at H
   have ⟨c2b0, c2b1⟩ := eqF c2
   obtain ⟨⟨t175, t176, t177, t178, t179, t180⟩, A3, H⟩ := bn_ H; (try dsimp only at H)
   by_cases c4 : t180 = true
   ·subst c4
    rw [if_pos rfl] at H
    obtain ⟨t182, A5, H⟩ := bn_ H; (try dsimp only at H)
    rcases t182 with _ | q183
    ·have H1 : (if (x4_1.length : Int) = 16 then (some (([] : List (S63)), some 3)) else (if x4_1.length < 3518437208883 then (order_Decode.l0 k1 t179 (x4_1 ++ [(⟨t175, t176, t177, t178⟩ : S63)])) else (none))) = some (r1, r2) := by rw [if_pos (show (none : Option Int).isNone = true by rfl)] at H; exact H
     clear H
     have H := H1
     clear H1
     try simp only [errW_none, errW_some]
     by_cases c6 : (x4_1.length : Int) = 16
     ·rw [if_pos c6] at H
      have ⟨c6b0, c6b1⟩ := eqT c6
      clear c6
      obtain ⟨rfl, rfl⟩ := so2 H
      go_wp2_with (first | ((with_reducible refine qgc (f := 92) rfl ?_); refine gL_ (some 12) Tryz.func92 #[.string x0_1] ?_; (with_reducible refine (order_one.calls k1 x0_1 t175 t176 t177 t178 t179 true _ ?side1 A3.out).mono ?_); (case side1 => exact GW_below HG.out (bw_ HB.out)); rintro e w7 ⟨rfl, hb⟩; refine ⟨_, rfl, ?_⟩; replace HO_4 := RB_ HO_4 hb; replace HB := bS_ HB hb; clear hb) | ((with_reducible refine qgd (N := 5) rfl ?_); (try (refine gate_guard (by rfl) ?_; dsimp only)); refine qB_ 5 #[.int .i64 0, .int .i64 0, .string (⟨#[]⟩ : ByteArray), .bool false] 63 ?_; intro gb181 hg w8 hbox hb; replace HO_4 := Aside0.mk (Kd.R_below (Kd.R_elderB (kR_ HO_4.out) gb181 (Nat.le_of_eq hg.symm)) hb); have BK181 := Aside0.mk (hbox); have GW181 := gE_ hg HB; have GE181 := gE_ hg HB; replace HB := bS_ HB hb; clear hb hbox hg; obtain ⟨hcz9_0, hcz9_1, hcz9_2, hcz9_3, hfz9_0, hfz9_1, hfz9_2, hfz9_3⟩ := zf4_ BK181) | (go_at_call 68; (with_reducible refine (value_Valid.calls k1 t175 t176 t177 t178 none _ A5.out).mono ?_); rintro e w10 ⟨rfl, hb⟩; replace HO_4 := Aside0.mk (Kd.R_below (by (with_reducible repeat (first | apply Kd.R_alloc | apply Kd.R_drewN | apply Kd.R_drew)); exact (Kd.R_mono (Kd.R_far (p := ⟨gb181, 3, none⟩) (Kd.R_far (p := ⟨gb181, 2, none⟩) (Kd.R_far (p := ⟨gb181, 1, none⟩) (Kd.R_far (p := ⟨gb181, 0, none⟩) (Kd.R_mono HO_4.out (fun k_ hk => (⟨hk, hk.2⟩ : _ ∧ k_ ≠ gb181))) (fun _ hk => hk.2) (.int .i64 t175)) (fun _ hk => hk.2) (.int .i64 t176)) (fun _ hk => hk.2) (.string t177)) (fun _ hk => hk.2) (.bool t178)) (fun _ h_ => h_.1))) hb); replace BK181 := Aside0.mk (qkb (g := gb181) (o := .cells #[.int .i64 t175, .int .i64 t176, .string t177, .bool t178] 63 (0, 0)) (bp_ BK181) hb); replace HB := bS_ HB hb; clear hb; (try simp only [errW_none, errW_some]); obtain ⟨Ao11, co11, eo11⟩ := Kd.R_slice HO_4.out; subst eo11))
      go_ret2
      exact ⟨_, fr_, by first | exact Kd.R_nil _ _ _ _ _ | exact Kd.N_nil _ _ _ _ _ | exact Kd.V_nil _ _ _ _ _ | exact Kd.Q_nil _ _ _ _ _ | exact Kd.S_nil _ _ _ _ _, bw_ HB.out⟩
     rw [if_neg c6] at H
     have ⟨c6b0, c6b1⟩ := eqF c6
     have c12 : x4_1.length < 3518437208883 := Classical.byContradiction fun c12 => by rw [if_neg c12] at H; exact absurd H (by simp)
     rw [if_pos c12] at H
     have LMc12 := Aside0.mk c12
     clear c12
     first | (revert H; with_reducible refine nm_ fun y184 hy184 H => ?_) | (generalize hy184 : (x4_1 ++ [(⟨t175, t176, t177, t178⟩ : S63)] : List (S63)) = y184 at H; replace hy184 := hy184.symm)
     have Ny184 := Aside0.mk hy184; clear hy184
     have H' := Aside0.mk H
     clear H
     go_wp2_with (first | ((with_reducible refine qgc (f := 92) rfl ?_); refine gL_ (some 12) Tryz.func92 #[.string x0_1] ?_; (with_reducible refine (order_one.calls k1 x0_1 t175 t176 t177 t178 t179 true _ ?side1 A3.out).mono ?_); (case side1 => exact GW_below HG.out (bw_ HB.out)); rintro e w13 ⟨rfl, hb⟩; refine ⟨_, rfl, ?_⟩; replace HO_4 := RB_ HO_4 hb; replace HB := bS_ HB hb; clear hb) | ((with_reducible refine qgd (N := 5) rfl ?_); (try (refine gate_guard (by rfl) ?_; dsimp only)); refine qB_ 5 #[.int .i64 0, .int .i64 0, .string (⟨#[]⟩ : ByteArray), .bool false] 63 ?_; intro gb181 hg w14 hbox hb; replace HO_4 := Aside0.mk (Kd.R_below (Kd.R_elderB (kR_ HO_4.out) gb181 (Nat.le_of_eq hg.symm)) hb); have BK181 := Aside0.mk (hbox); have GW181 := gE_ hg HB; have GE181 := gE_ hg HB; replace HB := bS_ HB hb; clear hb hbox hg; obtain ⟨hcz15_0, hcz15_1, hcz15_2, hcz15_3, hfz15_0, hfz15_1, hfz15_2, hfz15_3⟩ := zf4_ BK181) | (go_at_call 68; (with_reducible refine (value_Valid.calls k1 t175 t176 t177 t178 none _ A5.out).mono ?_); rintro e w16 ⟨rfl, hb⟩; replace HO_4 := Aside0.mk (Kd.R_below (by (with_reducible repeat (first | apply Kd.R_alloc | apply Kd.R_drewN | apply Kd.R_drew)); exact (Kd.R_mono (Kd.R_far (p := ⟨gb181, 3, none⟩) (Kd.R_far (p := ⟨gb181, 2, none⟩) (Kd.R_far (p := ⟨gb181, 1, none⟩) (Kd.R_far (p := ⟨gb181, 0, none⟩) (Kd.R_mono HO_4.out (fun k_ hk => (⟨hk, hk.2⟩ : _ ∧ k_ ≠ gb181))) (fun _ hk => hk.2) (.int .i64 t175)) (fun _ hk => hk.2) (.int .i64 t176)) (fun _ hk => hk.2) (.string t177)) (fun _ hk => hk.2) (.bool t178)) (fun _ h_ => h_.1))) hb); replace BK181 := Aside0.mk (qkb (g := gb181) (o := .cells #[.int .i64 t175, .int .i64 t176, .string t177, .bool t178] 63 (0, 0)) (bp_ BK181) hb); replace HB := bS_ HB hb; clear hb; (try simp only [errW_none, errW_some]); obtain ⟨Ao17, co17, eo17⟩ := Kd.R_slice HO_4.out; subst eo17; obtain ⟨hcz18_0, hcz18_1, hcz18_2, hcz18_3, hfz18_0, hfz18_1, hfz18_2, hfz18_3⟩ := zf4_ BK181) | ((with_reducible refine gate_builtin (b := .append) (xs := #[.tmp 29, .tmp 31]) rfl ?_); (try (refine gate_guard (by rfl) ?_; dsimp only)); at_builtin; refine Kd.R_append k63 (w0 := w) w.heap.size rfl (.tmp 29) (.tmp 31) 64 63 (.agg #[(.int .i64 0), (.int .i64 0), (.string ⟨#[]⟩), (.bool false)]) 40 rfl Tryz.underlying64 info63 rfl (by decide) (by omega) (.slice Ao17 x4_1.length co17) x4_1 (⟨t175, t176, t177, t178⟩ : S63) [.int .i64 t175, .int .i64 t176, .string t177, .bool t178] (fun k_ => k_ ≠ gb181) (fun _ => False) rfl rfl ?aP (fun _ hk => hk.elim) (fun k_ hk => Kd.freshB (g := gb181) (o := .cells #[.int .i64 t175, .int .i64 t176, .string t177, .bool t178] 63 (0, 0)) (bl_ BK181.out) k_ hk) ?aO (bw_ HB.out) (qbz (bw_ HB.out)) (by have := LMc12.out; omega) ?_; (case aP => exact k63_mkM _ _ _ (⟨t175, t176, t177, t178⟩ : S63)); (case aO => exact (kM_ HO_4)); intro v185 w19 ho hb hg hat; rw [← Ny184.out] at ho; replace BK181 := gR_ BK181 hg (Kd.R_away HO_4.out (fun _ hk => hk.2)); replace HB := Aside0.mk (hb); have HO186 := Aside0.mk (ho); clear HO_4 ho hb hg hat))
     go_roundg k1
     case measure => have := HK1.out; omega
     case rel => exact ⟨(t179), (y184), fe_, H', ⟨by have := HK1.out; omega⟩, ⟨by (with_reducible repeat (first | apply Kd.R_alloc | apply Kd.R_drewN | apply Kd.R_drew)); exact Kd.R_mono HO186.out (fun _ hk => trivial)⟩, ⟨bw_ HB.out⟩⟩
    have H1 : (some (([] : List (S63)), some 3)) = some (r1, r2) := by rw [if_neg (show ¬ (some q183).isNone = true by simp)] at H; exact H
    clear H
    have H := H1
    clear H1
    try simp only [errW_none, errW_some]
    obtain ⟨rfl, rfl⟩ := so2 H
    go_wp2_with (first | ((with_reducible refine qgc (f := 92) rfl ?_); refine gL_ (some 12) Tryz.func92 #[.string x0_1] ?_; (with_reducible refine (order_one.calls k1 x0_1 t175 t176 t177 t178 t179 true _ ?side1 A3.out).mono ?_); (case side1 => exact GW_below HG.out (bw_ HB.out)); rintro e w20 ⟨rfl, hb⟩; refine ⟨_, rfl, ?_⟩; replace HO_4 := RB_ HO_4 hb; replace HB := bS_ HB hb; clear hb) | ((with_reducible refine qgd (N := 5) rfl ?_); (try (refine gate_guard (by rfl) ?_; dsimp only)); refine qB_ 5 #[.int .i64 0, .int .i64 0, .string (⟨#[]⟩ : ByteArray), .bool false] 63 ?_; intro gb181 hg w21 hbox hb; replace HO_4 := Aside0.mk (Kd.R_below (Kd.R_elderB (kR_ HO_4.out) gb181 (Nat.le_of_eq hg.symm)) hb); have BK181 := Aside0.mk (hbox); have GW181 := gE_ hg HB; have GE181 := gE_ hg HB; replace HB := bS_ HB hb; clear hb hbox hg; obtain ⟨hcz22_0, hcz22_1, hcz22_2, hcz22_3, hfz22_0, hfz22_1, hfz22_2, hfz22_3⟩ := zf4_ BK181) | (go_at_call 68; (with_reducible refine (value_Valid.calls k1 t175 t176 t177 t178 (some q183) _ A5.out).mono ?_); rintro e w23 ⟨rfl, hb⟩; replace HO_4 := Aside0.mk (Kd.R_below (by (with_reducible repeat (first | apply Kd.R_alloc | apply Kd.R_drewN | apply Kd.R_drew)); exact (Kd.R_mono (Kd.R_far (p := ⟨gb181, 3, none⟩) (Kd.R_far (p := ⟨gb181, 2, none⟩) (Kd.R_far (p := ⟨gb181, 1, none⟩) (Kd.R_far (p := ⟨gb181, 0, none⟩) (Kd.R_mono HO_4.out (fun k_ hk => (⟨hk, hk.2⟩ : _ ∧ k_ ≠ gb181))) (fun _ hk => hk.2) (.int .i64 t175)) (fun _ hk => hk.2) (.int .i64 t176)) (fun _ hk => hk.2) (.string t177)) (fun _ hk => hk.2) (.bool t178)) (fun _ h_ => h_.1))) hb); replace BK181 := Aside0.mk (qkb (g := gb181) (o := .cells #[.int .i64 t175, .int .i64 t176, .string t177, .bool t178] 63 (0, 0)) (bp_ BK181) hb); replace HB := bS_ HB hb; clear hb; (try simp only [errW_none, errW_some])))
    go_ret2
    exact ⟨_, fr_, by first | exact Kd.R_nil _ _ _ _ _ | exact Kd.N_nil _ _ _ _ _ | exact Kd.V_nil _ _ _ _ _ | exact Kd.Q_nil _ _ _ _ _ | exact Kd.S_nil _ _ _ _ _, bw_ HB.out⟩
   replace c4 := Bool.eq_false_iff.mpr c4
   subst c4
   rw [if_neg (show ¬ (false = true) by decide)] at H
   obtain ⟨rfl, rfl⟩ := so2 H
   go_wp2_with (first | ((with_reducible refine qgc (f := 92) rfl ?_); refine gL_ (some 12) Tryz.func92 #[.string x0_1] ?_; (with_reducible refine (order_one.calls k1 x0_1 t175 t176 t177 t178 t179 false _ ?side1 A3.out).mono ?_); (case side1 => exact GW_below HG.out (bw_ HB.out)); rintro e w24 ⟨rfl, hb⟩; refine ⟨_, rfl, ?_⟩; replace HO_4 := RB_ HO_4 hb; replace HB := bS_ HB hb; clear hb) | ((with_reducible refine qgd (N := 5) rfl ?_); (try (refine gate_guard (by rfl) ?_; dsimp only)); refine qB_ 5 #[.int .i64 0, .int .i64 0, .string (⟨#[]⟩ : ByteArray), .bool false] 63 ?_; intro gb181 hg w25 hbox hb; replace HO_4 := Aside0.mk (Kd.R_below (Kd.R_elderB (kR_ HO_4.out) gb181 (Nat.le_of_eq hg.symm)) hb); have BK181 := Aside0.mk (hbox); have GW181 := gE_ hg HB; have GE181 := gE_ hg HB; replace HB := bS_ HB hb; clear hb hbox hg; obtain ⟨hcz26_0, hcz26_1, hcz26_2, hcz26_3, hfz26_0, hfz26_1, hfz26_2, hfz26_3⟩ := zf4_ BK181))
   go_ret2
   exact ⟨_, fr_, by first | exact Kd.R_nil _ _ _ _ _ | exact Kd.N_nil _ _ _ _ _ | exact Kd.V_nil _ _ _ _ _ | exact Kd.Q_nil _ _ _ _ _ | exact Kd.S_nil _ _ _ _ _, bw_ HB.out⟩

end Go.Proofs.YtddkbhglbkfelaaGreatDoor.T
