import Derived.Test.YtddkbhglbkfelaaGreatDoorPkTx0
import Derived.Test.YtddkbhglbkfelaaGreatDoorPkTx2
import Derived.Test.YtddkbhglbkfelaaGreatDoorPkTx3
import Derived.Test.YtddkbhglbkfelaaGreatDoorPkTx8
import Derived.Test.YtddkbhglbkfelaaGreatDoorPkTx9
namespace Go.Proofs.YtddkbhglbkfelaaGreatDoor.T
open Go.RowKit Go.Proofs.YtddkbhglbkfelaaGreatDoorW.PrintWords Go.Proofs.YtddkbhglbkfelaaGreatDoorW.PrintLast Go.Proofs.YtddkbhglbkfelaaGreatDoorW.PrintMore Go.Proofs.YtddkbhglbkfelaaGreatDoorX
attribute [local go_sem] max2_int min2_int max_two min_two max_three min_three max_four min_four
set_option linter.unusedVariables false
set_option linter.unusedSimpArgs false

/-! ### store_EncodeEntry: function 16 -/
def store_EncodeEntry.l0 : Nat → List Int → List (List (S63)) → Int → Int → Option (List Int × Option Int)
 | 0, _, _, _, _ => none
 | k + 1, x4, x23, x24, x25 => if x25 < x24 then (if 0 ≤ x25 then (if x25 < (x23.length : Int) then ((order_Encode.f k (rd_L9 x23 x25)).bind fun bt247 => (if bt247.2.isNone = true then ((pack_AppendText.f k x4 bt247.1).bind fun t250 => (store_EncodeEntry.l0 k t250 x23 x24 (wrap64 (x25 + 1)))) else (some (([] : List Int), some (bt247.2.getD 0))))) else (none)) else (none)) else (some (x4, none))
def store_EncodeEntry.f (k : Nat) (a0_0 : ByteArray) (l0_1 : List (List (S63))) : Option (List Int × Option Int) := (table_Name.f k a0_0).bind fun t236 => (if t236 = true then ((pack_AppendText.f k (([2] : List Int)) a0_0).bind fun t240 => ((store_count.f k t240 (l0_1.length : Int)).bind fun t243 => (store_EncodeEntry.l0 k t243 l0_1 (l0_1.length : Int) 0))) else (some (([] : List Int), some 30)))
theorem store_EncodeEntry.mono_l : ∀ k, (∀ y0 y1 y2 y3, LeO (store_EncodeEntry.l0 k y0 y1 y2 y3) (store_EncodeEntry.l0 (k + 1) y0 y1 y2 y3))
 | 0 => fun _ _ _ _ r h => by simp [store_EncodeEntry.l0] at h
 | k + 1 => by
  have ih0 := store_EncodeEntry.mono_l k
  ·intro y0 y1 y2 y3
   unfold store_EncodeEntry.l0
   repeat' first
   | (with_reducible exact ih0 _ _ _ _)
   | (with_reducible exact order_Encode.mono _ _)
   | (with_reducible exact pack_AppendText.mono _ _ _)
   | (with_reducible exact store_count.mono _ _ _)
   | (with_reducible exact table_Name.mono _ _)
   | (with_reducible exact LeO.refl _)
   | (with_reducible exact LeO.none _)
   | (with_reducible refine LeO.ite ?_ ?_)
   | (with_reducible refine LeO.bind ?_ (fun _ => ?_))
   | exact ih0 _ _ _ _
   | exact order_Encode.mono _ _
   | exact pack_AppendText.mono _ _ _
   | exact store_count.mono _ _ _
   | exact table_Name.mono _ _
   | exact LeO.none _
   | refine LeO.ite ?_ ?_
   | refine LeO.bind ?_ (fun _ => ?_)
theorem store_EncodeEntry.mono : ∀ a0 a1 k, LeO (store_EncodeEntry.f k a0 a1) (store_EncodeEntry.f (k + 1) a0 a1) := by
 intro a0 a1 k
 have ih0 := store_EncodeEntry.mono_l k
 unfold store_EncodeEntry.f
 repeat' first
   | (with_reducible exact ih0 _ _ _ _)
   | (with_reducible exact order_Encode.mono _ _)
   | (with_reducible exact pack_AppendText.mono _ _ _)
   | (with_reducible exact store_count.mono _ _ _)
   | (with_reducible exact table_Name.mono _ _)
   | (with_reducible exact LeO.refl _)
   | (with_reducible exact LeO.none _)
   | (with_reducible refine LeO.ite ?_ ?_)
   | (with_reducible refine LeO.bind ?_ (fun _ => ?_))
   | exact ih0 _ _ _ _
   | exact order_Encode.mono _ _
   | exact pack_AppendText.mono _ _ _
   | exact store_count.mono _ _ _
   | exact table_Name.mono _ _
   | exact LeO.none _
   | refine LeO.ite ?_ ?_
   | refine LeO.bind ?_ (fun _ => ?_)
def store_EncodeEntry.T3 : Bool × List (List Nat × List Nat) := (true, [([], []), ([], []), ([1], [1]), ([0, 2], [0, 2]), ([], []), ([4], [4]), ([5], [5]), ([3, 6, 3], [3, 6]), ([7, 7, 0, 1, 2, 3, 4, 5, 6, 7], [7])])
def store_EncodeEntry.B3 : List Nat := [0, 0, 2, 7, 0, 16, 48, 127, 255]
theorem store_EncodeEntry.tab3 : rtab .any (opsOf Tryz.f16 3) = store_EncodeEntry.T3 := by kernel_rfl
theorem store_EncodeEntry.bits3 : waitsOk store_EncodeEntry.T3.2 store_EncodeEntry.B3 = true := by kernel_rfl
set_option maxHeartbeats 8000000 in
set_option maxRecDepth 100000 in
theorem store_EncodeEntry.calls (k : Nat) (a0_0 : ByteArray) (A0_1 : Option Addr) (c0_1 : Nat) (l0_1 : List (List (S63))) (r1 : List Int) (r2 : Option Int) (w : World) (hr0_1 : Kd.C (Kd.slice 63 k63) w A0_1 l0_1.length l0_1) (hc0_1 : l0_1.length ≤ c0_1) (hG : GW w) (h : store_EncodeEntry.f k a0_0 l0_1 = some (r1, r2)) :
  Calls Tryz.prog 16 #[.agg #[.string a0_0, .slice A0_1 l0_1.length c0_1]] w fun e w' => ∃ v0_ : Value, e = .returned (.tuple #[v0_, errW r2]) ∧ Kd.R (Kd.int .u8) 5 w' w.heap.size (fun _ => True) v0_ r1 ∧ Below w.heap.size w w' := by
 have hu50 := Tryz.underlying50
 have hu32 := Tryz.underlying32
 have hu65 := Tryz.underlying65
 have HR0_1 := Aside0.mk hr0_1
 have HC0_1 := Aside0.mk hc0_1
 clear hr0_1 hc0_1
 have HB := Aside0.mk (Below.refl w.heap.size w)
 have HG := Aside0.mk hG
 clear hG
 have H : ((table_Name.f k a0_0).bind fun t236 => (if t236 = true then ((pack_AppendText.f k (([2] : List Int)) a0_0).bind fun t240 => ((store_count.f k t240 (l0_1.length : Int)).bind fun t243 => (store_EncodeEntry.l0 k t243 l0_1 (l0_1.length : Int) 0))) else (some (([] : List Int), some 30)))) = some (r1, r2) := h
 clear h
 obtain ⟨t236, A2, H⟩ := bn_ H; (try dsimp only at H)
 by_cases c3 : t236 = true
 ·subst c3
  rw [if_pos rfl] at H
  first | (revert H; with_reducible refine nm_ fun y237 hy237 H => ?_) | (generalize hy237 : (([2] : List Int) : List Int) = y237 at H; replace hy237 := hy237.symm)
  have Ny237 := Aside0.mk hy237; clear hy237
  obtain ⟨t240, A4, H⟩ := bn_ H; (try dsimp only at H)
  obtain ⟨t243, A5, H⟩ := bn_ H; (try dsimp only at H)
  have H' := Aside0.mk H
  clear H
  go_enter Tryz.func16, Tryz.ntmps16
  try go_wp2_with (first | ((with_reducible refine qgd (N := 1) rfl ?_); refine qB_ 1 #[.string a0_0, .slice A0_1 l0_1.length c0_1] 50 ?_; intro gb235 hg w6 hbox hb; have BK235 := Aside0.mk (hbox); have GW235 := gE_ hg HB; have GE235 := gE_ hg HB; replace HB := bS_ HB hb; clear hb hbox hg; obtain ⟨hcz7_0, hcz7_1, hfz7_0, hfz7_1⟩ := zf2_ BK235) | ((with_reducible refine qgc (f := 40) rfl ?_); refine gL_ (some 11) Tryz.func40 #[.string a0_0] ?_; (with_reducible refine (table_Name.calls k a0_0 true _ ?side1 A2.out).mono ?_); (case side1 => exact GW_below HG.out (bw_ HB.out)); rintro e w8 ⟨rfl, hb⟩; refine ⟨_, rfl, ?_⟩; replace BK235 := kB_ BK235 hb; replace HB := bS_ HB hb; clear hb))
  replace BK235 := kD_ BK235
  replace HB := bD_ HB
  refine start_ (n := 9) (S := fun w' => w'.cell? ⟨gb235, 0, none⟩ = some (.string a0_0) ∧ w'.cell? ⟨gb235, 1, none⟩ = some (.slice A0_1 l0_1.length c0_1)) (ds := []) #[false, false, false, false, false, false, false, false, false] (by kernel_rfl) rfl rfl ⟨(qkc BK235.out 0).trans rfl, (qkc BK235.out 1).trans rfl⟩ (fun hHeld => ?_); refine with_tabW store_EncodeEntry.tab3 store_EncodeEntry.bits3 (fun HT_ HW_ => ?_)
  generalize w8.drew = w9 at BK235 HB hHeld ⊢
  refine pu_ 1 (some 15) HT_ ?_
  refine pu_ 4 (some 18) HT_ ?_
  refine take_ (i := 2) (N := some 16) (v := ?_) (a' := ?_) #[false, true, true, false, true, false, false, false, false] rfl rfl (take_ofW HT_.out HW_.out (by kernel_rfl)) (fun _ _ _ h => h) (Or.inl ⟨by rfl, ?_⟩) hHeld ?_ ?_
  rotate_left
  ·rintro w' ⟨s0, s1⟩
   go_simp
   with_reducible rfl
  rotate_left
  ·simp only [Act.put, List.setIfInBounds_toArray, List.set_cons_zero, List.set_cons_succ, i64_w, i32_w]
   rfl
  refine take_ (i := 5) (N := some 19) (v := ?_) (a' := ?_) #[false, true, true, false, true, true, false, false, false] rfl rfl (take_ofW HT_.out HW_.out (by kernel_rfl)) (fun _ _ _ h => h) (Or.inl ⟨by rfl, ?_⟩) hHeld ?_ ?_
  rotate_left
  ·rintro w' ⟨s0, s1⟩
   go_simp
   with_reducible rfl
  rotate_left
  ·simp only [Act.put, List.setIfInBounds_toArray, List.set_cons_zero, List.set_cons_succ, i64_w, i32_w]
   rfl
  refine pu_ 6 (some 20) HT_ ?_
  refine one_ (i := 0) (N := some 14) #[true, true, true, false, true, true, true, false, false] rfl rfl (one_of HT_.out (by kernel_rfl)) (by decide) (fun K hK => ?_)
  refine Kd.R_lit_step (Kd.int .u8) _ 5 ?hg (N := 14) ?hd (xs := ([2] : List Int)) (inner := [.int .u8 2]) (ok := fun _ => True) (okp := fun _ => True) ?hr ?hp (fun _ hk => hk) trivial (Below.refl _ _) (Nat.le_refl _) (by simp) ?_; (case hd => rfl); (case hg => rfl); (case hr => first | (go_simp; done) | (go_simp; rfl)); (case hp => exact (Reps.one (show Kd.M (Kd.int .u8) _ _ _ 2 [.int .u8 2] from rfl) (Reps.none _ _)))
  intro v238 w10 ho11 hb hg_ hnew_
  clear hg_ hnew_
  (first | rw [← Ny237.out] at ho11 | (simp only [Int.reduceToNat] at ho11; rw [← Ny237.out] at ho11))
  have HO239 := Rl_ ho11 HB
  replace BK235 := kB_ BK235 hb
  replace HB := bS_ HB hb
  clear hb ho11
  obtain ⟨Ao12, co12, eo12⟩ := Kd.R_slice HO239.out
  (first | subst eo12 | (injection eo12 with f1_ f2_ f3_; have f4_ := f1_.symm; have f5_ := f3_.symm; clear f1_ f2_ f3_; subst f4_; subst f5_))
  refine hK.out _ _ ⟨(qkc BK235.out 0).trans rfl, (qkc BK235.out 1).trans rfl⟩ (fun hHeld => ?_)
  clear hK K
  refine norm_ (a' := ?_) ?_ ?_
  rotate_left
  ·show Act.put _ (some 14) _ = _
   simp only [Act.put, List.setIfInBounds_toArray, List.set_cons_zero, List.set_cons_succ, i64_w, i32_w]
   rfl
  refine one_ (i := 3) (N := some 17) #[true, true, true, true, true, true, true, false, false] rfl rfl (one_of HT_.out (by kernel_rfl)) (by decide) (fun K hK => ?_)
  refine goes_ Tryz.func41 (by kernel_rfl) rfl #[.slice Ao12 y237.length co12, .string a0_0] (by rfl) rfl rfl (by (try simp only [List.map_toArray, List.map_cons, List.map_nil]); first | done | rfl | (simp only [List.length_drop, List.length_take]; rfl)) ?_
  with_reducible refine (pack_AppendText.calls k _ _ y237 a0_0 t240 _ ?side1 ?side2 A4.out).mono ?_
  (case side1 => repeat (first | exact (Kd.R_reads' HO239.out).2.2 | (with_reducible refine Kd.C_alloc ?_ _) | (with_reducible refine Kd.C_drewN ?_ _) | (with_reducible refine Kd.C_drew ?_)))
  (case side2 => exact (Kd.R_reads' HO239.out).2.1)
  rintro e w13 ⟨v241, rfl, ho0, hb⟩
  refine ⟨_, rfl, ?_⟩
  have HO242 := Aside0.mk (Kd.R_lower (Kd.R_new' ho0 (Kd.R_lt (kR_ HO239.out))) (qbz (bw_ HB.out)))
  replace HO239 := Aside0.mk (Kd.R_elder' (kR_ HO239.out) (Kd.R_base ho0) hb)
  replace BK235 := kB_ BK235 hb
  replace HB := bS_ HB hb
  (try clear hb); (try clear hk); (try clear ho0)
  obtain ⟨Ao14, co14, eo14⟩ := Kd.R_slice HO242.out
  (first | subst eo14 | (injection eo14 with f1_ f2_ f3_; have f4_ := f1_.symm; have f5_ := f3_.symm; clear f1_ f2_ f3_; subst f4_; subst f5_))
  refine hK.out _ _ ⟨(qkc BK235.out 0).trans rfl, (qkc BK235.out 1).trans rfl⟩ (fun hHeld => ?_)
  clear hK K
  refine norm_ (a' := ?_) ?_ ?_
  rotate_left
  ·show Act.put _ (some 17) _ = _
   simp only [Act.put, List.setIfInBounds_toArray, List.set_cons_zero, List.set_cons_succ, i64_w, i32_w]
   rfl
  refine one_ (i := 7) (N := some 21) #[true, true, true, true, true, true, true, true, false] rfl rfl (one_of HT_.out (by kernel_rfl)) (by decide) (fun K hK => ?_)
  refine goes_ Tryz.func20 (by kernel_rfl) rfl #[.slice Ao14 t240.length co14, .int .i64 (l0_1.length : Int)] (by rfl) rfl rfl (by (try simp only [List.map_toArray, List.map_cons, List.map_nil]); first | done | rfl | (simp only [List.length_drop, List.length_take]; rfl)) ?_
  with_reducible refine (store_count.calls k _ _ t240 (l0_1.length : Int) t243 _ ?side1 ?side2 A5.out).mono ?_
  (case side1 => repeat (first | exact (Kd.R_reads' HO242.out).2.2 | (with_reducible refine Kd.C_alloc ?_ _) | (with_reducible refine Kd.C_drewN ?_ _) | (with_reducible refine Kd.C_drew ?_)))
  (case side2 => exact (Kd.R_reads' HO242.out).2.1)
  rintro e w15 ⟨v244, rfl, ho0, hb⟩
  refine ⟨_, rfl, ?_⟩
  have HO245 := Aside0.mk (Kd.R_lower (Kd.R_new' (Kd.R_new' ho0 (Kd.R_lt (kR_ HO239.out))) (Kd.R_lt (kR_ HO242.out))) (qbz (bw_ HB.out)))
  replace HO239 := Aside0.mk (Kd.R_elder' (kR_ HO239.out) (Kd.R_base ho0) hb)
  replace HO242 := Aside0.mk (Kd.R_elder' (kR_ HO242.out) (Kd.R_base ho0) hb)
  replace BK235 := kB_ BK235 hb
  replace HB := bS_ HB hb
  (try clear hb); (try clear hk); (try clear ho0)
  refine hK.out _ _ ⟨(qkc BK235.out 0).trans rfl, (qkc BK235.out 1).trans rfl⟩ (fun hHeld => ?_)
  clear hK K
  refine norm_ (a' := ?_) ?_ ?_
  rotate_left
  ·show Act.put _ (some 21) _ = _
   simp only [Act.put, List.setIfInBounds_toArray, List.set_cons_zero, List.set_cons_succ, i64_w, i32_w]
   rfl
  refine pu_ 8 (some 4) HT_ ?_
  refine done_ (done_of HT_.out (by kernel_rfl)) ?_
  obtain ⟨hcz16_0, hcz16_1, hfz16_0, hfz16_1⟩ := zf2_ BK235
  try go_wp2
  go_loopg [4, 25] k (fun kq v4 v25 w' => ∃ (x4_1 : List Int) (x25_1 : Int), v25 = .int .i64 x25_1 ∧ Aside0 (store_EncodeEntry.l0 kq x4_1 l0_1 (l0_1.length : Int) x25_1 = some (r1, r2)) ∧ Aside0 (kq ≤ k) ∧ Aside0 (Kd.R (Kd.int .u8) 5 w' w.heap.size (fun _ => True) v4 x4_1) ∧ Aside0 (w'.heap[gb235]? = some (.cells #[.string a0_0, (.slice A0_1 l0_1.length c0_1)] 50 (0, 0))) ∧ Aside0 (Below w.heap.size w w'))
  case atStart => exact ⟨(t243), (0), fe_, H', ⟨Nat.le_refl _⟩, ⟨by (with_reducible repeat (first | apply Kd.R_alloc | apply Kd.R_drewN | apply Kd.R_drew)); exact Kd.R_mono HO245.out (fun _ hk => trivial)⟩, ⟨bp_ BK235⟩, ⟨bw_ HB.out⟩⟩
  case round =>
   clear H'
   (try clear c3); (try clear hcz16_0); (try clear hcz16_1); (try clear hcz7_0); (try clear hcz7_1); (try clear hfz16_0); (try clear hfz16_1)
   (try clear hfz7_0); (try clear hfz7_1)
   obtain ⟨x4_1, x25_1, rfl, HA, HK1, HO_4, BK235, HB⟩ := hrel
   cases gk with
   | zero => exact absurd HA.out (by simp [store_EncodeEntry.l0])
   | succ k1 =>
    have H := HA.out
    clear HA
    simp only [store_EncodeEntry.l0] at H
    by_cases c17 : x25_1 < (l0_1.length : Int)
    ·rw [if_pos c17] at H
     have c17b0 := dcT c17
     clear c17
     have c18 : 0 ≤ x25_1 := Classical.byContradiction fun c18 => by rw [if_neg c18] at H; exact absurd H (by simp)
     rw [if_pos c18] at H
     have c18b0 := dcT c18
     clear c18
     have c19 : x25_1 < (l0_1.length : Int) := Classical.byContradiction fun c19 => by rw [if_neg c19] at H; exact absurd H (by simp)
     rw [if_pos c19] at H
     have c19b0 := dcT c19
     clear c19
     obtain ⟨⟨t247, t248⟩, A20, H⟩ := bn_ H; (try dsimp only at H)
     rcases t248 with _ | q249
     ·have H1 : ((pack_AppendText.f k1 x4_1 t247).bind fun t250 => (store_EncodeEntry.l0 k1 t250 l0_1 (l0_1.length : Int) (wrap64 (x25_1 + 1)))) = some (r1, r2) := by rw [if_pos (show (none : Option Int).isNone = true by rfl)] at H; exact H
      clear H
      have H := H1
      clear H1
      try simp only [errW_none, errW_some]
      obtain ⟨t250, A21, H⟩ := bn_ H; (try dsimp only at H)
      have H' := Aside0.mk H
      clear H
      have p246 : 0 ≤ (x25_1 : Int) := ode_
      have q246 : x25_1 < (l0_1.length : Int) := ode_
      obtain ⟨ad246, A246_0, c246_0, e246, hx246_0, hl246_0, hi246_0⟩ := at_L9 HR0_1.out x25_1 p246 q246
      cases e246
      replace hx246_0 := hc_ HB hx246_0
      have HR246_0 := Aside0.mk hi246_0
      have HC246_0 := Aside0.mk hl246_0
      clear hi246_0 hl246_0
      replace p246 := eq_true p246
      replace q246 := eq_true q246
      go_wp2_with (first | ((with_reducible refine qgc (f := 42) rfl ?_); refine gL_ (some 31) Tryz.func42 #[.slice A246_0 (rd_L9 l0_1 x25_1).length c246_0] ?_; (with_reducible refine (order_Encode.calls k1 _ _ (rd_L9 l0_1 x25_1) t247 none _ ?side1 ?side2 A20.out).mono ?_); (case side1 => exact kC_ (Kd.C_below HR246_0.out HB.out)); (case side2 => exact HC246_0.out); rintro e w22 ⟨rfl, hb⟩; refine ⟨_, rfl, ?_⟩; replace HO_4 := RB_ HO_4 hb; replace BK235 := kB_ BK235 hb; replace HB := bS_ HB hb; clear hb; (try simp only [errW_none, errW_some]); obtain ⟨Ao23, co23, eo23⟩ := Kd.R_slice HO_4.out; subst eo23) | ((with_reducible refine qgc (f := 41) rfl ?_); refine gL_ (some 39) Tryz.func41 #[.slice Ao23 x4_1.length co23, .string t247] ?_; (with_reducible refine (pack_AppendText.calls k1 _ _ x4_1 t247 t250 _ ?side1 ?side2 A21.out).mono ?_); (case side1 => exact kC_ ((Kd.R_reads' HO_4.out).2.2)); (case side2 => exact (Kd.R_reads' HO_4.out).2.1); rintro e w24 ⟨v251, rfl, ho0, hb⟩; refine ⟨_, rfl, ?_⟩; have HO252 := Aside0.mk (Kd.R_lower (Kd.R_new' ho0 (Kd.R_lt (kR_ HO_4.out))) (qbz (bw_ HB.out))); replace HO_4 := Aside0.mk (Kd.R_elder' (kR_ HO_4.out) (Kd.R_base ho0) hb); replace BK235 := kB_ BK235 hb; replace HB := bS_ HB hb; clear hb; (try clear ho0)))
      go_roundg k1
      case measure => have := HK1.out; omega
      case rel => exact ⟨(t250), (wrap64 (x25_1 + 1)), fe_, H', ⟨by have := HK1.out; omega⟩, ⟨by (with_reducible repeat (first | apply Kd.R_alloc | apply Kd.R_drewN | apply Kd.R_drew)); exact Kd.R_mono HO252.out (fun _ hk => trivial)⟩, ⟨bp_ BK235⟩, ⟨bw_ HB.out⟩⟩
     have H1 : (some (([] : List Int), some q249)) = some (r1, r2) := by rw [if_neg (show ¬ (some q249).isNone = true by simp)] at H; exact H
     clear H
     have H := H1
     clear H1
     try simp only [errW_none, errW_some]
     obtain ⟨rfl, rfl⟩ := so2 H
     have p246 : 0 ≤ (x25_1 : Int) := ode_
     have q246 : x25_1 < (l0_1.length : Int) := ode_
     obtain ⟨ad246, A246_0, c246_0, e246, hx246_0, hl246_0, hi246_0⟩ := at_L9 HR0_1.out x25_1 p246 q246
     cases e246
     replace hx246_0 := hc_ HB hx246_0
     have HR246_0 := Aside0.mk hi246_0
     have HC246_0 := Aside0.mk hl246_0
     clear hi246_0 hl246_0
     replace p246 := eq_true p246
     replace q246 := eq_true q246
     go_wp2_with (first | ((with_reducible refine qgc (f := 42) rfl ?_); refine gL_ (some 31) Tryz.func42 #[.slice A246_0 (rd_L9 l0_1 x25_1).length c246_0] ?_; (with_reducible refine (order_Encode.calls k1 _ _ (rd_L9 l0_1 x25_1) t247 (some q249) _ ?side1 ?side2 A20.out).mono ?_); (case side1 => exact kC_ (Kd.C_below HR246_0.out HB.out)); (case side2 => exact HC246_0.out); rintro e w25 ⟨rfl, hb⟩; refine ⟨_, rfl, ?_⟩; replace HO_4 := RB_ HO_4 hb; replace BK235 := kB_ BK235 hb; replace HB := bS_ HB hb; clear hb; (try simp only [errW_none, errW_some])))
     go_ret2
     exact ⟨_, fr_, by first | exact Kd.R_nil _ _ _ _ _ | exact Kd.N_nil _ _ _ _ _ | exact Kd.V_nil _ _ _ _ _ | exact Kd.Q_nil _ _ _ _ _ | exact Kd.S_nil _ _ _ _ _, bw_ HB.out⟩
    rw [if_neg c17] at H
    have c17b0 := dcF c17
    clear c17
    obtain ⟨rfl, rfl⟩ := so2 H
    go_wp2
    go_ret2
    exact ⟨_, fr_, by (with_reducible repeat (first | apply Kd.R_alloc | apply Kd.R_drewN | apply Kd.R_drew)); exact HO_4.out, bw_ HB.out⟩
 replace c3 := Bool.eq_false_iff.mpr c3
 subst c3
 rw [if_neg (show ¬ (false = true) by decide)] at H
 obtain ⟨rfl, rfl⟩ := so2 H
 go_enter Tryz.func16, Tryz.ntmps16
 go_wp2_with (first | ((with_reducible refine qgd (N := 1) rfl ?_); refine qB_ 1 #[.string a0_0, .slice A0_1 l0_1.length c0_1] 50 ?_; intro gb235 hg w26 hbox hb; have BK235 := Aside0.mk (hbox); have GW235 := gE_ hg HB; have GE235 := gE_ hg HB; replace HB := bS_ HB hb; clear hb hbox hg; obtain ⟨hcz27_0, hcz27_1, hfz27_0, hfz27_1⟩ := zf2_ BK235) | ((with_reducible refine qgc (f := 40) rfl ?_); refine gL_ (some 11) Tryz.func40 #[.string a0_0] ?_; (with_reducible refine (table_Name.calls k a0_0 false _ ?side1 A2.out).mono ?_); (case side1 => exact GW_below HG.out (bw_ HB.out)); rintro e w28 ⟨rfl, hb⟩; refine ⟨_, rfl, ?_⟩; replace BK235 := kB_ BK235 hb; replace HB := bS_ HB hb; clear hb))
 go_ret2
 exact ⟨_, fr_, by first | exact Kd.R_nil _ _ _ _ _ | exact Kd.N_nil _ _ _ _ _ | exact Kd.V_nil _ _ _ _ _ | exact Kd.Q_nil _ _ _ _ _ | exact Kd.S_nil _ _ _ _ _, bw_ HB.out⟩

/-! ### barbicanlaw26_sure: function 6 -/
def barbicanlaw26_sure.f (k : Nat)  : Option (Bool) := (store_EncodeEntry.f k (⟨#[118]⟩ : ByteArray) (([(([(⟨1, 1, (⟨#[]⟩ : ByteArray), false⟩ : S63)] : List (S63)))] : List (List (S63))))).bind fun bt260 => ((store_DecodeEntry.f k bt260.1).bind fun bt264 => (if bt260.2.isNone = true then (if bt264.2.2.isNone = true then (if (bt260.1.length : Int) > 4 then (if 0 < (bt260.1.length : Int) then (if (rd bt260.1 0) = 2 then (if bt264.1.toList = ([118] : List UInt8) then (some ((bt264.2.1.length : Int) == 1)) else (none)) else (none)) else (none)) else (none)) else (none)) else (none)))
theorem barbicanlaw26_sure.mono : ∀ k, LeO (barbicanlaw26_sure.f k ) (barbicanlaw26_sure.f (k + 1) ) := by
 intro  k
 unfold barbicanlaw26_sure.f
 repeat' first
   | (with_reducible exact store_DecodeEntry.mono _ _)
   | (with_reducible exact store_EncodeEntry.mono _ _ _)
   | (with_reducible exact LeO.refl _)
   | (with_reducible exact LeO.none _)
   | (with_reducible refine LeO.ite ?_ ?_)
   | (with_reducible refine LeO.bind ?_ (fun _ => ?_))
   | exact store_DecodeEntry.mono _ _
   | exact store_EncodeEntry.mono _ _ _
   | exact LeO.none _
   | refine LeO.ite ?_ ?_
   | refine LeO.bind ?_ (fun _ => ?_)
set_option maxHeartbeats 8000000 in
set_option maxRecDepth 100000 in
theorem barbicanlaw26_sure.calls (k : Nat)  (r : Bool) (w : World) (hG : GW w) (h : barbicanlaw26_sure.f k  = some r) :
  Calls Tryz.prog 6 #[] w fun e w' => e = .returned (.bool r) ∧ Below w.heap.size w w' := by
 have hu63 := Tryz.underlying63
 have hu50 := Tryz.underlying50
 have hu32 := Tryz.underlying32
 have hu65 := Tryz.underlying65
 have HB := Aside0.mk (Below.refl w.heap.size w)
 have HG := Aside0.mk hG
 clear hG
 have H : ((store_EncodeEntry.f k (⟨#[118]⟩ : ByteArray) (([(([(⟨1, 1, (⟨#[]⟩ : ByteArray), false⟩ : S63)] : List (S63)))] : List (List (S63))))).bind fun bt260 => ((store_DecodeEntry.f k bt260.1).bind fun bt264 => (if bt260.2.isNone = true then (if bt264.2.2.isNone = true then (if (bt260.1.length : Int) > 4 then (if 0 < (bt260.1.length : Int) then (if (rd bt260.1 0) = 2 then (if bt264.1.toList = ([118] : List UInt8) then (some ((bt264.2.1.length : Int) == 1)) else (none)) else (none)) else (none)) else (none)) else (none)) else (none)))) = some r := h
 clear h
 first | (revert H; with_reducible refine nm_ fun y253 hy253 H => ?_) | (generalize hy253 : (([(⟨1, 1, (⟨#[]⟩ : ByteArray), false⟩ : S63)] : List (S63)) : List (S63)) = y253 at H; replace hy253 := hy253.symm)
 have Ny253 := Aside0.mk hy253; clear hy253
 first | (revert H; with_reducible refine nm_ fun y256 hy256 H => ?_) | (generalize hy256 : (([y253] : List (List (S63))) : List (List (S63))) = y256 at H; replace hy256 := hy256.symm)
 have Ny256 := Aside0.mk hy256; clear hy256
 obtain ⟨⟨t260, t263⟩, A1, H⟩ := bn_ H; (try dsimp only at H)
 obtain ⟨⟨t264, t265, t268⟩, A2, H⟩ := bn_ H; (try dsimp only at H)
 rcases t263 with _ | q270
 ·have H1 : (if t268.isNone = true then (if (t260.length : Int) > 4 then (if 0 < (t260.length : Int) then (if (rd t260 0) = 2 then (if t264.toList = ([118] : List UInt8) then (some ((t265.length : Int) == 1)) else (none)) else (none)) else (none)) else (none)) else (none)) = some r := by rw [if_pos (show (none : Option Int).isNone = true by rfl)] at H; exact H
  clear H
  have H := H1
  clear H1
  try simp only [errW_none, errW_some]
  rcases t268 with _ | q271
  ·have H1 : (if (t260.length : Int) > 4 then (if 0 < (t260.length : Int) then (if (rd t260 0) = 2 then (if t264.toList = ([118] : List UInt8) then (some ((t265.length : Int) == 1)) else (none)) else (none)) else (none)) else (none)) = some r := by rw [if_pos (show (none : Option Int).isNone = true by rfl)] at H; exact H
   clear H
   have H := H1
   clear H1
   try simp only [errW_none, errW_some]
   have c3 : (t260.length : Int) > 4 := Classical.byContradiction fun c3 => by rw [if_neg c3] at H; exact absurd H (by simp)
   rw [if_pos c3] at H
   have c3b0 : decide (4 < (t260.length : Int)) = true := decide_eq_true c3
   have c3b1 : decide (4 < t260.length) = true := decide_eq_true (by omega)
   clear c3
   have c4 : 0 < (t260.length : Int) := Classical.byContradiction fun c4 => by rw [if_neg c4] at H; exact absurd H (by simp)
   rw [if_pos c4] at H
   have c4b0 := dcT c4
   have c4b1 : decide (0 < t260.length) = true := decide_eq_true (by omega)
   clear c4
   have c5 : (rd t260 0) = 2 := Classical.byContradiction fun c5 => by rw [if_neg c5] at H; exact absurd H (by simp)
   rw [if_pos c5] at H
   have ⟨c5b0, c5b1⟩ := eqT c5
   clear c5
   have c6 : t264.toList = ([118] : List UInt8) := Classical.byContradiction fun c6 => by rw [if_neg c6] at H; exact absurd H (by simp)
   rw [if_pos c6] at H
   have ⟨c6b0, c6b1⟩ := eqT c6
   clear c6
   obtain rfl := Option.some.inj H
   go_enter Tryz.func6, Tryz.ntmps6
   go_wp2_with (first | ((with_reducible refine qgd (N := 7) rfl ?_); (try (refine gate_guard (by rfl) ?_; dsimp only)); refine Kd.R_lit k63 _ 63 ?hg (N := 7) ?hd (xs := ([(⟨1, 1, (⟨#[]⟩ : ByteArray), false⟩ : S63)] : List (S63))) (inner := [.int .i64 1, .int .i64 1, .string (⟨#[]⟩ : ByteArray), .bool false]) (ok := fun _ => True) (okp := fun _ => True) ?hr ?hp (fun _ hk => hk) trivial (Below.refl _ _) (Nat.le_refl _) (by simp) ?_; (case hd => rfl); (case hg => rfl); (case hr => first | (go_simp; done) | (go_simp; rfl)); (case hp => exact (Reps.c4 (show Kd.M k63 _ _ _ (⟨1, 1, (⟨#[]⟩ : ByteArray), false⟩ : S63) [.int .i64 1, .int .i64 1, .string (⟨#[]⟩ : ByteArray), .bool false] from (k63_mkM _ _ _ (⟨1, 1, (⟨#[]⟩ : ByteArray), false⟩ : S63) )) (Reps.none _ _))); intro v254 w7 ho8 hb hg_ hnew_; clear hg_ hnew_; (first | rw [← Ny253.out] at ho8 | (simp only [Int.reduceToNat] at ho8; rw [← Ny253.out] at ho8)); have HO255 := Rl_ ho8 HB; replace HB := bS_ HB hb; clear hb ho8; obtain ⟨Ao9, co9, eo9⟩ := Kd.R_slice HO255.out; subst eo9) | ((with_reducible refine qgd (N := 8) rfl ?_); (try (refine gate_guard (by rfl) ?_; dsimp only)); refine Kd.N_lit (Kd.slice 63 k63) _ 64 ?hg (N' := 8) ?hd (xs := ([y253] : List (List (S63)))) (inner := [.slice Ao9 y253.length co9]) (ok := (fun _ => True)) (okp := (fun _ => True)) ?hr ?hp (fun _ hk => hk) ((show ∀ k_, w7.heap.size ≤ k_ → (fun _ => True) k_ from fun k_ hk => trivial) _ (Nat.le_refl _)) (Below.refl _ _) (Nat.le_refl _) (by simp) ?_; (case hd => rfl); (case hg => rfl); (case hr => first | (go_simp; done) | (go_simp; rfl)); (case hp => exact (Reps.one (show Kd.FK (Kd.slice 63 k63) _ _ y253 [.slice Ao9 y253.length co9] from (Kd.FK_slice_mk (Kd.R_reads' (Kd.R_mono (ok' := (fun _ => True)) (HO255.out) (fun k_ hk => trivial))).2.1 (Kd.R_F (Kd.R_mono (ok' := (fun _ => True)) (HO255.out) (fun k_ hk => trivial))))) (Reps.none _ _))); intro v257 w10 ho11 hb hg_ hnew_; clear hg_ hnew_; (first | rw [← Ny256.out] at ho11 | (simp only [Int.reduceToNat] at ho11; rw [← Ny256.out] at ho11)); have HO258 := Aside0.mk (Kd.N_lower ho11 (qbz (bw_ HB.out))); replace HB := bS_ HB hb; clear HO255 hb ho11; obtain ⟨Ao12, co12, eo12⟩ := Kd.N_slice HO258.out; subst eo12) | ((with_reducible refine qgd (N := 1) rfl ?_); (try (refine gate_guard (by rfl) ?_; dsimp only)); refine qB_ 1 #[.string (⟨#[]⟩ : ByteArray), .slice none 0 0] 50 ?_; intro gb259 hg w13 hbox hb; replace HO258 := Aside0.mk (Kd.N_below (Kd.N_elderB (kN_ HO258.out) gb259 (Nat.le_of_eq hg.symm)) hb); have BK259 := Aside0.mk (hbox); have GW259 := gE_ hg HB; have GE259 := gE_ hg HB; replace HB := bS_ HB hb; clear hb hbox hg; obtain ⟨hcz14_0, hcz14_1, hfz14_0, hfz14_1⟩ := zf2_ BK259) | ((with_reducible refine qgc (f := 16) rfl ?_); refine gL_ (some 12) Tryz.func16 #[.agg #[.string (⟨#[118]⟩ : ByteArray), .slice Ao12 y256.length co12]] ?_; (with_reducible refine (store_EncodeEntry.calls k (⟨#[118]⟩ : ByteArray) _ _ y256 t260 none _ ?side1 ?side2 ?side3 A1.out).mono ?_); (case side1 => refine (Kd.N_reads' (e := 64) (base := w.heap.size) (ok := fun k_ => (True ∧ k_ ≠ gb259)) (n := y256.length) (c := co12) ?_).2.2; exact (by (with_reducible repeat (first | apply Kd.N_alloc | apply Kd.N_drewN | apply Kd.N_drew)); exact (Kd.N_mono (Kd.N_far (p := ⟨gb259, 1, none⟩) (Kd.N_far (p := ⟨gb259, 0, none⟩) (Kd.N_mono HO258.out (fun k_ hk => (⟨hk, hk.2⟩ : _ ∧ k_ ≠ gb259))) (fun _ hk => hk.2) (.string (⟨#[118]⟩ : ByteArray))) (fun _ hk => hk.2) (.slice Ao12 y256.length co12)) (fun _ h_ => h_.1)))); (case side2 => exact (Kd.N_reads' HO258.out).2.1); (case side3 => exact GW_below HG.out (bw_ HB.out)); rintro e w15 ⟨v261, rfl, ho0, hb⟩; refine ⟨_, rfl, ?_⟩; replace HO258 := Aside0.mk (Kd.N_elder' (by (with_reducible repeat (first | apply Kd.N_alloc | apply Kd.N_drewN | apply Kd.N_drew)); exact (Kd.N_mono (Kd.N_far (p := ⟨gb259, 1, none⟩) (Kd.N_far (p := ⟨gb259, 0, none⟩) (Kd.N_mono HO258.out (fun k_ hk => (⟨hk, hk.2⟩ : _ ∧ k_ ≠ gb259))) (fun _ hk => hk.2) (.string (⟨#[118]⟩ : ByteArray))) (fun _ hk => hk.2) (.slice Ao12 y256.length co12)) (fun _ h_ => h_.1))) (Kd.R_base ho0) hb); have HO262 := Rl_ ho0 HB; replace BK259 := Aside0.mk (qkb (g := gb259) (o := .cells #[.string (⟨#[118]⟩ : ByteArray), .slice Ao12 y256.length co12] 50 (0, 0)) (bp_ BK259) hb); replace HB := bS_ HB hb; clear hb; (try clear ho0); (try simp only [errW_none, errW_some]); obtain ⟨Ao16, co16, eo16⟩ := Kd.R_slice HO262.out; subst eo16) | ((with_reducible refine qgc (f := 15) rfl ?_); refine gL_ (some 17) Tryz.func15 #[.slice Ao16 t260.length co16] ?_; (with_reducible refine (store_DecodeEntry.calls k _ _ t260 t264 t265 none _ ?side1 ?side2 ?side3 A2.out).mono ?_); (case side1 => exact kC_ ((Kd.R_reads' HO262.out).2.2)); (case side2 => exact (Kd.R_reads' HO262.out).2.1); (case side3 => exact GW_below HG.out (bw_ HB.out)); rintro e w17 ⟨v266, rfl, ho0, hb⟩; refine ⟨_, rfl, ?_⟩; have HO267 := Aside0.mk (Kd.N_lower (Kd.N_mono (ok' := fun k_ => some k_ ≠ (.slice Ao12 y256.length co12 : Value).ownBlock ∧ some k_ ≠ (.slice Ao16 t260.length co16 : Value).ownBlock ∧ k_ ≠ gb259) (Kd.S_N (Kd.S_bound ho0)) (fun k_ hk_ => ⟨(Kd.fresh' (Kd.N_lt (kN_ HO258.out)) k_ hk_.2.1), (Kd.fresh' (Kd.R_lt (kR_ HO262.out)) k_ hk_.2.1), (Kd.freshB (g := gb259) (o := .cells #[.string (⟨#[118]⟩ : ByteArray), .slice Ao12 y256.length co12] 50 (0, 0)) (bl_ BK259.out) k_ hk_.2.1)⟩)) (qbz (bw_ HB.out))); replace HO258 := Aside0.mk (Kd.N_elder' (kN_ HO258.out) (Kd.S_base ho0) hb); replace HO262 := RB_ HO262 hb; replace BK259 := kB_ BK259 hb; replace HB := bS_ HB hb; clear hb; (try clear ho0); (try simp only [errW_none, errW_some])) | ((with_reducible refine qgd (N := 4) rfl ?_); (try (refine gate_guard (by rfl) ?_; dsimp only)); refine qB_ 4 #[.string (⟨#[]⟩ : ByteArray), .slice none 0 0] 50 ?_; intro gb269 hg w18 hbox hb; replace HO258 := Aside0.mk (Kd.N_below (Kd.N_elderB (kN_ HO258.out) gb269 (Nat.le_of_eq hg.symm)) hb); replace HO262 := RB_ HO262 hb; replace HO267 := Aside0.mk (Kd.N_below (Kd.N_elderB (kN_ HO267.out) gb269 (Nat.le_of_eq hg.symm)) hb); have BK269 := Aside0.mk (hbox); have GW269 := gE_ hg HB; have GE269 := gE_ hg HB; replace HB := bS_ HB hb; have NB259_269 := Aside0.mk ((by rw [hg]; exact Nat.ne_of_lt (blk_lt (g := gb259) (o := .cells #[.string (⟨#[118]⟩ : ByteArray), .slice Ao12 y256.length co12] 50 (0, 0)) (bl_ BK259.out)) : gb259 ≠ gb269)); have NB269_259 := Aside0.mk ((by rw [hg]; exact Nat.ne_of_gt (blk_lt (g := gb259) (o := .cells #[.string (⟨#[118]⟩ : ByteArray), .slice Ao12 y256.length co12] 50 (0, 0)) (bl_ BK259.out)) : gb269 ≠ gb259)); replace BK259 := kB_ BK259 hb; clear hb hbox hg; have hnb19 := NB269_259.out; have hnc19 := NB259_269.out; obtain ⟨hcz20_0, hcz20_1, hfz20_0, hfz20_1⟩ := zf2_ BK269; obtain ⟨Ao21, co21, eo21⟩ := Kd.N_slice HO267.out; subst eo21; have p272 : 0 ≤ (0 : Int) := (by omega); have q272 : 0 < (t260.length : Int) := ode_; obtain ⟨ad272, e272, hx272_0⟩ := Kd.at_int (Kd.R_reads' HO262.out).2.2 0 p272 q272; cases e272; have qi272 : (0 < t260.length) = True := eq_true (by omega); (try rw [show ((0 : Int)).toNat = 0 from rfl] at hx272_0); (try rw [Addr.add_zero'] at hx272_0); have hn272_0 : ad272.block ≠ gb269 := Kd.own_blk (Kd.R_ne HO262.out BK269.out (by decide)); have hn272_1 : ad272.block ≠ gb269 := Kd.own_blk (Kd.R_ne HO262.out BK269.out (by decide)); replace hx272_0 := (cell_far (p := ⟨gb269, 0, none⟩) (by first | (rw [qab]; exact hn272_0) | (show (Addr.add _ _).block ≠ _; rw [qab]; exact hn272_0) | exact hn272_0) (.string t264)).trans hx272_0; replace hx272_0 := (cell_far (p := ⟨gb269, 1, none⟩) (by first | (rw [qab]; exact hn272_1) | (show (Addr.add _ _).block ≠ _; rw [qab]; exact hn272_1) | exact hn272_1) (.slice Ao21 t265.length co21)).trans hx272_0; clear hn272_0 hn272_1; replace p272 := eq_true p272; replace q272 := eq_true q272))
   go_ret
   exact ⟨fr_, bw_ HB.out⟩
  have H1 : (none) = some r := by rw [if_neg (show ¬ (some q271).isNone = true by simp)] at H; exact H
  clear H
  have H := H1
  clear H1
  try simp only [errW_none, errW_some]
  exact absurd H (by simp)
 have H1 : (none) = some r := by rw [if_neg (show ¬ (some q270).isNone = true by simp)] at H; exact H
 clear H
 have H := H1
 clear H1
 try simp only [errW_none, errW_some]
 exact absurd H (by simp)

/-! ### EXT cat_Table: function 56 -/
/-- The place of a table's name in a catalog. -/
def findN : List S59 → ByteArray → Option Nat
 | [], _ => none
 | t :: r, s => if t.f0 = s then some 0 else (findN r s).map (· + 1)
/-- A catalog: its tables, and where their names lie. -/
def CatM (D : DataW Unit) (l : List S59) : Prop := ∀ s : ByteArray, D.atKey (.string s.data.toList) (.lit (.int .i64 0)) = .lit (.int .i64 (((findN l s).getD 0 : Nat) : Int)) ∧ Maps.has D (.string s.data.toList) = (findN l s).isSome
def Cat (w : World) (A : Option Addr) (n : Nat) (l : List S59) : Prop :=
 ∃ g As cs m D, A = some ⟨g, 0, none⟩ ∧ w.heap[g]? = some (.cells #[.slice As l.length cs, .map (some m)] 105 (0, 0)) ∧ Kd.C k59 w As l.length l ∧ l.length ≤ cs ∧ n = l.length ∧ w.ownsMap (H := Unit) Tryz.prog 9 (plainElem Tryz.prog 3) m l.length D ∧ CatM D l ∧ l.length ≤ 32
theorem cat_below {w w' : World} {A : Option Addr} {n : Nat} {l : List S59} (h : Cat w A n l) (hb : Below w.heap.size w w') : Cat w' A n l := by
 obtain ⟨g, As, cs, m, D, e, hg, hC, hl, hn, ⟨es, clock, hm, hF, hs, hD⟩, hM⟩ := h
 exact ⟨g, As, cs, m, D, e, qkb hg hb, Kd.C_below hC hb, hl, hn, ⟨es, clock, qkb hm hb, hF, hs, hD⟩, hM⟩
theorem cat_alloc {w : World} {A : Option Addr} {n : Nat} {l : List S59} (h : Cat w A n l) (o : Obj) : Cat (w.alloc o) A n l := cat_below h (below_alloc (Below.refl _ _) o)
theorem cat_drewN {w : World} {A : Option Addr} {n : Nat} {l : List S59} (h : Cat w A n l) (k : Nat) : Cat (w.drewN k) A n l := cat_below h (qbN (Below.refl _ _) k)
theorem cat_drew {w : World} {A : Option Addr} {n : Nat} {l : List S59} (h : Cat w A n l) : Cat w.drew A n l := cat_below h (qb1 (Below.refl _ _))
set_option maxHeartbeats 8000000 in
set_option maxRecDepth 100000 in
theorem cat_Len_calls (g : Nat) (As : Option Addr) (cs n : Nat) (m : Option Nat) (w : World) (hg : w.heap[g]? = some (.cells #[.slice As n cs, .map m] 105 (0, 0))) :
  Calls Tryz.prog 76 #[.pointer (some ⟨g, 0, none⟩)] w fun e w' => e = .returned (.int .i64 (n : Int)) ∧ w = w' := by
 have hc0 : w.cell? ⟨g, 0, none⟩ = some (.slice As n cs) := (qkc hg 0).trans rfl
 have hu := Tryz.underlying105
 clear hg
 go_enter Tryz.func76, Tryz.ntmps76
 go_wp2
 go_ret
 exact ⟨rfl, rfl⟩
def cat_Table.f (l0 : List S59) (a1 : Int) : Option (ByteArray × List S118 × Option Int) :=
 if 0 ≤ a1 ∧ a1 < (l0.length : Int) then (table_own.f (rd_T59 l0 a1).f0 (rd_T59 l0 a1).f1).bind fun t => some (t.1, t.2, none) else some ((⟨#[]⟩ : ByteArray), [], some 1)
set_option maxHeartbeats 8000000 in
set_option maxRecDepth 100000 in
theorem cat_Table.calls (A0 : Option Addr) (c0 : Nat) (l0 : List S59) (a1 : Int) (r1 : ByteArray) (r2 : List S118) (r3 : Option Int) (w : World) (hr0 : Cat w A0 l0.length l0) (hc0 : l0.length ≤ c0) (h : cat_Table.f l0 a1 = some (r1, r2, r3)) :
  Calls Tryz.prog 56 #[.pointer A0, .int .i64 a1] w fun e w' => ∃ v1_ : Value, e = .returned (.tuple #[.agg #[.string r1, v1_], errW r3]) ∧ Kd.R k118 118 w' w.heap.size (fun _ => True) v1_ r2 ∧ Below w.heap.size w w' := by
 obtain ⟨g, As, cs, m, D, rfl, hg, hC, hl, hn, hown, hM, h32⟩ := hr0
 have hc0 : w.cell? ⟨g, 0, none⟩ = some (.slice As l0.length cs) := (qkc hg 0).trans rfl
 have hu := Tryz.underlying105
 have hu2 := Tryz.underlying59
 have hue := Tryz.underlying65
 have HG := Aside0.mk hg
 have HC := Aside0.mk hC
 unfold cat_Table.f at h
 have H := Aside0.mk h
 clear h hg hC hn hown hM
 by_cases h0 : 0 ≤ a1 <;> by_cases h1 : a1 < (l0.length : Int)
 ·have h := H.out
  rw [if_pos ⟨h0, h1⟩] at h
  obtain ⟨⟨t1, t2⟩, ht, h⟩ := Option.bind_eq_some_iff.mp h
  have HT := Aside0.mk ht
  simp only [Option.some.injEq, Prod.mk.injEq] at h
  obtain ⟨rfl, rfl, rfl⟩ := h
  obtain ⟨ad, A1, c1, e_, z0, z1, hlc, hcc⟩ := at_T59 HC.out a1 h0 h1
  cases e_
  have HL := Aside0.mk hlc
  have HCC := Aside0.mk hcc
  have d0 : decide (a1 < 0) = false := decide_eq_false (by omega)
  have d1 : decide ((l0.length : Int) ≤ a1) = false := decide_eq_false (by omega)
  have p1 := eq_true h0
  have p2 := eq_true h1
  clear H ht hlc hcc hl h32
  go_enter Tryz.func56, Tryz.ntmps56
  go_wp2_with (first
   | ((with_reducible refine qgd (N := 4) rfl ?_); refine qbe ?hg (N := 4) ?hd (cs := #[.string (⟨#[]⟩ : ByteArray), .slice none 0 0]) (t := 59) ?hr ?_; (case hd => rfl); (case hg => rfl); (case hr => first | (go_simp; done) | (go_simp; rfl)); intro gb hg w7 hbox hb; have BK := Aside0.mk hbox; have HB := Aside0.mk hb; have HGE := Aside0.mk (show w.heap.size ≤ gb from Nat.le_of_eq hg.symm); replace hc0 := (HB.out.cell (World.block_lt_of_cell? w _ hc0)).trans hc0; replace z0 := (HB.out.cell (World.block_lt_of_cell? w _ z0)).trans z0; replace z1 := (HB.out.cell (World.block_lt_of_cell? w _ z1)).trans z1; clear hb hbox hg)
   | (go_at_call 44; (with_reducible refine (table_own.calls _ A1 c1 _ t1 t2 _ (Kd.C_below HCC.out HB.out) HL.out HT.out).mono ?_); rintro e w3 ⟨v1, rfl, ho, hb⟩; have HO := Aside0.mk ho; have BK2 := Aside0.mk (qkb BK.out hb); have HB2 := Aside0.mk (below_step HB.out hb); clear hb ho; obtain ⟨Ao, co, eo⟩ := Kd.R_slice HO.out; subst eo; have y0 : w3.cell? ⟨gb, 0, none⟩ = some (.string (⟨#[]⟩ : ByteArray)) := (qkc BK2.out 0).trans rfl; have y1 : w3.cell? ⟨gb, 1, none⟩ = some (.slice none 0 0) := (qkc BK2.out 1).trans rfl; have f0 := qkf BK2.out 0; have f1 := qkf BK2.out 1)
   | (go_at_call 76; (with_reducible refine (cat_Len_calls g (some ad) cs l0.length (some m) _ (qkb HG.out HB.out)).mono ?_); rintro e w2 ⟨rfl, rfl⟩)
   )
  refine bodyPost_ret (results_ct rfl _ _ gb 59 #[.string t1, .slice Ao t2.length co] (0, 0) _ rfl (qkp (cs := #[.string t1, .slice none 0 0]) (qkp (cs := #[.string (⟨#[]⟩ : ByteArray), .slice none 0 0]) BK2.out 0 (.string t1) rfl) 1 (.slice Ao t2.length co) rfl) Tryz.underlying59 rfl (by kernel_rfl)) rfl ?_
  exact ⟨_, rfl, Kd.R_set (Kd.R_set (Kd.R_lower HO.out (qbz HB.out)) BK2.out (by decide) 0 (.string t1)) (qkp (cs := #[.string (⟨#[]⟩ : ByteArray), .slice none 0 0]) BK2.out 0 (.string t1) rfl) (by decide) 1 (.slice Ao t2.length co), (HB2.out.setCell HGE.out _).setCell HGE.out _⟩
 all_goals
  have h := H.out
  rw [if_neg (by omega)] at h
  simp only [Option.some.injEq, Prod.mk.injEq] at h
  obtain ⟨rfl, rfl, rfl⟩ := h
  clear H hl h32
 ·have d0 : decide (a1 < 0) = false := decide_eq_false (by omega)
  have d1 : decide ((l0.length : Int) ≤ a1) = true := decide_eq_true (by omega)
  go_enter Tryz.func56, Tryz.ntmps56
  go_wp2_with (first
   | ((with_reducible refine qgd (N := 4) rfl ?_); refine qbe ?hg (N := 4) ?hd (cs := #[.string (⟨#[]⟩ : ByteArray), .slice none 0 0]) (t := 59) ?hr ?_; (case hd => rfl); (case hg => rfl); (case hr => first | (go_simp; done) | (go_simp; rfl)); intro gb hg w7 hbox hb; have BK := Aside0.mk hbox; have HB := Aside0.mk hb; have HGE := Aside0.mk (show w.heap.size ≤ gb from Nat.le_of_eq hg.symm); clear hb hbox hg; have y0 : w7.cell? ⟨gb, 0, none⟩ = some (.string (⟨#[]⟩ : ByteArray)) := (qkc BK.out 0).trans rfl; have y1 : w7.cell? ⟨gb, 1, none⟩ = some (.slice none 0 0) := (qkc BK.out 1).trans rfl; have f0 := qkf BK.out 0; have f1 := qkf BK.out 1)
   | (go_at_call 76; (with_reducible refine (cat_Len_calls g As cs l0.length (some m) _ (qkb HG.out HB.out)).mono ?_); rintro e w2 ⟨rfl, rfl⟩))
  refine bodyPost_ret (results_ct rfl _ _ gb 59 #[.string (⟨#[]⟩ : ByteArray), .slice none 0 0] (0, 0) _ rfl (qkp (cs := #[.string (⟨#[]⟩ : ByteArray), .slice none 0 0]) (qkp (cs := #[.string (⟨#[]⟩ : ByteArray), .slice none 0 0]) BK.out 0 (.string (⟨#[]⟩ : ByteArray)) rfl) 1 (.slice none 0 0) rfl) Tryz.underlying59 rfl (by kernel_rfl)) rfl ?_
  exact ⟨_, rfl, Kd.R_nil _ _ _ _ _, (HB.out.setCell HGE.out _).setCell HGE.out _⟩
 all_goals first | (exfalso; omega) | skip
 all_goals
  have d0 : decide (a1 < 0) = true := decide_eq_true (by omega)
  go_enter Tryz.func56, Tryz.ntmps56
  go_wp2_with (first
   | ((with_reducible refine qgd (N := 4) rfl ?_); refine qbe ?hg (N := 4) ?hd (cs := #[.string (⟨#[]⟩ : ByteArray), .slice none 0 0]) (t := 59) ?hr ?_; (case hd => rfl); (case hg => rfl); (case hr => first | (go_simp; done) | (go_simp; rfl)); intro gb hg w7 hbox hb; have BK := Aside0.mk hbox; have HB := Aside0.mk hb; have HGE := Aside0.mk (show w.heap.size ≤ gb from Nat.le_of_eq hg.symm); clear hb hbox hg; have y0 : w7.cell? ⟨gb, 0, none⟩ = some (.string (⟨#[]⟩ : ByteArray)) := (qkc BK.out 0).trans rfl; have y1 : w7.cell? ⟨gb, 1, none⟩ = some (.slice none 0 0) := (qkc BK.out 1).trans rfl; have f0 := qkf BK.out 0; have f1 := qkf BK.out 1)
   | (go_at_call 76; (with_reducible refine (cat_Len_calls g As cs l0.length (some m) _ (qkb HG.out HB.out)).mono ?_); rintro e w2 ⟨rfl, rfl⟩))
  refine bodyPost_ret (results_ct rfl _ _ gb 59 #[.string (⟨#[]⟩ : ByteArray), .slice none 0 0] (0, 0) _ rfl (qkp (cs := #[.string (⟨#[]⟩ : ByteArray), .slice none 0 0]) (qkp (cs := #[.string (⟨#[]⟩ : ByteArray), .slice none 0 0]) BK.out 0 (.string (⟨#[]⟩ : ByteArray)) rfl) 1 (.slice none 0 0) rfl) Tryz.underlying59 rfl (by kernel_rfl)) rfl ?_
  exact ⟨_, rfl, Kd.R_nil _ _ _ _ _, (HB.out.setCell HGE.out _).setCell HGE.out _⟩

/-! ### EXT cat_Find: function 72 -/
theorem zero3_ (w : World) : (zeroValue 3).run Tryz.prog w = .ok (.int .i64 0) w := by kernel_rfl
def cat_Find.f (l0 : List S59) (a1 : ByteArray) : Option (Int × Option Int) := if a1.size ≤ 9223372036854775807 then some (match findN l0 a1 with | some i => ((i : Int), none) | none => (0, some 30)) else none
set_option maxHeartbeats 8000000 in
set_option maxRecDepth 100000 in
theorem cat_Find.calls (A0 : Option Addr) (c0 : Nat) (l0 : List S59) (a1 : ByteArray) (r1 : Int) (r2 : Option Int) (w : World) (hr0 : Cat w A0 l0.length l0) (hc0 : l0.length ≤ c0) (h : cat_Find.f l0 a1 = some (r1, r2)) :
  Calls Tryz.prog 72 #[.pointer A0, .string a1] w fun e w' => e = .returned (.tuple #[.int .i64 r1, errW r2]) ∧ Below w.heap.size w w' := by
 unfold cat_Find.f at h
 by_cases hz : a1.size ≤ 9223372036854775807
 ·rw [if_pos hz] at h
  obtain ⟨g, As, cs, m, D, rfl, hg, hC, hl, hn, hown, hM, h32⟩ := hr0
  have hc0 : w.cell? ⟨g, 0, none⟩ = some (.slice As l0.length cs) := (qkc hg 0).trans rfl
  have hc1 : w.cell? ⟨g, 1, none⟩ = some (.map (some m)) := (qkc hg 1).trans rfl
  have hkey : keyOf Tryz.prog 9 (.string a1) = some (.string a1.data.toList) := Go.WideMaps.keyOf_string_mk Tryz.underlying9 (by unfold maxLen; exact hz)
  obtain ⟨hA, hH⟩ := hM a1
  have HA := Aside0.mk hA
  have HH := Aside0.mk hH
  have H := Aside0.mk (Option.some.inj h)
  have HOWN := Aside0.mk hown
  have HK := Aside0.mk hkey
  have hu := Tryz.underlying105
  have hue := Tryz.underlying65
  clear hA hH h hg hC hl hn hM hz hown hkey h32
  cases hf : findN l0 a1 with
  | some i =>
   rw [hf] at HA HH H
   clear hf
   go_enter Tryz.func72, Tryz.ntmps72
   go_wp2_with (at_lookup; go_loud (refine wpList_lookup_own_ok_int _ rfl _ _ 103 rfl 9 3 .i64 (Maps.string_keyed Tryz.underlying9) Tryz.underlying103 Tryz.underlying3 (zero3_ _) m l0.length D rfl HOWN.out _ _ rfl HK.out ?_; intro c hat hwc; rw [HH.out]; have HAT := Aside0.mk hat; clear hat hwc))
   have e1 : c = ((i : Nat) : Int) := by have q := HAT.out.symm.trans HA.out; simpa using q
   have e2 := H.out
   simp only [Prod.mk.injEq] at e2
   obtain ⟨rfl, rfl⟩ := e2
   go_ret2
   exact ⟨by rw [e1]; rfl, Below.refl _ _⟩
  | none =>
   rw [hf] at HA HH H
   clear hf
   go_enter Tryz.func72, Tryz.ntmps72
   go_wp2_with (at_lookup; refine wpList_lookup_own_ok_int _ rfl _ _ 103 rfl 9 3 .i64 (Maps.string_keyed Tryz.underlying9) Tryz.underlying103 Tryz.underlying3 (zero3_ _) m l0.length D rfl HOWN.out _ _ rfl HK.out ?_; intro c hat hwc; rw [HH.out]; clear hat hwc)
   have e2 := H.out
   simp only [Prod.mk.injEq] at e2
   obtain ⟨rfl, rfl⟩ := e2
   go_ret2
   exact ⟨rfl, Below.refl _ _⟩
 rw [if_neg hz] at h; cases h

/-! ### store_find: function 46 -/
def store_find.f (l0 : List (S59)) (a1 : ByteArray) : Option (Int × ByteArray × (List (S118)) × Option Int) := (cat_Find.f l0 a1).bind fun bt274 => (if bt274.2.isNone = true then ((cat_Table.f l0 bt274.1).bind fun bt277 => (some (bt274.1, bt277.1, bt277.2.1, bt277.2.2))) else (some (0, (⟨#[]⟩ : ByteArray), ([] : List (S118)), some (bt274.2.getD 0))))
set_option maxHeartbeats 8000000 in
set_option maxRecDepth 100000 in
theorem store_find.calls (A0 : Option Addr) (c0 : Nat) (l0 : List (S59)) (a1 : ByteArray) (r1 : Int) (r2 : ByteArray) (r3 : List (S118)) (r4 : Option Int) (w : World) (hr0 : Cat w A0 l0.length l0) (hc0 : l0.length ≤ c0) (h : store_find.f l0 a1 = some (r1, r2, r3, r4)) :
  Calls Tryz.prog 46 #[.pointer A0, .string a1] w fun e w' => ∃ v2_ : Value, e = .returned (.tuple #[.int .i64 r1, .agg #[.string r2, v2_], errW r4]) ∧ Kd.R k118 118 w' w.heap.size (fun _ => True) v2_ r3 ∧ Below w.heap.size w w' := by
 have hu59 := Tryz.underlying59
 have hu32 := Tryz.underlying32
 have hu65 := Tryz.underlying65
 have HR0 := Aside0.mk hr0
 have HC0 := Aside0.mk hc0
 clear hr0 hc0
 have HB := Aside0.mk (Below.refl w.heap.size w)
 have H : ((cat_Find.f l0 a1).bind fun bt274 => (if bt274.2.isNone = true then ((cat_Table.f l0 bt274.1).bind fun bt277 => (some (bt274.1, bt277.1, bt277.2.1, bt277.2.2))) else (some (0, (⟨#[]⟩ : ByteArray), ([] : List (S118)), some (bt274.2.getD 0))))) = some (r1, r2, r3, r4) := h
 clear h
 obtain ⟨⟨t274, t275⟩, A3, H⟩ := bn_ H; (try dsimp only at H)
 rcases t275 with _ | q276
 ·have H1 : ((cat_Table.f l0 t274).bind fun bt277 => (some (t274, bt277.1, bt277.2.1, bt277.2.2))) = some (r1, r2, r3, r4) := by rw [if_pos (show (none : Option Int).isNone = true by rfl)] at H; exact H
  clear H
  have H := H1
  clear H1
  try simp only [errW_none, errW_some]
  obtain ⟨⟨t277, t278, t281⟩, A4, H⟩ := bn_ H; (try dsimp only at H)
  obtain ⟨rfl, rfl, rfl, rfl⟩ := so4 H
  go_enter Tryz.func46, Tryz.ntmps46
  try go_wp2_with (first | ((with_reducible refine qgd (N := 5) rfl ?_); refine qB_ 5 #[.string (⟨#[]⟩ : ByteArray), .slice none 0 0] 59 ?_; intro gb273 hg w5 hbox hb; have BK273 := Aside0.mk (hbox); have GW273 := gE_ hg HB; have GE273 := gE_ hg HB; replace HB := bS_ HB hb; clear hb hbox hg) | ((with_reducible refine qgc (f := 72) rfl ?_); refine gL_ (some 13) Tryz.func72 #[.pointer A0, .string a1] ?_; (with_reducible refine (cat_Find.calls _ c0 l0 a1 t274 none _ ?side1 ?side2 A3.out).mono ?_); (case side1 => repeat (first | exact (cat_below HR0.out HB.out) | (with_reducible refine cat_alloc ?_ _) | (with_reducible refine cat_drewN ?_ _) | (with_reducible refine cat_drew ?_))); (case side2 => exact HC0.out); rintro e w6 ⟨rfl, hb⟩; refine ⟨_, rfl, ?_⟩; replace BK273 := kB_ BK273 hb; replace HB := bS_ HB hb; clear hb; (try simp only [errW_none, errW_some])) | ((with_reducible refine qgc (f := 56) rfl ?_); refine gL_ (some 23) Tryz.func56 #[.pointer A0, .int .i64 t274] ?_; (with_reducible refine (cat_Table.calls _ c0 l0 t274 t277 t278 t281 _ ?side1 ?side2 A4.out).mono ?_); (case side1 => repeat (first | exact (cat_below HR0.out HB.out) | (with_reducible refine cat_alloc ?_ _) | (with_reducible refine cat_drewN ?_ _) | (with_reducible refine cat_drew ?_))); (case side2 => exact HC0.out); rintro e w7 ⟨v279, rfl, ho0, hb⟩; refine ⟨_, rfl, ?_⟩; have HO280 := Rl_ ho0 HB; replace BK273 := kB_ BK273 hb; replace HB := bS_ HB hb; clear hb; (try clear ho0); (try simp only [errW_none, errW_some])) | ((with_reducible refine qgd (N := 9) rfl ?_); refine qB_ 9 #[.string (⟨#[]⟩ : ByteArray), .slice none 0 0] 59 ?_; intro gb282 hg w8 hbox hb; replace HO280 := RB_ HO280 hb; have BK282 := Aside0.mk (hbox); have GW282 := gE_ hg HB; have GE282 := gE_ hg HB; replace HB := bS_ HB hb; have NB273_282 := Aside0.mk ((by rw [hg]; exact Nat.ne_of_lt (blk_lt (g := gb273) (o := .cells #[.string (⟨#[]⟩ : ByteArray), .slice none 0 0] 59 (0, 0)) (bl_ BK273.out)) : gb273 ≠ gb282)); have NB282_273 := Aside0.mk ((by rw [hg]; exact Nat.ne_of_gt (blk_lt (g := gb273) (o := .cells #[.string (⟨#[]⟩ : ByteArray), .slice none 0 0] 59 (0, 0)) (bl_ BK273.out)) : gb282 ≠ gb273)); replace BK273 := kB_ BK273 hb; clear hb hbox hg; have hnb9 := NB282_273.out; have hnc9 := NB273_282.out; obtain ⟨hcz10_0, hcz10_1, hfz10_0, hfz10_1⟩ := zf2_ BK282; obtain ⟨Ao11, co11, eo11⟩ := Kd.R_slice HO280.out; subst eo11))
  have n0_ : Aside0 (Kd.R k118 118 ((w8.setCell ⟨gb282, 0, none⟩ (.string t277)).setCell ⟨gb282, 1, none⟩ (.slice Ao11 t278.length co11)) w.heap.size (fun _ => True) (.slice Ao11 t278.length co11) t278) := ⟨by (with_reducible repeat (first | apply Kd.R_alloc | apply Kd.R_drewN | apply Kd.R_drew)); exact Kd.R_mono (Kd.R_far (p := ⟨gb282, 1, none⟩) (Kd.R_far (p := ⟨gb282, 0, none⟩) (Kd.R_types HO280.out BK282.out (by decide)) (fun _ hk => hk.2) (.string t277)) (fun _ hk => hk.2) (.slice Ao11 t278.length co11)) (fun _ hk => trivial)⟩
  have n1_ : Aside0 (((w8.setCell ⟨gb282, 0, none⟩ (.string t277)).setCell ⟨gb282, 1, none⟩ (.slice Ao11 t278.length co11)).heap[gb273]? = some (.cells #[.string (⟨#[]⟩ : ByteArray), .slice none 0 0] 59 (0, 0))) := ⟨bp_ BK273⟩
  have n2_ : Aside0 (((w8.setCell ⟨gb282, 0, none⟩ (.string t277)).setCell ⟨gb282, 1, none⟩ (.slice Ao11 t278.length co11)).heap[gb282]? = some (.cells #[.string t277, .slice Ao11 t278.length co11] 59 (0, 0))) := ⟨bp_ BK282⟩
  have n3_ : Aside0 (Below w.heap.size w ((w8.setCell ⟨gb282, 0, none⟩ (.string t277)).setCell ⟨gb282, 1, none⟩ (.slice Ao11 t278.length co11))) := ⟨bw_ HB.out⟩
  (try clear HO280); (try clear BK273); (try clear BK282); (try clear HB)
  generalize ((w8.setCell ⟨gb282, 0, none⟩ (.string t277)).setCell ⟨gb282, 1, none⟩ (.slice Ao11 t278.length co11)) = w12 at n0_ n1_ n2_ n3_ ⊢
  have HO280 := n0_
  have BK273 := n1_
  have BK282 := n2_
  have HB := n3_
  clear n0_ n1_ n2_ n3_
  replace HO280 := Aside0.mk (Kd.R_drew HO280.out)
  replace BK273 := kD_ BK273
  replace BK282 := kD_ BK282
  replace HB := bD_ HB
  refine start_ (n := 6) (S := fun w' => w'.cell? ⟨gb282, 0, none⟩ = some (.string t277) ∧ w'.cell? ⟨gb282, 1, none⟩ = some (.slice Ao11 t278.length co11)) (ds := []) #[false, false, false, false, false, false] (by kernel_rfl) rfl rfl ⟨(qkc BK282.out 0).trans rfl, (qkc BK282.out 1).trans rfl⟩ (fun hHeld => ?_)
  generalize w12.drew = w13 at HO280 BK273 BK282 HB hHeld ⊢
  refine pure_ (i := 0) (N := some 26) (v := ?_) (a' := ?_) #[true, false, false, false, false, false] rfl rfl (by kernel_rfl) (fun _ _ _ h => h) (Or.inl ⟨by rfl, ?_⟩) ?_ ?_
  rotate_left
  ·intro w'
   go_simp
   with_reducible rfl
  rotate_left
  ·simp only [Act.put, List.setIfInBounds_toArray, List.set_cons_zero, List.set_cons_succ, i64_w, i32_w]
   rfl
  refine pure_ (i := 2) (N := some 28) (v := ?_) (a' := ?_) #[true, false, true, false, false, false] rfl rfl (by kernel_rfl) (fun _ _ _ h => h) (Or.inl ⟨by rfl, ?_⟩) ?_ ?_
  rotate_left
  ·intro w'
   go_simp
   with_reducible rfl
  rotate_left
  ·simp only [Act.put, List.setIfInBounds_toArray, List.set_cons_zero, List.set_cons_succ, i64_w, i32_w]
   rfl
  refine pure_ (i := 3) (N := some 4) (v := ?_) (a' := ?_) #[true, false, true, true, false, false] rfl rfl (by kernel_rfl) (fun _ _ _ h => h) (Or.inl ⟨by rfl, ?_⟩) ?_ ?_
  rotate_left
  ·intro w'
   go_simp
   with_reducible rfl
  rotate_left
  ·simp only [Act.put, List.setIfInBounds_toArray, List.set_cons_zero, List.set_cons_succ, i64_w, i32_w]
   rfl
  refine take_ (i := 1) (N := some 27) (v := ?_) (a' := ?_) #[true, true, true, true, false, false] rfl rfl (by kernel_rfl) (fun _ _ _ h => h) (Or.inl ⟨by rfl, ?_⟩) hHeld ?_ ?_
  rotate_left
  ·rintro w' ⟨s0, s1⟩
   go_simp
   with_reducible rfl
  rotate_left
  ·simp only [Act.put, List.setIfInBounds_toArray, List.set_cons_zero, List.set_cons_succ, i64_w, i32_w]
   rfl
  refine one_ (i := 4) (N := none) #[true, true, true, true, true, false] rfl rfl (by kernel_rfl) (by decide) (fun K hK => ?_)
  have hs14 : w13.cell? ⟨gb273, 0, none⟩ = some (.string (⟨#[]⟩ : ByteArray)) := (qkc BK273.out 0).trans rfl
  have hfs14 := qkf BK273.out 0
  have hns14_1 := NB282_273.out
  have hms14_1 := NB273_282.out
  have hs15 : w13.cell? ⟨gb273, 1, none⟩ = some (.slice none 0 0) := (qkc BK273.out 1).trans rfl
  have hfs15 := qkf BK273.out 1
  refine skip_ (w1 := ?_) ?sh1 ?sh2 ?_ ?_
  case sh1 => rfl
  case sh2 => rfl
  rotate_left
  ·go_simp
   rfl
  refine hK.out _ _ ⟨((cell_far (p := ⟨gb273, _, none⟩) NB282_273.out _).trans (((cell_far (p := ⟨gb273, _, none⟩) NB282_273.out _).trans (hHeld.1)))), ((cell_far (p := ⟨gb273, _, none⟩) NB282_273.out _).trans (((cell_far (p := ⟨gb273, _, none⟩) NB282_273.out _).trans (hHeld.2))))⟩ (fun hHeld => ?_)
  clear hK K
  refine pure_ (i := 5) (N := some 6) (v := ?_) (a' := ?_) #[true, true, true, true, true, true] rfl rfl (by kernel_rfl) (fun _ _ _ h => h) (Or.inl ⟨by rfl, ?_⟩) ?_ ?_
  rotate_left
  ·intro w'
   go_simp
   with_reducible rfl
  rotate_left
  ·simp only [Act.put, List.setIfInBounds_toArray, List.set_cons_zero, List.set_cons_succ, i64_w, i32_w]
   rfl
  refine done_ (by kernel_rfl) ?_
  try go_wp2
  refine bodyPost_ret (results_list (rs := [.tmp 4, .cell 5 59, .tmp 6]) rfl (by simp) (.tmp (.cell gb273 59 #[.string t277, .slice Ao11 t278.length co11] (0, 0) _ rfl (bp_ BK273) Tryz.underlying59 rfl (by kernel_rfl) (.tmp .nil)))) rfl ?_
  exact ⟨_, fr_, by (with_reducible repeat (first | apply Kd.R_alloc | apply Kd.R_drewN | apply Kd.R_drew)); exact Kd.R_mono (Kd.R_far (p := ⟨gb273, 1, none⟩) (Kd.R_far (p := ⟨gb273, 0, none⟩) (Kd.R_types HO280.out BK273.out (by decide)) (fun _ hk => hk.2) (.string t277)) (fun _ hk => hk.2) (.slice Ao11 t278.length co11)) (fun _ hk => trivial), bw_ HB.out⟩
 have H1 : (some (0, (⟨#[]⟩ : ByteArray), ([] : List (S118)), some q276)) = some (r1, r2, r3, r4) := by rw [if_neg (show ¬ (some q276).isNone = true by simp)] at H; exact H
 clear H
 have H := H1
 clear H1
 try simp only [errW_none, errW_some]
 obtain ⟨rfl, rfl, rfl, rfl⟩ := so4 H
 go_enter Tryz.func46, Tryz.ntmps46
 go_wp2_with (first | ((with_reducible refine qgd (N := 5) rfl ?_); refine qB_ 5 #[.string (⟨#[]⟩ : ByteArray), .slice none 0 0] 59 ?_; intro gb273 hg w16 hbox hb; have BK273 := Aside0.mk (hbox); have GW273 := gE_ hg HB; have GE273 := gE_ hg HB; replace HB := bS_ HB hb; clear hb hbox hg) | ((with_reducible refine qgc (f := 72) rfl ?_); refine gL_ (some 13) Tryz.func72 #[.pointer A0, .string a1] ?_; (with_reducible refine (cat_Find.calls _ c0 l0 a1 t274 (some q276) _ ?side1 ?side2 A3.out).mono ?_); (case side1 => repeat (first | exact (cat_below HR0.out HB.out) | (with_reducible refine cat_alloc ?_ _) | (with_reducible refine cat_drewN ?_ _) | (with_reducible refine cat_drew ?_))); (case side2 => exact HC0.out); rintro e w17 ⟨rfl, hb⟩; refine ⟨_, rfl, ?_⟩; replace BK273 := kB_ BK273 hb; replace HB := bS_ HB hb; clear hb; (try simp only [errW_none, errW_some]); obtain ⟨hcz18_0, hcz18_1, hfz18_0, hfz18_1⟩ := zf2_ BK273))
 refine bodyPost_ret (results_list (rs := [.tmp 4, .cell 5 59, .tmp 6]) rfl (by simp) (.tmp (.cell gb273 59 #[.string (⟨#[]⟩ : ByteArray), .slice none 0 0] (0, 0) _ rfl (bp_ BK273) Tryz.underlying59 rfl (by kernel_rfl) (.tmp .nil)))) rfl ?_
 exact ⟨_, fr_, by first | exact Kd.R_nil _ _ _ _ _ | exact Kd.N_nil _ _ _ _ _ | exact Kd.V_nil _ _ _ _ _ | exact Kd.Q_nil _ _ _ _ _ | exact Kd.S_nil _ _ _ _ _, bw_ HB.out⟩

end Go.Proofs.YtddkbhglbkfelaaGreatDoor.T
