import Derived.Test.YtddkbhglbkfelaaGreatDoorPkTx0
import Derived.Test.YtddkbhglbkfelaaGreatDoorPkTx9
import Derived.Test.YtddkbhglbkfelaaGreatDoorPkTx10
import Derived.Test.YtddkbhglbkfelaaGreatDoorPkTx11
import Derived.Test.YtddkbhglbkfelaaGreatDoorPkTx12
namespace Go.Proofs.YtddkbhglbkfelaaGreatDoor.T
open Go.RowKit Go.Proofs.YtddkbhglbkfelaaGreatDoorW.PrintWords Go.Proofs.YtddkbhglbkfelaaGreatDoorW.PrintLast Go.Proofs.YtddkbhglbkfelaaGreatDoorW.PrintMore Go.Proofs.YtddkbhglbkfelaaGreatDoorX
attribute [local go_sem] max2_int min2_int max_two min_two max_three min_three max_four min_four
set_option linter.unusedVariables false
set_option linter.unusedSimpArgs false

/-! ### store_write: function 21 -/
def store_write.f (k : Nat) (l0 : List Int) (l1 : List (S59)) (a2_0 : ByteArray) (a2_1 : Bool) (l2_2 : List (S63)) : Option (List Int × Option Int) := (store_find.f l1 a2_0).bind fun bt339 => (if bt339.2.2.2.isNone = true then ((store_count.f k l0 bt339.1).bind fun t347 => (if a2_1 = true then ((row_KeyOf.f k bt339.2.1 bt339.2.2.1 l2_2).bind fun bt350 => (if bt350.2.isNone = true then (if t347.length < 140737488355328 then ((pack_AppendText.f k (t347 ++ [1]) bt350.1).bind fun t356 => (some (t356, none))) else (none)) else (some (([] : List Int), some (bt350.2.getD 0))))) else ((row_Encode.f k bt339.2.1 bt339.2.2.1 l2_2).bind fun bt359 => (if bt359.2.isNone = true then (if t347.length < 140737488355328 then ((pack_AppendText.f k (t347 ++ [0]) (strOfNums bt359.1)).bind fun t367 => (some (t367, none))) else (none)) else (some (([] : List Int), some (bt359.2.getD 0))))))) else (some (([] : List Int), some (bt339.2.2.2.getD 0))))
def store_write.T13 : Bool × List (List Nat × List Nat) := (true, [([], []), ([], []), ([0, 1], [0, 1]), ([], []), ([3], [3]), ([2, 4, 2], [2, 4]), ([5, 5, 0, 1, 2, 3, 4, 5], [5]), ([6, 0, 1, 2, 3, 4, 5, 6], [])])
def store_write.B13 : List Nat := [0, 0, 3, 0, 8, 31, 63, 127]
theorem store_write.tab13 : rtab .any (opsOf Tryz.f21 13) = store_write.T13 := by kernel_rfl
theorem store_write.bits13 : waitsOk store_write.T13.2 store_write.B13 = true := by kernel_rfl
set_option maxHeartbeats 8000000 in
set_option maxRecDepth 100000 in
theorem store_write.calls (k : Nat) (A0 : Option Addr) (c0 : Nat) (l0 : List Int) (A1 : Option Addr) (c1 : Nat) (l1 : List (S59)) (a2_0 : ByteArray) (a2_1 : Bool) (A2_2 : Option Addr) (c2_2 : Nat) (l2_2 : List (S63)) (r1 : List Int) (r2 : Option Int) (w : World) (hr0 : Kd.C (Kd.int .u8) w A0 l0.length l0) (hc0 : l0.length ≤ c0) (hr1 : Cat w A1 l1.length l1) (hc1 : l1.length ≤ c1) (hr2_2 : Kd.C k63 w A2_2 l2_2.length l2_2) (hc2_2 : l2_2.length ≤ c2_2) (h : store_write.f k l0 l1 a2_0 a2_1 l2_2 = some (r1, r2)) :
  Calls Tryz.prog 21 #[.slice A0 l0.length c0, .pointer A1, .agg #[.string a2_0, .bool a2_1, .slice A2_2 l2_2.length c2_2]] w fun e w' => ∃ v0_ : Value, e = .returned (.tuple #[v0_, errW r2]) ∧ Kd.R (Kd.int .u8) 5 w' w.heap.size (fun _ => True) v0_ r1 ∧ Below w.heap.size w w' := by
 have hu68 := Tryz.underlying68
 have hu59 := Tryz.underlying59
 have hu32 := Tryz.underlying32
 have hu65 := Tryz.underlying65
 have HR0 := Aside0.mk hr0
 have HC0 := Aside0.mk hc0
 clear hr0 hc0
 have HR1 := Aside0.mk hr1
 have HC1 := Aside0.mk hc1
 clear hr1 hc1
 have HR2_2 := Aside0.mk hr2_2
 have HC2_2 := Aside0.mk hc2_2
 clear hr2_2 hc2_2
 have HB := Aside0.mk (Below.refl w.heap.size w)
 have H : ((store_find.f l1 a2_0).bind fun bt339 => (if bt339.2.2.2.isNone = true then ((store_count.f k l0 bt339.1).bind fun t347 => (if a2_1 = true then ((row_KeyOf.f k bt339.2.1 bt339.2.2.1 l2_2).bind fun bt350 => (if bt350.2.isNone = true then (if t347.length < 140737488355328 then ((pack_AppendText.f k (t347 ++ [1]) bt350.1).bind fun t356 => (some (t356, none))) else (none)) else (some (([] : List Int), some (bt350.2.getD 0))))) else ((row_Encode.f k bt339.2.1 bt339.2.2.1 l2_2).bind fun bt359 => (if bt359.2.isNone = true then (if t347.length < 140737488355328 then ((pack_AppendText.f k (t347 ++ [0]) (strOfNums bt359.1)).bind fun t367 => (some (t367, none))) else (none)) else (some (([] : List Int), some (bt359.2.getD 0))))))) else (some (([] : List Int), some (bt339.2.2.2.getD 0))))) = some (r1, r2) := h
 clear h
 obtain ⟨⟨t339, t340, t341, t344⟩, A4, H⟩ := bn_ H; (try dsimp only at H)
 rcases t344 with _ | q346
 ·have H1 : ((store_count.f k l0 t339).bind fun t347 => (if a2_1 = true then ((row_KeyOf.f k t340 t341 l2_2).bind fun bt350 => (if bt350.2.isNone = true then (if t347.length < 140737488355328 then ((pack_AppendText.f k (t347 ++ [1]) bt350.1).bind fun t356 => (some (t356, none))) else (none)) else (some (([] : List Int), some (bt350.2.getD 0))))) else ((row_Encode.f k t340 t341 l2_2).bind fun bt359 => (if bt359.2.isNone = true then (if t347.length < 140737488355328 then ((pack_AppendText.f k (t347 ++ [0]) (strOfNums bt359.1)).bind fun t367 => (some (t367, none))) else (none)) else (some (([] : List Int), some (bt359.2.getD 0))))))) = some (r1, r2) := by rw [if_pos (show (none : Option Int).isNone = true by rfl)] at H; exact H
  clear H
  have H := H1
  clear H1
  try simp only [errW_none, errW_some]
  obtain ⟨t347, A5, H⟩ := bn_ H; (try dsimp only at H)
  by_cases c6 : a2_1 = true
  ·subst c6
   rw [if_pos rfl] at H
   obtain ⟨⟨t350, t351⟩, A7, H⟩ := bn_ H; (try dsimp only at H)
   rcases t351 with _ | q352
   ·have H1 : (if t347.length < 140737488355328 then ((pack_AppendText.f k (t347 ++ [1]) t350).bind fun t356 => (some (t356, none))) else (none)) = some (r1, r2) := by rw [if_pos (show (none : Option Int).isNone = true by rfl)] at H; exact H
    clear H
    have H := H1
    clear H1
    try simp only [errW_none, errW_some]
    have c8 : t347.length < 140737488355328 := Classical.byContradiction fun c8 => by rw [if_neg c8] at H; exact absurd H (by simp)
    rw [if_pos c8] at H
    have LMc8 := Aside0.mk c8
    clear c8
    first | (revert H; with_reducible refine nm_ fun y353 hy353 H => ?_) | (generalize hy353 : (t347 ++ [1] : List Int) = y353 at H; replace hy353 := hy353.symm)
    have Ny353 := Aside0.mk hy353; clear hy353
    obtain ⟨t356, A9, H⟩ := bn_ H; (try dsimp only at H)
    obtain ⟨rfl, rfl⟩ := so2 H
    go_enter Tryz.func21, Tryz.ntmps21
    go_wp2_with (first | ((with_reducible refine qgd (N := 5) rfl ?_); refine qB_ 5 #[.string a2_0, .bool true, .slice A2_2 l2_2.length c2_2] 68 ?_; intro gb338 hg w10 hbox hb; have BK338 := Aside0.mk (hbox); have GW338 := gE_ hg HB; have GE338 := gE_ hg HB; replace HB := bS_ HB hb; clear hb hbox hg; obtain ⟨hcz11_0, hcz11_1, hcz11_2, hfz11_0, hfz11_1, hfz11_2⟩ := zf3_ BK338) | ((with_reducible refine qgc (f := 46) rfl ?_); refine gL_ (some 18) Tryz.func46 #[.pointer A1, .string a2_0] ?_; (with_reducible refine (store_find.calls _ c1 l1 a2_0 t339 t340 t341 none _ ?side1 ?side2 A4.out).mono ?_); (case side1 => repeat (first | exact (cat_below HR1.out HB.out) | (with_reducible refine cat_alloc ?_ _) | (with_reducible refine cat_drewN ?_ _) | (with_reducible refine cat_drew ?_))); (case side2 => exact HC1.out); rintro e w12 ⟨v342, rfl, ho0, hb⟩; refine ⟨_, rfl, ?_⟩; have HO343 := Rl_ ho0 HB; replace BK338 := kB_ BK338 hb; replace HB := bS_ HB hb; clear hb; (try clear ho0); (try simp only [errW_none, errW_some])) | ((with_reducible refine qgd (N := 9) rfl ?_); refine qB_ 9 #[.string (⟨#[]⟩ : ByteArray), .slice none 0 0] 59 ?_; intro gb345 hg w13 hbox hb; replace HO343 := RB_ HO343 hb; have BK345 := Aside0.mk (hbox); have GW345 := gE_ hg HB; have GE345 := gE_ hg HB; replace HB := bS_ HB hb; have NB338_345 := Aside0.mk ((by rw [hg]; exact Nat.ne_of_lt (blk_lt (g := gb338) (o := .cells #[.string a2_0, .bool true, .slice A2_2 l2_2.length c2_2] 68 (0, 0)) (bl_ BK338.out)) : gb338 ≠ gb345)); have NB345_338 := Aside0.mk ((by rw [hg]; exact Nat.ne_of_gt (blk_lt (g := gb338) (o := .cells #[.string a2_0, .bool true, .slice A2_2 l2_2.length c2_2] 68 (0, 0)) (bl_ BK338.out)) : gb345 ≠ gb338)); replace BK338 := kB_ BK338 hb; clear hb hbox hg; have hnb14 := NB345_338.out; have hnc14 := NB338_345.out; obtain ⟨hcz15_0, hcz15_1, hfz15_0, hfz15_1⟩ := zf2_ BK345; obtain ⟨Ao16, co16, eo16⟩ := Kd.R_slice HO343.out; subst eo16) | ((with_reducible refine qgc (f := 20) rfl ?_); refine gL_ (some 27) Tryz.func20 #[.slice A0 l0.length c0, .int .i64 t339] ?_; (with_reducible refine (store_count.calls k _ _ l0 t339 t347 _ ?side1 ?side2 A5.out).mono ?_); (case side1 => exact Kd.C_below HR0.out (bw_ HB.out)); (case side2 => exact HC0.out); rintro e w17 ⟨v348, rfl, ho0, hb⟩; refine ⟨_, rfl, ?_⟩; replace HO343 := Aside0.mk (Kd.R_below (by (with_reducible repeat (first | apply Kd.R_alloc | apply Kd.R_drewN | apply Kd.R_drew)); exact (Kd.R_mono (Kd.R_far (p := ⟨gb345, 1, none⟩) (Kd.R_far (p := ⟨gb345, 0, none⟩) (Kd.R_types HO343.out BK345.out (by decide)) (fun _ hk => hk.2) (.string t340)) (fun _ hk => hk.2) (.slice Ao16 t341.length co16)) (fun _ h_ => h_.1))) hb); have HO349 := Rl_ ho0 HB; replace BK338 := Aside0.mk (qkb (g := gb338) (o := .cells #[.string a2_0, .bool true, .slice A2_2 l2_2.length c2_2] 68 (0, 0)) (bp_ BK338) hb); replace BK345 := Aside0.mk (qkb (g := gb345) (o := .cells #[.string t340, .slice Ao16 t341.length co16] 59 (0, 0)) (bp_ BK345) hb); replace HB := bS_ HB hb; clear hb; (try clear ho0); obtain ⟨hcz18_0, hcz18_1, hcz18_2, hfz18_0, hfz18_1, hfz18_2⟩ := zf3_ BK338; obtain ⟨hcz19_0, hcz19_1, hfz19_0, hfz19_1⟩ := zf2_ BK345) | ((with_reducible refine qgc (f := 47) rfl ?_); refine gL_ (some 34) Tryz.func47 #[.agg #[.string t340, .slice Ao16 t341.length co16], .slice A2_2 l2_2.length c2_2] ?_; (with_reducible refine (row_KeyOf.calls k t340 _ _ t341 _ _ l2_2 t350 none _ ?side1 ?side2 ?side3 ?side4 A7.out).mono ?_); (case side1 => exact kC_ ((Kd.R_reads' HO343.out).2.2)); (case side2 => exact (Kd.R_reads' HO343.out).2.1); (case side3 => exact kC_ (Kd.C_below HR2_2.out HB.out)); (case side4 => exact HC2_2.out); rintro e w20 ⟨rfl, hb⟩; refine ⟨_, rfl, ?_⟩; replace HO343 := RB_ HO343 hb; replace HO349 := RB_ HO349 hb; replace BK338 := kB_ BK338 hb; replace BK345 := kB_ BK345 hb; replace HB := bS_ HB hb; clear hb; (try simp only [errW_none, errW_some])) | ((with_reducible refine gate_builtin (b := .append) (xs := #[.tmp 40, .tmp 41]) rfl ?_); at_builtin; refine Kd.R_append (Kd.int .u8) (w0 := w) w.heap.size rfl (.tmp 40) (.tmp 41) 27 5 (.int .u8 0) 1 rfl Tryz.underlying27 info5 rfl (by decide) (by omega) v348 t347 1 [.int .u8 1] (fun _ => True) (fun _ => False) rfl rfl ?aP (fun _ hk => hk.elim) (fun _ _ => trivial) ?aO (bw_ HB.out) (qbz (bw_ HB.out)) (by have := LMc8.out; omega) ?_; (case aP => exact rfl); (case aO => exact (kR_ HO349.out)); intro v354 w21 ho hb hg hat; rw [← Ny353.out] at ho; replace BK338 := gR_ BK338 hg (Kd.R_ne HO349.out BK338.out (by decide)); replace HO343 := Aside0.mk (Kd.R_over' (kR_ HO343.out) (Kd.R_typed (kR_ HO349.out)) (by decide) hg); replace BK345 := gR_ BK345 hg (Kd.R_ne HO349.out BK345.out (by decide)); replace HB := Aside0.mk (hb); have HO355 := Aside0.mk (ho); clear HO349 ho hb hg hat; obtain ⟨Ao22, co22, eo22⟩ := Kd.R_slice HO355.out; subst eo22) | ((with_reducible refine qgc (f := 41) rfl ?_); refine gL_ (some 44) Tryz.func41 #[.slice Ao22 y353.length co22, .string t350] ?_; (with_reducible refine (pack_AppendText.calls k _ _ y353 t350 t356 _ ?side1 ?side2 A9.out).mono ?_); (case side1 => exact kC_ ((Kd.R_reads' HO355.out).2.2)); (case side2 => exact (Kd.R_reads' HO355.out).2.1); rintro e w23 ⟨v357, rfl, ho0, hb⟩; refine ⟨_, rfl, ?_⟩; replace HO343 := RB_ HO343 hb; have HO358 := Aside0.mk (Kd.R_lower (Kd.R_new' ho0 (Kd.R_lt (kR_ HO355.out))) (qbz (bw_ HB.out))); replace HO355 := Aside0.mk (Kd.R_elder' (kR_ HO355.out) (Kd.R_base ho0) hb); replace BK338 := kB_ BK338 hb; replace BK345 := kB_ BK345 hb; replace HB := bS_ HB hb; clear hb; (try clear ho0)))
    go_ret2
    exact ⟨_, fr_, by (with_reducible repeat (first | apply Kd.R_alloc | apply Kd.R_drewN | apply Kd.R_drew)); exact Kd.R_mono HO358.out (fun _ hk => trivial), bw_ HB.out⟩
   have H1 : (some (([] : List Int), some q352)) = some (r1, r2) := by rw [if_neg (show ¬ (some q352).isNone = true by simp)] at H; exact H
   clear H
   have H := H1
   clear H1
   try simp only [errW_none, errW_some]
   obtain ⟨rfl, rfl⟩ := so2 H
   go_enter Tryz.func21, Tryz.ntmps21
   go_wp2_with (first | ((with_reducible refine qgd (N := 5) rfl ?_); refine qB_ 5 #[.string a2_0, .bool true, .slice A2_2 l2_2.length c2_2] 68 ?_; intro gb338 hg w24 hbox hb; have BK338 := Aside0.mk (hbox); have GW338 := gE_ hg HB; have GE338 := gE_ hg HB; replace HB := bS_ HB hb; clear hb hbox hg; obtain ⟨hcz25_0, hcz25_1, hcz25_2, hfz25_0, hfz25_1, hfz25_2⟩ := zf3_ BK338) | ((with_reducible refine qgc (f := 46) rfl ?_); refine gL_ (some 18) Tryz.func46 #[.pointer A1, .string a2_0] ?_; (with_reducible refine (store_find.calls _ c1 l1 a2_0 t339 t340 t341 none _ ?side1 ?side2 A4.out).mono ?_); (case side1 => repeat (first | exact (cat_below HR1.out HB.out) | (with_reducible refine cat_alloc ?_ _) | (with_reducible refine cat_drewN ?_ _) | (with_reducible refine cat_drew ?_))); (case side2 => exact HC1.out); rintro e w26 ⟨v342, rfl, ho0, hb⟩; refine ⟨_, rfl, ?_⟩; have HO343 := Rl_ ho0 HB; replace BK338 := kB_ BK338 hb; replace HB := bS_ HB hb; clear hb; (try clear ho0); (try simp only [errW_none, errW_some])) | ((with_reducible refine qgd (N := 9) rfl ?_); refine qB_ 9 #[.string (⟨#[]⟩ : ByteArray), .slice none 0 0] 59 ?_; intro gb345 hg w27 hbox hb; replace HO343 := RB_ HO343 hb; have BK345 := Aside0.mk (hbox); have GW345 := gE_ hg HB; have GE345 := gE_ hg HB; replace HB := bS_ HB hb; have NB338_345 := Aside0.mk ((by rw [hg]; exact Nat.ne_of_lt (blk_lt (g := gb338) (o := .cells #[.string a2_0, .bool true, .slice A2_2 l2_2.length c2_2] 68 (0, 0)) (bl_ BK338.out)) : gb338 ≠ gb345)); have NB345_338 := Aside0.mk ((by rw [hg]; exact Nat.ne_of_gt (blk_lt (g := gb338) (o := .cells #[.string a2_0, .bool true, .slice A2_2 l2_2.length c2_2] 68 (0, 0)) (bl_ BK338.out)) : gb345 ≠ gb338)); replace BK338 := kB_ BK338 hb; clear hb hbox hg; have hnb28 := NB345_338.out; have hnc28 := NB338_345.out; obtain ⟨hcz29_0, hcz29_1, hfz29_0, hfz29_1⟩ := zf2_ BK345; obtain ⟨Ao30, co30, eo30⟩ := Kd.R_slice HO343.out; subst eo30) | ((with_reducible refine qgc (f := 20) rfl ?_); refine gL_ (some 27) Tryz.func20 #[.slice A0 l0.length c0, .int .i64 t339] ?_; (with_reducible refine (store_count.calls k _ _ l0 t339 t347 _ ?side1 ?side2 A5.out).mono ?_); (case side1 => exact Kd.C_below HR0.out (bw_ HB.out)); (case side2 => exact HC0.out); rintro e w31 ⟨v348, rfl, ho0, hb⟩; refine ⟨_, rfl, ?_⟩; replace HO343 := Aside0.mk (Kd.R_below (by (with_reducible repeat (first | apply Kd.R_alloc | apply Kd.R_drewN | apply Kd.R_drew)); exact (Kd.R_mono (Kd.R_far (p := ⟨gb345, 1, none⟩) (Kd.R_far (p := ⟨gb345, 0, none⟩) (Kd.R_types HO343.out BK345.out (by decide)) (fun _ hk => hk.2) (.string t340)) (fun _ hk => hk.2) (.slice Ao30 t341.length co30)) (fun _ h_ => h_.1))) hb); have HO349 := Rl_ ho0 HB; replace BK338 := Aside0.mk (qkb (g := gb338) (o := .cells #[.string a2_0, .bool true, .slice A2_2 l2_2.length c2_2] 68 (0, 0)) (bp_ BK338) hb); replace BK345 := Aside0.mk (qkb (g := gb345) (o := .cells #[.string t340, .slice Ao30 t341.length co30] 59 (0, 0)) (bp_ BK345) hb); replace HB := bS_ HB hb; clear hb; (try clear ho0); obtain ⟨hcz32_0, hcz32_1, hcz32_2, hfz32_0, hfz32_1, hfz32_2⟩ := zf3_ BK338; obtain ⟨hcz33_0, hcz33_1, hfz33_0, hfz33_1⟩ := zf2_ BK345) | ((with_reducible refine qgc (f := 47) rfl ?_); refine gL_ (some 34) Tryz.func47 #[.agg #[.string t340, .slice Ao30 t341.length co30], .slice A2_2 l2_2.length c2_2] ?_; (with_reducible refine (row_KeyOf.calls k t340 _ _ t341 _ _ l2_2 t350 (some q352) _ ?side1 ?side2 ?side3 ?side4 A7.out).mono ?_); (case side1 => exact kC_ ((Kd.R_reads' HO343.out).2.2)); (case side2 => exact (Kd.R_reads' HO343.out).2.1); (case side3 => exact kC_ (Kd.C_below HR2_2.out HB.out)); (case side4 => exact HC2_2.out); rintro e w34 ⟨rfl, hb⟩; refine ⟨_, rfl, ?_⟩; replace HO343 := RB_ HO343 hb; replace HO349 := RB_ HO349 hb; replace BK338 := kB_ BK338 hb; replace BK345 := kB_ BK345 hb; replace HB := bS_ HB hb; clear hb; (try simp only [errW_none, errW_some])))
   go_ret2
   exact ⟨_, fr_, by first | exact Kd.R_nil _ _ _ _ _ | exact Kd.N_nil _ _ _ _ _ | exact Kd.V_nil _ _ _ _ _ | exact Kd.Q_nil _ _ _ _ _ | exact Kd.S_nil _ _ _ _ _, bw_ HB.out⟩
  replace c6 := Bool.eq_false_iff.mpr c6
  subst c6
  rw [if_neg (show ¬ (false = true) by decide)] at H
  obtain ⟨⟨t359, t362⟩, A35, H⟩ := bn_ H; (try dsimp only at H)
  rcases t362 with _ | q363
  ·have H1 : (if t347.length < 140737488355328 then ((pack_AppendText.f k (t347 ++ [0]) (strOfNums t359)).bind fun t367 => (some (t367, none))) else (none)) = some (r1, r2) := by rw [if_pos (show (none : Option Int).isNone = true by rfl)] at H; exact H
   clear H
   have H := H1
   clear H1
   try simp only [errW_none, errW_some]
   have c36 : t347.length < 140737488355328 := Classical.byContradiction fun c36 => by rw [if_neg c36] at H; exact absurd H (by simp)
   rw [if_pos c36] at H
   have LMc36 := Aside0.mk c36
   clear c36
   first | (revert H; with_reducible refine nm_ fun y364 hy364 H => ?_) | (generalize hy364 : (t347 ++ [0] : List Int) = y364 at H; replace hy364 := hy364.symm)
   have Ny364 := Aside0.mk hy364; clear hy364
   obtain ⟨t367, A37, H⟩ := bn_ H; (try dsimp only at H)
   obtain ⟨rfl, rfl⟩ := so2 H
   go_enter Tryz.func21, Tryz.ntmps21
   try go_wp2_with (first | ((with_reducible refine qgd (N := 5) rfl ?_); refine qB_ 5 #[.string a2_0, .bool false, .slice A2_2 l2_2.length c2_2] 68 ?_; intro gb338 hg w38 hbox hb; have BK338 := Aside0.mk (hbox); have GW338 := gE_ hg HB; have GE338 := gE_ hg HB; replace HB := bS_ HB hb; clear hb hbox hg; obtain ⟨hcz39_0, hcz39_1, hcz39_2, hfz39_0, hfz39_1, hfz39_2⟩ := zf3_ BK338) | ((with_reducible refine qgc (f := 46) rfl ?_); refine gL_ (some 18) Tryz.func46 #[.pointer A1, .string a2_0] ?_; (with_reducible refine (store_find.calls _ c1 l1 a2_0 t339 t340 t341 none _ ?side1 ?side2 A4.out).mono ?_); (case side1 => repeat (first | exact (cat_below HR1.out HB.out) | (with_reducible refine cat_alloc ?_ _) | (with_reducible refine cat_drewN ?_ _) | (with_reducible refine cat_drew ?_))); (case side2 => exact HC1.out); rintro e w40 ⟨v342, rfl, ho0, hb⟩; refine ⟨_, rfl, ?_⟩; have HO343 := Rl_ ho0 HB; replace BK338 := kB_ BK338 hb; replace HB := bS_ HB hb; clear hb; (try clear ho0); (try simp only [errW_none, errW_some])) | ((with_reducible refine qgd (N := 9) rfl ?_); refine qB_ 9 #[.string (⟨#[]⟩ : ByteArray), .slice none 0 0] 59 ?_; intro gb345 hg w41 hbox hb; replace HO343 := RB_ HO343 hb; have BK345 := Aside0.mk (hbox); have GW345 := gE_ hg HB; have GE345 := gE_ hg HB; replace HB := bS_ HB hb; have NB338_345 := Aside0.mk ((by rw [hg]; exact Nat.ne_of_lt (blk_lt (g := gb338) (o := .cells #[.string a2_0, .bool false, .slice A2_2 l2_2.length c2_2] 68 (0, 0)) (bl_ BK338.out)) : gb338 ≠ gb345)); have NB345_338 := Aside0.mk ((by rw [hg]; exact Nat.ne_of_gt (blk_lt (g := gb338) (o := .cells #[.string a2_0, .bool false, .slice A2_2 l2_2.length c2_2] 68 (0, 0)) (bl_ BK338.out)) : gb345 ≠ gb338)); replace BK338 := kB_ BK338 hb; clear hb hbox hg; have hnb42 := NB345_338.out; have hnc42 := NB338_345.out; obtain ⟨hcz43_0, hcz43_1, hfz43_0, hfz43_1⟩ := zf2_ BK345; obtain ⟨Ao44, co44, eo44⟩ := Kd.R_slice HO343.out; subst eo44) | ((with_reducible refine qgc (f := 20) rfl ?_); refine gL_ (some 27) Tryz.func20 #[.slice A0 l0.length c0, .int .i64 t339] ?_; (with_reducible refine (store_count.calls k _ _ l0 t339 t347 _ ?side1 ?side2 A5.out).mono ?_); (case side1 => exact Kd.C_below HR0.out (bw_ HB.out)); (case side2 => exact HC0.out); rintro e w45 ⟨v348, rfl, ho0, hb⟩; refine ⟨_, rfl, ?_⟩; replace HO343 := Aside0.mk (Kd.R_below (by (with_reducible repeat (first | apply Kd.R_alloc | apply Kd.R_drewN | apply Kd.R_drew)); exact (Kd.R_mono (Kd.R_far (p := ⟨gb345, 1, none⟩) (Kd.R_far (p := ⟨gb345, 0, none⟩) (Kd.R_types HO343.out BK345.out (by decide)) (fun _ hk => hk.2) (.string t340)) (fun _ hk => hk.2) (.slice Ao44 t341.length co44)) (fun _ h_ => h_.1))) hb); have HO349 := Rl_ ho0 HB; replace BK338 := Aside0.mk (qkb (g := gb338) (o := .cells #[.string a2_0, .bool false, .slice A2_2 l2_2.length c2_2] 68 (0, 0)) (bp_ BK338) hb); replace BK345 := Aside0.mk (qkb (g := gb345) (o := .cells #[.string t340, .slice Ao44 t341.length co44] 59 (0, 0)) (bp_ BK345) hb); replace HB := bS_ HB hb; clear hb; (try clear ho0); obtain ⟨hcz46_0, hcz46_1, hcz46_2, hfz46_0, hfz46_1, hfz46_2⟩ := zf3_ BK338; obtain ⟨hcz47_0, hcz47_1, hfz47_0, hfz47_1⟩ := zf2_ BK345) | ((with_reducible refine qgc (f := 48) rfl ?_); refine gL_ (some 49) Tryz.func48 #[.agg #[.string t340, .slice Ao44 t341.length co44], .slice A2_2 l2_2.length c2_2] ?_; (with_reducible refine (row_Encode.calls k t340 _ _ t341 _ _ l2_2 t359 none _ ?side1 ?side2 ?side3 ?side4 A35.out).mono ?_); (case side1 => exact kC_ ((Kd.R_reads' HO343.out).2.2)); (case side2 => exact (Kd.R_reads' HO343.out).2.1); (case side3 => exact kC_ (Kd.C_below HR2_2.out HB.out)); (case side4 => exact HC2_2.out); rintro e w48 ⟨v360, rfl, ho0, hb⟩; refine ⟨_, rfl, ?_⟩; replace HO343 := RB_ HO343 hb; have HO361 := Aside0.mk (Kd.R_lower (Kd.R_new' ho0 (Kd.R_lt (kR_ HO349.out))) (qbz (bw_ HB.out))); replace HO349 := Aside0.mk (Kd.R_elder' (kR_ HO349.out) (Kd.R_base ho0) hb); replace BK338 := kB_ BK338 hb; replace BK345 := kB_ BK345 hb; replace HB := bS_ HB hb; clear hb; (try clear ho0); (try simp only [errW_none, errW_some])))
   replace HO343 := Aside0.mk (Kd.R_drew HO343.out)
   replace HO349 := Aside0.mk (Kd.R_drew HO349.out)
   replace HO361 := Aside0.mk (Kd.R_drew HO361.out)
   replace BK338 := kD_ BK338
   replace BK345 := kD_ BK345
   replace HB := bD_ HB
   refine start_ (n := 8) (S := fun w' => Sem.run Tryz.prog (convert 27 9 (v360)) w' = .ok (.string (strOfNums t359)) w') (ds := []) #[false, false, false, false, false, false, false, false] (by kernel_rfl) rfl rfl ((own_string Tryz.underlying27 Tryz.underlying5 Tryz.underlying9 (Kd.own_of_R (by repeat (first | exact HO361.out | apply Kd.R_alloc | apply Kd.R_drewN | apply Kd.R_drew))))) (fun hHeld => ?_); refine with_tabW store_write.tab13 store_write.bits13 (fun HT_ HW_ => ?_)
   generalize w48.drew = w49 at HO343 HO349 HO361 BK338 BK345 HB hHeld ⊢
   refine pu_ 0 (some 55) HT_ ?_
   refine pu_ 3 (some 58) HT_ ?_
   refine take_ (i := 4) (N := some 59) (v := ?_) (a' := ?_) #[true, false, false, true, true, false, false, false] rfl rfl (take_ofW HT_.out HW_.out (by kernel_rfl)) (fun _ _ _ h => h) (Or.inl ⟨by rfl, ?_⟩) hHeld ?_ ?_
   rotate_left
   ·intro w' s0
    go_simp
    with_reducible rfl
   rotate_left
   ·simp only [Act.put, List.setIfInBounds_toArray, List.set_cons_zero, List.set_cons_succ, i64_w, i32_w]
    rfl
   refine one_ (i := 1) (N := some 56) #[true, true, false, true, true, false, false, false] rfl rfl (one_of HT_.out (by kernel_rfl)) (by decide) (fun K hK => ?_)
   refine value_ (w1 := ?_) (v := ?_) (by rfl) rfl ?_ ?_
   rotate_left 2
   ·go_simp
    constructor
    ·rfl
    rfl
   refine hK.out _ _ (own_string Tryz.underlying27 Tryz.underlying5 Tryz.underlying9 (Kd.own_of_R (by repeat (first | exact HO361.out | apply Kd.R_alloc | apply Kd.R_drewN | apply Kd.R_drew)))) (fun hHeld => ?_)
   clear hK K
   refine norm_ (a' := ?_) ?_ ?_
   rotate_left
   ·show Act.put _ (some 56) _ = _
    simp only [Act.put, List.setIfInBounds_toArray, List.set_cons_zero, List.set_cons_succ, i64_w, i32_w]
    rfl
   refine one_ (i := 2) (N := some 57) #[true, true, true, true, true, false, false, false] rfl rfl (one_of HT_.out (by kernel_rfl)) (by decide) (fun K hK => ?_)
   refine Kd.R_append_step (Kd.int .u8) (w0 := w) w.heap.size (by rfl) (.tmp 55) (.tmp 56) 27 5 (.int .u8 0) 1 rfl Tryz.underlying27 info5 rfl (by decide) (by omega) v348 t347 0 [.int .u8 0] (fun k_ => some k_ ≠ (v360 : Value).ownBlock) (fun _ => False) rfl rfl ?aP (fun _ hk => hk.elim) ?aF ?aO ?aB ?aS ?aL ?_
   (case aP => exact rfl)
   (case aB => exact (bw_ HB.out))
   (case aF => exact (fun k_ hk => Kd.fresh' (Kd.R_lt (kR_ HO361.out)) k_ hk))
   (case aO => exact (by (with_reducible repeat (first | apply Kd.R_alloc | apply Kd.R_drewN | apply Kd.R_drew)); exact Kd.R_mono HO349.out (fun _ hk => hk.2)))
   (case aS => exact (qbz (bw_ HB.out)))
   (case aL => have := LMc36.out; omega)
   intro v365 w50 ho hb hg hat
   rw [← Ny364.out] at ho
   replace BK338 := gR_ BK338 hg (Kd.R_ne HO349.out BK338.out (by decide))
   replace HO343 := Aside0.mk (Kd.R_over' (kR_ HO343.out) (Kd.R_typed (kR_ HO349.out)) (by decide) hg)
   replace BK345 := gR_ BK345 hg (Kd.R_ne HO349.out BK345.out (by decide))
   replace HO361 := Aside0.mk (Kd.R_after (ok := (fun _ => True)) (kR_ HO361.out) hg hat)
   replace HB := Aside0.mk (hb)
   have HO366 := Aside0.mk (ho)
   clear HO349
   clear ho hb hg hat
   obtain ⟨Ao51, co51, eo51⟩ := Kd.R_slice HO366.out
   (first | subst eo51 | (injection eo51 with f1_ f2_ f3_; have f4_ := f1_.symm; have f5_ := f3_.symm; clear f1_ f2_ f3_; subst f4_; subst f5_))
   refine hK.out _ _ ((own_string Tryz.underlying27 Tryz.underlying5 Tryz.underlying9 (Kd.own_of_R (by repeat (first | exact HO361.out | apply Kd.R_alloc | apply Kd.R_drewN | apply Kd.R_drew))))) (fun hHeld => ?_)
   clear hK K
   refine norm_ (a' := ?_) ?_ ?_
   rotate_left
   ·show Act.put _ (some 57) _ = _
    simp only [Act.put, List.setIfInBounds_toArray, List.set_cons_zero, List.set_cons_succ, i64_w, i32_w]
    rfl
   refine one_ (i := 5) (N := some 60) #[true, true, true, true, true, true, false, false] rfl rfl (one_of HT_.out (by kernel_rfl)) (by decide) (fun K hK => ?_)
   refine goes_ Tryz.func41 (by kernel_rfl) rfl #[.slice Ao51 y364.length co51, .string (strOfNums t359)] (by rfl) rfl rfl (by (try simp only [List.map_toArray, List.map_cons, List.map_nil]); first | done | rfl | (simp only [List.length_drop, List.length_take]; rfl)) ?_
   with_reducible refine (pack_AppendText.calls k _ _ y364 (strOfNums t359) t367 _ ?side1 ?side2 A37.out).mono ?_
   (case side1 => repeat (first | exact (Kd.R_reads' HO366.out).2.2 | (with_reducible refine Kd.C_alloc ?_ _) | (with_reducible refine Kd.C_drewN ?_ _) | (with_reducible refine Kd.C_drew ?_)))
   (case side2 => exact (Kd.R_reads' HO366.out).2.1)
   rintro e w52 ⟨v368, rfl, ho0, hb⟩
   refine ⟨_, rfl, ?_⟩
   replace HO343 := RB_ HO343 hb
   have HO369 := Aside0.mk (Kd.R_lower (Kd.R_new' (Kd.R_new' ho0 (Kd.R_lt (kR_ HO361.out))) (Kd.R_lt (kR_ HO366.out))) (qbz (bw_ HB.out)))
   replace HO361 := Aside0.mk (Kd.R_elder' (kR_ HO361.out) (Kd.R_base ho0) hb)
   replace HO366 := Aside0.mk (Kd.R_elder' (kR_ HO366.out) (Kd.R_base ho0) hb)
   replace BK338 := kB_ BK338 hb
   replace BK345 := kB_ BK345 hb
   replace HB := bS_ HB hb
   (try clear hb); (try clear hk); (try clear ho0)
   refine hK.out _ _ ((own_string Tryz.underlying27 Tryz.underlying5 Tryz.underlying9 (Kd.own_of_R (by repeat (first | exact HO361.out | apply Kd.R_alloc | apply Kd.R_drewN | apply Kd.R_drew))))) (fun hHeld => ?_)
   clear hK K
   refine norm_ (a' := ?_) ?_ ?_
   rotate_left
   ·show Act.put _ (some 60) _ = _
    simp only [Act.put, List.setIfInBounds_toArray, List.set_cons_zero, List.set_cons_succ, i64_w, i32_w]
    rfl
   refine pu_ 6 (some 6) HT_ ?_
   refine pu_ 7 (some 7) HT_ ?_
   refine done_ (done_of HT_.out (by kernel_rfl)) ?_
   try go_wp2
   go_ret2
   exact ⟨_, fr_, by (with_reducible repeat (first | apply Kd.R_alloc | apply Kd.R_drewN | apply Kd.R_drew)); exact Kd.R_mono HO369.out (fun _ hk => trivial), bw_ HB.out⟩
  have H1 : (some (([] : List Int), some q363)) = some (r1, r2) := by rw [if_neg (show ¬ (some q363).isNone = true by simp)] at H; exact H
  clear H
  have H := H1
  clear H1
  try simp only [errW_none, errW_some]
  obtain ⟨rfl, rfl⟩ := so2 H
  go_enter Tryz.func21, Tryz.ntmps21
  go_wp2_with (first | ((with_reducible refine qgd (N := 5) rfl ?_); refine qB_ 5 #[.string a2_0, .bool false, .slice A2_2 l2_2.length c2_2] 68 ?_; intro gb338 hg w53 hbox hb; have BK338 := Aside0.mk (hbox); have GW338 := gE_ hg HB; have GE338 := gE_ hg HB; replace HB := bS_ HB hb; clear hb hbox hg; obtain ⟨hcz54_0, hcz54_1, hcz54_2, hfz54_0, hfz54_1, hfz54_2⟩ := zf3_ BK338) | ((with_reducible refine qgc (f := 46) rfl ?_); refine gL_ (some 18) Tryz.func46 #[.pointer A1, .string a2_0] ?_; (with_reducible refine (store_find.calls _ c1 l1 a2_0 t339 t340 t341 none _ ?side1 ?side2 A4.out).mono ?_); (case side1 => repeat (first | exact (cat_below HR1.out HB.out) | (with_reducible refine cat_alloc ?_ _) | (with_reducible refine cat_drewN ?_ _) | (with_reducible refine cat_drew ?_))); (case side2 => exact HC1.out); rintro e w55 ⟨v342, rfl, ho0, hb⟩; refine ⟨_, rfl, ?_⟩; have HO343 := Rl_ ho0 HB; replace BK338 := kB_ BK338 hb; replace HB := bS_ HB hb; clear hb; (try clear ho0); (try simp only [errW_none, errW_some])) | ((with_reducible refine qgd (N := 9) rfl ?_); refine qB_ 9 #[.string (⟨#[]⟩ : ByteArray), .slice none 0 0] 59 ?_; intro gb345 hg w56 hbox hb; replace HO343 := RB_ HO343 hb; have BK345 := Aside0.mk (hbox); have GW345 := gE_ hg HB; have GE345 := gE_ hg HB; replace HB := bS_ HB hb; have NB338_345 := Aside0.mk ((by rw [hg]; exact Nat.ne_of_lt (blk_lt (g := gb338) (o := .cells #[.string a2_0, .bool false, .slice A2_2 l2_2.length c2_2] 68 (0, 0)) (bl_ BK338.out)) : gb338 ≠ gb345)); have NB345_338 := Aside0.mk ((by rw [hg]; exact Nat.ne_of_gt (blk_lt (g := gb338) (o := .cells #[.string a2_0, .bool false, .slice A2_2 l2_2.length c2_2] 68 (0, 0)) (bl_ BK338.out)) : gb345 ≠ gb338)); replace BK338 := kB_ BK338 hb; clear hb hbox hg; have hnb57 := NB345_338.out; have hnc57 := NB338_345.out; obtain ⟨hcz58_0, hcz58_1, hfz58_0, hfz58_1⟩ := zf2_ BK345; obtain ⟨Ao59, co59, eo59⟩ := Kd.R_slice HO343.out; subst eo59) | ((with_reducible refine qgc (f := 20) rfl ?_); refine gL_ (some 27) Tryz.func20 #[.slice A0 l0.length c0, .int .i64 t339] ?_; (with_reducible refine (store_count.calls k _ _ l0 t339 t347 _ ?side1 ?side2 A5.out).mono ?_); (case side1 => exact Kd.C_below HR0.out (bw_ HB.out)); (case side2 => exact HC0.out); rintro e w60 ⟨v348, rfl, ho0, hb⟩; refine ⟨_, rfl, ?_⟩; replace HO343 := Aside0.mk (Kd.R_below (by (with_reducible repeat (first | apply Kd.R_alloc | apply Kd.R_drewN | apply Kd.R_drew)); exact (Kd.R_mono (Kd.R_far (p := ⟨gb345, 1, none⟩) (Kd.R_far (p := ⟨gb345, 0, none⟩) (Kd.R_types HO343.out BK345.out (by decide)) (fun _ hk => hk.2) (.string t340)) (fun _ hk => hk.2) (.slice Ao59 t341.length co59)) (fun _ h_ => h_.1))) hb); have HO349 := Rl_ ho0 HB; replace BK338 := Aside0.mk (qkb (g := gb338) (o := .cells #[.string a2_0, .bool false, .slice A2_2 l2_2.length c2_2] 68 (0, 0)) (bp_ BK338) hb); replace BK345 := Aside0.mk (qkb (g := gb345) (o := .cells #[.string t340, .slice Ao59 t341.length co59] 59 (0, 0)) (bp_ BK345) hb); replace HB := bS_ HB hb; clear hb; (try clear ho0); obtain ⟨hcz61_0, hcz61_1, hcz61_2, hfz61_0, hfz61_1, hfz61_2⟩ := zf3_ BK338; obtain ⟨hcz62_0, hcz62_1, hfz62_0, hfz62_1⟩ := zf2_ BK345) | ((with_reducible refine qgc (f := 48) rfl ?_); refine gL_ (some 49) Tryz.func48 #[.agg #[.string t340, .slice Ao59 t341.length co59], .slice A2_2 l2_2.length c2_2] ?_; (with_reducible refine (row_Encode.calls k t340 _ _ t341 _ _ l2_2 t359 (some q363) _ ?side1 ?side2 ?side3 ?side4 A35.out).mono ?_); (case side1 => exact kC_ ((Kd.R_reads' HO343.out).2.2)); (case side2 => exact (Kd.R_reads' HO343.out).2.1); (case side3 => exact kC_ (Kd.C_below HR2_2.out HB.out)); (case side4 => exact HC2_2.out); rintro e w63 ⟨v360, rfl, ho0, hb⟩; refine ⟨_, rfl, ?_⟩; replace HO343 := RB_ HO343 hb; have HO361 := Aside0.mk (Kd.R_lower (Kd.R_new' ho0 (Kd.R_lt (kR_ HO349.out))) (qbz (bw_ HB.out))); replace HO349 := Aside0.mk (Kd.R_elder' (kR_ HO349.out) (Kd.R_base ho0) hb); replace BK338 := kB_ BK338 hb; replace BK345 := kB_ BK345 hb; replace HB := bS_ HB hb; clear hb; (try clear ho0); (try simp only [errW_none, errW_some])))
  go_ret2
  exact ⟨_, fr_, by first | exact Kd.R_nil _ _ _ _ _ | exact Kd.N_nil _ _ _ _ _ | exact Kd.V_nil _ _ _ _ _ | exact Kd.Q_nil _ _ _ _ _ | exact Kd.S_nil _ _ _ _ _, bw_ HB.out⟩
 have H1 : (some (([] : List Int), some q346)) = some (r1, r2) := by rw [if_neg (show ¬ (some q346).isNone = true by simp)] at H; exact H
 clear H
 have H := H1
 clear H1
 try simp only [errW_none, errW_some]
 obtain ⟨rfl, rfl⟩ := so2 H
 go_enter Tryz.func21, Tryz.ntmps21
 go_wp2_with (first | ((with_reducible refine qgd (N := 5) rfl ?_); refine qB_ 5 #[.string a2_0, .bool a2_1, .slice A2_2 l2_2.length c2_2] 68 ?_; intro gb338 hg w64 hbox hb; have BK338 := Aside0.mk (hbox); have GW338 := gE_ hg HB; have GE338 := gE_ hg HB; replace HB := bS_ HB hb; clear hb hbox hg; obtain ⟨hcz65_0, hcz65_1, hcz65_2, hfz65_0, hfz65_1, hfz65_2⟩ := zf3_ BK338) | ((with_reducible refine qgc (f := 46) rfl ?_); refine gL_ (some 18) Tryz.func46 #[.pointer A1, .string a2_0] ?_; (with_reducible refine (store_find.calls _ c1 l1 a2_0 t339 t340 t341 (some q346) _ ?side1 ?side2 A4.out).mono ?_); (case side1 => repeat (first | exact (cat_below HR1.out HB.out) | (with_reducible refine cat_alloc ?_ _) | (with_reducible refine cat_drewN ?_ _) | (with_reducible refine cat_drew ?_))); (case side2 => exact HC1.out); rintro e w66 ⟨v342, rfl, ho0, hb⟩; refine ⟨_, rfl, ?_⟩; have HO343 := Rl_ ho0 HB; replace BK338 := kB_ BK338 hb; replace HB := bS_ HB hb; clear hb; (try clear ho0); (try simp only [errW_none, errW_some])) | ((with_reducible refine qgd (N := 9) rfl ?_); refine qB_ 9 #[.string (⟨#[]⟩ : ByteArray), .slice none 0 0] 59 ?_; intro gb345 hg w67 hbox hb; replace HO343 := RB_ HO343 hb; have BK345 := Aside0.mk (hbox); have GW345 := gE_ hg HB; have GE345 := gE_ hg HB; replace HB := bS_ HB hb; have NB338_345 := Aside0.mk ((by rw [hg]; exact Nat.ne_of_lt (blk_lt (g := gb338) (o := .cells #[.string a2_0, .bool a2_1, .slice A2_2 l2_2.length c2_2] 68 (0, 0)) (bl_ BK338.out)) : gb338 ≠ gb345)); have NB345_338 := Aside0.mk ((by rw [hg]; exact Nat.ne_of_gt (blk_lt (g := gb338) (o := .cells #[.string a2_0, .bool a2_1, .slice A2_2 l2_2.length c2_2] 68 (0, 0)) (bl_ BK338.out)) : gb345 ≠ gb338)); replace BK338 := kB_ BK338 hb; clear hb hbox hg; have hnb68 := NB345_338.out; have hnc68 := NB338_345.out; obtain ⟨hcz69_0, hcz69_1, hfz69_0, hfz69_1⟩ := zf2_ BK345; obtain ⟨Ao70, co70, eo70⟩ := Kd.R_slice HO343.out; subst eo70))
 go_ret2
 exact ⟨_, fr_, by first | exact Kd.R_nil _ _ _ _ _ | exact Kd.N_nil _ _ _ _ _ | exact Kd.V_nil _ _ _ _ _ | exact Kd.Q_nil _ _ _ _ _ | exact Kd.S_nil _ _ _ _ _, bw_ HB.out⟩

/-! ### store_EncodeDone: function 7 -/
mutual
def store_EncodeDone.j0 : Nat → List (S59) → Bool → Int → Int → List Int → List (S68) → Option (List Int × Option Int)
 | 0, _, _, _, _, _, _ => none
 | k + 1, x0, x20, x371000, x371001, x371002, x371003 => if x20 = true then (some (([] : List Int), some 1)) else ((store_count.f k (([1] : List Int)) x371001).bind fun t374 => ((store_count.f k t374 (x371002.length : Int)).bind fun t377 => (store_EncodeDone.l0 k x0 t377 x371002 (x371002.length : Int) 0 x371000 x371001 x371002 x371003)))
def store_EncodeDone.l0 : Nat → List (S59) → List Int → List Int → Int → Int → Int → Int → List Int → List (S68) → Option (List Int × Option Int)
 | 0, _, _, _, _, _, _, _, _, _ => none
 | k + 1, x0, x6, x32, x33, x34, x371000, x371001, x371002, x371003 => if x34 < x33 then (if 0 ≤ x34 then (if x34 < (x32.length : Int) then (if (rd x32 x34) < 0 then (some (([] : List Int), some 1)) else ((store_count.f k x6 (rd x32 x34)).bind fun t381 => (store_EncodeDone.l0 k x0 t381 x32 x33 (wrap64 (x34 + 1)) x371000 x371001 x371002 x371003))) else (none)) else (none)) else ((store_count.f k x6 (x371003.length : Int)).bind fun t384 => (store_EncodeDone.l1 k x0 t384 x371003 (x371003.length : Int) 0))
def store_EncodeDone.l1 : Nat → List (S59) → List Int → List (S68) → Int → Int → Option (List Int × Option Int)
 | 0, _, _, _, _, _ => none
 | k + 1, x0, x6, x51, x52, x53 => if x53 < x52 then (if 0 ≤ x53 then (if x53 < (x51.length : Int) then ((store_write.f k x6 x0 ((rd_T68 x51 x53).f0) ((rd_T68 x51 x53).f1) ((rd_T68 x51 x53).f2)).bind fun bt389 => (if bt389.2.isNone = true then (store_EncodeDone.l1 k x0 bt389.1 x51 x52 (wrap64 (x53 + 1))) else (some (([] : List Int), some (bt389.2.getD 0))))) else (none)) else (none)) else (some (x6, none))
end
def store_EncodeDone.f (k : Nat) (l0 : List (S59)) (a1_0 : Int) (a1_1 : Int) (l1_2 : List Int) (l1_3 : List (S68)) : Option (List Int × Option Int) := if a1_1 < 1 then (store_EncodeDone.j0 k l0 true a1_0 a1_1 l1_2 l1_3) else (store_EncodeDone.j0 k l0 (decide ((l1_2.length : Int) > 16)) a1_0 a1_1 l1_2 l1_3)
set_option maxHeartbeats 8000000 in
set_option maxRecDepth 100000 in
theorem store_EncodeDone.calls (k : Nat) (A0 : Option Addr) (c0 : Nat) (l0 : List (S59)) (a1_0 : Int) (a1_1 : Int) (A1_2 : Option Addr) (c1_2 : Nat) (l1_2 : List Int) (A1_3 : Option Addr) (c1_3 : Nat) (l1_3 : List (S68)) (r1 : List Int) (r2 : Option Int) (w : World) (hr0 : Cat w A0 l0.length l0) (hc0 : l0.length ≤ c0) (hr1_2 : Kd.C (Kd.int .i64) w A1_2 l1_2.length l1_2) (hc1_2 : l1_2.length ≤ c1_2) (hr1_3 : Kd.C k68 w A1_3 l1_3.length l1_3) (hc1_3 : l1_3.length ≤ c1_3) (h : store_EncodeDone.f k l0 a1_0 a1_1 l1_2 l1_3 = some (r1, r2)) :
  Calls Tryz.prog 7 #[.pointer A0, .agg #[.int .i64 a1_0, .int .i64 a1_1, .slice A1_2 l1_2.length c1_2, .slice A1_3 l1_3.length c1_3]] w fun e w' => ∃ v0_ : Value, e = .returned (.tuple #[v0_, errW r2]) ∧ Kd.R (Kd.int .u8) 5 w' w.heap.size (fun _ => True) v0_ r1 ∧ Below w.heap.size w w' := by
 have hu35 := Tryz.underlying35
 have hu68 := Tryz.underlying68
 have hu32 := Tryz.underlying32
 have hu65 := Tryz.underlying65
 have HR0 := Aside0.mk hr0
 have HC0 := Aside0.mk hc0
 clear hr0 hc0
 have HR1_2 := Aside0.mk hr1_2
 have HC1_2 := Aside0.mk hc1_2
 clear hr1_2 hc1_2
 have HR1_3 := Aside0.mk hr1_3
 have HC1_3 := Aside0.mk hc1_3
 clear hr1_3 hc1_3
 have HB := Aside0.mk (Below.refl w.heap.size w)
 have H : (if a1_1 < 1 then (store_EncodeDone.j0 k l0 true a1_0 a1_1 l1_2 l1_3) else (store_EncodeDone.j0 k l0 (decide ((l1_2.length : Int) > 16)) a1_0 a1_1 l1_2 l1_3)) = some (r1, r2) := h
 clear h
 have HC3 := Aside0.mk H
 clear H
 go_enter Tryz.func7, Tryz.ntmps7
 go_upto_region 1 with (first | ((with_reducible refine qgd (N := 3) rfl ?_); (try (refine gate_guard (by rfl) ?_; dsimp only)); refine qbe ?hg (N := 3) ?hd (cs := #[.int .i64 a1_0, .int .i64 a1_1, .slice A1_2 l1_2.length c1_2, .slice A1_3 l1_3.length c1_3]) (t := 35) ?hr ?_; (case hd => rfl); (case hg => rfl); (case hr => first | (go_simp; done) | (go_simp; rfl)); intro gb370 hg w4 hbox hb; have n0_ := Aside0.mk (below_step (bw_ HB.out) hb); have n1_ := Aside0.mk (hbox); have n2_ := Aside0.mk ((by rw [hg]; exact (qbz (bw_ HB.out)) : w.heap.size ≤ gb370)); have n3_ := Aside0.mk ((by rw [hg]; exact (qbz (bw_ HB.out)) : w.heap.size ≤ gb370)); clear HB; have HB := n0_; have BK370 := n1_; have GW370 := n2_; have GE370 := n3_; clear n0_ n1_ n2_ n3_; clear hb hbox hg))
 (try simp only [Act.put, List.setIfInBounds_toArray, List.set_cons_zero, List.set_cons_succ])
 go_cut [20] (fun v20 wc => ∃ (kq : Nat) (x20_2 : Bool), v20 = .bool x20_2 ∧ Aside0 (store_EncodeDone.j0 kq l0 x20_2 a1_0 a1_1 l1_2 l1_3 = some (r1, r2)) ∧ Aside0 (kq ≤ k) ∧ Aside0 (wc.heap[gb370]? = some (.cells #[.int .i64 a1_0, .int .i64 a1_1, (.slice A1_2 l1_2.length c1_2), (.slice A1_3 l1_3.length c1_3)] 35 (0, 0))) ∧ Aside0 (Below w.heap.size w wc))
 case first =>
  have H := HC3.out
  clear HC3
  by_cases c5 : a1_1 < 1
  ·rw [if_pos c5] at H
   have c5b0 := dcT c5
   clear c5
   (first | rw [c5b0] | (simp only [i64_w, i32_w]; rw [c5b0]) | skip)
   have H' := Aside0.mk H
   clear H
   obtain ⟨hcz6_0, hcz6_1, hcz6_2, hcz6_3, hfz6_0, hfz6_1, hfz6_2, hfz6_3⟩ := zf4_ BK370
   go_wp2
   refine Met.intro ?_
   go_step
   (repeat apply Exists.intro)
   refine ⟨?rel, ?frm⟩
   case frm => first | rfl | (simp only [c5b0]; first | done | rfl)
   case rel => exact ⟨_, (true), fe_, H', ⟨by first | omega | exact Nat.le_refl _⟩, ⟨bp_ BK370⟩, ⟨bw_ HB.out⟩⟩
  rw [if_neg c5] at H
  have c5b0 := dcF c5
  clear c5
  (first | rw [c5b0] | (simp only [i64_w, i32_w]; rw [c5b0]) | skip)
  have H' := Aside0.mk H
  clear H
  obtain ⟨hcz7_0, hcz7_1, hcz7_2, hcz7_3, hfz7_0, hfz7_1, hfz7_2, hfz7_3⟩ := zf4_ BK370
  go_wp2
  refine Met.intro ?_
  go_step
  (repeat apply Exists.intro)
  refine ⟨?rel, ?frm⟩
  case frm => first | rfl | (simp only [c5b0]; first | done | rfl)
  case rel => exact ⟨_, (decide ((l1_2.length : Int) > 16)), fe_, H', ⟨by first | omega | exact Nat.le_refl _⟩, ⟨bp_ BK370⟩, ⟨bw_ HB.out⟩⟩
 clear HC3
 (try clear c5); (try clear c5b0); (try clear hcz6_0); (try clear hcz6_1); (try clear hcz6_2); (try clear hcz6_3); (try clear hcz7_0); (try clear hcz7_1); (try clear hcz7_2)
 (try clear hcz7_3); (try clear hfz6_0); (try clear hfz6_1); (try clear hfz6_2); (try clear hfz6_3); (try clear hfz7_0); (try clear hfz7_1); (try clear hfz7_2); (try clear hfz7_3)
 obtain ⟨kq, x20_2, rfl, HA, HJ2, BK370, HB⟩ := hcut
 cases kq with
 | zero => exact absurd HA.out (by simp [store_EncodeDone.j0])
 | succ kj2 =>
  have H := HA.out
  clear HA
  simp only [store_EncodeDone.j0] at H
  by_cases c8 : x20_2 = true
  ·subst c8
   rw [if_pos rfl] at H
   obtain ⟨rfl, rfl⟩ := so2 H
   go_wp2
   go_ret2
   exact ⟨_, fr_, by first | exact Kd.R_nil _ _ _ _ _ | exact Kd.N_nil _ _ _ _ _ | exact Kd.V_nil _ _ _ _ _ | exact Kd.Q_nil _ _ _ _ _ | exact Kd.S_nil _ _ _ _ _, bw_ HB.out⟩
  replace c8 := Bool.eq_false_iff.mpr c8
  subst c8
  rw [if_neg (show ¬ (false = true) by decide)] at H
  first | (revert H; with_reducible refine nm_ fun y371 hy371 H => ?_) | (generalize hy371 : (([1] : List Int) : List Int) = y371 at H; replace hy371 := hy371.symm)
  have Ny371 := Aside0.mk hy371; clear hy371
  obtain ⟨t374, A9, H⟩ := bn_ H; (try dsimp only at H)
  obtain ⟨t377, A10, H⟩ := bn_ H; (try dsimp only at H)
  have H' := Aside0.mk H
  clear H
  go_wp2_with (first | ((with_reducible refine qgd (N := 22) rfl ?_); (try (refine gate_guard (by rfl) ?_; dsimp only)); refine Kd.R_lit (Kd.int .u8) _ 5 ?hg (N := 22) ?hd (xs := ([1] : List Int)) (inner := [.int .u8 1]) (ok := fun _ => True) (okp := fun _ => True) ?hr ?hp (fun _ hk => hk) trivial (Below.refl _ _) (Nat.le_refl _) (by simp) ?_; (case hd => rfl); (case hg => rfl); (case hr => first | (go_simp; done) | (go_simp; rfl)); (case hp => exact (Reps.one (show Kd.M (Kd.int .u8) _ _ _ 1 [.int .u8 1] from rfl) (Reps.none _ _))); intro v372 w11 ho12 hb hg_ hnew_; clear hg_ hnew_; (first | rw [← Ny371.out] at ho12 | (simp only [Int.reduceToNat] at ho12; rw [← Ny371.out] at ho12)); have HO373 := Rl_ ho12 HB; replace BK370 := kB_ BK370 hb; replace HB := bS_ HB hb; clear hb ho12; obtain ⟨hcz13_0, hcz13_1, hcz13_2, hcz13_3, hfz13_0, hfz13_1, hfz13_2, hfz13_3⟩ := zf4_ BK370; obtain ⟨Ao14, co14, eo14⟩ := Kd.R_slice HO373.out; subst eo14) | ((with_reducible refine qgc (f := 20) rfl ?_); refine gL_ (some 25) Tryz.func20 #[.slice Ao14 y371.length co14, .int .i64 a1_1] ?_; (with_reducible refine (store_count.calls kj2 _ _ y371 a1_1 t374 _ ?side1 ?side2 A9.out).mono ?_); (case side1 => exact kC_ ((Kd.R_reads' HO373.out).2.2)); (case side2 => exact (Kd.R_reads' HO373.out).2.1); rintro e w15 ⟨v375, rfl, ho0, hb⟩; refine ⟨_, rfl, ?_⟩; have HO376 := Aside0.mk (Kd.R_lower (Kd.R_new' ho0 (Kd.R_lt (kR_ HO373.out))) (qbz (bw_ HB.out))); replace HO373 := Aside0.mk (Kd.R_elder' (kR_ HO373.out) (Kd.R_base ho0) hb); replace BK370 := kB_ BK370 hb; replace HB := bS_ HB hb; clear hb; (try clear ho0); obtain ⟨hcz16_0, hcz16_1, hcz16_2, hcz16_3, hfz16_0, hfz16_1, hfz16_2, hfz16_3⟩ := zf4_ BK370; obtain ⟨Ao17, co17, eo17⟩ := Kd.R_slice HO376.out; subst eo17) | ((with_reducible refine qgc (f := 20) rfl ?_); refine gL_ (some 30) Tryz.func20 #[.slice Ao17 t374.length co17, .int .i64 (l1_2.length : Int)] ?_; (with_reducible refine (store_count.calls kj2 _ _ t374 (l1_2.length : Int) t377 _ ?side1 ?side2 A10.out).mono ?_); (case side1 => exact kC_ ((Kd.R_reads' HO376.out).2.2)); (case side2 => exact (Kd.R_reads' HO376.out).2.1); rintro e w18 ⟨v378, rfl, ho0, hb⟩; refine ⟨_, rfl, ?_⟩; have HO379 := Aside0.mk (Kd.R_lower (Kd.R_new' (Kd.R_new' ho0 (Kd.R_lt (kR_ HO373.out))) (Kd.R_lt (kR_ HO376.out))) (qbz (bw_ HB.out))); replace HO373 := Aside0.mk (Kd.R_elder' (kR_ HO373.out) (Kd.R_base ho0) hb); replace HO376 := Aside0.mk (Kd.R_elder' (kR_ HO376.out) (Kd.R_base ho0) hb); replace BK370 := kB_ BK370 hb; replace HB := bS_ HB hb; clear hb; (try clear ho0); obtain ⟨hcz19_0, hcz19_1, hcz19_2, hcz19_3, hfz19_0, hfz19_1, hfz19_2, hfz19_3⟩ := zf4_ BK370))
  go_loopg [6, 34] kj2 (fun kq v6 v34 w' => ∃ (x6_2 : List Int) (x34_2 : Int), v34 = .int .i64 x34_2 ∧ Aside0 (store_EncodeDone.l0 kq l0 x6_2 l1_2 (l1_2.length : Int) x34_2 a1_0 a1_1 l1_2 l1_3 = some (r1, r2)) ∧ Aside0 (kq ≤ kj2) ∧ Aside0 (Kd.R (Kd.int .u8) 5 w' w.heap.size (fun _ => True) v6 x6_2) ∧ Aside0 (w'.heap[gb370]? = some (.cells #[.int .i64 a1_0, .int .i64 a1_1, (.slice A1_2 l1_2.length c1_2), (.slice A1_3 l1_3.length c1_3)] 35 (0, 0))) ∧ Aside0 (Below w.heap.size w w'))
  case atStart => exact ⟨(t377), (0), fe_, H', ⟨Nat.le_refl _⟩, ⟨by (with_reducible repeat (first | apply Kd.R_alloc | apply Kd.R_drewN | apply Kd.R_drew)); exact Kd.R_mono HO379.out (fun _ hk => trivial)⟩, ⟨bp_ BK370⟩, ⟨bw_ HB.out⟩⟩
  case round =>
   clear H'
   (try clear c5); (try clear c5b0); (try clear c8); (try clear hcz13_0); (try clear hcz13_1); (try clear hcz13_2); (try clear hcz13_3); (try clear hcz16_0)
   (try clear hcz16_1); (try clear hcz16_2); (try clear hcz16_3); (try clear hcz19_0); (try clear hcz19_1); (try clear hcz19_2); (try clear hcz19_3); (try clear hcz6_0); (try clear hcz6_1); (try clear hcz6_2); (try clear hcz6_3); (try clear hcz7_0)
   (try clear hcz7_1); (try clear hcz7_2); (try clear hcz7_3); (try clear hfz13_0); (try clear hfz13_1); (try clear hfz13_2); (try clear hfz13_3); (try clear hfz16_0); (try clear hfz16_1); (try clear hfz16_2); (try clear hfz16_3); (try clear hfz19_0)
   (try clear hfz19_1); (try clear hfz19_2); (try clear hfz19_3); (try clear hfz6_0); (try clear hfz6_1); (try clear hfz6_2); (try clear hfz6_3); (try clear hfz7_0); (try clear hfz7_1); (try clear hfz7_2); (try clear hfz7_3)
   obtain ⟨x6_2, x34_2, rfl, HA, HK2, HO_6, BK370, HB⟩ := hrel
   cases gk with
   | zero => exact absurd HA.out (by simp [store_EncodeDone.l0])
   | succ k2 =>
    have H := HA.out
    clear HA
    simp only [store_EncodeDone.l0] at H
    by_cases c20 : x34_2 < (l1_2.length : Int)
    ·rw [if_pos c20] at H
     have c20b0 := dcT c20
     clear c20
     have c21 : 0 ≤ x34_2 := Classical.byContradiction fun c21 => by rw [if_neg c21] at H; exact absurd H (by simp)
     rw [if_pos c21] at H
     have c21b0 := dcT c21
     clear c21
     have c22 : x34_2 < (l1_2.length : Int) := Classical.byContradiction fun c22 => by rw [if_neg c22] at H; exact absurd H (by simp)
     rw [if_pos c22] at H
     have c22b0 := dcT c22
     clear c22
     by_cases c23 : (rd l1_2 x34_2) < 0
     ·rw [if_pos c23] at H
      have c23b0 := dcT c23
      clear c23
      obtain ⟨rfl, rfl⟩ := so2 H
      have p380 : 0 ≤ (x34_2 : Int) := ode_
      have q380 : x34_2 < (l1_2.length : Int) := ode_
      obtain ⟨ad380, e380, hx380_0⟩ := Kd.at_int HR1_2.out x34_2 p380 q380
      cases e380
      replace hx380_0 := hc_ HB hx380_0
      replace p380 := eq_true p380
      replace q380 := eq_true q380
      go_wp2
      go_ret2
      exact ⟨_, fr_, by first | exact Kd.R_nil _ _ _ _ _ | exact Kd.N_nil _ _ _ _ _ | exact Kd.V_nil _ _ _ _ _ | exact Kd.Q_nil _ _ _ _ _ | exact Kd.S_nil _ _ _ _ _, bw_ HB.out⟩
     rw [if_neg c23] at H
     have c23b0 := dcF c23
     clear c23
     obtain ⟨t381, A24, H⟩ := bn_ H; (try dsimp only at H)
     have H' := Aside0.mk H
     clear H
     have p380 : 0 ≤ (x34_2 : Int) := ode_
     have q380 : x34_2 < (l1_2.length : Int) := ode_
     obtain ⟨ad380, e380, hx380_0⟩ := Kd.at_int HR1_2.out x34_2 p380 q380
     cases e380
     replace hx380_0 := hc_ HB hx380_0
     replace p380 := eq_true p380
     replace q380 := eq_true q380
     obtain ⟨Ao25, co25, eo25⟩ := Kd.R_slice HO_6.out
     subst eo25
     go_wp2_with (first | ((with_reducible refine qgc (f := 20) rfl ?_); refine gL_ (some 43) Tryz.func20 #[.slice Ao25 x6_2.length co25, .int .i64 (rd l1_2 x34_2)] ?_; (with_reducible refine (store_count.calls k2 _ _ x6_2 (rd l1_2 x34_2) t381 _ ?side1 ?side2 A24.out).mono ?_); (case side1 => exact kC_ ((Kd.R_reads' HO_6.out).2.2)); (case side2 => exact (Kd.R_reads' HO_6.out).2.1); rintro e w26 ⟨v382, rfl, ho0, hb⟩; refine ⟨_, rfl, ?_⟩; have HO383 := Aside0.mk (Kd.R_lower (Kd.R_new' ho0 (Kd.R_lt (kR_ HO_6.out))) (qbz (bw_ HB.out))); replace HO_6 := Aside0.mk (Kd.R_elder' (kR_ HO_6.out) (Kd.R_base ho0) hb); replace BK370 := kB_ BK370 hb; replace HB := bS_ HB hb; clear hb; (try clear ho0)))
     go_roundg k2
     case measure => have := HJ2.out; have := HK2.out; omega
     case rel => exact ⟨(t381), (wrap64 (x34_2 + 1)), fe_, H', ⟨by have := HJ2.out; have := HK2.out; omega⟩, ⟨by (with_reducible repeat (first | apply Kd.R_alloc | apply Kd.R_drewN | apply Kd.R_drew)); exact Kd.R_mono HO383.out (fun _ hk => trivial)⟩, ⟨bp_ BK370⟩, ⟨bw_ HB.out⟩⟩
    rw [if_neg c20] at H
    have c20b0 := dcF c20
    clear c20
    obtain ⟨t384, A27, H⟩ := bn_ H; (try dsimp only at H)
    have H' := Aside0.mk H
    clear H
    obtain ⟨hcz28_0, hcz28_1, hcz28_2, hcz28_3, hfz28_0, hfz28_1, hfz28_2, hfz28_3⟩ := zf4_ BK370
    obtain ⟨Ao29, co29, eo29⟩ := Kd.R_slice HO_6.out
    subst eo29
    go_wp2_with (first | ((with_reducible refine qgc (f := 20) rfl ?_); refine gL_ (some 49) Tryz.func20 #[.slice Ao29 x6_2.length co29, .int .i64 (l1_3.length : Int)] ?_; (with_reducible refine (store_count.calls k2 _ _ x6_2 (l1_3.length : Int) t384 _ ?side1 ?side2 A27.out).mono ?_); (case side1 => exact kC_ ((Kd.R_reads' HO_6.out).2.2)); (case side2 => exact (Kd.R_reads' HO_6.out).2.1); rintro e w30 ⟨v385, rfl, ho0, hb⟩; refine ⟨_, rfl, ?_⟩; have HO386 := Aside0.mk (Kd.R_lower (Kd.R_new' ho0 (Kd.R_lt (kR_ HO_6.out))) (qbz (bw_ HB.out))); replace HO_6 := Aside0.mk (Kd.R_elder' (kR_ HO_6.out) (Kd.R_base ho0) hb); replace BK370 := kB_ BK370 hb; replace HB := bS_ HB hb; clear hb; (try clear ho0); obtain ⟨hcz31_0, hcz31_1, hcz31_2, hcz31_3, hfz31_0, hfz31_1, hfz31_2, hfz31_3⟩ := zf4_ BK370))
    go_loopg [6, 53] k2 (fun kq v6 v53 w' => ∃ (x6_3 : List Int) (x53_3 : Int), v53 = .int .i64 x53_3 ∧ Aside0 (store_EncodeDone.l1 kq l0 x6_3 l1_3 (l1_3.length : Int) x53_3 = some (r1, r2)) ∧ Aside0 (kq ≤ k2) ∧ Aside0 (Kd.R (Kd.int .u8) 5 w' w.heap.size (fun _ => True) v6 x6_3) ∧ Aside0 (w'.heap[gb370]? = some (.cells #[.int .i64 a1_0, .int .i64 a1_1, (.slice A1_2 l1_2.length c1_2), (.slice A1_3 l1_3.length c1_3)] 35 (0, 0))) ∧ Aside0 (Below w.heap.size w w'))
    case atStart => exact ⟨(t384), (0), fe_, H', ⟨Nat.le_refl _⟩, ⟨by (with_reducible repeat (first | apply Kd.R_alloc | apply Kd.R_drewN | apply Kd.R_drew)); exact Kd.R_mono HO386.out (fun _ hk => trivial)⟩, ⟨bp_ BK370⟩, ⟨bw_ HB.out⟩⟩
    case round =>
     clear H'
     (try clear c5); (try clear c5b0); (try clear c8); (try clear c20)
     (try clear c20b0); (try clear c21); (try clear c21b0); (try clear c22); (try clear c22b0); (try clear c23); (try clear c23b0); (try clear hcz13_0); (try clear hcz13_1); (try clear hcz13_2); (try clear hcz13_3); (try clear hcz16_0)
     (try clear hcz16_1); (try clear hcz16_2); (try clear hcz16_3); (try clear hcz19_0); (try clear hcz19_1); (try clear hcz19_2); (try clear hcz19_3); (try clear hcz28_0); (try clear hcz28_1); (try clear hcz28_2); (try clear hcz28_3); (try clear hcz31_0)
     (try clear hcz31_1); (try clear hcz31_2); (try clear hcz31_3); (try clear hcz6_0); (try clear hcz6_1); (try clear hcz6_2); (try clear hcz6_3); (try clear hcz7_0); (try clear hcz7_1); (try clear hcz7_2); (try clear hcz7_3); (try clear hfz13_0)
     (try clear hfz13_1); (try clear hfz13_2); (try clear hfz13_3); (try clear hfz16_0); (try clear hfz16_1); (try clear hfz16_2); (try clear hfz16_3); (try clear hfz19_0); (try clear hfz19_1); (try clear hfz19_2); (try clear hfz19_3); (try clear hfz28_0)
     (try clear hfz28_1); (try clear hfz28_2); (try clear hfz28_3); (try clear hfz31_0); (try clear hfz31_1); (try clear hfz31_2); (try clear hfz31_3); (try clear hfz6_0); (try clear hfz6_1); (try clear hfz6_2); (try clear hfz6_3); (try clear hfz7_0)
     (try clear hfz7_1); (try clear hfz7_2); (try clear hfz7_3); (try clear hx380_0); (try clear p380); (try clear q380)
     obtain ⟨x6_3, x53_3, rfl, HA, HK3, HO_6, BK370, HB⟩ := hrel
     cases gk with
     | zero => exact absurd HA.out (by simp [store_EncodeDone.l1])
     | succ k3 =>
      have H := HA.out
      clear HA
      simp only [store_EncodeDone.l1] at H
      by_cases c32 : x53_3 < (l1_3.length : Int)
      ·rw [if_pos c32] at H
       have c32b0 := dcT c32
       clear c32
       have c33 : 0 ≤ x53_3 := Classical.byContradiction fun c33 => by rw [if_neg c33] at H; exact absurd H (by simp)
       rw [if_pos c33] at H
       have c33b0 := dcT c33
       clear c33
       have c34 : x53_3 < (l1_3.length : Int) := Classical.byContradiction fun c34 => by rw [if_neg c34] at H; exact absurd H (by simp)
       rw [if_pos c34] at H
       have c34b0 := dcT c34
       clear c34
       obtain ⟨⟨t389, t392⟩, A35, H⟩ := bn_ H; (try dsimp only at H)
       rcases t392 with _ | q393
       ·have H1 : (store_EncodeDone.l1 k3 l0 t389 l1_3 (l1_3.length : Int) (wrap64 (x53_3 + 1))) = some (r1, r2) := by rw [if_pos (show (none : Option Int).isNone = true by rfl)] at H; exact H
        clear H
        have H := H1
        clear H1
        try simp only [errW_none, errW_some]
        have H' := Aside0.mk H
        clear H
        have p387 : 0 ≤ (x53_3 : Int) := ode_
        have q387 : x53_3 < (l1_3.length : Int) := ode_
        obtain ⟨ad387, A387_2, c387_2, e387, hx387_0, hx387_1, hx387_2, hl387_2, hi387_2⟩ := at_T68 HR1_3.out x53_3 p387 q387
        cases e387
        replace hx387_0 := hc_ HB hx387_0
        replace hx387_1 := hc_ HB hx387_1
        replace hx387_2 := hc_ HB hx387_2
        have HR387_2 := Aside0.mk hi387_2
        have HC387_2 := Aside0.mk hl387_2
        clear hi387_2 hl387_2
        replace p387 := eq_true p387
        replace q387 := eq_true q387
        go_wp2_with (first | ((with_reducible refine qgd (N := 10) rfl ?_); (try (refine gate_guard (by rfl) ?_; dsimp only)); refine qB_ 10 #[.string (⟨#[]⟩ : ByteArray), .bool false, .slice none 0 0] 68 ?_; intro gb388 hg w36 hbox hb; replace HO_6 := RB_ HO_6 hb; have BK388 := Aside0.mk (hbox); have GW388 := gE_ hg HB; have GE388 := gE_ hg HB; replace HB := bS_ HB hb; have NB370_388 := Aside0.mk ((by rw [hg]; exact Nat.ne_of_lt (blk_lt (g := gb370) (o := .cells #[.int .i64 a1_0, .int .i64 a1_1, .slice A1_2 l1_2.length c1_2, .slice (some ad387) l1_3.length c1_3] 35 (0, 0)) (bl_ BK370.out)) : gb370 ≠ gb388)); have NB388_370 := Aside0.mk ((by rw [hg]; exact Nat.ne_of_gt (blk_lt (g := gb370) (o := .cells #[.int .i64 a1_0, .int .i64 a1_1, .slice A1_2 l1_2.length c1_2, .slice (some ad387) l1_3.length c1_3] 35 (0, 0)) (bl_ BK370.out)) : gb388 ≠ gb370)); replace BK370 := kB_ BK370 hb; clear hb hbox hg; have hnb37 := NB388_370.out; have hnc37 := NB370_388.out; obtain ⟨hcz38_0, hcz38_1, hcz38_2, hfz38_0, hfz38_1, hfz38_2⟩ := zf3_ BK388; obtain ⟨Ao39, co39, eo39⟩ := Kd.R_slice HO_6.out; subst eo39) | ((with_reducible refine qgc (f := 21) rfl ?_); refine gL_ (some 61) Tryz.func21 #[.slice Ao39 x6_3.length co39, .pointer A0, .agg #[.string ((rd_T68 l1_3 x53_3).f0), .bool ((rd_T68 l1_3 x53_3).f1), .slice A387_2 ((rd_T68 l1_3 x53_3).f2).length c387_2]] ?_; (with_reducible refine (store_write.calls k3 _ _ x6_3 _ c0 l0 ((rd_T68 l1_3 x53_3).f0) ((rd_T68 l1_3 x53_3).f1) _ _ ((rd_T68 l1_3 x53_3).f2) t389 none _ ?side1 ?side2 ?side3 ?side4 ?side5 ?side6 A35.out).mono ?_); (case side1 => refine (Kd.R_reads' (e := 5) (base := w.heap.size) (ok := fun k_ => True) (n := x6_3.length) (c := co39) ?_).2.2; exact (by (with_reducible repeat (first | apply Kd.R_alloc | apply Kd.R_drewN | apply Kd.R_drew)); exact (Kd.R_mono (Kd.R_far (p := ⟨gb388, 2, none⟩) (Kd.R_far (p := ⟨gb388, 1, none⟩) (Kd.R_far (p := ⟨gb388, 0, none⟩) (Kd.R_types HO_6.out BK388.out (by decide)) (fun _ hk => hk.2) (.string ((rd_T68 l1_3 x53_3).f0))) (fun _ hk => hk.2) (.bool ((rd_T68 l1_3 x53_3).f1))) (fun _ hk => hk.2) (.slice A387_2 ((rd_T68 l1_3 x53_3).f2).length c387_2)) (fun _ h_ => h_.1)))); (case side2 => exact (Kd.R_reads' HO_6.out).2.1); (case side3 => exact cat_below HR0.out (bw_ HB.out)); (case side4 => exact HC0.out); (case side5 => exact Kd.C_below HR387_2.out (bw_ HB.out)); (case side6 => exact HC387_2.out); rintro e w40 ⟨v390, rfl, ho0, hb⟩; refine ⟨_, rfl, ?_⟩; have HO391 := Aside0.mk (Kd.R_lower (Kd.R_new' ho0 (Kd.R_lt (by (with_reducible repeat (first | apply Kd.R_alloc | apply Kd.R_drewN | apply Kd.R_drew)); exact (Kd.R_mono (Kd.R_far (p := ⟨gb388, 2, none⟩) (Kd.R_far (p := ⟨gb388, 1, none⟩) (Kd.R_far (p := ⟨gb388, 0, none⟩) (Kd.R_types HO_6.out BK388.out (by decide)) (fun _ hk => hk.2) (.string ((rd_T68 l1_3 x53_3).f0))) (fun _ hk => hk.2) (.bool ((rd_T68 l1_3 x53_3).f1))) (fun _ hk => hk.2) (.slice A387_2 ((rd_T68 l1_3 x53_3).f2).length c387_2)) (fun _ h_ => h_.1))))) (qbz (bw_ HB.out))); replace HO_6 := Aside0.mk (Kd.R_elder' (by (with_reducible repeat (first | apply Kd.R_alloc | apply Kd.R_drewN | apply Kd.R_drew)); exact (Kd.R_mono (Kd.R_far (p := ⟨gb388, 2, none⟩) (Kd.R_far (p := ⟨gb388, 1, none⟩) (Kd.R_far (p := ⟨gb388, 0, none⟩) (Kd.R_types HO_6.out BK388.out (by decide)) (fun _ hk => hk.2) (.string ((rd_T68 l1_3 x53_3).f0))) (fun _ hk => hk.2) (.bool ((rd_T68 l1_3 x53_3).f1))) (fun _ hk => hk.2) (.slice A387_2 ((rd_T68 l1_3 x53_3).f2).length c387_2)) (fun _ h_ => h_.1))) (Kd.R_base ho0) hb); replace BK370 := Aside0.mk (qkb (g := gb370) (o := .cells #[.int .i64 a1_0, .int .i64 a1_1, .slice A1_2 l1_2.length c1_2, .slice (some ad387) l1_3.length c1_3] 35 (0, 0)) (bp_ BK370) hb); replace BK388 := Aside0.mk (qkb (g := gb388) (o := .cells #[.string ((rd_T68 l1_3 x53_3).f0), .bool ((rd_T68 l1_3 x53_3).f1), .slice A387_2 ((rd_T68 l1_3 x53_3).f2).length c387_2] 68 (0, 0)) (bp_ BK388) hb); replace HB := bS_ HB hb; clear hb; (try clear ho0); (try simp only [errW_none, errW_some])))
        go_roundg k3
        case measure => have := HJ2.out; have := HK2.out; have := HK3.out; omega
        case rel => exact ⟨(t389), (wrap64 (x53_3 + 1)), fe_, H', ⟨by have := HJ2.out; have := HK2.out; have := HK3.out; omega⟩, ⟨by (with_reducible repeat (first | apply Kd.R_alloc | apply Kd.R_drewN | apply Kd.R_drew)); exact Kd.R_mono HO391.out (fun _ hk => trivial)⟩, ⟨bp_ BK370⟩, ⟨bw_ HB.out⟩⟩
       have H1 : (some (([] : List Int), some q393)) = some (r1, r2) := by rw [if_neg (show ¬ (some q393).isNone = true by simp)] at H; exact H
       clear H
       have H := H1
       clear H1
       try simp only [errW_none, errW_some]
       obtain ⟨rfl, rfl⟩ := so2 H
       have p387 : 0 ≤ (x53_3 : Int) := ode_
       have q387 : x53_3 < (l1_3.length : Int) := ode_
       obtain ⟨ad387, A387_2, c387_2, e387, hx387_0, hx387_1, hx387_2, hl387_2, hi387_2⟩ := at_T68 HR1_3.out x53_3 p387 q387
       cases e387
       replace hx387_0 := hc_ HB hx387_0
       replace hx387_1 := hc_ HB hx387_1
       replace hx387_2 := hc_ HB hx387_2
       have HR387_2 := Aside0.mk hi387_2
       have HC387_2 := Aside0.mk hl387_2
       clear hi387_2 hl387_2
       replace p387 := eq_true p387
       replace q387 := eq_true q387
       go_wp2_with (first | ((with_reducible refine qgd (N := 10) rfl ?_); (try (refine gate_guard (by rfl) ?_; dsimp only)); refine qB_ 10 #[.string (⟨#[]⟩ : ByteArray), .bool false, .slice none 0 0] 68 ?_; intro gb388 hg w41 hbox hb; replace HO_6 := RB_ HO_6 hb; have BK388 := Aside0.mk (hbox); have GW388 := gE_ hg HB; have GE388 := gE_ hg HB; replace HB := bS_ HB hb; have NB370_388 := Aside0.mk ((by rw [hg]; exact Nat.ne_of_lt (blk_lt (g := gb370) (o := .cells #[.int .i64 a1_0, .int .i64 a1_1, .slice A1_2 l1_2.length c1_2, .slice (some ad387) l1_3.length c1_3] 35 (0, 0)) (bl_ BK370.out)) : gb370 ≠ gb388)); have NB388_370 := Aside0.mk ((by rw [hg]; exact Nat.ne_of_gt (blk_lt (g := gb370) (o := .cells #[.int .i64 a1_0, .int .i64 a1_1, .slice A1_2 l1_2.length c1_2, .slice (some ad387) l1_3.length c1_3] 35 (0, 0)) (bl_ BK370.out)) : gb388 ≠ gb370)); replace BK370 := kB_ BK370 hb; clear hb hbox hg; have hnb42 := NB388_370.out; have hnc42 := NB370_388.out; obtain ⟨hcz43_0, hcz43_1, hcz43_2, hfz43_0, hfz43_1, hfz43_2⟩ := zf3_ BK388; obtain ⟨Ao44, co44, eo44⟩ := Kd.R_slice HO_6.out; subst eo44) | ((with_reducible refine qgc (f := 21) rfl ?_); refine gL_ (some 61) Tryz.func21 #[.slice Ao44 x6_3.length co44, .pointer A0, .agg #[.string ((rd_T68 l1_3 x53_3).f0), .bool ((rd_T68 l1_3 x53_3).f1), .slice A387_2 ((rd_T68 l1_3 x53_3).f2).length c387_2]] ?_; (with_reducible refine (store_write.calls k3 _ _ x6_3 _ c0 l0 ((rd_T68 l1_3 x53_3).f0) ((rd_T68 l1_3 x53_3).f1) _ _ ((rd_T68 l1_3 x53_3).f2) t389 (some q393) _ ?side1 ?side2 ?side3 ?side4 ?side5 ?side6 A35.out).mono ?_); (case side1 => refine (Kd.R_reads' (e := 5) (base := w.heap.size) (ok := fun k_ => True) (n := x6_3.length) (c := co44) ?_).2.2; exact (by (with_reducible repeat (first | apply Kd.R_alloc | apply Kd.R_drewN | apply Kd.R_drew)); exact (Kd.R_mono (Kd.R_far (p := ⟨gb388, 2, none⟩) (Kd.R_far (p := ⟨gb388, 1, none⟩) (Kd.R_far (p := ⟨gb388, 0, none⟩) (Kd.R_types HO_6.out BK388.out (by decide)) (fun _ hk => hk.2) (.string ((rd_T68 l1_3 x53_3).f0))) (fun _ hk => hk.2) (.bool ((rd_T68 l1_3 x53_3).f1))) (fun _ hk => hk.2) (.slice A387_2 ((rd_T68 l1_3 x53_3).f2).length c387_2)) (fun _ h_ => h_.1)))); (case side2 => exact (Kd.R_reads' HO_6.out).2.1); (case side3 => exact cat_below HR0.out (bw_ HB.out)); (case side4 => exact HC0.out); (case side5 => exact Kd.C_below HR387_2.out (bw_ HB.out)); (case side6 => exact HC387_2.out); rintro e w45 ⟨v390, rfl, ho0, hb⟩; refine ⟨_, rfl, ?_⟩; have HO391 := Aside0.mk (Kd.R_lower (Kd.R_new' ho0 (Kd.R_lt (by (with_reducible repeat (first | apply Kd.R_alloc | apply Kd.R_drewN | apply Kd.R_drew)); exact (Kd.R_mono (Kd.R_far (p := ⟨gb388, 2, none⟩) (Kd.R_far (p := ⟨gb388, 1, none⟩) (Kd.R_far (p := ⟨gb388, 0, none⟩) (Kd.R_types HO_6.out BK388.out (by decide)) (fun _ hk => hk.2) (.string ((rd_T68 l1_3 x53_3).f0))) (fun _ hk => hk.2) (.bool ((rd_T68 l1_3 x53_3).f1))) (fun _ hk => hk.2) (.slice A387_2 ((rd_T68 l1_3 x53_3).f2).length c387_2)) (fun _ h_ => h_.1))))) (qbz (bw_ HB.out))); replace HO_6 := Aside0.mk (Kd.R_elder' (by (with_reducible repeat (first | apply Kd.R_alloc | apply Kd.R_drewN | apply Kd.R_drew)); exact (Kd.R_mono (Kd.R_far (p := ⟨gb388, 2, none⟩) (Kd.R_far (p := ⟨gb388, 1, none⟩) (Kd.R_far (p := ⟨gb388, 0, none⟩) (Kd.R_types HO_6.out BK388.out (by decide)) (fun _ hk => hk.2) (.string ((rd_T68 l1_3 x53_3).f0))) (fun _ hk => hk.2) (.bool ((rd_T68 l1_3 x53_3).f1))) (fun _ hk => hk.2) (.slice A387_2 ((rd_T68 l1_3 x53_3).f2).length c387_2)) (fun _ h_ => h_.1))) (Kd.R_base ho0) hb); replace BK370 := Aside0.mk (qkb (g := gb370) (o := .cells #[.int .i64 a1_0, .int .i64 a1_1, .slice A1_2 l1_2.length c1_2, .slice (some ad387) l1_3.length c1_3] 35 (0, 0)) (bp_ BK370) hb); replace BK388 := Aside0.mk (qkb (g := gb388) (o := .cells #[.string ((rd_T68 l1_3 x53_3).f0), .bool ((rd_T68 l1_3 x53_3).f1), .slice A387_2 ((rd_T68 l1_3 x53_3).f2).length c387_2] 68 (0, 0)) (bp_ BK388) hb); replace HB := bS_ HB hb; clear hb; (try clear ho0); (try simp only [errW_none, errW_some])))
       go_ret2
       exact ⟨_, fr_, by first | exact Kd.R_nil _ _ _ _ _ | exact Kd.N_nil _ _ _ _ _ | exact Kd.V_nil _ _ _ _ _ | exact Kd.Q_nil _ _ _ _ _ | exact Kd.S_nil _ _ _ _ _, bw_ HB.out⟩
      rw [if_neg c32] at H
      have c32b0 := dcF c32
      clear c32
      obtain ⟨rfl, rfl⟩ := so2 H
      go_wp2
      go_ret2
      exact ⟨_, fr_, by (with_reducible repeat (first | apply Kd.R_alloc | apply Kd.R_drewN | apply Kd.R_drew)); exact HO_6.out, bw_ HB.out⟩

/-! ### barbicanlaw26_twin2: function 22 -/
def barbicanlaw26_twin2.f (l0 : List (S63)) : Option ((List (S63))) := if ([] : List (S63)).length + l0.length < 3518437208883 then (some (([] : List (S63)) ++ l0)) else (none)
set_option maxHeartbeats 8000000 in
set_option maxRecDepth 100000 in
theorem barbicanlaw26_twin2.calls (A0 : Option Addr) (c0 : Nat) (l0 : List (S63)) (r : List (S63)) (w : World) (hr0 : Kd.C k63 w A0 l0.length l0) (hc0 : l0.length ≤ c0) (h : barbicanlaw26_twin2.f l0 = some r) :
  Calls Tryz.prog 22 #[.slice A0 l0.length c0] w fun e w' => ∃ v0_ : Value, e = .returned (v0_) ∧ Kd.R k63 63 w' w.heap.size (fun _ => True) v0_ r ∧ Below w.heap.size w w' := by
 have HR0 := Aside0.mk hr0
 have HC0 := Aside0.mk hc0
 clear hr0 hc0
 have HB := Aside0.mk (Below.refl w.heap.size w)
 have H : (if ([] : List (S63)).length + l0.length < 3518437208883 then (some (([] : List (S63)) ++ l0)) else (none)) = some r := h
 clear h
 have c2 : ([] : List (S63)).length + l0.length < 3518437208883 := Classical.byContradiction fun c2 => by rw [if_neg c2] at H; exact absurd H (by simp)
 rw [if_pos c2] at H
 have LMc2 := Aside0.mk c2
 clear c2
 first | (revert H; with_reducible refine nm_ fun y394 hy394 H => ?_) | (generalize hy394 : (([] : List (S63)) ++ l0 : List (S63)) = y394 at H; replace hy394 := hy394.symm)
 have Ny394 := Aside0.mk hy394; clear hy394
 obtain rfl := Option.some.inj H
 go_enter Tryz.func22, Tryz.ntmps22
 go_wp2_with (first | ((with_reducible refine gate_builtin (b := .append) (xs := #[.tmp 4, .tmp 5]) rfl ?_); at_builtin; refine Kd.R_append_rows k63 (w0 := w) w.heap.size rfl (.tmp 4) (.tmp 5) 64 63 (.agg #[(.int .i64 0), (.int .i64 0), (.string ⟨#[]⟩), (.bool false)]) 40 rfl Tryz.underlying64 info63 rfl (by decide) (by omega) (.slice none 0 0) ([] : List (S63)) l0 _ _ _ (fun _ => True) (fun _ => False) rfl rfl ?aO ?aR (fun _ _ h => h) (fun _ h => h.elim) (fun _ _ => trivial) (bw_ HB.out) (qbz (bw_ HB.out)) (by have := LMc2.out; omega) ?_; (case aR => exact kC_ HR0.out); (case aO => exact ((Kd.R_nil _ _ _ _ (fun _ => True)))); intro v395 w3 ho hb hg hat; rw [← Ny394.out] at ho; replace HB := Aside0.mk (hb); have HO396 := Aside0.mk (ho); clear ho hb hg hat))
 go_ret
 exact ⟨_, fr_, by (with_reducible repeat (first | apply Kd.R_alloc | apply Kd.R_drewN | apply Kd.R_drew)); exact HO396.out, bw_ HB.out⟩

end Go.Proofs.YtddkbhglbkfelaaGreatDoor.T
