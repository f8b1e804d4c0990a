import Derived.Test.YtddkbhglbkfelaaDoorPsEx0
import Derived.Test.YtddkbhglbkfelaaDoorPsEx1
import Derived.Test.YtddkbhglbkfelaaDoorPsEx10
import Derived.Test.YtddkbhglbkfelaaDoorPsEx15
import Derived.Test.YtddkbhglbkfelaaDoorPsEx16
namespace Go.Proofs.YtddkbhglbkfelaaDoor.E
open Go.RowKit Go.Proofs.YtddkbhglbkfelaaDoorW.PrintWords Go.Proofs.YtddkbhglbkfelaaDoorW.PrintLast Go.Proofs.YtddkbhglbkfelaaDoorW.PrintMore Go.Proofs.YtddkbhglbkfelaaDoorX
attribute [local go_sem] max2_int min2_int max_two min_two max_three min_three max_four min_four
set_option linter.unusedVariables false
set_option linter.unusedSimpArgs false

attribute [local go_sem high] eqA72
/-! ### barbicanref26_DecodeEntry: function 8 -/
mutual
def barbicanref26_DecodeEntry.j0 : Nat → List Int → Bool → Option (ByteArray × (List (List (S72))) × Int)
 | 0, _, _ => none
 | k + 1, x0, x21 => if x21 = true then (some ((⟨#[]⟩ : ByteArray), ([] : List (List (S72))), 3)) else (if 1 ≤ (x0.length : Int) then ((barbicanref26_Read_text.f k (x0.drop 1) false).bind fun bt389 => ((barbicanref26_Read_uint.f k bt389.1 bt389.2.1 (IntKind.u64.wrap ((x0.length : Int)))).bind fun bt394 => (barbicanref26_DecodeEntry.l0 k x0 bt394.2.2 0 bt389.2.2 ([] : List (List (S72))) bt394.1 bt394.2.1))) else (none))
def barbicanref26_DecodeEntry.l0 : Nat → List Int → Int → Int → ByteArray → List (List (S72)) → List Int → Bool → Option (ByteArray × (List (List (S72))) × Int)
 | 0, _, _, _, _, _, _, _ => none
 | k + 1, x0, x5, x7, x387000, x387001, x389000, x389001 => if x7 < x5 then (barbicanref26_DecodeEntry.j2 k x0 x5 x7 (!x389001) x387000 x387001 x389000 x389001) else (barbicanref26_DecodeEntry.j2 k x0 x5 x7 false x387000 x387001 x389000 x389001)
def barbicanref26_DecodeEntry.j2 : Nat → List Int → Int → Int → Bool → ByteArray → List (List (S72)) → List Int → Bool → Option (ByteArray × (List (List (S72))) × Int)
 | 0, _, _, _, _, _, _, _, _ => none
 | k + 1, x0, x5, x7, x48, x387000, x387001, x389000, x389001 => if x48 = true then ((barbicanref26_Read_text.f k x389000 x389001).bind fun bt403 => ((barbicanref06_Decode.f k bt403.2.2).bind fun bt408 => (if bt408.2 = 0 then (if x387001.length < 5864062014805 then (barbicanref26_DecodeEntry.l0 k x0 x5 (wrap64 (x7 + 1)) x387000 (x387001 ++ [bt408.1]) bt403.1 bt403.2.1) else (none)) else (some ((⟨#[]⟩ : ByteArray), ([] : List (List (S72))), 3))))) else ((barbicanref26_EncodeEntry.f k x387000 x387001).bind fun bt399 => (if x389001 = true then (some ((⟨#[]⟩ : ByteArray), ([] : List (List (S72))), 3)) else (if bt399.2 = 0 then (if (strOfNums bt399.1).toList = (strOfNums x0).toList then (some (x387000, x387001, 0)) else (some ((⟨#[]⟩ : ByteArray), ([] : List (List (S72))), 3))) else (some ((⟨#[]⟩ : ByteArray), ([] : List (List (S72))), 3)))))
end
def barbicanref26_DecodeEntry.f (k : Nat) (l0 : List Int) : Option (ByteArray × (List (List (S72))) × Int) := if (l0.length : Int) = 0 then (barbicanref26_DecodeEntry.j0 k l0 true) else (if 0 < (l0.length : Int) then (barbicanref26_DecodeEntry.j0 k l0 ((rd l0 0) != 2)) else (none))
set_option maxHeartbeats 8000000 in
set_option maxRecDepth 100000 in
theorem barbicanref26_DecodeEntry.calls (k : Nat) (A0 : Option Addr) (c0 : Nat) (l0 : List Int) (r1 : ByteArray) (r2 : List (List (S72))) (r3 : Int) (w : World) (hr0 : Kd.C (Kd.int .u8) w A0 l0.length l0) (hc0 : l0.length ≤ c0) (h : barbicanref26_DecodeEntry.f k l0 = some (r1, r2, r3)) :
  Calls Tryd.prog 8 #[.slice A0 l0.length c0] w fun e w' => ∃ v1_ : Value, e = .returned (.tuple #[.agg #[.string r1, v1_], .int .i64 r3]) ∧ Kd.S (Kd.slice 72 k72) 46 w' w.heap.size (fun _ => True) v1_ r2 ∧ Below w.heap.size w w' := by
 have hu24 := Tryd.underlying24
 have hu60 := Tryd.underlying60
 have HR0 := Aside0.mk hr0
 have HC0 := Aside0.mk hc0
 clear hr0 hc0
 have HB := Aside0.mk (Below.refl w.heap.size w)
 have H : (if (l0.length : Int) = 0 then (barbicanref26_DecodeEntry.j0 k l0 true) else (if 0 < (l0.length : Int) then (barbicanref26_DecodeEntry.j0 k l0 ((rd l0 0) != 2)) else (none))) = some (r1, r2, r3) := h
 clear h
 have HC2 := Aside0.mk H
 clear H
 go_enter Tryd.func8, Tryd.ntmps8
 go_upto_region 1 with (first | ((with_reducible refine qgd (N := 2) rfl ?_); refine qbe ?hg (N := 2) ?hd (cs := #[.string (⟨#[]⟩ : ByteArray), .slice none 0 0]) (t := 24) ?hr ?_; (case hd => rfl); (case hg => rfl); (case hr => first | (go_simp; done) | (go_simp; rfl)); intro gb384 hg w3 hbox hb; have n0_ := Aside0.mk (below_step (bw_ HB.out) hb); have n1_ := Aside0.mk (hbox); have n2_ := Aside0.mk ((by rw [hg]; exact (qbz (bw_ HB.out)) : w.heap.size ≤ gb384)); have n3_ := Aside0.mk ((by rw [hg]; exact (qbz (bw_ HB.out)) : w.heap.size ≤ gb384)); clear HB; have HB := n0_; have BK384 := n1_; have GW384 := n2_; have GE384 := n3_; clear n0_ n1_ n2_ n3_; clear hb hbox hg))
 (try simp only [Act.put, List.setIfInBounds_toArray, List.set_cons_zero, List.set_cons_succ])
 go_cut [21] (fun v21 wc => ∃ (kq : Nat) (x21_1 : Bool), v21 = .bool x21_1 ∧ Aside0 (barbicanref26_DecodeEntry.j0 kq l0 x21_1 = some (r1, r2, r3)) ∧ Aside0 (kq ≤ k) ∧ Aside0 (wc.heap[gb384]? = some (.cells #[.string (⟨#[]⟩ : ByteArray), (.slice none 0 0)] 24 (0, 0))) ∧ Aside0 (Below w.heap.size w wc))
 case first =>
  have H := HC2.out
  clear HC2
  by_cases c4 : (l0.length : Int) = 0
  ·rw [if_pos c4] at H
   have c4b0 : ((l0.length : Int) == 0) = true := beq_iff_eq.mpr c4
   have c4b1 : ((l0.length : Int) != 0) = false := bne_eq_false_iff_eq.mpr c4
   clear c4
   (first | rw [c4b0] | (simp only [i64_w, i32_w]; rw [c4b0]) | skip)
   have H' := Aside0.mk H
   clear H
   go_wp2
   refine Met.intro ?_
   go_step
   (repeat apply Exists.intro)
   refine ⟨?rel, ?frm⟩
   case frm => first | rfl | (simp only [c4b0, c4b1]; rfl) | (simp only [c4b0, c4b1]; first | done | rfl)
   case rel => exact ⟨_, (true), (by first | rfl | (simp; done) | (simp [*]; done) | (simp [bne]; done)), H', ⟨by first | omega | exact Nat.le_refl _⟩, ⟨by (with_reducible repeat (first | refine qkN ?_ _ | refine qkd ?_ | refine qka ?_ _)); exact BK384.out⟩, ⟨bw_ HB.out⟩⟩
  rw [if_neg c4] at H
  have c4b0 : ((l0.length : Int) == 0) = false := beq_eq_false_iff_ne.mpr c4
  have c4b1 : ((l0.length : Int) != 0) = true := bne_iff_ne.mpr c4
  have c4b2 : ¬ (l0 = []) := fun h_ => c4 (by rw [h_]; rfl)
  (first | rw [c4b0] | (simp only [i64_w, i32_w]; rw [c4b0]) | skip)
  have c5 : 0 < (l0.length : Int) := Classical.byContradiction fun c5 => by rw [if_neg c5] at H; exact absurd H (by simp)
  rw [if_pos c5] at H
  have c5b0 : decide (0 < (l0.length : Int)) = true := decide_eq_true c5
  have c5b1 : decide (0 < l0.length) = true := decide_eq_true (by omega)
  clear c5
  have H' := Aside0.mk H
  clear H
  have p385 : 0 ≤ (0 : Int) := (by omega)
  have q385 : 0 < (l0.length : Int) := ode_
  obtain ⟨ad385, e385, hx385_0⟩ := Kd.at_int HR0.out 0 p385 q385
  cases e385
  have qi385 : (0 < l0.length) = True := eq_true (by omega)
  (try rw [show ((0 : Int)).toNat = 0 from rfl] at hx385_0)
  (try rw [Addr.add_zero'] at hx385_0)
  replace hx385_0 := (HB.out.cell (World.block_lt_of_cell? w _ hx385_0)).trans hx385_0
  replace p385 := eq_true p385
  replace q385 := eq_true q385
  go_wp2
  refine Met.intro ?_
  go_step
  (repeat apply Exists.intro)
  refine ⟨?rel, ?frm⟩
  case frm => first | rfl | (simp only [c4b0, c4b1, c5b0, c5b1]; rfl) | (simp only [c4b0, c4b1, c5b0, c5b1]; first | done | rfl)
  case rel => exact ⟨_, (((rd l0 0) != 2)), (by first | rfl | (simp; done) | (simp [*]; done) | (simp [bne]; done)), H', ⟨by first | omega | exact Nat.le_refl _⟩, ⟨by (with_reducible repeat (first | refine qkN ?_ _ | refine qkd ?_ | refine qka ?_ _)); exact BK384.out⟩, ⟨bw_ HB.out⟩⟩
 clear HC2
 (try clear p2); (try clear p3); (try clear q3); (try clear hx3); (try clear qi3); (try clear c4); (try clear c4b0); (try clear c4b1); (try clear c4b2); (try clear c5); (try clear c5b0); (try clear c5b1)
 (try clear hx385_0); (try clear p385); (try clear q385)
 obtain ⟨kq, x21_1, rfl, HA, HJ1, BK384, HB⟩ := hcut
 cases kq with
 | zero => exact absurd HA.out (by simp [barbicanref26_DecodeEntry.j0])
 | succ kj1 =>
  have H := HA.out
  clear HA
  simp only [barbicanref26_DecodeEntry.j0] at H
  by_cases c6 : x21_1 = true
  ·subst c6
   rw [if_pos rfl] at H
   simp only [Option.some.injEq, Prod.mk.injEq] at H
   obtain ⟨rfl, rfl, rfl⟩ := H
   have hcz7_0 : wc.cell? ⟨gb384, 0, none⟩ = some (.string (⟨#[]⟩ : ByteArray)) := (qkc BK384.out 0).trans rfl
   have hcz7_1 : wc.cell? ⟨gb384, 1, none⟩ = some (.slice none 0 0) := (qkc BK384.out 1).trans rfl
   have hfz7_0 := qkf BK384.out 0
   have hfz7_1 := qkf BK384.out 1
   go_wp2
   refine bodyPost_ret (results_ct rfl _ _ gb384 24 #[.string (⟨#[]⟩ : ByteArray), .slice none 0 0] (0, 0) _ rfl (by (with_reducible repeat (first | refine qkN ?_ _ | refine qkd ?_ | refine qka ?_ _)); refine qkp (cs := #[.string (⟨#[]⟩ : ByteArray), .slice none 0 0]) ?_ 1 _ rfl; (with_reducible repeat (first | refine qkN ?_ _ | refine qkd ?_ | refine qka ?_ _)); refine qkp (cs := #[.string (⟨#[]⟩ : ByteArray), .slice none 0 0]) ?_ 0 _ rfl; (with_reducible repeat (first | refine qkN ?_ _ | refine qkd ?_ | refine qka ?_ _)); exact BK384.out) Tryd.underlying24 rfl (by kernel_rfl)) rfl ?_
   exact ⟨_, by first | rfl | (simp [errW_none, errW_some] <;> rfl) | (simp [*, errW_none, errW_some] <;> rfl), by first | exact Kd.S_nil _ _ _ _ _ | exact Kd.N_nil _ _ _ _ _ | exact Kd.V_nil _ _ _ _ _ | exact Kd.Q_nil _ _ _ _ _ | exact Kd.R_nil _ _ _ _ _, bw_ HB.out⟩
  replace c6 := Bool.eq_false_iff.mpr c6
  subst c6
  rw [if_neg (show ¬ (false = true) by decide)] at H
  have c8 : 1 ≤ (l0.length : Int) := Classical.byContradiction fun c8 => by rw [if_neg c8] at H; exact absurd H (by simp)
  rw [if_pos c8] at H
  have c8b0 := eq_true c8
  have c8b1 : decide (1 ≤ (l0.length : Int)) = true := decide_eq_true c8
  clear c8
  replace H := Option.bind_eq_some_iff.mp H
  obtain ⟨⟨t389, t392, t393⟩, A90, H⟩ := H
  (try dsimp only at H)
  have A9 := Aside0.mk A90
  clear A90
  replace H := Option.bind_eq_some_iff.mp H
  obtain ⟨⟨t394, t397, t398⟩, A100, H⟩ := H
  (try dsimp only at H)
  have A10 := Aside0.mk A100
  clear A100
  have H' := Aside0.mk H
  clear H
  go_wp2_with (first | ((with_reducible refine qgd (N := 4) rfl ?_); refine qbe ?hg (N := 4) ?hd (cs := #[.string (⟨#[]⟩ : ByteArray), .slice none 0 0]) (t := 24) ?hr ?_; (case hd => rfl); (case hg => rfl); (case hr => first | (go_simp; done) | (go_simp; rfl)); intro gb386 hg w11 hbox hb; have n0_ := Aside0.mk (qkb (g := gb384) (o := .cells #[.string (⟨#[]⟩ : ByteArray), .slice none 0 0] 24 (0, 0)) (bl_ BK384.out) hb); have n1_ := Aside0.mk (below_step (bw_ HB.out) hb); have n2_ := Aside0.mk (hbox); have n3_ := Aside0.mk ((by rw [hg]; exact (qbz (bw_ HB.out)) : w.heap.size ≤ gb386)); have n4_ := Aside0.mk ((by rw [hg]; exact (qbz (bw_ HB.out)) : w.heap.size ≤ gb386)); have n5_ := Aside0.mk ((by rw [hg]; exact Nat.ne_of_lt (blk_lt (g := gb384) (o := .cells #[.string (⟨#[]⟩ : ByteArray), .slice none 0 0] 24 (0, 0)) (bl_ BK384.out)) : gb384 ≠ gb386)); have n6_ := Aside0.mk ((by rw [hg]; exact Nat.ne_of_gt (blk_lt (g := gb384) (o := .cells #[.string (⟨#[]⟩ : ByteArray), .slice none 0 0] 24 (0, 0)) (bl_ BK384.out)) : gb386 ≠ gb384)); clear BK384; clear HB; have BK384 := n0_; have HB := n1_; have BK386 := n2_; have GW386 := n3_; have GE386 := n4_; have NB384_386 := n5_; have NB386_384 := n6_; clear n0_ n1_ n2_ n3_ n4_ n5_ n6_; clear hb hbox hg; have hnb12 := NB386_384.out; have hnc12 := NB384_386.out; have hcz13_0 : w11.cell? ⟨gb386, 0, none⟩ = some (.string (⟨#[]⟩ : ByteArray)) := (qkc BK386.out 0).trans rfl; have hcz13_1 : w11.cell? ⟨gb386, 1, none⟩ = some (.slice none 0 0) := (qkc BK386.out 1).trans rfl; have hfz13_0 := qkf BK386.out 0; have hfz13_1 := qkf BK386.out 1; obtain ⟨i014, hi014, _, hsz14, _⟩ := info_parts info5; obtain ⟨A14, hcut14, hA14, hC14⟩ := print_drop_of (P := Tryd.prog) (Value.int .u8) 0 25 5 .i64 Tryd.underlying25 hi014 hsz14 A0 c0 l0 1 (by omega) (ode_) HC0.out; have HR387 := Aside0.mk (Kd.C_of_reads (h1 := fun _ => rfl) (hA14 _ (Kd.reads_of_C HR0.out))); have HC387 := Aside0.mk hC14; clear hA14 hC14 hi014 hsz14) | ((with_reducible refine qgd (N := 6) rfl ?_); refine qbe ?hg (N := 6) ?hd (cs := #[.slice none 0 0, .bool false]) (t := 60) ?hr ?_; (case hd => rfl); (case hg => rfl); (case hr => first | (go_simp; done) | (go_simp; rfl)); intro gb388 hg w15 hbox hb; have n0_ := Aside0.mk (qkb (g := gb384) (o := .cells #[.string (⟨#[]⟩ : ByteArray), .slice none 0 0] 24 (0, 0)) (by (with_reducible repeat (first | refine qkN ?_ _ | refine qkd ?_ | refine qka ?_ _)); refine qkr ?_ NB384_386.out _; (with_reducible repeat (first | refine qkN ?_ _ | refine qkd ?_ | refine qka ?_ _)); refine qkr ?_ NB384_386.out _; (with_reducible repeat (first | refine qkN ?_ _ | refine qkd ?_ | refine qka ?_ _)); exact BK384.out) hb); have n1_ := Aside0.mk (qkb (g := gb386) (o := .cells #[.string (⟨#[]⟩ : ByteArray), .slice none 0 0] 24 (0, 0)) (by (with_reducible repeat (first | refine qkN ?_ _ | refine qkd ?_ | refine qka ?_ _)); refine qkp (cs := #[.string (⟨#[]⟩ : ByteArray), .slice none 0 0]) ?_ 1 _ rfl; (with_reducible repeat (first | refine qkN ?_ _ | refine qkd ?_ | refine qka ?_ _)); refine qkp (cs := #[.string (⟨#[]⟩ : ByteArray), .slice none 0 0]) ?_ 0 _ rfl; (with_reducible repeat (first | refine qkN ?_ _ | refine qkd ?_ | refine qka ?_ _)); exact BK386.out) hb); have n2_ := Aside0.mk (below_step (bw_ HB.out) hb); have n3_ := Aside0.mk (hbox); have n4_ := Aside0.mk ((by rw [hg]; exact (qbz (bw_ HB.out)) : w.heap.size ≤ gb388)); have n5_ := Aside0.mk ((by rw [hg]; exact (qbz (bw_ HB.out)) : w.heap.size ≤ gb388)); have n6_ := Aside0.mk ((by rw [hg]; exact Nat.ne_of_lt (blk_lt (g := gb384) (o := .cells #[.string (⟨#[]⟩ : ByteArray), .slice none 0 0] 24 (0, 0)) (by (with_reducible repeat (first | refine qkN ?_ _ | refine qkd ?_ | refine qka ?_ _)); refine qkr ?_ NB384_386.out _; (with_reducible repeat (first | refine qkN ?_ _ | refine qkd ?_ | refine qka ?_ _)); refine qkr ?_ NB384_386.out _; (with_reducible repeat (first | refine qkN ?_ _ | refine qkd ?_ | refine qka ?_ _)); exact BK384.out)) : gb384 ≠ gb388)); have n7_ := Aside0.mk ((by rw [hg]; exact Nat.ne_of_gt (blk_lt (g := gb384) (o := .cells #[.string (⟨#[]⟩ : ByteArray), .slice none 0 0] 24 (0, 0)) (by (with_reducible repeat (first | refine qkN ?_ _ | refine qkd ?_ | refine qka ?_ _)); refine qkr ?_ NB384_386.out _; (with_reducible repeat (first | refine qkN ?_ _ | refine qkd ?_ | refine qka ?_ _)); refine qkr ?_ NB384_386.out _; (with_reducible repeat (first | refine qkN ?_ _ | refine qkd ?_ | refine qka ?_ _)); exact BK384.out)) : gb388 ≠ gb384)); have n8_ := Aside0.mk ((by rw [hg]; exact Nat.ne_of_lt (blk_lt (g := gb386) (o := .cells #[.string (⟨#[]⟩ : ByteArray), .slice none 0 0] 24 (0, 0)) (by (with_reducible repeat (first | refine qkN ?_ _ | refine qkd ?_ | refine qka ?_ _)); refine qkp (cs := #[.string (⟨#[]⟩ : ByteArray), .slice none 0 0]) ?_ 1 _ rfl; (with_reducible repeat (first | refine qkN ?_ _ | refine qkd ?_ | refine qka ?_ _)); refine qkp (cs := #[.string (⟨#[]⟩ : ByteArray), .slice none 0 0]) ?_ 0 _ rfl; (with_reducible repeat (first | refine qkN ?_ _ | refine qkd ?_ | refine qka ?_ _)); exact BK386.out)) : gb386 ≠ gb388)); have n9_ := Aside0.mk ((by rw [hg]; exact Nat.ne_of_gt (blk_lt (g := gb386) (o := .cells #[.string (⟨#[]⟩ : ByteArray), .slice none 0 0] 24 (0, 0)) (by (with_reducible repeat (first | refine qkN ?_ _ | refine qkd ?_ | refine qka ?_ _)); refine qkp (cs := #[.string (⟨#[]⟩ : ByteArray), .slice none 0 0]) ?_ 1 _ rfl; (with_reducible repeat (first | refine qkN ?_ _ | refine qkd ?_ | refine qka ?_ _)); refine qkp (cs := #[.string (⟨#[]⟩ : ByteArray), .slice none 0 0]) ?_ 0 _ rfl; (with_reducible repeat (first | refine qkN ?_ _ | refine qkd ?_ | refine qka ?_ _)); exact BK386.out)) : gb388 ≠ gb386)); clear BK384; clear BK386; clear HB; have BK384 := n0_; have BK386 := n1_; have HB := n2_; have BK388 := n3_; have GW388 := n4_; have GE388 := n5_; have NB384_388 := n6_; have NB388_384 := n7_; have NB386_388 := n8_; have NB388_386 := n9_; clear n0_ n1_ n2_ n3_ n4_ n5_ n6_ n7_ n8_ n9_; clear hb hbox hg; have hnb16 := NB388_384.out; have hnc16 := NB384_388.out; have hnb17 := NB388_386.out; have hnc17 := NB386_388.out; have hcz18_0 : w15.cell? ⟨gb388, 0, none⟩ = some (.slice none 0 0) := (qkc BK388.out 0).trans rfl; have hcz18_1 : w15.cell? ⟨gb388, 1, none⟩ = some (.bool false) := (qkc BK388.out 1).trans rfl; have hfz18_0 := qkf BK388.out 0; have hfz18_1 := qkf BK388.out 1) | ((with_reducible refine gate_store (t := 60) (p := 6) rfl ?_); refine store_event (t := 60) (p := 6) (v := ?vo_w19) (w1 := ((w15.setCell ⟨gb388, 0, none⟩ (.slice A14 (l0.drop 1).length (c0 - 1))).setCell ⟨gb388, 1, none⟩ (.bool false))) ?hg ?ho ?hn ?hr ?_; (case ho => rfl); (case hg => rfl); (case hn => rfl); (case hr => first | (go_simp; done) | (go_simp; rfl)); intro w19 hw; have n0_ : Aside0 (w19.heap[gb384]? = some (.cells #[.string (⟨#[]⟩ : ByteArray), .slice none 0 0] 24 (0, 0))) := ⟨(by rw [hw]; exact (by (with_reducible repeat (first | refine qkN ?_ _ | refine qkd ?_ | refine qka ?_ _)); refine qkr ?_ NB384_388.out _; (with_reducible repeat (first | refine qkN ?_ _ | refine qkd ?_ | refine qka ?_ _)); refine qkr ?_ NB384_388.out _; (with_reducible repeat (first | refine qkN ?_ _ | refine qkd ?_ | refine qka ?_ _)); exact BK384.out))⟩; have n1_ : Aside0 (w19.heap[gb386]? = some (.cells #[.string (⟨#[]⟩ : ByteArray), .slice none 0 0] 24 (0, 0))) := ⟨(by rw [hw]; exact (by (with_reducible repeat (first | refine qkN ?_ _ | refine qkd ?_ | refine qka ?_ _)); refine qkr ?_ NB386_388.out _; (with_reducible repeat (first | refine qkN ?_ _ | refine qkd ?_ | refine qka ?_ _)); refine qkr ?_ NB386_388.out _; (with_reducible repeat (first | refine qkN ?_ _ | refine qkd ?_ | refine qka ?_ _)); exact BK386.out))⟩; have n2_ : Aside0 (w19.heap[gb388]? = some (.cells #[.slice A14 (l0.drop 1).length (c0 - 1), .bool false] 60 (0, 0))) := ⟨(by rw [hw]; exact (by (with_reducible repeat (first | refine qkN ?_ _ | refine qkd ?_ | refine qka ?_ _)); refine qkp (cs := #[.slice A14 (l0.drop 1).length (c0 - 1), .bool false]) ?_ 1 _ rfl; (with_reducible repeat (first | refine qkN ?_ _ | refine qkd ?_ | refine qka ?_ _)); refine qkp (cs := #[.slice none 0 0, .bool false]) ?_ 0 _ rfl; (with_reducible repeat (first | refine qkN ?_ _ | refine qkd ?_ | refine qka ?_ _)); exact BK388.out))⟩; have n3_ : Aside0 (Below w.heap.size w w19) := ⟨(by rw [hw]; exact (bw_ HB.out))⟩; clear hw; clear BK384; clear BK386; clear BK388; clear HB; have BK384 := n0_; have BK386 := n1_; have BK388 := n2_; have HB := n3_; clear n0_ n1_ n2_ n3_; have hcz20_0 : w19.cell? ⟨gb388, 0, none⟩ = some (.slice A14 (l0.drop 1).length (c0 - 1)) := (qkc BK388.out 0).trans rfl; have hcz20_1 : w19.cell? ⟨gb388, 1, none⟩ = some (.bool false) := (qkc BK388.out 1).trans rfl; have hfz20_0 := qkf BK388.out 0; have hfz20_1 := qkf BK388.out 1) | ((with_reducible refine qgc (f := 23) rfl ?_); refine goesL_ (some 29) rfl rfl Tryd.func23 (by kernel_rfl) rfl #[.agg #[.slice A14 (l0.drop 1).length (c0 - 1), .bool false]] rfl (by (try simp only [List.map_toArray, List.map_cons, List.map_nil]); first | done | (rw [show (l0.drop 1).length = (l0.length - 1) from List.length_drop] <;> rfl) | rfl | (simp only [List.length_drop, List.length_take]; rfl)) ?_; (with_reducible refine (barbicanref26_Read_text.calls kj1 (fun k_ => k_ < w.heap.size) _ _ (l0.drop 1) false t389 t392 t393 _ ?side1 A9.out).mono ?_); (case side1 => exact Kd.V_mk HC387.out (Kd.F_below (Kd.C_F (Kd.heap_int .u8) HR387.out) (bw_ HB.out))); rintro e w21 ⟨v390, rfl, ho0, hb⟩; refine ⟨_, rfl, ?_⟩; have n0_ := Aside0.mk (Kd.V_lower (Kd.V_mono (ok' := fun k_ => k_ ≠ gb384 ∧ k_ ≠ gb386 ∧ k_ ≠ gb388) ho0 (fun k_ hk_ => ⟨Or.elim hk_ (fun hs_ => fun e_ => Nat.not_le.2 hs_ (by rw [e_]; exact GW384.out)) (fun hn_ => (Kd.freshB (g := gb384) (o := .cells #[.string (⟨#[]⟩ : ByteArray), .slice none 0 0] 24 (0, 0)) (bl_ BK384.out) k_ hn_)), Or.elim hk_ (fun hs_ => fun e_ => Nat.not_le.2 hs_ (by rw [e_]; exact GW386.out)) (fun hn_ => (Kd.freshB (g := gb386) (o := .cells #[.string (⟨#[]⟩ : ByteArray), .slice none 0 0] 24 (0, 0)) (bl_ BK386.out) k_ hn_)), Or.elim hk_ (fun hs_ => fun e_ => Nat.not_le.2 hs_ (by rw [e_]; exact GW388.out)) (fun hn_ => (Kd.freshB (g := gb388) (o := .cells #[.slice A14 (l0.drop 1).length (c0 - 1), .bool false] 60 (0, 0)) (bl_ BK388.out) k_ hn_))⟩)) (qbz (bw_ HB.out))); have n1_ := Aside0.mk (qkb (g := gb384) (o := .cells #[.string (⟨#[]⟩ : ByteArray), .slice none 0 0] 24 (0, 0)) (bl_ BK384.out) hb); have n2_ := Aside0.mk (qkb (g := gb386) (o := .cells #[.string (⟨#[]⟩ : ByteArray), .slice none 0 0] 24 (0, 0)) (bl_ BK386.out) hb); have n3_ := Aside0.mk (qkb (g := gb388) (o := .cells #[.slice A14 (l0.drop 1).length (c0 - 1), .bool false] 60 (0, 0)) (bl_ BK388.out) hb); have n4_ := Aside0.mk (below_step (bw_ HB.out) hb); clear BK384; clear BK386; clear BK388; clear HB; have HO391 := n0_; have BK384 := n1_; have BK386 := n2_; have BK388 := n3_; have HB := n4_; clear n0_ n1_ n2_ n3_ n4_; (try clear hb); (try clear hb2); (try clear hk); (try clear hi); (try clear ho0); obtain ⟨Ao22, co22, eo22⟩ := Kd.V_slice HO391.out; subst eo22; have hcz23_0 : w21.cell? ⟨gb388, 0, none⟩ = some (.slice A14 (l0.drop 1).length (c0 - 1)) := (qkc BK388.out 0).trans rfl; have hcz23_1 : w21.cell? ⟨gb388, 1, none⟩ = some (.bool false) := (qkc BK388.out 1).trans rfl; have hfz23_0 := qkf BK388.out 0; have hfz23_1 := qkf BK388.out 1) | ((with_reducible refine gate_store (t := 60) (p := 6) rfl ?_); refine store_event (t := 60) (p := 6) (v := ?vo_w24) (w1 := ((w21.setCell ⟨gb388, 0, none⟩ (.slice Ao22 t389.length co22)).setCell ⟨gb388, 1, none⟩ (.bool t392))) ?hg ?ho ?hn ?hr ?_; (case ho => rfl); (case hg => rfl); (case hn => rfl); (case hr => first | (go_simp; done) | (go_simp; rfl)); intro w24 hw; have n0_ : Aside0 (Kd.V (Kd.int .u8) 5 w24 w.heap.size (fun k_ => k_ ≠ gb384 ∧ k_ ≠ gb386 ∧ k_ ≠ gb388) (.slice Ao22 t389.length co22) t389) := ⟨(by rw [hw]; exact (by (with_reducible repeat (first | apply Kd.V_alloc | apply Kd.V_drewN | apply Kd.V_drew)); exact Kd.V_mono (Kd.V_far (p := ⟨gb388, 1, none⟩) (Kd.V_far (p := ⟨gb388, 0, none⟩) (Kd.V_mono HO391.out (fun k_ hk => (⟨hk, hk.2.2⟩ : _ ∧ k_ ≠ gb388))) (fun _ hk => hk.2) (.slice Ao22 t389.length co22)) (fun _ hk => hk.2) (.bool t392)) (fun _ hk => ⟨hk.1.1, ⟨hk.1.2.1, hk.1.2.2⟩⟩)))⟩; have n1_ : Aside0 (w24.heap[gb384]? = some (.cells #[.string (⟨#[]⟩ : ByteArray), .slice none 0 0] 24 (0, 0))) := ⟨(by rw [hw]; exact (by (with_reducible repeat (first | refine qkN ?_ _ | refine qkd ?_ | refine qka ?_ _)); refine qkr ?_ NB384_388.out _; (with_reducible repeat (first | refine qkN ?_ _ | refine qkd ?_ | refine qka ?_ _)); refine qkr ?_ NB384_388.out _; (with_reducible repeat (first | refine qkN ?_ _ | refine qkd ?_ | refine qka ?_ _)); exact BK384.out))⟩; have n2_ : Aside0 (w24.heap[gb386]? = some (.cells #[.string (⟨#[]⟩ : ByteArray), .slice none 0 0] 24 (0, 0))) := ⟨(by rw [hw]; exact (by (with_reducible repeat (first | refine qkN ?_ _ | refine qkd ?_ | refine qka ?_ _)); refine qkr ?_ NB386_388.out _; (with_reducible repeat (first | refine qkN ?_ _ | refine qkd ?_ | refine qka ?_ _)); refine qkr ?_ NB386_388.out _; (with_reducible repeat (first | refine qkN ?_ _ | refine qkd ?_ | refine qka ?_ _)); exact BK386.out))⟩; have n3_ : Aside0 (w24.heap[gb388]? = some (.cells #[.slice Ao22 t389.length co22, .bool t392] 60 (0, 0))) := ⟨(by rw [hw]; exact (by (with_reducible repeat (first | refine qkN ?_ _ | refine qkd ?_ | refine qka ?_ _)); refine qkp (cs := #[.slice Ao22 t389.length co22, .bool false]) ?_ 1 _ rfl; (with_reducible repeat (first | refine qkN ?_ _ | refine qkd ?_ | refine qka ?_ _)); refine qkp (cs := #[.slice A14 (l0.drop 1).length (c0 - 1), .bool false]) ?_ 0 _ rfl; (with_reducible repeat (first | refine qkN ?_ _ | refine qkd ?_ | refine qka ?_ _)); exact BK388.out))⟩; have n4_ : Aside0 (Below w.heap.size w w24) := ⟨(by rw [hw]; exact (bw_ HB.out))⟩; clear hw; clear HO391; clear BK384; clear BK386; clear BK388; clear HB; have HO391 := n0_; have BK384 := n1_; have BK386 := n2_; have BK388 := n3_; have HB := n4_; clear n0_ n1_ n2_ n3_ n4_; have hcz25_0 : w24.cell? ⟨gb386, 0, none⟩ = some (.string (⟨#[]⟩ : ByteArray)) := (qkc BK386.out 0).trans rfl; have hcz25_1 : w24.cell? ⟨gb386, 1, none⟩ = some (.slice none 0 0) := (qkc BK386.out 1).trans rfl; have hfz25_0 := qkf BK386.out 0; have hfz25_1 := qkf BK386.out 1) | ((with_reducible refine gate_store (t := 9) (p := 32) rfl ?_); refine store_event (t := 9) (p := 32) (v := ?vo_w26) (w1 := (w24.setCell ⟨gb386, 0, none⟩ (.string t393))) ?hg ?ho ?hn ?hr ?_; (case ho => rfl); (case hg => rfl); (case hn => rfl); (case hr => first | (go_simp; done) | (go_simp; rfl)); intro w26 hw; have n0_ : Aside0 (Kd.V (Kd.int .u8) 5 w26 w.heap.size (fun k_ => k_ ≠ gb384 ∧ k_ ≠ gb386 ∧ k_ ≠ gb388) (.slice Ao22 t389.length co22) t389) := ⟨(by rw [hw]; exact (by (with_reducible repeat (first | apply Kd.V_alloc | apply Kd.V_drewN | apply Kd.V_drew)); exact Kd.V_mono (Kd.V_far (p := ⟨gb386, 0, none⟩) (Kd.V_mono HO391.out (fun k_ hk => (⟨hk, hk.2.1⟩ : _ ∧ k_ ≠ gb386))) (fun _ hk => hk.2) (.string t393)) (fun _ hk => ⟨hk.1.1, ⟨hk.1.2.1, hk.1.2.2⟩⟩)))⟩; have n1_ : Aside0 (w26.heap[gb384]? = some (.cells #[.string (⟨#[]⟩ : ByteArray), .slice none 0 0] 24 (0, 0))) := ⟨(by rw [hw]; exact (by (with_reducible repeat (first | refine qkN ?_ _ | refine qkd ?_ | refine qka ?_ _)); refine qkr ?_ NB384_386.out _; (with_reducible repeat (first | refine qkN ?_ _ | refine qkd ?_ | refine qka ?_ _)); exact BK384.out))⟩; have n2_ : Aside0 (w26.heap[gb386]? = some (.cells #[.string t393, .slice none 0 0] 24 (0, 0))) := ⟨(by rw [hw]; exact (by (with_reducible repeat (first | refine qkN ?_ _ | refine qkd ?_ | refine qka ?_ _)); refine qkp (cs := #[.string (⟨#[]⟩ : ByteArray), .slice none 0 0]) ?_ 0 _ rfl; (with_reducible repeat (first | refine qkN ?_ _ | refine qkd ?_ | refine qka ?_ _)); exact BK386.out))⟩; have n3_ : Aside0 (w26.heap[gb388]? = some (.cells #[.slice Ao22 t389.length co22, .bool t392] 60 (0, 0))) := ⟨(by rw [hw]; exact (by (with_reducible repeat (first | refine qkN ?_ _ | refine qkd ?_ | refine qka ?_ _)); refine qkr ?_ NB388_386.out _; (with_reducible repeat (first | refine qkN ?_ _ | refine qkd ?_ | refine qka ?_ _)); exact BK388.out))⟩; have n4_ : Aside0 (Below w.heap.size w w26) := ⟨(by rw [hw]; exact (bw_ HB.out))⟩; clear hw; clear HO391; clear BK384; clear BK386; clear BK388; clear HB; have HO391 := n0_; have BK384 := n1_; have BK386 := n2_; have BK388 := n3_; have HB := n4_; clear n0_ n1_ n2_ n3_ n4_; have hcz27_0 : w26.cell? ⟨gb388, 0, none⟩ = some (.slice Ao22 t389.length co22) := (qkc BK388.out 0).trans rfl; have hcz27_1 : w26.cell? ⟨gb388, 1, none⟩ = some (.bool t392) := (qkc BK388.out 1).trans rfl; have hfz27_0 := qkf BK388.out 0; have hfz27_1 := qkf BK388.out 1) | ((with_reducible refine qgc (f := 24) rfl ?_); refine goesL_ (some 38) rfl rfl Tryd.func24 (by kernel_rfl) rfl #[.agg #[.slice Ao22 t389.length co22, .bool t392], .int .u64 (IntKind.u64.wrap ((l0.length : Int)))] rfl (by (try simp only [List.map_toArray, List.map_cons, List.map_nil]); first | done | rfl | (simp only [List.length_drop, List.length_take]; rfl)) ?_; (with_reducible refine (barbicanref26_Read_uint.calls kj1 (fun k_ => (k_ ≠ gb384 ∧ (k_ ≠ gb386 ∧ k_ ≠ gb388))) _ _ t389 t392 (IntKind.u64.wrap ((l0.length : Int))) t394 t397 t398 _ ?side1 A10.out).mono ?_); (case side1 => exact HO391.out); rintro e w28 ⟨v395, rfl, ho0, hb⟩; refine ⟨_, rfl, ?_⟩; have n0_ := Aside0.mk (Kd.V_below (kV_ HO391.out) hb); have n1_ := Aside0.mk (Kd.V_lower (Kd.V_mono (ok' := fun k_ => k_ ≠ gb384 ∧ k_ ≠ gb386 ∧ k_ ≠ gb388) ho0 (fun k_ hk_ => ⟨Or.elim hk_ (fun hs_ => hs_.1) (fun hn_ => (Kd.freshB (g := gb384) (o := .cells #[.string (⟨#[]⟩ : ByteArray), .slice none 0 0] 24 (0, 0)) (bl_ BK384.out) k_ hn_)), Or.elim hk_ (fun hs_ => hs_.2.1) (fun hn_ => (Kd.freshB (g := gb386) (o := .cells #[.string t393, .slice none 0 0] 24 (0, 0)) (bl_ BK386.out) k_ hn_)), Or.elim hk_ (fun hs_ => hs_.2.2) (fun hn_ => (Kd.freshB (g := gb388) (o := .cells #[.slice Ao22 t389.length co22, .bool t392] 60 (0, 0)) (bl_ BK388.out) k_ hn_))⟩)) (qbz (bw_ HB.out))); have n2_ := Aside0.mk (qkb (g := gb384) (o := .cells #[.string (⟨#[]⟩ : ByteArray), .slice none 0 0] 24 (0, 0)) (bl_ BK384.out) hb); have n3_ := Aside0.mk (qkb (g := gb386) (o := .cells #[.string t393, .slice none 0 0] 24 (0, 0)) (bl_ BK386.out) hb); have n4_ := Aside0.mk (qkb (g := gb388) (o := .cells #[.slice Ao22 t389.length co22, .bool t392] 60 (0, 0)) (bl_ BK388.out) hb); have n5_ := Aside0.mk (below_step (bw_ HB.out) hb); clear HO391; clear BK384; clear BK386; clear BK388; clear HB; have HO391 := n0_; have HO396 := n1_; have BK384 := n2_; have BK386 := n3_; have BK388 := n4_; have HB := n5_; clear n0_ n1_ n2_ n3_ n4_ n5_; (try clear hb); (try clear hb2); (try clear hk); (try clear hi); (try clear ho0); obtain ⟨Ao29, co29, eo29⟩ := Kd.V_slice HO396.out; subst eo29; have hcz30_0 : w28.cell? ⟨gb388, 0, none⟩ = some (.slice Ao22 t389.length co22) := (qkc BK388.out 0).trans rfl; have hcz30_1 : w28.cell? ⟨gb388, 1, none⟩ = some (.bool t392) := (qkc BK388.out 1).trans rfl; have hfz30_0 := qkf BK388.out 0; have hfz30_1 := qkf BK388.out 1))
  go_loopg [7] kj1 (fun kq v7 w' => ∃ (x7_2 : Int) (x385000_2 : ByteArray) (x387001_2 : List (List (S72))) (x389000_2 : List Int) (x389001_2 : Bool) (u387001 : Value) (u389000 : Value), v7 = .int .i64 x7_2 ∧ Aside0 (barbicanref26_DecodeEntry.l0 kq l0 t398 x7_2 t393 x387001_2 x389000_2 x389001_2 = some (r1, r2, r3)) ∧ Aside0 (kq ≤ kj1) ∧ Aside0 (Kd.S (Kd.slice 72 k72) 46 w' w.heap.size (fun _ => True) u387001 x387001_2) ∧ Aside0 (Kd.V (Kd.int .u8) 5 w' w.heap.size (fun k_ => some k_ ≠ (u387001 : Value).ownBlock ∧ k_ ≠ gb384 ∧ k_ ≠ gb386 ∧ k_ ≠ gb388) u389000 x389000_2) ∧ Aside0 (w'.heap[gb384]? = some (.cells #[.string x385000_2, (.slice none 0 0)] 24 (0, 0))) ∧ Aside0 (w'.heap[gb386]? = some (.cells #[.string t393, u387001] 24 (0, 0))) ∧ Aside0 (w'.heap[gb388]? = some (.cells #[u389000, .bool x389001_2] 60 (0, 0))) ∧ Aside0 (Below w.heap.size w w'))
  case atStart => exact ⟨(0), ((⟨#[]⟩ : ByteArray)), (([] : List (List (S72)))), (t394), (t397), (.slice none 0 0), (.slice Ao29 t394.length co29), (by first | rfl | (simp; done) | (simp [*]; done) | (simp [bne]; done)), H', ⟨Nat.le_refl _⟩, ⟨by first | exact Kd.S_nil _ _ _ _ _ | exact Kd.N_nil _ _ _ _ _ | exact Kd.V_nil _ _ _ _ _ | exact Kd.Q_nil _ _ _ _ _ | exact Kd.R_nil _ _ _ _ _⟩, ⟨by (with_reducible repeat (first | apply Kd.V_alloc | apply Kd.V_drewN | apply Kd.V_drew)); exact Kd.V_mono (Kd.V_far (p := ⟨gb388, 1, none⟩) (Kd.V_far (p := ⟨gb388, 0, none⟩) (Kd.V_mono HO396.out (fun k_ hk => (⟨hk, hk.2.2⟩ : _ ∧ k_ ≠ gb388))) (fun _ hk => hk.2) (.slice Ao29 t394.length co29)) (fun _ hk => hk.2) (.bool t397)) (fun _ hk => ⟨(by simp [Value.ownBlock]), ⟨hk.1.1, ⟨hk.1.2.1, hk.1.2.2⟩⟩⟩)⟩, ⟨by (with_reducible repeat (first | refine qkN ?_ _ | refine qkd ?_ | refine qka ?_ _)); refine qkr ?_ NB384_388.out _; (with_reducible repeat (first | refine qkN ?_ _ | refine qkd ?_ | refine qka ?_ _)); refine qkr ?_ NB384_388.out _; (with_reducible repeat (first | refine qkN ?_ _ | refine qkd ?_ | refine qka ?_ _)); exact BK384.out⟩, ⟨by (with_reducible repeat (first | refine qkN ?_ _ | refine qkd ?_ | refine qka ?_ _)); refine qkr ?_ NB386_388.out _; (with_reducible repeat (first | refine qkN ?_ _ | refine qkd ?_ | refine qka ?_ _)); refine qkr ?_ NB386_388.out _; (with_reducible repeat (first | refine qkN ?_ _ | refine qkd ?_ | refine qka ?_ _)); exact BK386.out⟩, ⟨by (with_reducible repeat (first | refine qkN ?_ _ | refine qkd ?_ | refine qka ?_ _)); refine qkp (cs := #[.slice Ao29 t394.length co29, .bool t392]) ?_ 1 _ rfl; (with_reducible repeat (first | refine qkN ?_ _ | refine qkd ?_ | refine qka ?_ _)); refine qkp (cs := #[.slice Ao22 t389.length co22, .bool t392]) ?_ 0 _ rfl; (with_reducible repeat (first | refine qkN ?_ _ | refine qkd ?_ | refine qka ?_ _)); exact BK388.out⟩, ⟨bw_ HB.out⟩⟩
  case round =>
   clear H'
   (try clear c1); (try clear c2); (try clear p2); (try clear p3); (try clear q3); (try clear hx3); (try clear qi3); (try clear c4); (try clear c4b0); (try clear c4b1); (try clear c4b2); (try clear c5)
   (try clear c5b0); (try clear c5b1); (try clear c6); (try clear c8); (try clear c8b0); (try clear c8b1); (try clear c12); (try clear c16); (try clear c17); (try clear c23); (try clear c24); (try clear hcz13_0)
   (try clear hcz13_1); (try clear hcz18_0); (try clear hcz18_1); (try clear hcz20_0); (try clear hcz20_1); (try clear hcz23_0); (try clear hcz23_1); (try clear hcz25_0); (try clear hcz25_1); (try clear hcz27_0); (try clear hcz27_1); (try clear hcz30_0)
   (try clear hcz30_1); (try clear hcz7_0); (try clear hcz7_1); (try clear hfz13_0); (try clear hfz13_1); (try clear hfz18_0); (try clear hfz18_1); (try clear hfz20_0); (try clear hfz20_1); (try clear hfz23_0); (try clear hfz23_1); (try clear hfz25_0)
   (try clear hfz25_1); (try clear hfz27_0); (try clear hfz27_1); (try clear hfz30_0); (try clear hfz30_1); (try clear hfz7_0); (try clear hfz7_1); (try clear hx385_0); (try clear p2); (try clear p3); (try clear p385); (try clear q3)
   (try clear q385)
   obtain ⟨x7_2, x385000_2, x387001_2, x389000_2, x389001_2, u387001, u389000, rfl, HA, HK2, HO_387001, HO_389000, BK384, BK386, BK388, HB⟩ := hrel
   cases gk with
   | zero => exact absurd HA.out (by simp [barbicanref26_DecodeEntry.l0])
   | succ k2 =>
    have H := HA.out
    clear HA
    simp only [barbicanref26_DecodeEntry.l0] at H
    have HC31 := Aside0.mk H
    clear H
    go_upto_region 9 with (fail)
    go_cut [48] (fun v48 wc => ∃ (kq : Nat) (x48_30 : Bool), v48 = .bool x48_30 ∧ Aside0 (barbicanref26_DecodeEntry.j2 kq l0 t398 x7_2 x48_30 t393 x387001_2 x389000_2 x389001_2 = some (r1, r2, r3)) ∧ Aside0 (kq ≤ k2) ∧ Aside0 (Kd.S (Kd.slice 72 k72) 46 wc w.heap.size (fun _ => True) u387001 x387001_2) ∧ Aside0 (Kd.V (Kd.int .u8) 5 wc w.heap.size (fun k_ => some k_ ≠ (u387001 : Value).ownBlock ∧ k_ ≠ gb384 ∧ k_ ≠ gb386 ∧ k_ ≠ gb388) u389000 x389000_2) ∧ Aside0 (wc.heap[gb384]? = some (.cells #[.string x385000_2, (.slice none 0 0)] 24 (0, 0))) ∧ Aside0 (wc.heap[gb386]? = some (.cells #[.string t393, u387001] 24 (0, 0))) ∧ Aside0 (wc.heap[gb388]? = some (.cells #[u389000, .bool x389001_2] 60 (0, 0))) ∧ Aside0 (Below w.heap.size w wc))
    case first =>
     have H := HC31.out
     clear HC31
     by_cases c32 : x7_2 < t398
     ·rw [if_pos c32] at H
      have c32b0 : decide (x7_2 < t398) = true := decide_eq_true c32
      clear c32
      (first | rw [c32b0] | (simp only [i64_w, i32_w]; rw [c32b0]) | skip)
      have H' := Aside0.mk H
      clear H
      have hnb33 := NB388_384.out
      have hnc33 := NB384_388.out
      have hnb34 := NB388_386.out
      have hnc34 := NB386_388.out
      have hcz35_0 : wr.cell? ⟨gb388, 0, none⟩ = some (u389000) := (qkc BK388.out 0).trans rfl
      have hcz35_1 : wr.cell? ⟨gb388, 1, none⟩ = some (.bool x389001_2) := (qkc BK388.out 1).trans rfl
      have hfz35_0 := qkf BK388.out 0
      have hfz35_1 := qkf BK388.out 1
      go_wp2
      refine Met.intro ?_
      go_step
      (repeat apply Exists.intro)
      refine ⟨?rel, ?frm⟩
      case frm => first | rfl | (simp only [c32b0]; rfl) | (simp only [c32b0]; first | done | rfl)
      case rel => exact ⟨_, (!x389001_2), (by first | rfl | (simp; done) | (simp [*]; done) | (simp [bne]; done)), H', ⟨by have := HJ1.out; have := HK2.out; first | omega | exact Nat.le_refl _⟩, ⟨by (with_reducible repeat (first | apply Kd.S_alloc | apply Kd.S_drewN | apply Kd.S_drew)); exact HO_387001.out⟩, ⟨by (with_reducible repeat (first | apply Kd.V_alloc | apply Kd.V_drewN | apply Kd.V_drew)); exact HO_389000.out⟩, ⟨by (with_reducible repeat (first | refine qkN ?_ _ | refine qkd ?_ | refine qka ?_ _)); exact BK384.out⟩, ⟨by (with_reducible repeat (first | refine qkN ?_ _ | refine qkd ?_ | refine qka ?_ _)); exact BK386.out⟩, ⟨by (with_reducible repeat (first | refine qkN ?_ _ | refine qkd ?_ | refine qka ?_ _)); exact BK388.out⟩, ⟨bw_ HB.out⟩⟩
     rw [if_neg c32] at H
     have c32b0 : decide (x7_2 < t398) = false := decide_eq_false c32
     clear c32
     (first | rw [c32b0] | (simp only [i64_w, i32_w]; rw [c32b0]) | skip)
     have H' := Aside0.mk H
     clear H
     go_wp2
     refine Met.intro ?_
     go_step
     (repeat apply Exists.intro)
     refine ⟨?rel, ?frm⟩
     case frm => first | rfl | (simp only [c32b0]; rfl) | (simp only [c32b0]; first | done | rfl)
     case rel => exact ⟨_, (false), (by first | rfl | (simp; done) | (simp [*]; done) | (simp [bne]; done)), H', ⟨by have := HJ1.out; have := HK2.out; first | omega | exact Nat.le_refl _⟩, ⟨by (with_reducible repeat (first | apply Kd.S_alloc | apply Kd.S_drewN | apply Kd.S_drew)); exact HO_387001.out⟩, ⟨by (with_reducible repeat (first | apply Kd.V_alloc | apply Kd.V_drewN | apply Kd.V_drew)); exact HO_389000.out⟩, ⟨by (with_reducible repeat (first | refine qkN ?_ _ | refine qkd ?_ | refine qka ?_ _)); exact BK384.out⟩, ⟨by (with_reducible repeat (first | refine qkN ?_ _ | refine qkd ?_ | refine qka ?_ _)); exact BK386.out⟩, ⟨by (with_reducible repeat (first | refine qkN ?_ _ | refine qkd ?_ | refine qka ?_ _)); exact BK388.out⟩, ⟨bw_ HB.out⟩⟩
    clear HC31
    (try clear c1); (try clear c2); (try clear p2); (try clear c3); (try clear p3); (try clear q3); (try clear hx3); (try clear qi3); (try clear c4); (try clear c4b0); (try clear c4b1); (try clear c4b2)
    (try clear c5); (try clear c5b0); (try clear c5b1); (try clear c6); (try clear c8); (try clear c8b0); (try clear c8b1); (try clear c12); (try clear c16); (try clear c17); (try clear c23); (try clear c24)
    (try clear c32); (try clear c32b0); (try clear c33); (try clear c34); (try clear hcz13_0); (try clear hcz13_1); (try clear hcz18_0); (try clear hcz18_1); (try clear hcz20_0); (try clear hcz20_1); (try clear hcz23_0); (try clear hcz23_1)
    (try clear hcz25_0); (try clear hcz25_1); (try clear hcz27_0); (try clear hcz27_1); (try clear hcz30_0); (try clear hcz30_1); (try clear hcz35_0); (try clear hcz35_1); (try clear hcz7_0); (try clear hcz7_1); (try clear hfz13_0); (try clear hfz13_1)
    (try clear hfz18_0); (try clear hfz18_1); (try clear hfz20_0); (try clear hfz20_1); (try clear hfz23_0); (try clear hfz23_1); (try clear hfz25_0); (try clear hfz25_1); (try clear hfz27_0); (try clear hfz27_1); (try clear hfz30_0); (try clear hfz30_1)
    (try clear hfz35_0); (try clear hfz35_1); (try clear hfz7_0); (try clear hfz7_1); (try clear hx385_0); (try clear p2); (try clear p3); (try clear p385); (try clear q3); (try clear q385)
    obtain ⟨kq, x48_30, rfl, HA, HJ30, HO_387001, HO_389000, BK384, BK386, BK388, HB⟩ := hcut
    cases kq with
    | zero => exact absurd HA.out (by simp [barbicanref26_DecodeEntry.j2])
    | succ kj30 =>
     have H := HA.out
     clear HA
     simp only [barbicanref26_DecodeEntry.j2] at H
     by_cases c36 : x48_30 = true
     ·subst c36
      rw [if_pos rfl] at H
      replace H := Option.bind_eq_some_iff.mp H
      obtain ⟨⟨t403, t406, t407⟩, A370, H⟩ := H
      (try dsimp only at H)
      have A37 := Aside0.mk A370
      clear A370
      replace H := Option.bind_eq_some_iff.mp H
      obtain ⟨⟨t408, t409⟩, A380, H⟩ := H
      (try dsimp only at H)
      have A38 := Aside0.mk A380
      clear A380
      by_cases c39 : t409 = 0
      ·rw [if_pos c39] at H
       have c39b0 : (t409 == 0) = true := beq_iff_eq.mpr c39
       have c39b1 : (t409 != 0) = false := bne_eq_false_iff_eq.mpr c39
       clear c39
       have c40 : x387001_2.length < 5864062014805 := Classical.byContradiction fun c40 => by rw [if_neg c40] at H; exact absurd H (by simp)
       rw [if_pos c40] at H
       have LMc40 := Aside0.mk c40
       clear c40
       obtain ⟨y412, hy412⟩ : ∃ y_ : List (List (S72)), y_ = (x387001_2 ++ [t408]) := ⟨_, rfl⟩
       replace H : (barbicanref26_DecodeEntry.l0 kj30 l0 t398 (wrap64 (x7_2 + 1)) t393 y412 t403 t406) = some (r1, r2, r3) := by first | (rw [hy412]; with_reducible exact H) | (have H2_ := (Option.bind_some _ _).symm.trans H; rw [hy412]; with_reducible exact H2_) | (have H2_ := (Option.bind_some _ _).symm.trans H; with_reducible exact H2_) | with_reducible exact H | (rw [hy412]; exact H) | exact H
       have Ny412 := Aside0.mk hy412
       clear hy412
       have H' := Aside0.mk H
       clear H
       have hnb41 := NB388_384.out
       have hnc41 := NB384_388.out
       have hnb42 := NB388_386.out
       have hnc42 := NB386_388.out
       have hcz43_0 : wc.cell? ⟨gb388, 0, none⟩ = some (u389000) := (qkc BK388.out 0).trans rfl
       have hcz43_1 : wc.cell? ⟨gb388, 1, none⟩ = some (.bool x389001_2) := (qkc BK388.out 1).trans rfl
       have hfz43_0 := qkf BK388.out 0
       have hfz43_1 := qkf BK388.out 1
       obtain ⟨Ao44, co44, eo44⟩ := Kd.V_slice HO_389000.out
       subst eo44
       go_wp2_with (first | ((with_reducible refine qgc (f := 23) rfl ?_); refine goesL_ (some 53) rfl rfl Tryd.func23 (by kernel_rfl) rfl #[.agg #[.slice Ao44 x389000_2.length co44, .bool x389001_2]] rfl (by (try simp only [List.map_toArray, List.map_cons, List.map_nil]); first | done | rfl | (simp only [List.length_drop, List.length_take]; rfl)) ?_; (with_reducible refine (barbicanref26_Read_text.calls kj30 (fun k_ => (some k_ ≠ (u387001 : Value).ownBlock ∧ (k_ ≠ gb384 ∧ (k_ ≠ gb386 ∧ k_ ≠ gb388)))) _ _ x389000_2 x389001_2 t403 t406 t407 _ ?side1 A37.out).mono ?_); (case side1 => exact HO_389000.out); rintro e w45 ⟨v404, rfl, ho0, hb⟩; refine ⟨_, rfl, ?_⟩; have n0_ := Aside0.mk (Kd.S_below (by (with_reducible repeat (first | apply Kd.S_alloc | apply Kd.S_drewN | apply Kd.S_drew)); exact HO_387001.out) hb); have n1_ := Aside0.mk (Kd.V_below (kV_ HO_389000.out) hb); have n2_ := Aside0.mk (Kd.V_lower (Kd.V_mono (ok' := fun k_ => some k_ ≠ (u387001 : Value).ownBlock ∧ k_ ≠ gb384 ∧ k_ ≠ gb386 ∧ k_ ≠ gb388) ho0 (fun k_ hk_ => ⟨Or.elim hk_ (fun hs_ => hs_.1) (fun hn_ => (Kd.fresh' (Kd.S_lt (by (with_reducible repeat (first | apply Kd.S_alloc | apply Kd.S_drewN | apply Kd.S_drew)); exact HO_387001.out)) k_ hn_)), Or.elim hk_ (fun hs_ => hs_.2.1) (fun hn_ => (Kd.freshB (g := gb384) (o := .cells #[.string x385000_2, .slice none 0 0] 24 (0, 0)) (bl_ BK384.out) k_ hn_)), Or.elim hk_ (fun hs_ => hs_.2.2.1) (fun hn_ => (Kd.freshB (g := gb386) (o := .cells #[.string t393, u387001] 24 (0, 0)) (bl_ BK386.out) k_ hn_)), Or.elim hk_ (fun hs_ => hs_.2.2.2) (fun hn_ => (Kd.freshB (g := gb388) (o := .cells #[.slice Ao44 x389000_2.length co44, .bool x389001_2] 60 (0, 0)) (bl_ BK388.out) k_ hn_))⟩)) (qbz (bw_ HB.out))); have n3_ := Aside0.mk (qkb (g := gb384) (o := .cells #[.string x385000_2, .slice none 0 0] 24 (0, 0)) (bl_ BK384.out) hb); have n4_ := Aside0.mk (qkb (g := gb386) (o := .cells #[.string t393, u387001] 24 (0, 0)) (bl_ BK386.out) hb); have n5_ := Aside0.mk (qkb (g := gb388) (o := .cells #[.slice Ao44 x389000_2.length co44, .bool x389001_2] 60 (0, 0)) (bl_ BK388.out) hb); have n6_ := Aside0.mk (below_step (bw_ HB.out) hb); clear HO_387001; clear HO_389000; clear BK384; clear BK386; clear BK388; clear HB; have HO_387001 := n0_; have HO_389000 := n1_; have HO405 := n2_; have BK384 := n3_; have BK386 := n4_; have BK388 := n5_; have HB := n6_; clear n0_ n1_ n2_ n3_ n4_ n5_ n6_; (try clear hb); (try clear hb2); (try clear hk); (try clear hi); (try clear ho0); obtain ⟨Ao46, co46, eo46⟩ := Kd.V_slice HO405.out; subst eo46; have hcz47_0 : w45.cell? ⟨gb388, 0, none⟩ = some (.slice Ao44 x389000_2.length co44) := (qkc BK388.out 0).trans rfl; have hcz47_1 : w45.cell? ⟨gb388, 1, none⟩ = some (.bool x389001_2) := (qkc BK388.out 1).trans rfl; have hfz47_0 := qkf BK388.out 0; have hfz47_1 := qkf BK388.out 1) | ((with_reducible refine qgc (f := 25) rfl ?_); refine goesL_ (some 58) rfl rfl Tryd.func25 (by kernel_rfl) rfl #[.string t407] rfl (by (try simp only [List.map_toArray, List.map_cons, List.map_nil]); first | done | rfl | (simp only [List.length_drop, List.length_take]; rfl)) ?_; (with_reducible refine (barbicanref06_Decode.calls kj30 t407 t408 t409 _ A38.out).mono ?_); rintro e w48 ⟨v410, rfl, ho0, hb⟩; refine ⟨_, rfl, ?_⟩; have n0_ := Aside0.mk (Kd.S_elder' (by (with_reducible repeat (first | apply Kd.S_alloc | apply Kd.S_drewN | apply Kd.S_drew)); exact (Kd.S_mono (Kd.S_far (p := ⟨gb388, 1, none⟩) (Kd.S_far (p := ⟨gb388, 0, none⟩) (Kd.S_types HO_387001.out BK388.out (by decide)) (fun _ hk => hk.2) (.slice Ao46 t403.length co46)) (fun _ hk => hk.2) (.bool t406)) (fun _ h_ => h_.1))) (Kd.R_base ho0) hb); have n1_ := Aside0.mk (Kd.V_elder' (by (with_reducible repeat (first | apply Kd.V_alloc | apply Kd.V_drewN | apply Kd.V_drew)); exact (Kd.V_mono (Kd.V_far (p := ⟨gb388, 1, none⟩) (Kd.V_far (p := ⟨gb388, 0, none⟩) (Kd.V_mono HO_389000.out (fun k_ hk => (⟨hk, hk.2.2.2⟩ : _ ∧ k_ ≠ gb388))) (fun _ hk => hk.2) (.slice Ao46 t403.length co46)) (fun _ hk => hk.2) (.bool t406)) (fun _ h_ => h_.1))) (Kd.R_base ho0) hb); have n2_ := Aside0.mk (Kd.V_elder' (by (with_reducible repeat (first | apply Kd.V_alloc | apply Kd.V_drewN | apply Kd.V_drew)); exact (Kd.V_mono (Kd.V_far (p := ⟨gb388, 1, none⟩) (Kd.V_far (p := ⟨gb388, 0, none⟩) (Kd.V_mono HO405.out (fun k_ hk => (⟨hk, hk.2.2.2⟩ : _ ∧ k_ ≠ gb388))) (fun _ hk => hk.2) (.slice Ao46 t403.length co46)) (fun _ hk => hk.2) (.bool t406)) (fun _ h_ => h_.1))) (Kd.R_base ho0) hb); have n3_ := Aside0.mk (Kd.R_lower ho0 (qbz (bw_ HB.out))); have n4_ := Aside0.mk (qkb (g := gb384) (o := .cells #[.string x385000_2, .slice none 0 0] 24 (0, 0)) (by (with_reducible repeat (first | refine qkN ?_ _ | refine qkd ?_ | refine qka ?_ _)); refine qkr ?_ NB384_388.out _; (with_reducible repeat (first | refine qkN ?_ _ | refine qkd ?_ | refine qka ?_ _)); refine qkr ?_ NB384_388.out _; (with_reducible repeat (first | refine qkN ?_ _ | refine qkd ?_ | refine qka ?_ _)); exact BK384.out) hb); have n5_ := Aside0.mk (qkb (g := gb386) (o := .cells #[.string t393, u387001] 24 (0, 0)) (by (with_reducible repeat (first | refine qkN ?_ _ | refine qkd ?_ | refine qka ?_ _)); refine qkr ?_ NB386_388.out _; (with_reducible repeat (first | refine qkN ?_ _ | refine qkd ?_ | refine qka ?_ _)); refine qkr ?_ NB386_388.out _; (with_reducible repeat (first | refine qkN ?_ _ | refine qkd ?_ | refine qka ?_ _)); exact BK386.out) hb); have n6_ := Aside0.mk (qkb (g := gb388) (o := .cells #[.slice Ao46 t403.length co46, .bool t406] 60 (0, 0)) (by (with_reducible repeat (first | refine qkN ?_ _ | refine qkd ?_ | refine qka ?_ _)); refine qkp (cs := #[.slice Ao46 t403.length co46, .bool x389001_2]) ?_ 1 _ rfl; (with_reducible repeat (first | refine qkN ?_ _ | refine qkd ?_ | refine qka ?_ _)); refine qkp (cs := #[.slice Ao44 x389000_2.length co44, .bool x389001_2]) ?_ 0 _ rfl; (with_reducible repeat (first | refine qkN ?_ _ | refine qkd ?_ | refine qka ?_ _)); exact BK388.out) hb); have n7_ := Aside0.mk (below_step (bw_ HB.out) hb); clear HO_387001; clear HO_389000; clear HO405; clear BK384; clear BK386; clear BK388; clear HB; have HO_387001 := n0_; have HO_389000 := n1_; have HO405 := n2_; have HO411 := n3_; have BK384 := n4_; have BK386 := n5_; have BK388 := n6_; have HB := n7_; clear n0_ n1_ n2_ n3_ n4_ n5_ n6_ n7_; (try clear hb); (try clear hb2); (try clear hk); (try clear hi); (try clear ho0); have hnb49 := NB386_384.out; have hnc49 := NB384_386.out; have hcz50_0 : w48.cell? ⟨gb386, 0, none⟩ = some (.string t393) := (qkc BK386.out 0).trans rfl; have hcz50_1 : w48.cell? ⟨gb386, 1, none⟩ = some (u387001) := (qkc BK386.out 1).trans rfl; have hfz50_0 := qkf BK386.out 0; have hfz50_1 := qkf BK386.out 1; obtain ⟨Ao52, co52, eo52⟩ := Kd.R_slice HO411.out; subst eo52) | ((with_reducible refine gate_builtin (b := .append) (xs := #[.tmp 65, .tmp 67]) rfl ?_); at_builtin; refine Kd.S_append (Kd.slice 72 k72) (w0 := w) w.heap.size rfl (.tmp 65) (.tmp 67) 22 46 (.slice none 0 0) 24 rfl Tryd.underlying22 info46 rfl (by decide) (by omega) u387001 x387001_2 t408 [.slice Ao52 t408.length co52] (fun _ => True) (fun k_ => some k_ = (.slice Ao52 t408.length co52 : Value).ownBlock) rfl rfl ?aP (fun k_ hk_ => ((Kd.R_mono (ok' := fun k_ => ((fun _ => True)) k_ ∧ some k_ ≠ (u387001 : Value).ownBlock) (Kd.R_apart' (HO411.out) (Kd.S_typed HO_387001.out) (by decide)) (fun k_ hk => ⟨trivial, hk.2⟩))).1 k_ hk_.symm) ?aF ?aO ?aB ?aS ?aL ?_; (case aP => exact Kd.M_row (Kd.R_mono (Kd.R_tight rfl (Kd.R_mono (ok' := fun k_ => ((fun _ => True)) k_ ∧ some k_ ≠ (u387001 : Value).ownBlock) (Kd.R_apart' (HO411.out) (Kd.S_typed HO_387001.out) (by decide)) (fun k_ hk => ⟨trivial, hk.2⟩))) (fun _ h_ => h_))); (case aB => exact (bw_ HB.out)); (case aF => exact (fun _ _ => trivial)); (case aO => exact (by (with_reducible repeat (first | apply Kd.S_alloc | apply Kd.S_drewN | apply Kd.S_drew)); exact Kd.S_mono HO_387001.out (fun k_ hk => ⟨trivial, fun e_ => hk.2 e_⟩))); (case aS => exact (qbz (bw_ HB.out))); (case aL => have := LMc40.out; omega); intro v413 w51 ho hb hg hat; rw [← Ny412.out] at ho; have n0_ := Aside0.mk (Kd.V_afterv (ok := (fun k_ => some k_ ≠ (.slice Ao52 t408.length co52 : Value).ownBlock ∧ k_ ≠ gb384 ∧ k_ ≠ gb386 ∧ k_ ≠ gb388)) (by (with_reducible repeat (first | apply Kd.V_alloc | apply Kd.V_drewN | apply Kd.V_drew)); exact Kd.V_mono HO_389000.out (fun _ hk => ⟨⟨hk.2, ⟨hk.1.2.1, ⟨hk.1.2.2.1, hk.1.2.2.2⟩⟩⟩, hk.1.1⟩)) hg hat); have n1_ := Aside0.mk (blk_grown (g := gb384) (o := .cells #[.string x385000_2, .slice none 0 0] 24 (0, 0)) (bl_ BK384.out) hg (Kd.S_ne HO_387001.out BK384.out (by decide))); have n2_ := Aside0.mk (blk_grown (g := gb386) (o := .cells #[.string t393, u387001] 24 (0, 0)) (bl_ BK386.out) hg (Kd.S_ne HO_387001.out BK386.out (by decide))); have n3_ := Aside0.mk (blk_grown (g := gb388) (o := .cells #[.slice Ao46 t403.length co46, .bool t406] 60 (0, 0)) (bl_ BK388.out) hg (Kd.S_ne HO_387001.out BK388.out (by decide))); have n4_ := Aside0.mk (Kd.V_afterv (ok := (fun k_ => some k_ ≠ (.slice Ao52 t408.length co52 : Value).ownBlock ∧ k_ ≠ gb384 ∧ k_ ≠ gb386 ∧ k_ ≠ gb388)) (by (with_reducible repeat (first | apply Kd.V_alloc | apply Kd.V_drewN | apply Kd.V_drew)); exact Kd.V_mono HO405.out (fun _ hk => ⟨⟨hk.2, ⟨hk.1.2.1, ⟨hk.1.2.2.1, hk.1.2.2.2⟩⟩⟩, hk.1.1⟩)) hg hat); have n5_ := Aside0.mk (hb); have n6_ := Aside0.mk (ho); clear HO_389000; clear BK384; clear BK386; clear BK388; clear HO405; clear HB; clear HO_387001; clear HO411; have HO_389000 := n0_; have BK384 := n1_; have BK386 := n2_; have BK388 := n3_; have HO405 := n4_; have HB := n5_; have HO414 := n6_; clear n0_ n1_ n2_ n3_ n4_ n5_ n6_; clear ho hb hg hat; obtain ⟨Ao53, co53, eo53⟩ := Kd.S_slice HO414.out; subst eo53; have hcz54_0 : w51.cell? ⟨gb386, 0, none⟩ = some (.string t393) := (qkc BK386.out 0).trans rfl; have hcz54_1 : w51.cell? ⟨gb386, 1, none⟩ = some (u387001) := (qkc BK386.out 1).trans rfl; have hfz54_0 := qkf BK386.out 0; have hfz54_1 := qkf BK386.out 1))
       go_roundg kj30
       case measure => have := HJ1.out; have := HK2.out; have := HJ30.out; omega
       case rel => exact ⟨(wrap64 (x7_2 + 1)), (x385000_2), (y412), (t403), (t406), (.slice Ao53 y412.length co53), (.slice Ao46 t403.length co46), (by first | rfl | (simp; done) | (simp [*]; done) | (simp [bne]; done)), H', ⟨by have := HJ1.out; have := HK2.out; have := HJ30.out; omega⟩, ⟨by (with_reducible repeat (first | apply Kd.S_alloc | apply Kd.S_drewN | apply Kd.S_drew)); exact Kd.S_mono (Kd.S_far (p := ⟨gb386, 1, none⟩) (Kd.S_types HO414.out BK386.out (by decide)) (fun _ hk => hk.2) (.slice Ao53 y412.length co53)) (fun _ hk => trivial)⟩, ⟨by (with_reducible repeat (first | apply Kd.V_alloc | apply Kd.V_drewN | apply Kd.V_drew)); exact Kd.V_mono (Kd.V_far (p := ⟨gb386, 1, none⟩) (Kd.V_mono HO405.out (fun k_ hk => (⟨hk, hk.1.2.2.1⟩ : _ ∧ k_ ≠ gb386))) (fun _ hk => hk.2) (.slice Ao53 y412.length co53)) (fun _ hk => ⟨hk.1.2, ⟨hk.1.1.2.1, ⟨hk.1.1.2.2.1, hk.1.1.2.2.2⟩⟩⟩)⟩, ⟨by (with_reducible repeat (first | refine qkN ?_ _ | refine qkd ?_ | refine qka ?_ _)); refine qkr ?_ NB384_386.out _; (with_reducible repeat (first | refine qkN ?_ _ | refine qkd ?_ | refine qka ?_ _)); exact BK384.out⟩, ⟨by (with_reducible repeat (first | refine qkN ?_ _ | refine qkd ?_ | refine qka ?_ _)); refine qkp (cs := #[.string t393, u387001]) ?_ 1 _ rfl; (with_reducible repeat (first | refine qkN ?_ _ | refine qkd ?_ | refine qka ?_ _)); exact BK386.out⟩, ⟨by (with_reducible repeat (first | refine qkN ?_ _ | refine qkd ?_ | refine qka ?_ _)); refine qkr ?_ NB388_386.out _; (with_reducible repeat (first | refine qkN ?_ _ | refine qkd ?_ | refine qka ?_ _)); exact BK388.out⟩, ⟨bw_ HB.out⟩⟩
      rw [if_neg c39] at H
      have c39b0 : (t409 == 0) = false := beq_eq_false_iff_ne.mpr c39
      have c39b1 : (t409 != 0) = true := bne_iff_ne.mpr c39
      simp only [Option.some.injEq, Prod.mk.injEq] at H
      obtain ⟨rfl, rfl, rfl⟩ := H
      have hnb55 := NB388_384.out
      have hnc55 := NB384_388.out
      have hnb56 := NB388_386.out
      have hnc56 := NB386_388.out
      have hcz57_0 : wc.cell? ⟨gb388, 0, none⟩ = some (u389000) := (qkc BK388.out 0).trans rfl
      have hcz57_1 : wc.cell? ⟨gb388, 1, none⟩ = some (.bool x389001_2) := (qkc BK388.out 1).trans rfl
      have hfz57_0 := qkf BK388.out 0
      have hfz57_1 := qkf BK388.out 1
      obtain ⟨Ao58, co58, eo58⟩ := Kd.V_slice HO_389000.out
      subst eo58
      go_wp2_with (first | ((with_reducible refine qgc (f := 23) rfl ?_); refine goesL_ (some 53) rfl rfl Tryd.func23 (by kernel_rfl) rfl #[.agg #[.slice Ao58 x389000_2.length co58, .bool x389001_2]] rfl (by (try simp only [List.map_toArray, List.map_cons, List.map_nil]); first | done | rfl | (simp only [List.length_drop, List.length_take]; rfl)) ?_; (with_reducible refine (barbicanref26_Read_text.calls kj30 (fun k_ => (some k_ ≠ (u387001 : Value).ownBlock ∧ (k_ ≠ gb384 ∧ (k_ ≠ gb386 ∧ k_ ≠ gb388)))) _ _ x389000_2 x389001_2 t403 t406 t407 _ ?side1 A37.out).mono ?_); (case side1 => exact HO_389000.out); rintro e w59 ⟨v404, rfl, ho0, hb⟩; refine ⟨_, rfl, ?_⟩; have n0_ := Aside0.mk (Kd.S_below (by (with_reducible repeat (first | apply Kd.S_alloc | apply Kd.S_drewN | apply Kd.S_drew)); exact HO_387001.out) hb); have n1_ := Aside0.mk (Kd.V_below (kV_ HO_389000.out) hb); have n2_ := Aside0.mk (Kd.V_lower (Kd.V_mono (ok' := fun k_ => some k_ ≠ (u387001 : Value).ownBlock ∧ k_ ≠ gb384 ∧ k_ ≠ gb386 ∧ k_ ≠ gb388) ho0 (fun k_ hk_ => ⟨Or.elim hk_ (fun hs_ => hs_.1) (fun hn_ => (Kd.fresh' (Kd.S_lt (by (with_reducible repeat (first | apply Kd.S_alloc | apply Kd.S_drewN | apply Kd.S_drew)); exact HO_387001.out)) k_ hn_)), Or.elim hk_ (fun hs_ => hs_.2.1) (fun hn_ => (Kd.freshB (g := gb384) (o := .cells #[.string x385000_2, .slice none 0 0] 24 (0, 0)) (bl_ BK384.out) k_ hn_)), Or.elim hk_ (fun hs_ => hs_.2.2.1) (fun hn_ => (Kd.freshB (g := gb386) (o := .cells #[.string t393, u387001] 24 (0, 0)) (bl_ BK386.out) k_ hn_)), Or.elim hk_ (fun hs_ => hs_.2.2.2) (fun hn_ => (Kd.freshB (g := gb388) (o := .cells #[.slice Ao58 x389000_2.length co58, .bool x389001_2] 60 (0, 0)) (bl_ BK388.out) k_ hn_))⟩)) (qbz (bw_ HB.out))); have n3_ := Aside0.mk (qkb (g := gb384) (o := .cells #[.string x385000_2, .slice none 0 0] 24 (0, 0)) (bl_ BK384.out) hb); have n4_ := Aside0.mk (qkb (g := gb386) (o := .cells #[.string t393, u387001] 24 (0, 0)) (bl_ BK386.out) hb); have n5_ := Aside0.mk (qkb (g := gb388) (o := .cells #[.slice Ao58 x389000_2.length co58, .bool x389001_2] 60 (0, 0)) (bl_ BK388.out) hb); have n6_ := Aside0.mk (below_step (bw_ HB.out) hb); clear HO_387001; clear HO_389000; clear BK384; clear BK386; clear BK388; clear HB; have HO_387001 := n0_; have HO_389000 := n1_; have HO405 := n2_; have BK384 := n3_; have BK386 := n4_; have BK388 := n5_; have HB := n6_; clear n0_ n1_ n2_ n3_ n4_ n5_ n6_; (try clear hb); (try clear hb2); (try clear hk); (try clear hi); (try clear ho0); obtain ⟨Ao60, co60, eo60⟩ := Kd.V_slice HO405.out; subst eo60; have hcz61_0 : w59.cell? ⟨gb388, 0, none⟩ = some (.slice Ao58 x389000_2.length co58) := (qkc BK388.out 0).trans rfl; have hcz61_1 : w59.cell? ⟨gb388, 1, none⟩ = some (.bool x389001_2) := (qkc BK388.out 1).trans rfl; have hfz61_0 := qkf BK388.out 0; have hfz61_1 := qkf BK388.out 1) | ((with_reducible refine qgc (f := 25) rfl ?_); refine goesL_ (some 58) rfl rfl Tryd.func25 (by kernel_rfl) rfl #[.string t407] rfl (by (try simp only [List.map_toArray, List.map_cons, List.map_nil]); first | done | rfl | (simp only [List.length_drop, List.length_take]; rfl)) ?_; (with_reducible refine (barbicanref06_Decode.calls kj30 t407 t408 t409 _ A38.out).mono ?_); rintro e w62 ⟨v410, rfl, ho0, hb⟩; refine ⟨_, rfl, ?_⟩; have n0_ := Aside0.mk (Kd.S_elder' (by (with_reducible repeat (first | apply Kd.S_alloc | apply Kd.S_drewN | apply Kd.S_drew)); exact (Kd.S_mono (Kd.S_far (p := ⟨gb388, 1, none⟩) (Kd.S_far (p := ⟨gb388, 0, none⟩) (Kd.S_types HO_387001.out BK388.out (by decide)) (fun _ hk => hk.2) (.slice Ao60 t403.length co60)) (fun _ hk => hk.2) (.bool t406)) (fun _ h_ => h_.1))) (Kd.R_base ho0) hb); have n1_ := Aside0.mk (Kd.V_elder' (by (with_reducible repeat (first | apply Kd.V_alloc | apply Kd.V_drewN | apply Kd.V_drew)); exact (Kd.V_mono (Kd.V_far (p := ⟨gb388, 1, none⟩) (Kd.V_far (p := ⟨gb388, 0, none⟩) (Kd.V_mono HO_389000.out (fun k_ hk => (⟨hk, hk.2.2.2⟩ : _ ∧ k_ ≠ gb388))) (fun _ hk => hk.2) (.slice Ao60 t403.length co60)) (fun _ hk => hk.2) (.bool t406)) (fun _ h_ => h_.1))) (Kd.R_base ho0) hb); have n2_ := Aside0.mk (Kd.V_elder' (by (with_reducible repeat (first | apply Kd.V_alloc | apply Kd.V_drewN | apply Kd.V_drew)); exact (Kd.V_mono (Kd.V_far (p := ⟨gb388, 1, none⟩) (Kd.V_far (p := ⟨gb388, 0, none⟩) (Kd.V_mono HO405.out (fun k_ hk => (⟨hk, hk.2.2.2⟩ : _ ∧ k_ ≠ gb388))) (fun _ hk => hk.2) (.slice Ao60 t403.length co60)) (fun _ hk => hk.2) (.bool t406)) (fun _ h_ => h_.1))) (Kd.R_base ho0) hb); have n3_ := Aside0.mk (Kd.R_lower ho0 (qbz (bw_ HB.out))); have n4_ := Aside0.mk (qkb (g := gb384) (o := .cells #[.string x385000_2, .slice none 0 0] 24 (0, 0)) (by (with_reducible repeat (first | refine qkN ?_ _ | refine qkd ?_ | refine qka ?_ _)); refine qkr ?_ NB384_388.out _; (with_reducible repeat (first | refine qkN ?_ _ | refine qkd ?_ | refine qka ?_ _)); refine qkr ?_ NB384_388.out _; (with_reducible repeat (first | refine qkN ?_ _ | refine qkd ?_ | refine qka ?_ _)); exact BK384.out) hb); have n5_ := Aside0.mk (qkb (g := gb386) (o := .cells #[.string t393, u387001] 24 (0, 0)) (by (with_reducible repeat (first | refine qkN ?_ _ | refine qkd ?_ | refine qka ?_ _)); refine qkr ?_ NB386_388.out _; (with_reducible repeat (first | refine qkN ?_ _ | refine qkd ?_ | refine qka ?_ _)); refine qkr ?_ NB386_388.out _; (with_reducible repeat (first | refine qkN ?_ _ | refine qkd ?_ | refine qka ?_ _)); exact BK386.out) hb); have n6_ := Aside0.mk (qkb (g := gb388) (o := .cells #[.slice Ao60 t403.length co60, .bool t406] 60 (0, 0)) (by (with_reducible repeat (first | refine qkN ?_ _ | refine qkd ?_ | refine qka ?_ _)); refine qkp (cs := #[.slice Ao60 t403.length co60, .bool x389001_2]) ?_ 1 _ rfl; (with_reducible repeat (first | refine qkN ?_ _ | refine qkd ?_ | refine qka ?_ _)); refine qkp (cs := #[.slice Ao58 x389000_2.length co58, .bool x389001_2]) ?_ 0 _ rfl; (with_reducible repeat (first | refine qkN ?_ _ | refine qkd ?_ | refine qka ?_ _)); exact BK388.out) hb); have n7_ := Aside0.mk (below_step (bw_ HB.out) hb); clear HO_387001; clear HO_389000; clear HO405; clear BK384; clear BK386; clear BK388; clear HB; have HO_387001 := n0_; have HO_389000 := n1_; have HO405 := n2_; have HO411 := n3_; have BK384 := n4_; have BK386 := n5_; have BK388 := n6_; have HB := n7_; clear n0_ n1_ n2_ n3_ n4_ n5_ n6_ n7_; (try clear hb); (try clear hb2); (try clear hk); (try clear hi); (try clear ho0); have hnb63 := NB384_386.out; have hnc63 := NB386_384.out; have hcz64_0 : w62.cell? ⟨gb384, 0, none⟩ = some (.string x385000_2) := (qkc BK384.out 0).trans rfl; have hcz64_1 : w62.cell? ⟨gb384, 1, none⟩ = some (.slice none 0 0) := (qkc BK384.out 1).trans rfl; have hfz64_0 := qkf BK384.out 0; have hfz64_1 := qkf BK384.out 1))
      refine bodyPost_ret (results_ct rfl _ _ gb384 24 #[.string (⟨#[]⟩ : ByteArray), .slice none 0 0] (0, 0) _ rfl (by (with_reducible repeat (first | refine qkN ?_ _ | refine qkd ?_ | refine qka ?_ _)); refine qkp (cs := #[.string (⟨#[]⟩ : ByteArray), .slice none 0 0]) ?_ 1 _ rfl; (with_reducible repeat (first | refine qkN ?_ _ | refine qkd ?_ | refine qka ?_ _)); refine qkp (cs := #[.string x385000_2, .slice none 0 0]) ?_ 0 _ rfl; (with_reducible repeat (first | refine qkN ?_ _ | refine qkd ?_ | refine qka ?_ _)); exact BK384.out) Tryd.underlying24 rfl (by kernel_rfl)) rfl ?_
      exact ⟨_, by first | rfl | (simp [errW_none, errW_some] <;> rfl) | (simp [*, errW_none, errW_some] <;> rfl), by first | exact Kd.S_nil _ _ _ _ _ | exact Kd.N_nil _ _ _ _ _ | exact Kd.V_nil _ _ _ _ _ | exact Kd.Q_nil _ _ _ _ _ | exact Kd.R_nil _ _ _ _ _, bw_ HB.out⟩
     replace c36 := Bool.eq_false_iff.mpr c36
     subst c36
     rw [if_neg (show ¬ (false = true) by decide)] at H
     replace H := Option.bind_eq_some_iff.mp H
     obtain ⟨⟨t399, t402⟩, A650, H⟩ := H
     (try dsimp only at H)
     have A65 := Aside0.mk A650
     clear A650
     by_cases c66 : x389001_2 = true
     ·subst c66
      rw [if_pos rfl] at H
      simp only [Option.some.injEq, Prod.mk.injEq] at H
      obtain ⟨rfl, rfl, rfl⟩ := H
      have hnb67 := NB386_384.out
      have hnc67 := NB384_386.out
      have hnb68 := NB386_388.out
      have hnc68 := NB388_386.out
      have hcz69_0 : wc.cell? ⟨gb386, 0, none⟩ = some (.string t393) := (qkc BK386.out 0).trans rfl
      have hcz69_1 : wc.cell? ⟨gb386, 1, none⟩ = some (u387001) := (qkc BK386.out 1).trans rfl
      have hfz69_0 := qkf BK386.out 0
      have hfz69_1 := qkf BK386.out 1
      obtain ⟨Ao70, co70, eo70⟩ := Kd.S_slice HO_387001.out
      subst eo70
      go_wp2_with (first | ((with_reducible refine qgc (f := 6) rfl ?_); refine goesL_ (some 72) rfl rfl Tryd.func6 (by kernel_rfl) rfl #[.agg #[.string t393, .slice Ao70 x387001_2.length co70]] rfl (by (try simp only [List.map_toArray, List.map_cons, List.map_nil]); first | done | rfl | (simp only [List.length_drop, List.length_take]; rfl)) ?_; (with_reducible refine (barbicanref26_EncodeEntry.calls kj30 t393 _ _ x387001_2 t399 t402 _ ?side1 ?side2 A65.out).mono ?_); (case side1 => repeat (first | exact (Kd.S_reads' HO_387001.out).2.2 | (with_reducible refine Kd.C_alloc ?_ _) | (with_reducible refine Kd.C_drewN ?_ _) | (with_reducible refine Kd.C_drew ?_))); (case side2 => exact (Kd.S_reads' HO_387001.out).2.1); rintro e w71 ⟨v400, rfl, ho0, hb⟩; refine ⟨_, rfl, ?_⟩; have n0_ := Aside0.mk (Kd.S_below (by (with_reducible repeat (first | apply Kd.S_alloc | apply Kd.S_drewN | apply Kd.S_drew)); exact HO_387001.out) hb); have n1_ := Aside0.mk (Kd.V_elder' (kV_ HO_389000.out) (Kd.R_base ho0) hb); have n2_ := Aside0.mk (Kd.R_lower ho0 (qbz (bw_ HB.out))); have n3_ := Aside0.mk (qkb (g := gb384) (o := .cells #[.string x385000_2, .slice none 0 0] 24 (0, 0)) (bl_ BK384.out) hb); have n4_ := Aside0.mk (qkb (g := gb386) (o := .cells #[.string t393, .slice Ao70 x387001_2.length co70] 24 (0, 0)) (bl_ BK386.out) hb); have n5_ := Aside0.mk (qkb (g := gb388) (o := .cells #[u389000, .bool true] 60 (0, 0)) (bl_ BK388.out) hb); have n6_ := Aside0.mk (below_step (bw_ HB.out) hb); clear HO_387001; clear HO_389000; clear BK384; clear BK386; clear BK388; clear HB; have HO_387001 := n0_; have HO_389000 := n1_; have HO401 := n2_; have BK384 := n3_; have BK386 := n4_; have BK388 := n5_; have HB := n6_; clear n0_ n1_ n2_ n3_ n4_ n5_ n6_; (try clear hb); (try clear hb2); (try clear hk); (try clear hi); (try clear ho0); have hnb72 := NB388_384.out; have hnc72 := NB384_388.out; have hcz73_0 : w71.cell? ⟨gb388, 0, none⟩ = some (u389000) := (qkc BK388.out 0).trans rfl; have hcz73_1 : w71.cell? ⟨gb388, 1, none⟩ = some (.bool true) := (qkc BK388.out 1).trans rfl; have hfz73_0 := qkf BK388.out 0; have hfz73_1 := qkf BK388.out 1; have hcz74_0 : w71.cell? ⟨gb384, 0, none⟩ = some (.string x385000_2) := (qkc BK384.out 0).trans rfl; have hcz74_1 : w71.cell? ⟨gb384, 1, none⟩ = some (.slice none 0 0) := (qkc BK384.out 1).trans rfl; have hfz74_0 := qkf BK384.out 0; have hfz74_1 := qkf BK384.out 1))
      refine bodyPost_ret (results_ct rfl _ _ gb384 24 #[.string (⟨#[]⟩ : ByteArray), .slice none 0 0] (0, 0) _ rfl (by (with_reducible repeat (first | refine qkN ?_ _ | refine qkd ?_ | refine qka ?_ _)); refine qkp (cs := #[.string (⟨#[]⟩ : ByteArray), .slice none 0 0]) ?_ 1 _ rfl; (with_reducible repeat (first | refine qkN ?_ _ | refine qkd ?_ | refine qka ?_ _)); refine qkp (cs := #[.string x385000_2, .slice none 0 0]) ?_ 0 _ rfl; (with_reducible repeat (first | refine qkN ?_ _ | refine qkd ?_ | refine qka ?_ _)); exact BK384.out) Tryd.underlying24 rfl (by kernel_rfl)) rfl ?_
      exact ⟨_, by first | rfl | (simp [errW_none, errW_some] <;> rfl) | (simp [*, errW_none, errW_some] <;> rfl), by first | exact Kd.S_nil _ _ _ _ _ | exact Kd.N_nil _ _ _ _ _ | exact Kd.V_nil _ _ _ _ _ | exact Kd.Q_nil _ _ _ _ _ | exact Kd.R_nil _ _ _ _ _, bw_ HB.out⟩
     replace c66 := Bool.eq_false_iff.mpr c66
     subst c66
     rw [if_neg (show ¬ (false = true) by decide)] at H
     by_cases c75 : t402 = 0
     ·rw [if_pos c75] at H
      have c75b0 : (t402 == 0) = true := beq_iff_eq.mpr c75
      have c75b1 : (t402 != 0) = false := bne_eq_false_iff_eq.mpr c75
      clear c75
      by_cases c76 : (strOfNums t399).toList = (strOfNums l0).toList
      ·rw [if_pos c76] at H
       have c76b0 : ((strOfNums t399).toList == (strOfNums l0).toList) = true := beq_iff_eq.mpr c76
       have c76b1 : ((strOfNums t399).toList != (strOfNums l0).toList) = false := bne_eq_false_iff_eq.mpr c76
       clear c76
       simp only [Option.some.injEq, Prod.mk.injEq] at H
       obtain ⟨rfl, rfl, rfl⟩ := H
       have hnb77 := NB386_384.out
       have hnc77 := NB384_386.out
       have hnb78 := NB386_388.out
       have hnc78 := NB388_386.out
       have hcz79_0 : wc.cell? ⟨gb386, 0, none⟩ = some (.string t393) := (qkc BK386.out 0).trans rfl
       have hcz79_1 : wc.cell? ⟨gb386, 1, none⟩ = some (u387001) := (qkc BK386.out 1).trans rfl
       have hfz79_0 := qkf BK386.out 0
       have hfz79_1 := qkf BK386.out 1
       obtain ⟨Ao80, co80, eo80⟩ := Kd.S_slice HO_387001.out
       subst eo80
       go_wp2_with (first | ((with_reducible refine qgc (f := 6) rfl ?_); refine goesL_ (some 72) rfl rfl Tryd.func6 (by kernel_rfl) rfl #[.agg #[.string t393, .slice Ao80 x387001_2.length co80]] rfl (by (try simp only [List.map_toArray, List.map_cons, List.map_nil]); first | done | rfl | (simp only [List.length_drop, List.length_take]; rfl)) ?_; (with_reducible refine (barbicanref26_EncodeEntry.calls kj30 t393 _ _ x387001_2 t399 t402 _ ?side1 ?side2 A65.out).mono ?_); (case side1 => repeat (first | exact (Kd.S_reads' HO_387001.out).2.2 | (with_reducible refine Kd.C_alloc ?_ _) | (with_reducible refine Kd.C_drewN ?_ _) | (with_reducible refine Kd.C_drew ?_))); (case side2 => exact (Kd.S_reads' HO_387001.out).2.1); rintro e w81 ⟨v400, rfl, ho0, hb⟩; refine ⟨_, rfl, ?_⟩; have n0_ := Aside0.mk (Kd.S_below (by (with_reducible repeat (first | apply Kd.S_alloc | apply Kd.S_drewN | apply Kd.S_drew)); exact HO_387001.out) hb); have n1_ := Aside0.mk (Kd.V_elder' (kV_ HO_389000.out) (Kd.R_base ho0) hb); have n2_ := Aside0.mk (Kd.R_lower ho0 (qbz (bw_ HB.out))); have n3_ := Aside0.mk (qkb (g := gb384) (o := .cells #[.string x385000_2, .slice none 0 0] 24 (0, 0)) (bl_ BK384.out) hb); have n4_ := Aside0.mk (qkb (g := gb386) (o := .cells #[.string t393, .slice Ao80 x387001_2.length co80] 24 (0, 0)) (bl_ BK386.out) hb); have n5_ := Aside0.mk (qkb (g := gb388) (o := .cells #[u389000, .bool false] 60 (0, 0)) (bl_ BK388.out) hb); have n6_ := Aside0.mk (below_step (bw_ HB.out) hb); clear HO_387001; clear HO_389000; clear BK384; clear BK386; clear BK388; clear HB; have HO_387001 := n0_; have HO_389000 := n1_; have HO401 := n2_; have BK384 := n3_; have BK386 := n4_; have BK388 := n5_; have HB := n6_; clear n0_ n1_ n2_ n3_ n4_ n5_ n6_; (try clear hb); (try clear hb2); (try clear hk); (try clear hi); (try clear ho0); have hnb82 := NB388_384.out; have hnc82 := NB384_388.out; have hcz83_0 : w81.cell? ⟨gb388, 0, none⟩ = some (u389000) := (qkc BK388.out 0).trans rfl; have hcz83_1 : w81.cell? ⟨gb388, 1, none⟩ = some (.bool false) := (qkc BK388.out 1).trans rfl; have hfz83_0 := qkf BK388.out 0; have hfz83_1 := qkf BK388.out 1; have hcv84 := own_string (P := Tryd.prog) Tryd.underlying25 Tryd.underlying5 Tryd.underlying9 (Kd.own_of_R HO401.out); have hcv85 := Kd.C_string (P := Tryd.prog) (A := A0) (c := c0) Tryd.underlying25 Tryd.underlying5 Tryd.underlying9 (Kd.C_below HR0.out HB.out); have hcd85 := fun n_ : Nat => Kd.C_string (P := Tryd.prog) (A := A0) (c := c0) Tryd.underlying25 Tryd.underlying5 Tryd.underlying9 (Kd.C_drewN (Kd.C_below HR0.out HB.out) n_); have hcz86_0 : w81.cell? ⟨gb386, 0, none⟩ = some (.string t393) := (qkc BK386.out 0).trans rfl; have hcz86_1 : w81.cell? ⟨gb386, 1, none⟩ = some (.slice Ao80 x387001_2.length co80) := (qkc BK386.out 1).trans rfl; have hfz86_0 := qkf BK386.out 0; have hfz86_1 := qkf BK386.out 1; have hcz87_0 : w81.cell? ⟨gb384, 0, none⟩ = some (.string x385000_2) := (qkc BK384.out 0).trans rfl; have hcz87_1 : w81.cell? ⟨gb384, 1, none⟩ = some (.slice none 0 0) := (qkc BK384.out 1).trans rfl; have hfz87_0 := qkf BK384.out 0; have hfz87_1 := qkf BK384.out 1))
       refine bodyPost_ret (results_ct rfl _ _ gb384 24 #[.string t393, .slice Ao80 x387001_2.length co80] (0, 0) _ rfl (by (with_reducible repeat (first | refine qkN ?_ _ | refine qkd ?_ | refine qka ?_ _)); refine qkp (cs := #[.string t393, .slice none 0 0]) ?_ 1 _ rfl; (with_reducible repeat (first | refine qkN ?_ _ | refine qkd ?_ | refine qka ?_ _)); refine qkp (cs := #[.string x385000_2, .slice none 0 0]) ?_ 0 _ rfl; (with_reducible repeat (first | refine qkN ?_ _ | refine qkd ?_ | refine qka ?_ _)); exact BK384.out) Tryd.underlying24 rfl (by kernel_rfl)) rfl ?_
       exact ⟨_, by first | rfl | (simp [errW_none, errW_some] <;> rfl) | (simp [*, errW_none, errW_some] <;> rfl), by (with_reducible repeat (first | apply Kd.S_alloc | apply Kd.S_drewN | apply Kd.S_drew)); exact Kd.S_mono (Kd.S_far (p := ⟨gb384, 1, none⟩) (Kd.S_far (p := ⟨gb384, 0, none⟩) (Kd.S_types HO_387001.out BK384.out (by decide)) (fun _ hk => hk.2) (.string t393)) (fun _ hk => hk.2) (.slice Ao80 x387001_2.length co80)) (fun _ hk => trivial), bw_ HB.out⟩
      rw [if_neg c76] at H
      have c76b0 : ((strOfNums t399).toList == (strOfNums l0).toList) = false := beq_eq_false_iff_ne.mpr c76
      have c76b1 : ((strOfNums t399).toList != (strOfNums l0).toList) = true := bne_iff_ne.mpr c76
      simp only [Option.some.injEq, Prod.mk.injEq] at H
      obtain ⟨rfl, rfl, rfl⟩ := H
      have hnb88 := NB386_384.out
      have hnc88 := NB384_386.out
      have hnb89 := NB386_388.out
      have hnc89 := NB388_386.out
      have hcz90_0 : wc.cell? ⟨gb386, 0, none⟩ = some (.string t393) := (qkc BK386.out 0).trans rfl
      have hcz90_1 : wc.cell? ⟨gb386, 1, none⟩ = some (u387001) := (qkc BK386.out 1).trans rfl
      have hfz90_0 := qkf BK386.out 0
      have hfz90_1 := qkf BK386.out 1
      obtain ⟨Ao91, co91, eo91⟩ := Kd.S_slice HO_387001.out
      subst eo91
      go_wp2_with (first | ((with_reducible refine qgc (f := 6) rfl ?_); refine goesL_ (some 72) rfl rfl Tryd.func6 (by kernel_rfl) rfl #[.agg #[.string t393, .slice Ao91 x387001_2.length co91]] rfl (by (try simp only [List.map_toArray, List.map_cons, List.map_nil]); first | done | rfl | (simp only [List.length_drop, List.length_take]; rfl)) ?_; (with_reducible refine (barbicanref26_EncodeEntry.calls kj30 t393 _ _ x387001_2 t399 t402 _ ?side1 ?side2 A65.out).mono ?_); (case side1 => repeat (first | exact (Kd.S_reads' HO_387001.out).2.2 | (with_reducible refine Kd.C_alloc ?_ _) | (with_reducible refine Kd.C_drewN ?_ _) | (with_reducible refine Kd.C_drew ?_))); (case side2 => exact (Kd.S_reads' HO_387001.out).2.1); rintro e w92 ⟨v400, rfl, ho0, hb⟩; refine ⟨_, rfl, ?_⟩; have n0_ := Aside0.mk (Kd.S_below (by (with_reducible repeat (first | apply Kd.S_alloc | apply Kd.S_drewN | apply Kd.S_drew)); exact HO_387001.out) hb); have n1_ := Aside0.mk (Kd.V_elder' (kV_ HO_389000.out) (Kd.R_base ho0) hb); have n2_ := Aside0.mk (Kd.R_lower ho0 (qbz (bw_ HB.out))); have n3_ := Aside0.mk (qkb (g := gb384) (o := .cells #[.string x385000_2, .slice none 0 0] 24 (0, 0)) (bl_ BK384.out) hb); have n4_ := Aside0.mk (qkb (g := gb386) (o := .cells #[.string t393, .slice Ao91 x387001_2.length co91] 24 (0, 0)) (bl_ BK386.out) hb); have n5_ := Aside0.mk (qkb (g := gb388) (o := .cells #[u389000, .bool false] 60 (0, 0)) (bl_ BK388.out) hb); have n6_ := Aside0.mk (below_step (bw_ HB.out) hb); clear HO_387001; clear HO_389000; clear BK384; clear BK386; clear BK388; clear HB; have HO_387001 := n0_; have HO_389000 := n1_; have HO401 := n2_; have BK384 := n3_; have BK386 := n4_; have BK388 := n5_; have HB := n6_; clear n0_ n1_ n2_ n3_ n4_ n5_ n6_; (try clear hb); (try clear hb2); (try clear hk); (try clear hi); (try clear ho0); have hnb93 := NB388_384.out; have hnc93 := NB384_388.out; have hcz94_0 : w92.cell? ⟨gb388, 0, none⟩ = some (u389000) := (qkc BK388.out 0).trans rfl; have hcz94_1 : w92.cell? ⟨gb388, 1, none⟩ = some (.bool false) := (qkc BK388.out 1).trans rfl; have hfz94_0 := qkf BK388.out 0; have hfz94_1 := qkf BK388.out 1; have hcv95 := own_string (P := Tryd.prog) Tryd.underlying25 Tryd.underlying5 Tryd.underlying9 (Kd.own_of_R HO401.out); have hcv96 := Kd.C_string (P := Tryd.prog) (A := A0) (c := c0) Tryd.underlying25 Tryd.underlying5 Tryd.underlying9 (Kd.C_below HR0.out HB.out); have hcd96 := fun n_ : Nat => Kd.C_string (P := Tryd.prog) (A := A0) (c := c0) Tryd.underlying25 Tryd.underlying5 Tryd.underlying9 (Kd.C_drewN (Kd.C_below HR0.out HB.out) n_); have hcz97_0 : w92.cell? ⟨gb384, 0, none⟩ = some (.string x385000_2) := (qkc BK384.out 0).trans rfl; have hcz97_1 : w92.cell? ⟨gb384, 1, none⟩ = some (.slice none 0 0) := (qkc BK384.out 1).trans rfl; have hfz97_0 := qkf BK384.out 0; have hfz97_1 := qkf BK384.out 1))
      refine bodyPost_ret (results_ct rfl _ _ gb384 24 #[.string (⟨#[]⟩ : ByteArray), .slice none 0 0] (0, 0) _ rfl (by (with_reducible repeat (first | refine qkN ?_ _ | refine qkd ?_ | refine qka ?_ _)); refine qkp (cs := #[.string (⟨#[]⟩ : ByteArray), .slice none 0 0]) ?_ 1 _ rfl; (with_reducible repeat (first | refine qkN ?_ _ | refine qkd ?_ | refine qka ?_ _)); refine qkp (cs := #[.string x385000_2, .slice none 0 0]) ?_ 0 _ rfl; (with_reducible repeat (first | refine qkN ?_ _ | refine qkd ?_ | refine qka ?_ _)); exact BK384.out) Tryd.underlying24 rfl (by kernel_rfl)) rfl ?_
      exact ⟨_, by first | rfl | (simp [errW_none, errW_some] <;> rfl) | (simp [*, errW_none, errW_some] <;> rfl), by first | exact Kd.S_nil _ _ _ _ _ | exact Kd.N_nil _ _ _ _ _ | exact Kd.V_nil _ _ _ _ _ | exact Kd.Q_nil _ _ _ _ _ | exact Kd.R_nil _ _ _ _ _, bw_ HB.out⟩
     rw [if_neg c75] at H
     have c75b0 : (t402 == 0) = false := beq_eq_false_iff_ne.mpr c75
     have c75b1 : (t402 != 0) = true := bne_iff_ne.mpr c75
     simp only [Option.some.injEq, Prod.mk.injEq] at H
     obtain ⟨rfl, rfl, rfl⟩ := H
     have hnb98 := NB386_384.out
     have hnc98 := NB384_386.out
     have hnb99 := NB386_388.out
     have hnc99 := NB388_386.out
     have hcz100_0 : wc.cell? ⟨gb386, 0, none⟩ = some (.string t393) := (qkc BK386.out 0).trans rfl
     have hcz100_1 : wc.cell? ⟨gb386, 1, none⟩ = some (u387001) := (qkc BK386.out 1).trans rfl
     have hfz100_0 := qkf BK386.out 0
     have hfz100_1 := qkf BK386.out 1
     obtain ⟨Ao101, co101, eo101⟩ := Kd.S_slice HO_387001.out
     subst eo101
     go_wp2_with (first | ((with_reducible refine qgc (f := 6) rfl ?_); refine goesL_ (some 72) rfl rfl Tryd.func6 (by kernel_rfl) rfl #[.agg #[.string t393, .slice Ao101 x387001_2.length co101]] rfl (by (try simp only [List.map_toArray, List.map_cons, List.map_nil]); first | done | rfl | (simp only [List.length_drop, List.length_take]; rfl)) ?_; (with_reducible refine (barbicanref26_EncodeEntry.calls kj30 t393 _ _ x387001_2 t399 t402 _ ?side1 ?side2 A65.out).mono ?_); (case side1 => repeat (first | exact (Kd.S_reads' HO_387001.out).2.2 | (with_reducible refine Kd.C_alloc ?_ _) | (with_reducible refine Kd.C_drewN ?_ _) | (with_reducible refine Kd.C_drew ?_))); (case side2 => exact (Kd.S_reads' HO_387001.out).2.1); rintro e w102 ⟨v400, rfl, ho0, hb⟩; refine ⟨_, rfl, ?_⟩; have n0_ := Aside0.mk (Kd.S_below (by (with_reducible repeat (first | apply Kd.S_alloc | apply Kd.S_drewN | apply Kd.S_drew)); exact HO_387001.out) hb); have n1_ := Aside0.mk (Kd.V_elder' (kV_ HO_389000.out) (Kd.R_base ho0) hb); have n2_ := Aside0.mk (Kd.R_lower ho0 (qbz (bw_ HB.out))); have n3_ := Aside0.mk (qkb (g := gb384) (o := .cells #[.string x385000_2, .slice none 0 0] 24 (0, 0)) (bl_ BK384.out) hb); have n4_ := Aside0.mk (qkb (g := gb386) (o := .cells #[.string t393, .slice Ao101 x387001_2.length co101] 24 (0, 0)) (bl_ BK386.out) hb); have n5_ := Aside0.mk (qkb (g := gb388) (o := .cells #[u389000, .bool false] 60 (0, 0)) (bl_ BK388.out) hb); have n6_ := Aside0.mk (below_step (bw_ HB.out) hb); clear HO_387001; clear HO_389000; clear BK384; clear BK386; clear BK388; clear HB; have HO_387001 := n0_; have HO_389000 := n1_; have HO401 := n2_; have BK384 := n3_; have BK386 := n4_; have BK388 := n5_; have HB := n6_; clear n0_ n1_ n2_ n3_ n4_ n5_ n6_; (try clear hb); (try clear hb2); (try clear hk); (try clear hi); (try clear ho0); have hnb103 := NB388_384.out; have hnc103 := NB384_388.out; have hcz104_0 : w102.cell? ⟨gb388, 0, none⟩ = some (u389000) := (qkc BK388.out 0).trans rfl; have hcz104_1 : w102.cell? ⟨gb388, 1, none⟩ = some (.bool false) := (qkc BK388.out 1).trans rfl; have hfz104_0 := qkf BK388.out 0; have hfz104_1 := qkf BK388.out 1; have hcz105_0 : w102.cell? ⟨gb384, 0, none⟩ = some (.string x385000_2) := (qkc BK384.out 0).trans rfl; have hcz105_1 : w102.cell? ⟨gb384, 1, none⟩ = some (.slice none 0 0) := (qkc BK384.out 1).trans rfl; have hfz105_0 := qkf BK384.out 0; have hfz105_1 := qkf BK384.out 1))
     refine bodyPost_ret (results_ct rfl _ _ gb384 24 #[.string (⟨#[]⟩ : ByteArray), .slice none 0 0] (0, 0) _ rfl (by (with_reducible repeat (first | refine qkN ?_ _ | refine qkd ?_ | refine qka ?_ _)); refine qkp (cs := #[.string (⟨#[]⟩ : ByteArray), .slice none 0 0]) ?_ 1 _ rfl; (with_reducible repeat (first | refine qkN ?_ _ | refine qkd ?_ | refine qka ?_ _)); refine qkp (cs := #[.string x385000_2, .slice none 0 0]) ?_ 0 _ rfl; (with_reducible repeat (first | refine qkN ?_ _ | refine qkd ?_ | refine qka ?_ _)); exact BK384.out) Tryd.underlying24 rfl (by kernel_rfl)) rfl ?_
     exact ⟨_, by first | rfl | (simp [errW_none, errW_some] <;> rfl) | (simp [*, errW_none, errW_some] <;> rfl), by first | exact Kd.S_nil _ _ _ _ _ | exact Kd.N_nil _ _ _ _ _ | exact Kd.V_nil _ _ _ _ _ | exact Kd.Q_nil _ _ _ _ _ | exact Kd.R_nil _ _ _ _ _, bw_ HB.out⟩

/-! ### EXT barbicanlaw26_num: function 9 -/
def barbicanlaw26_num.f (a0 : Option Int) : Option Int := some (a0.getD 0)
theorem barbicanlaw26_num.calls (a0 : Option Int) (r : Int) (w : World) (hG : GW w) (h : barbicanlaw26_num.f a0 = some r) :
  Calls Tryd.prog 9 #[errW a0] w fun e w' => e = .returned (.int .i64 r) ∧ Below w.heap.size w w' := by
 obtain rfl := Option.some.inj h
 have hu := Tryd.underlying43
 have hu2 := Tryd.underlying27
 cases a0 with
 | none =>
  simp only [errW_none]
  go_enter Tryd.func9, Tryd.ntmps9
  go_wp2
  go_ret
  exact ⟨rfl, below_alloc (Below.refl _ _) _⟩
 | some c =>
  simp only [errW_some]
  have hg : (w.alloc (.cells #[.int .i64 0] 43)).cell? ⟨0, 0, none⟩ = some (.iface 110 (.agg #[.pointer (some ⟨2, 27, none⟩)])) := by
   rw [World.cell?_alloc_lt _ _ ⟨0, 0, none⟩ (World.block_lt_of_cell? w _ hG.e)]; exact hG.e
  have C := fun ht hf => as_hit c ⟨w.heap.size, 0, none⟩ (.int .i64 0) (w.alloc (.cells #[.int .i64 0] 43)) hg ht hf
  go_enter Tryd.func9, Tryd.ntmps9
  go_wp2_with (go_at_call 26; refine (C (by simp) (by simp)).mono ?_; rintro e w' ⟨rfl, rfl⟩)
  go_ret
  refine ⟨rfl, ?_⟩
  repeat (first | exact Below.refl _ _ | apply below_alloc | refine Below.setCell ?_ (Nat.le_refl _) _)

/-! ### barbicanlaw26_values: function 27 -/
def barbicanlaw26_values.l0 : Nat → List (S72) → List (S72) → Int → Option (Bool)
 | 0, _, _, _ => none
 | k + 1, x0, x1, x5 => if x5 < (x0.length : Int) then (if 0 ≤ x5 then (if x5 < (x1.length : Int) then (if (!(((rd_T72 x0 x5).f0) == ((rd_T72 x1 x5).f0)) || (!(((rd_T72 x0 x5).f1) == ((rd_T72 x1 x5).f1)) || (!((((rd_T72 x0 x5).f2).toList) == (((rd_T72 x1 x5).f2).toList)) || (!(((rd_T72 x0 x5).f3) == ((rd_T72 x1 x5).f3)))))) = true then (some false) else (barbicanlaw26_values.l0 k x0 x1 (wrap64 (x5 + 1)))) else (none)) else (none)) else (some true)
def barbicanlaw26_values.f (k : Nat) (l0 : List (S72)) (l1 : List (S72)) : Option (Bool) := if (l0.length : Int) = (l1.length : Int) then (barbicanlaw26_values.l0 k l0 l1 0) else (some false)
set_option maxHeartbeats 8000000 in
set_option maxRecDepth 100000 in
theorem barbicanlaw26_values.calls (k : Nat) (A0 : Option Addr) (c0 : Nat) (l0 : List (S72)) (A1 : Option Addr) (c1 : Nat) (l1 : List (S72)) (r : Bool) (w : World) (hr0 : Kd.C k72 w A0 l0.length l0) (hc0 : l0.length ≤ c0) (hr1 : Kd.C k72 w A1 l1.length l1) (hc1 : l1.length ≤ c1) (h : barbicanlaw26_values.f k l0 l1 = some r) :
  Calls Tryd.prog 27 #[.slice A0 l0.length c0, .slice A1 l1.length c1] w fun e w' => e = .returned (.bool r) ∧ Drawn0 w w' := by
 have hu72 := Tryd.underlying72
 have HR0 := Aside0.mk hr0
 have HC0 := Aside0.mk hc0
 clear hr0 hc0
 have HR1 := Aside0.mk hr1
 have HC1 := Aside0.mk hc1
 clear hr1 hc1
 have H : (if (l0.length : Int) = (l1.length : Int) then (barbicanlaw26_values.l0 k l0 l1 0) else (some false)) = some r := h
 clear h
 by_cases c3 : (l0.length : Int) = (l1.length : Int)
 ·rw [if_pos c3] at H
  have c3b0 : ((l0.length : Int) == (l1.length : Int)) = true := beq_iff_eq.mpr c3
  have c3b1 : ((l0.length : Int) != (l1.length : Int)) = false := bne_eq_false_iff_eq.mpr c3
  have c3b2 : (l0.length == l1.length) = true := by first | simpa using c3 | (simp at c3 ⊢; omega)
  clear c3
  have H' := Aside0.mk H
  clear H
  go_enter Tryd.func27, Tryd.ntmps27
  go_wp2
  repeat (go_quiet (fail); try go_wp2)
  go_loopg [5] k (fun kq v5 w' => ∃ (x5_1 : Int), v5 = .int .i64 x5_1 ∧ Aside0 (barbicanlaw26_values.l0 kq l0 l1 x5_1 = some r) ∧ Aside0 (kq ≤ k) ∧ Drawn0 w w')
  case atStart => exact ⟨(0), (by first | rfl | (simp; done) | (simp [*]; done) | (simp [bne]; done)), H', ⟨Nat.le_refl _⟩, by repeat (first | exact Drawn0.refl _ | apply Drawn0.step)⟩
  case round =>
   clear H'
   (try clear c1); (try clear c2); (try clear p2); (try clear c3); (try clear c3b0); (try clear c3b1); (try clear c3b2)
   obtain ⟨x5_1, rfl, HA, HK1, ⟨m1, rfl⟩⟩ := hrel
   cases gk with
   | zero => exact absurd HA.out (by simp [barbicanlaw26_values.l0])
   | succ k1 =>
    have H := HA.out
    clear HA
    simp only [barbicanlaw26_values.l0] at H
    by_cases c4 : x5_1 < (l0.length : Int)
    ·rw [if_pos c4] at H
     have c4b0 : decide (x5_1 < (l0.length : Int)) = true := decide_eq_true c4
     clear c4
     have c5 : 0 ≤ x5_1 := Classical.byContradiction fun c5 => by rw [if_neg c5] at H; exact absurd H (by simp)
     rw [if_pos c5] at H
     have c5b0 : decide (0 ≤ x5_1) = true := decide_eq_true c5
     clear c5
     have c6 : x5_1 < (l1.length : Int) := Classical.byContradiction fun c6 => by rw [if_neg c6] at H; exact absurd H (by simp)
     rw [if_pos c6] at H
     have c6b0 : decide (x5_1 < (l1.length : Int)) = true := decide_eq_true c6
     clear c6
     by_cases c7 : (!(((rd_T72 l0 x5_1).f0) == ((rd_T72 l1 x5_1).f0)) || (!(((rd_T72 l0 x5_1).f1) == ((rd_T72 l1 x5_1).f1)) || (!((((rd_T72 l0 x5_1).f2).toList) == (((rd_T72 l1 x5_1).f2).toList)) || (!(((rd_T72 l0 x5_1).f3) == ((rd_T72 l1 x5_1).f3)))))) = true
     ·rw [if_pos c7] at H
      have c7b0 : (!(((rd_T72 l0 x5_1).f0) == ((rd_T72 l1 x5_1).f0)) || (!(((rd_T72 l0 x5_1).f1) == ((rd_T72 l1 x5_1).f1)) || (!((((rd_T72 l0 x5_1).f2).toList) == (((rd_T72 l1 x5_1).f2).toList)) || (!(((rd_T72 l0 x5_1).f3) == ((rd_T72 l1 x5_1).f3)))))) = true := c7
      clear c7
      obtain rfl := Option.some.inj H
      have p415 : 0 ≤ (x5_1 : Int) := ode_
      have q415 : x5_1 < (l0.length : Int) := ode_
      obtain ⟨ad415, e415, hx415_0, hx415_1, hx415_2, hx415_3⟩ := at_T72 HR0.out x5_1 p415 q415
      cases e415
      replace p415 := eq_true p415
      replace q415 := eq_true q415
      have p416 : 0 ≤ (x5_1 : Int) := ode_
      have q416 : x5_1 < (l1.length : Int) := ode_
      obtain ⟨ad416, e416, hx416_0, hx416_1, hx416_2, hx416_3⟩ := at_T72 HR1.out x5_1 p416 q416
      cases e416
      replace p416 := eq_true p416
      replace q416 := eq_true q416
      go_wp2
      repeat (go_quiet (fail); try go_wp2)
      go_ret
      exact ⟨by first | rfl | (simp; done) | (simp [*]; done) | (simp [bne]; done), by repeat (first | exact Drawn0.refl _ | apply Drawn0.step)⟩
     rw [if_neg c7] at H
     have c7b0 : (!(((rd_T72 l0 x5_1).f0) == ((rd_T72 l1 x5_1).f0)) || (!(((rd_T72 l0 x5_1).f1) == ((rd_T72 l1 x5_1).f1)) || (!((((rd_T72 l0 x5_1).f2).toList) == (((rd_T72 l1 x5_1).f2).toList)) || (!(((rd_T72 l0 x5_1).f3) == ((rd_T72 l1 x5_1).f3)))))) = false := by simpa using c7
     clear c7
     have H' := Aside0.mk H
     clear H
     have p415 : 0 ≤ (x5_1 : Int) := ode_
     have q415 : x5_1 < (l0.length : Int) := ode_
     obtain ⟨ad415, e415, hx415_0, hx415_1, hx415_2, hx415_3⟩ := at_T72 HR0.out x5_1 p415 q415
     cases e415
     replace p415 := eq_true p415
     replace q415 := eq_true q415
     have p416 : 0 ≤ (x5_1 : Int) := ode_
     have q416 : x5_1 < (l1.length : Int) := ode_
     obtain ⟨ad416, e416, hx416_0, hx416_1, hx416_2, hx416_3⟩ := at_T72 HR1.out x5_1 p416 q416
     cases e416
     replace p416 := eq_true p416
     replace q416 := eq_true q416
     go_wp2
     repeat (go_quiet (fail); try go_wp2)
     go_roundg k1
     case measure => have := HK1.out; omega
     case rel => exact ⟨(wrap64 (x5_1 + 1)), (by first | rfl | (simp; done) | (simp [*]; done) | (simp [bne]; done)), H', ⟨by have := HK1.out; omega⟩, by repeat (first | exact Drawn0.refl _ | apply Drawn0.step)⟩
    rw [if_neg c4] at H
    have c4b0 : decide (x5_1 < (l0.length : Int)) = false := decide_eq_false c4
    clear c4
    obtain rfl := Option.some.inj H
    go_wp2
    repeat (go_quiet (fail); try go_wp2)
    go_ret
    exact ⟨by first | rfl | (simp; done) | (simp [*]; done) | (simp [bne]; done), by repeat (first | exact Drawn0.refl _ | apply Drawn0.step)⟩
 rw [if_neg c3] at H
 have c3b0 : ((l0.length : Int) == (l1.length : Int)) = false := beq_eq_false_iff_ne.mpr c3
 have c3b1 : ((l0.length : Int) != (l1.length : Int)) = true := bne_iff_ne.mpr c3
 have c3b2 : (l0.length == l1.length) = false := by first | simpa using c3 | (simp at c3 ⊢; omega)
 obtain rfl := Option.some.inj H
 go_enter Tryd.func27, Tryd.ntmps27
 go_wp2
 repeat (go_quiet (fail); try go_wp2)
 go_ret
 exact ⟨by first | rfl | (simp; done) | (simp [*]; done) | (simp [bne]; done), by repeat (first | exact Drawn0.refl _ | apply Drawn0.step)⟩

end Go.Proofs.YtddkbhglbkfelaaDoor.E
