import Derived.Test.YtddkbhglbkfelaaGreatDoorPkTx0
import Derived.Test.YtddkbhglbkfelaaGreatDoorPkTx1
import Derived.Test.YtddkbhglbkfelaaGreatDoorPkTx4
namespace Go.Proofs.YtddkbhglbkfelaaGreatDoor.T
open Go.RowKit Go.Proofs.YtddkbhglbkfelaaGreatDoorW.PrintWords Go.Proofs.YtddkbhglbkfelaaGreatDoorW.PrintLast Go.Proofs.YtddkbhglbkfelaaGreatDoorW.PrintMore Go.Proofs.YtddkbhglbkfelaaGreatDoorX
attribute [local go_sem] max2_int min2_int max_two min_two max_three min_three max_four min_four
set_option linter.unusedVariables false
set_option linter.unusedSimpArgs false

attribute [local go_sem high] eqA63
/-! ### value_Valid: function 68 -/
mutual
def value_Valid.j0 : Nat → Int → Int → ByteArray → Bool → Int → Int → ByteArray → Bool → Option (Option Int)
 | 0, _, _, _, _, _, _, _, _ => none
 | k + 1, x135000, x135001, x135002, x135003, x136000, x136001, x136002, x136003 => (value_Kind.f x135000).bind fun t136 => (if t136.toList = ([] : List UInt8) then (value_Valid.j1 k true x135000 x135001 x135002 x135003) else (value_Valid.j1 k (!(x136000 == x135000) || (!(x136001 == 0) || (!(x136002.toList == ([] : List UInt8)) || (x136003)))) x135000 x135001 x135002 x135003))
def value_Valid.j1 : Nat → Bool → Int → Int → ByteArray → Bool → Option (Option Int)
 | 0, _, _, _, _, _ => none
 | k + 1, x16, x135000, x135001, x135002, x135003 => if x16 = true then (some (some 3)) else (if (x135002.size : Int) > 4096 then (some (some 2)) else ((strings_IndexFunc_Valid.f x135002).bind fun t137 => (if t137 ≥ 0 then (some (some 3)) else (some none))))
end
def value_Valid.f (k : Nat) (a0_0 : Int) (a0_1 : Int) (a0_2 : ByteArray) (a0_3 : Bool) : Option (Option Int) := if a0_0 = 1 then (value_Valid.j0 k a0_0 a0_1 a0_2 a0_3 a0_0 0 a0_2 a0_3) else (if a0_0 = 2 then (value_Valid.j0 k a0_0 a0_1 a0_2 a0_3 a0_0 a0_1 (⟨#[]⟩ : ByteArray) a0_3) else (if a0_0 = 3 then (value_Valid.j0 k a0_0 a0_1 a0_2 a0_3 a0_0 a0_1 a0_2 false) else (value_Valid.j0 k a0_0 a0_1 a0_2 a0_3 a0_0 a0_1 a0_2 a0_3)))
theorem value_Valid.mono_l : ∀ k, (∀ y0 y1 y2 y3 y4 y5 y6 y7, LeO (value_Valid.j0 k y0 y1 y2 y3 y4 y5 y6 y7) (value_Valid.j0 (k + 1) y0 y1 y2 y3 y4 y5 y6 y7)) ∧ (∀ y0 y1 y2 y3 y4, LeO (value_Valid.j1 k y0 y1 y2 y3 y4) (value_Valid.j1 (k + 1) y0 y1 y2 y3 y4))
 | 0 => ⟨fun _ _ _ _ _ _ _ _ r h => by simp [value_Valid.j0] at h, fun _ _ _ _ _ r h => by simp [value_Valid.j1] at h⟩
 | k + 1 => by
  obtain ⟨ih0, ih1⟩ := value_Valid.mono_l k
  refine ⟨?_, ?_⟩
  ·intro y0 y1 y2 y3 y4 y5 y6 y7
   unfold value_Valid.j0
   repeat' first
   | (with_reducible exact ih0 _ _ _ _ _ _ _ _)
   | (with_reducible exact ih1 _ _ _ _ _)
   | (with_reducible exact LeO.refl _)
   | (with_reducible exact LeO.none _)
   | (with_reducible refine LeO.ite ?_ ?_)
   | (with_reducible refine LeO.bind ?_ (fun _ => ?_))
   | exact ih0 _ _ _ _ _ _ _ _
   | exact ih1 _ _ _ _ _
   | exact LeO.none _
   | refine LeO.ite ?_ ?_
   | refine LeO.bind ?_ (fun _ => ?_)
  intro y0 y1 y2 y3 y4
  unfold value_Valid.j1
  repeat' first
  | (with_reducible exact ih0 _ _ _ _ _ _ _ _)
  | (with_reducible exact ih1 _ _ _ _ _)
  | (with_reducible exact LeO.refl _)
  | (with_reducible exact LeO.none _)
  | (with_reducible refine LeO.ite ?_ ?_)
  | (with_reducible refine LeO.bind ?_ (fun _ => ?_))
  | exact ih0 _ _ _ _ _ _ _ _
  | exact ih1 _ _ _ _ _
  | exact LeO.none _
  | refine LeO.ite ?_ ?_
  | refine LeO.bind ?_ (fun _ => ?_)
theorem value_Valid.mono : ∀ a0 a1 a2 a3 k, LeO (value_Valid.f k a0 a1 a2 a3) (value_Valid.f (k + 1) a0 a1 a2 a3) := by
 intro a0 a1 a2 a3 k
 obtain ⟨ih0, ih1⟩ := value_Valid.mono_l k
 unfold value_Valid.f
 repeat' first
   | (with_reducible exact ih0 _ _ _ _ _ _ _ _)
   | (with_reducible exact ih1 _ _ _ _ _)
   | (with_reducible exact LeO.refl _)
   | (with_reducible exact LeO.none _)
   | (with_reducible refine LeO.ite ?_ ?_)
   | (with_reducible refine LeO.bind ?_ (fun _ => ?_))
   | exact ih0 _ _ _ _ _ _ _ _
   | exact ih1 _ _ _ _ _
   | exact LeO.none _
   | refine LeO.ite ?_ ?_
   | refine LeO.bind ?_ (fun _ => ?_)
set_option maxHeartbeats 8000000 in
set_option maxRecDepth 100000 in
theorem value_Valid.calls (k : Nat) (a0_0 : Int) (a0_1 : Int) (a0_2 : ByteArray) (a0_3 : Bool) (r : Option Int) (w : World) (h : value_Valid.f k a0_0 a0_1 a0_2 a0_3 = some r) :
  Calls Tryz.prog 68 #[.agg #[.int .i64 a0_0, .int .i64 a0_1, .string a0_2, .bool a0_3]] w fun e w' => e = .returned (errW r) ∧ Below w.heap.size w w' := by
 have hu63 := Tryz.underlying63
 have hu32 := Tryz.underlying32
 have hu65 := Tryz.underlying65
 have HB := Aside0.mk (Below.refl w.heap.size w)
 have H : (if a0_0 = 1 then (value_Valid.j0 k a0_0 a0_1 a0_2 a0_3 a0_0 0 a0_2 a0_3) else (if a0_0 = 2 then (value_Valid.j0 k a0_0 a0_1 a0_2 a0_3 a0_0 a0_1 (⟨#[]⟩ : ByteArray) a0_3) else (if a0_0 = 3 then (value_Valid.j0 k a0_0 a0_1 a0_2 a0_3 a0_0 a0_1 a0_2 false) else (value_Valid.j0 k a0_0 a0_1 a0_2 a0_3 a0_0 a0_1 a0_2 a0_3)))) = some r := h
 clear h
 have HC2 := Aside0.mk H
 clear H
 go_enter Tryz.func68, Tryz.ntmps68
 go_upto_block 0 with (first | ((with_reducible refine qgd (N := 1) rfl ?_); refine qbe ?hg (N := 1) ?hd (cs := #[.int .i64 a0_0, .int .i64 a0_1, .string a0_2, .bool a0_3]) (t := 63) ?hr ?_; (case hd => rfl); (case hg => rfl); (case hr => first | (go_simp; done) | (go_simp; rfl)); intro gb134 hg w3 hbox hb; have n0_ := Aside0.mk (below_step (bw_ HB.out) hb); have n1_ := Aside0.mk (hbox); have n2_ := Aside0.mk ((by rw [hg]; exact (qbz (bw_ HB.out)) : w.heap.size ≤ gb134)); have n3_ := Aside0.mk ((by rw [hg]; exact (qbz (bw_ HB.out)) : w.heap.size ≤ gb134)); clear HB; have HB := n0_; have BK134 := n1_; have GW134 := n2_; have GE134 := n3_; clear n0_ n1_ n2_ n3_; clear hb hbox hg; have hcz4_0 : w3.cell? ⟨gb134, 0, none⟩ = some (.int .i64 a0_0) := (qkc BK134.out 0).trans rfl; have hcz4_1 : w3.cell? ⟨gb134, 1, none⟩ = some (.int .i64 a0_1) := (qkc BK134.out 1).trans rfl; have hcz4_2 : w3.cell? ⟨gb134, 2, none⟩ = some (.string a0_2) := (qkc BK134.out 2).trans rfl; have hcz4_3 : w3.cell? ⟨gb134, 3, none⟩ = some (.bool a0_3) := (qkc BK134.out 3).trans rfl; have hfz4_0 := qkf BK134.out 0; have hfz4_1 := qkf BK134.out 1; have hfz4_2 := qkf BK134.out 2; have hfz4_3 := qkf BK134.out 3) | ((with_reducible refine qgd (N := 3) rfl ?_); refine qbe ?hg (N := 3) ?hd (cs := #[.int .i64 0, .int .i64 0, .string (⟨#[]⟩ : ByteArray), .bool false]) (t := 63) ?hr ?_; (case hd => rfl); (case hg => rfl); (case hr => first | (go_simp; done) | (go_simp; rfl)); intro gb135 hg w5 hbox hb; have n0_ := Aside0.mk (qkb (g := gb134) (o := .cells #[.int .i64 a0_0, .int .i64 a0_1, .string a0_2, .bool a0_3] 63 (0, 0)) (bl_ BK134.out) hb); have n1_ := Aside0.mk (below_step (bw_ HB.out) hb); have n2_ := Aside0.mk (hbox); have n3_ := Aside0.mk ((by rw [hg]; exact (qbz (bw_ HB.out)) : w.heap.size ≤ gb135)); have n4_ := Aside0.mk ((by rw [hg]; exact (qbz (bw_ HB.out)) : w.heap.size ≤ gb135)); have n5_ := Aside0.mk ((by rw [hg]; exact Nat.ne_of_lt (blk_lt (g := gb134) (o := .cells #[.int .i64 a0_0, .int .i64 a0_1, .string a0_2, .bool a0_3] 63 (0, 0)) (bl_ BK134.out)) : gb134 ≠ gb135)); have n6_ := Aside0.mk ((by rw [hg]; exact Nat.ne_of_gt (blk_lt (g := gb134) (o := .cells #[.int .i64 a0_0, .int .i64 a0_1, .string a0_2, .bool a0_3] 63 (0, 0)) (bl_ BK134.out)) : gb135 ≠ gb134)); clear BK134; clear HB; have BK134 := n0_; have HB := n1_; have BK135 := n2_; have GW135 := n3_; have GE135 := n4_; have NB134_135 := n5_; have NB135_134 := n6_; clear n0_ n1_ n2_ n3_ n4_ n5_ n6_; clear hb hbox hg; have hnb6 := NB135_134.out; have hnc6 := NB134_135.out; have hcz7_0 : w5.cell? ⟨gb135, 0, none⟩ = some (.int .i64 0) := (qkc BK135.out 0).trans rfl; have hcz7_1 : w5.cell? ⟨gb135, 1, none⟩ = some (.int .i64 0) := (qkc BK135.out 1).trans rfl; have hcz7_2 : w5.cell? ⟨gb135, 2, none⟩ = some (.string (⟨#[]⟩ : ByteArray)) := (qkc BK135.out 2).trans rfl; have hcz7_3 : w5.cell? ⟨gb135, 3, none⟩ = some (.bool false) := (qkc BK135.out 3).trans rfl; have hfz7_0 := qkf BK135.out 0; have hfz7_1 := qkf BK135.out 1; have hfz7_2 := qkf BK135.out 2; have hfz7_3 := qkf BK135.out 3; have hcz8_0 : w5.cell? ⟨gb134, 0, none⟩ = some (.int .i64 a0_0) := (qkc BK134.out 0).trans rfl; have hcz8_1 : w5.cell? ⟨gb134, 1, none⟩ = some (.int .i64 a0_1) := (qkc BK134.out 1).trans rfl; have hcz8_2 : w5.cell? ⟨gb134, 2, none⟩ = some (.string a0_2) := (qkc BK134.out 2).trans rfl; have hcz8_3 : w5.cell? ⟨gb134, 3, none⟩ = some (.bool a0_3) := (qkc BK134.out 3).trans rfl; have hfz8_0 := qkf BK134.out 0; have hfz8_1 := qkf BK134.out 1; have hfz8_2 := qkf BK134.out 2; have hfz8_3 := qkf BK134.out 3))
 (try simp only [Act.put, List.setIfInBounds_toArray, List.set_cons_zero, List.set_cons_succ])
 go_cut [] (fun wc => ∃ (kq : Nat) (x136001_1 : Int) (x136002_1 : ByteArray) (x136003_1 : Bool), Aside0 (value_Valid.j0 kq a0_0 a0_1 a0_2 a0_3 a0_0 x136001_1 x136002_1 x136003_1 = some r) ∧ Aside0 (kq ≤ k) ∧ Aside0 (wc.heap[gb134]? = some (.cells #[.int .i64 a0_0, .int .i64 a0_1, .string a0_2, .bool a0_3] 63 (0, 0))) ∧ Aside0 (wc.heap[gb135]? = some (.cells #[.int .i64 a0_0, .int .i64 x136001_1, .string x136002_1, .bool x136003_1] 63 (0, 0))) ∧ Aside0 (Below w.heap.size w wc))
 case first =>
  have H := HC2.out
  clear HC2
  by_cases c9 : a0_0 = 1
  ·rw [if_pos c9] at H
   have ⟨c9b0, c9b1⟩ := eqT c9
   clear c9
   (first | rw [c9b0] | (simp only [i64_w, i32_w]; rw [c9b0]) | skip)
   have H' := Aside0.mk H
   clear H
   have hnb10 := NB135_134.out
   have hnc10 := NB134_135.out
   obtain ⟨hcz11_0, hcz11_1, hcz11_2, hcz11_3, hfz11_0, hfz11_1, hfz11_2, hfz11_3⟩ := zf4_ BK135
   go_wp2
   refine Met.intro ?_
   go_step
   (repeat apply Exists.intro)
   refine ⟨?rel, ?frm⟩
   case frm => first | rfl | (simp only [c9b0, c9b1]; first | done | rfl)
   case rel => exact ⟨_, (0), (a0_2), (a0_3), H', ⟨by first | omega | exact Nat.le_refl _⟩, ⟨bp_ BK134⟩, ⟨bp_ BK135⟩, ⟨bw_ HB.out⟩⟩
  rw [if_neg c9] at H
  have ⟨c9b0, c9b1⟩ := eqF c9
  (first | rw [c9b0] | (simp only [i64_w, i32_w]; rw [c9b0]) | skip)
  by_cases c12 : a0_0 = 2
  ·rw [if_pos c12] at H
   have ⟨c12b0, c12b1⟩ := eqT c12
   clear c12
   have H' := Aside0.mk H
   clear H
   have hnb13 := NB135_134.out
   have hnc13 := NB134_135.out
   obtain ⟨hcz14_0, hcz14_1, hcz14_2, hcz14_3, hfz14_0, hfz14_1, hfz14_2, hfz14_3⟩ := zf4_ BK135
   go_wp2
   refine Met.intro ?_
   go_step
   (repeat apply Exists.intro)
   refine ⟨?rel, ?frm⟩
   case frm => first | rfl | (simp only [c9b0, c9b1, c12b0, c12b1]; first | done | rfl)
   case rel => exact ⟨_, (a0_1), ((⟨#[]⟩ : ByteArray)), (a0_3), H', ⟨by first | omega | exact Nat.le_refl _⟩, ⟨bp_ BK134⟩, ⟨bp_ BK135⟩, ⟨bw_ HB.out⟩⟩
  rw [if_neg c12] at H
  have ⟨c12b0, c12b1⟩ := eqF c12
  by_cases c15 : a0_0 = 3
  ·rw [if_pos c15] at H
   have ⟨c15b0, c15b1⟩ := eqT c15
   clear c15
   have H' := Aside0.mk H
   clear H
   have hnb16 := NB135_134.out
   have hnc16 := NB134_135.out
   obtain ⟨hcz17_0, hcz17_1, hcz17_2, hcz17_3, hfz17_0, hfz17_1, hfz17_2, hfz17_3⟩ := zf4_ BK135
   go_wp2
   refine Met.intro ?_
   go_step
   (repeat apply Exists.intro)
   refine ⟨?rel, ?frm⟩
   case frm => first | rfl | (simp only [c9b0, c9b1, c12b0, c12b1, c15b0, c15b1]; first | done | rfl)
   case rel => exact ⟨_, (a0_1), (a0_2), (false), H', ⟨by first | omega | exact Nat.le_refl _⟩, ⟨bp_ BK134⟩, ⟨bp_ BK135⟩, ⟨bw_ HB.out⟩⟩
  rw [if_neg c15] at H
  have ⟨c15b0, c15b1⟩ := eqF c15
  have H' := Aside0.mk H
  clear H
  go_wp2
  refine Met.intro ?_
  go_step
  (repeat apply Exists.intro)
  refine ⟨?rel, ?frm⟩
  case frm => first | rfl | (simp only [c9b0, c9b1, c12b0, c12b1, c15b0, c15b1]; first | done | rfl)
  case rel => exact ⟨_, (a0_1), (a0_2), (a0_3), H', ⟨by first | omega | exact Nat.le_refl _⟩, ⟨bp_ BK134⟩, ⟨bp_ BK135⟩, ⟨bw_ HB.out⟩⟩
 clear HC2
 (try clear c9); (try clear c9b0); (try clear c9b1); (try clear c12); (try clear c12b0); (try clear c12b1); (try clear c15)
 (try clear c15b0); (try clear c15b1); (try clear hcz11_0); (try clear hcz11_1); (try clear hcz11_2); (try clear hcz11_3); (try clear hcz14_0); (try clear hcz14_1); (try clear hcz14_2); (try clear hcz14_3); (try clear hcz17_0)
 (try clear hcz17_1); (try clear hcz17_2); (try clear hcz17_3); (try clear hcz4_0); (try clear hcz4_1); (try clear hcz4_2); (try clear hcz4_3); (try clear hcz7_0); (try clear hcz7_1); (try clear hcz7_2); (try clear hcz7_3); (try clear hcz8_0)
 (try clear hcz8_1); (try clear hcz8_2); (try clear hcz8_3); (try clear hfz11_0); (try clear hfz11_1); (try clear hfz11_2); (try clear hfz11_3); (try clear hfz14_0); (try clear hfz14_1); (try clear hfz14_2); (try clear hfz14_3); (try clear hfz17_0)
 (try clear hfz17_1); (try clear hfz17_2); (try clear hfz17_3); (try clear hfz4_0); (try clear hfz4_1); (try clear hfz4_2); (try clear hfz4_3); (try clear hfz7_0); (try clear hfz7_1); (try clear hfz7_2); (try clear hfz7_3); (try clear hfz8_0)
 (try clear hfz8_1); (try clear hfz8_2); (try clear hfz8_3)
 obtain ⟨kq, x136001_1, x136002_1, x136003_1, HA, HJ1, BK134, BK135, HB⟩ := hcut
 cases kq with
 | zero => exact absurd HA.out (by simp [value_Valid.j0])
 | succ kj1 =>
  have H := HA.out
  clear HA
  simp only [value_Valid.j0] at H
  have HC18 := Aside0.mk H
  clear H
  go_upto_region 9 with (fail)
  go_cut [16] (fun v16 wc => ∃ (kq : Nat) (x16_17 : Bool), v16 = .bool x16_17 ∧ Aside0 (value_Valid.j1 kq x16_17 a0_0 a0_1 a0_2 a0_3 = some r) ∧ Aside0 (kq ≤ kj1) ∧ Aside0 (wc.heap[gb134]? = some (.cells #[.int .i64 a0_0, .int .i64 a0_1, .string a0_2, .bool a0_3] 63 (0, 0))) ∧ Aside0 (wc.heap[gb135]? = some (.cells #[.int .i64 a0_0, .int .i64 x136001_1, .string x136002_1, .bool x136003_1] 63 (0, 0))) ∧ Aside0 (Below w.heap.size w wc))
  case first =>
   have H := HC18.out
   clear HC18
   obtain ⟨t136, A19, H⟩ := bn_ H; (try dsimp only at H)
   by_cases c20 : t136.toList = ([] : List UInt8)
   ·rw [if_pos c20] at H
    have ⟨c20b0, c20b1⟩ := eqT c20
    clear c20
    (first | rw [c20b0] | (simp only [i64_w, i32_w]; rw [c20b0]) | skip)
    have H' := Aside0.mk H
    clear H
    have hnb21 := NB134_135.out
    have hnc21 := NB135_134.out
    obtain ⟨hcz22_0, hcz22_1, hcz22_2, hcz22_3, hfz22_0, hfz22_1, hfz22_2, hfz22_3⟩ := zf4_ BK134
    go_wp2_with (first | ((with_reducible refine qgc (f := 84) rfl ?_); refine gL_ (some 19) Tryz.func84 #[.int .i64 a0_0] ?_; (with_reducible refine (value_Kind.calls a0_0 t136 _ A19.out).mono ?_); rintro e w' ⟨rfl, ⟨nd, rfl⟩⟩; refine ⟨_, rfl, ?_⟩))
    refine Met.intro ?_
    go_step
    (repeat apply Exists.intro)
    refine ⟨?rel, ?frm⟩
    case frm => first | rfl | (simp only [c20b0, c20b1]; first | done | rfl)
    case rel => exact ⟨_, (true), fe_, H', ⟨by have := HJ1.out; first | omega | exact Nat.le_refl _⟩, ⟨bp_ BK134⟩, ⟨bp_ BK135⟩, ⟨bw_ HB.out⟩⟩
   rw [if_neg c20] at H
   have ⟨c20b0, c20b1⟩ := eqF c20
   (first | rw [c20b0] | (simp only [i64_w, i32_w]; rw [c20b0]) | skip)
   have H' := Aside0.mk H
   clear H
   have hnb23 := NB134_135.out
   have hnc23 := NB135_134.out
   obtain ⟨hcz24_0, hcz24_1, hcz24_2, hcz24_3, hfz24_0, hfz24_1, hfz24_2, hfz24_3⟩ := zf4_ BK134
   go_wp2_with (first | ((with_reducible refine qgc (f := 84) rfl ?_); refine gL_ (some 19) Tryz.func84 #[.int .i64 a0_0] ?_; (with_reducible refine (value_Kind.calls a0_0 t136 _ A19.out).mono ?_); rintro e w' ⟨rfl, ⟨nd, rfl⟩⟩; refine ⟨_, rfl, ?_⟩; obtain ⟨hcz25_0, hcz25_1, hcz25_2, hcz25_3, hfz25_0, hfz25_1, hfz25_2, hfz25_3⟩ := zf4_ BK135))
   refine Met.intro ?_
   go_step
   (repeat apply Exists.intro)
   refine ⟨?rel, ?frm⟩
   case frm => first | rfl | (simp only [c20b0, c20b1]; first | done | rfl)
   case rel => exact ⟨_, ((!(a0_0 == a0_0) || (!(x136001_1 == 0) || (!(x136002_1.toList == ([] : List UInt8)) || (x136003_1))))), fe_, H', ⟨by have := HJ1.out; first | omega | exact Nat.le_refl _⟩, ⟨bp_ BK134⟩, ⟨bp_ BK135⟩, ⟨bw_ HB.out⟩⟩
  clear HC18
  (try clear c9); (try clear c9b0); (try clear c9b1); (try clear c12); (try clear c12b0); (try clear c12b1)
  (try clear c15); (try clear c15b0); (try clear c15b1); (try clear c20); (try clear c20b0); (try clear c20b1); (try clear hcz11_0); (try clear hcz11_1)
  (try clear hcz11_2); (try clear hcz11_3); (try clear hcz14_0); (try clear hcz14_1); (try clear hcz14_2); (try clear hcz14_3); (try clear hcz17_0); (try clear hcz17_1); (try clear hcz17_2); (try clear hcz17_3); (try clear hcz22_0); (try clear hcz22_1)
  (try clear hcz22_2); (try clear hcz22_3); (try clear hcz24_0); (try clear hcz24_1); (try clear hcz24_2); (try clear hcz24_3); (try clear hcz25_0); (try clear hcz25_1); (try clear hcz25_2); (try clear hcz25_3); (try clear hcz4_0); (try clear hcz4_1)
  (try clear hcz4_2); (try clear hcz4_3); (try clear hcz7_0); (try clear hcz7_1); (try clear hcz7_2); (try clear hcz7_3); (try clear hcz8_0); (try clear hcz8_1); (try clear hcz8_2); (try clear hcz8_3); (try clear hfz11_0); (try clear hfz11_1)
  (try clear hfz11_2); (try clear hfz11_3); (try clear hfz14_0); (try clear hfz14_1); (try clear hfz14_2); (try clear hfz14_3); (try clear hfz17_0); (try clear hfz17_1); (try clear hfz17_2); (try clear hfz17_3); (try clear hfz22_0); (try clear hfz22_1)
  (try clear hfz22_2); (try clear hfz22_3); (try clear hfz24_0); (try clear hfz24_1); (try clear hfz24_2); (try clear hfz24_3); (try clear hfz25_0); (try clear hfz25_1); (try clear hfz25_2); (try clear hfz25_3); (try clear hfz4_0); (try clear hfz4_1)
  (try clear hfz4_2); (try clear hfz4_3); (try clear hfz7_0); (try clear hfz7_1); (try clear hfz7_2); (try clear hfz7_3); (try clear hfz8_0); (try clear hfz8_1); (try clear hfz8_2); (try clear hfz8_3)
  obtain ⟨kq, x16_17, rfl, HA, HJ17, BK134, BK135, HB⟩ := hcut
  cases kq with
  | zero => exact absurd HA.out (by simp [value_Valid.j1])
  | succ kj17 =>
   have H := HA.out
   clear HA
   simp only [value_Valid.j1] at H
   by_cases c26 : x16_17 = true
   ·subst c26
    rw [if_pos rfl] at H
    obtain rfl := Option.some.inj H
    go_wp2
    go_ret
    exact ⟨fr_, bw_ HB.out⟩
   replace c26 := Bool.eq_false_iff.mpr c26
   subst c26
   rw [if_neg (show ¬ (false = true) by decide)] at H
   by_cases c27 : (a0_2.size : Int) > 4096
   ·rw [if_pos c27] at H
    have c27b0 : decide (4096 < (a0_2.size : Int)) = true := decide_eq_true c27
    have c27b1 : decide (4096 < a0_2.size) = true := decide_eq_true (by omega)
    clear c27
    obtain rfl := Option.some.inj H
    have hnb28 := NB134_135.out
    have hnc28 := NB135_134.out
    obtain ⟨hcz29_0, hcz29_1, hcz29_2, hcz29_3, hfz29_0, hfz29_1, hfz29_2, hfz29_3⟩ := zf4_ BK134
    go_wp2
    go_ret
    exact ⟨fr_, bw_ HB.out⟩
   rw [if_neg c27] at H
   have c27b0 : decide (4096 < (a0_2.size : Int)) = false := decide_eq_false c27
   have c27b1 : decide (4096 < a0_2.size) = false := decide_eq_false (by omega)
   clear c27
   obtain ⟨t137, A30, H⟩ := bn_ H; (try dsimp only at H)
   by_cases c31 : t137 ≥ 0
   ·rw [if_pos c31] at H
    have c31b0 : decide (0 ≤ t137) = true := decide_eq_true c31
    clear c31
    obtain rfl := Option.some.inj H
    have hnb32 := NB134_135.out
    have hnc32 := NB135_134.out
    obtain ⟨hcz33_0, hcz33_1, hcz33_2, hcz33_3, hfz33_0, hfz33_1, hfz33_2, hfz33_3⟩ := zf4_ BK134
    go_wp2_with (first | ((with_reducible refine qgc (f := 85) rfl ?_); refine gL_ (some 38) Tryz.func85 #[.string a0_2, .func (.func 86) #[] #[]] ?_; (with_reducible refine (strings_IndexFunc_Valid.calls a0_2 t137 _ A30.out).mono ?_); rintro e w34 ⟨rfl, hb⟩; refine ⟨_, rfl, ?_⟩; replace BK134 := kB_ BK134 hb; replace BK135 := kB_ BK135 hb; replace HB := bS_ HB hb; clear hb))
    go_ret
    exact ⟨fr_, bw_ HB.out⟩
   rw [if_neg c31] at H
   have c31b0 : decide (0 ≤ t137) = false := decide_eq_false c31
   clear c31
   obtain rfl := Option.some.inj H
   have hnb35 := NB134_135.out
   have hnc35 := NB135_134.out
   obtain ⟨hcz36_0, hcz36_1, hcz36_2, hcz36_3, hfz36_0, hfz36_1, hfz36_2, hfz36_3⟩ := zf4_ BK134
   go_wp2_with (first | ((with_reducible refine qgc (f := 85) rfl ?_); refine gL_ (some 38) Tryz.func85 #[.string a0_2, .func (.func 86) #[] #[]] ?_; (with_reducible refine (strings_IndexFunc_Valid.calls a0_2 t137 _ A30.out).mono ?_); rintro e w37 ⟨rfl, hb⟩; refine ⟨_, rfl, ?_⟩; replace BK134 := kB_ BK134 hb; replace BK135 := kB_ BK135 hb; replace HB := bS_ HB hb; clear hb))
   go_ret
   exact ⟨fr_, bw_ HB.out⟩

/-! ### value_Null: function 90 -/
def value_Null.f  : Option (Int × Int × ByteArray × Bool) := some (0, 0, (⟨#[]⟩ : ByteArray), false)
set_option maxHeartbeats 8000000 in
set_option maxRecDepth 100000 in
theorem value_Null.calls  (r1 : Int) (r2 : Int) (r3 : ByteArray) (r4 : Bool) (w : World) (h : value_Null.f  = some (r1, r2, r3, r4)) :
  Calls Tryz.prog 90 #[] w fun e w' => e = .returned (.agg #[.int .i64 r1, .int .i64 r2, .string r3, .bool r4]) ∧ Below w.heap.size w w' := by
 have hu63 := Tryz.underlying63
 have HB := Aside0.mk (Below.refl w.heap.size w)
 have H : (some (0, 0, (⟨#[]⟩ : ByteArray), false)) = some (r1, r2, r3, r4) := h
 clear h
 obtain ⟨rfl, rfl, rfl, rfl⟩ := so4 H
 go_enter Tryz.func90, Tryz.ntmps90
 go_wp2_with (first | ((with_reducible refine qgd (N := 0) rfl ?_); refine qB_ 0 #[.int .i64 0, .int .i64 0, .string (⟨#[]⟩ : ByteArray), .bool false] 63 ?_; intro gb138 hg w1 hbox hb; have BK138 := Aside0.mk (hbox); have GW138 := gE_ hg HB; have GE138 := gE_ hg HB; replace HB := bS_ HB hb; clear hb hbox hg; obtain ⟨hcz2_0, hcz2_1, hcz2_2, hcz2_3, hfz2_0, hfz2_1, hfz2_2, hfz2_3⟩ := zf4_ BK138))
 refine bodyPost_ret (results_cell_row rfl _ _ gb138 63 #[.int .i64 0, .int .i64 0, .string (⟨#[]⟩ : ByteArray), .bool false] (0, 0) _ rfl (bp_ BK138) Tryz.underlying63 rfl (by kernel_rfl)) rfl ?_
 exact ⟨fr_, bw_ HB.out⟩

/-! ### value_Int: function 97 -/
def value_Int.f (a0 : Int) : Option (Int × Int × ByteArray × Bool) := some (1, a0, (⟨#[]⟩ : ByteArray), false)
set_option maxHeartbeats 8000000 in
set_option maxRecDepth 100000 in
theorem value_Int.calls (a0 : Int) (r1 : Int) (r2 : Int) (r3 : ByteArray) (r4 : Bool) (w : World) (h : value_Int.f a0 = some (r1, r2, r3, r4)) :
  Calls Tryz.prog 97 #[.int .i64 a0] w fun e w' => e = .returned (.agg #[.int .i64 r1, .int .i64 r2, .string r3, .bool r4]) ∧ Below w.heap.size w w' := by
 have hu63 := Tryz.underlying63
 have HB := Aside0.mk (Below.refl w.heap.size w)
 have H : (some (1, a0, (⟨#[]⟩ : ByteArray), false)) = some (r1, r2, r3, r4) := h
 clear h
 obtain ⟨rfl, rfl, rfl, rfl⟩ := so4 H
 go_enter Tryz.func97, Tryz.ntmps97
 go_wp2_with (first | ((with_reducible refine qgd (N := 2) rfl ?_); refine qB_ 2 #[.int .i64 0, .int .i64 0, .string (⟨#[]⟩ : ByteArray), .bool false] 63 ?_; intro gb139 hg w2 hbox hb; have BK139 := Aside0.mk (hbox); have GW139 := gE_ hg HB; have GE139 := gE_ hg HB; replace HB := bS_ HB hb; clear hb hbox hg; obtain ⟨hcz3_0, hcz3_1, hcz3_2, hcz3_3, hfz3_0, hfz3_1, hfz3_2, hfz3_3⟩ := zf4_ BK139))
 refine bodyPost_ret (results_cell_row rfl _ _ gb139 63 #[.int .i64 1, .int .i64 a0, .string (⟨#[]⟩ : ByteArray), .bool false] (0, 0) _ rfl (bp_ BK139) Tryz.underlying63 rfl (by kernel_rfl)) rfl ?_
 exact ⟨fr_, bw_ HB.out⟩

/-! ### value_Text: function 98 -/
def value_Text.f (a0 : ByteArray) : Option (Int × Int × ByteArray × Bool) := some (2, 0, a0, false)
set_option maxHeartbeats 8000000 in
set_option maxRecDepth 100000 in
theorem value_Text.calls (a0 : ByteArray) (r1 : Int) (r2 : Int) (r3 : ByteArray) (r4 : Bool) (w : World) (h : value_Text.f a0 = some (r1, r2, r3, r4)) :
  Calls Tryz.prog 98 #[.string a0] w fun e w' => e = .returned (.agg #[.int .i64 r1, .int .i64 r2, .string r3, .bool r4]) ∧ Below w.heap.size w w' := by
 have hu63 := Tryz.underlying63
 have HB := Aside0.mk (Below.refl w.heap.size w)
 have H : (some (2, 0, a0, false)) = some (r1, r2, r3, r4) := h
 clear h
 obtain ⟨rfl, rfl, rfl, rfl⟩ := so4 H
 go_enter Tryz.func98, Tryz.ntmps98
 go_wp2_with (first | ((with_reducible refine qgd (N := 2) rfl ?_); refine qB_ 2 #[.int .i64 0, .int .i64 0, .string (⟨#[]⟩ : ByteArray), .bool false] 63 ?_; intro gb140 hg w2 hbox hb; have BK140 := Aside0.mk (hbox); have GW140 := gE_ hg HB; have GE140 := gE_ hg HB; replace HB := bS_ HB hb; clear hb hbox hg; obtain ⟨hcz3_0, hcz3_1, hcz3_2, hcz3_3, hfz3_0, hfz3_1, hfz3_2, hfz3_3⟩ := zf4_ BK140))
 refine bodyPost_ret (results_cell_row rfl _ _ gb140 63 #[.int .i64 2, .int .i64 0, .string a0, .bool false] (0, 0) _ rfl (bp_ BK140) Tryz.underlying63 rfl (by kernel_rfl)) rfl ?_
 exact ⟨fr_, bw_ HB.out⟩

/-! ### value_Bool: function 99 -/
def value_Bool.f (a0 : Bool) : Option (Int × Int × ByteArray × Bool) := some (3, 0, (⟨#[]⟩ : ByteArray), a0)
set_option maxHeartbeats 8000000 in
set_option maxRecDepth 100000 in
theorem value_Bool.calls (a0 : Bool) (r1 : Int) (r2 : Int) (r3 : ByteArray) (r4 : Bool) (w : World) (h : value_Bool.f a0 = some (r1, r2, r3, r4)) :
  Calls Tryz.prog 99 #[.bool a0] w fun e w' => e = .returned (.agg #[.int .i64 r1, .int .i64 r2, .string r3, .bool r4]) ∧ Below w.heap.size w w' := by
 have hu63 := Tryz.underlying63
 have HB := Aside0.mk (Below.refl w.heap.size w)
 have H : (some (3, 0, (⟨#[]⟩ : ByteArray), a0)) = some (r1, r2, r3, r4) := h
 clear h
 obtain ⟨rfl, rfl, rfl, rfl⟩ := so4 H
 go_enter Tryz.func99, Tryz.ntmps99
 go_wp2_with (first | ((with_reducible refine qgd (N := 2) rfl ?_); refine qB_ 2 #[.int .i64 0, .int .i64 0, .string (⟨#[]⟩ : ByteArray), .bool false] 63 ?_; intro gb141 hg w2 hbox hb; have BK141 := Aside0.mk (hbox); have GW141 := gE_ hg HB; have GE141 := gE_ hg HB; replace HB := bS_ HB hb; clear hb hbox hg; obtain ⟨hcz3_0, hcz3_1, hcz3_2, hcz3_3, hfz3_0, hfz3_1, hfz3_2, hfz3_3⟩ := zf4_ BK141))
 refine bodyPost_ret (results_cell_row rfl _ _ gb141 63 #[.int .i64 3, .int .i64 0, .string (⟨#[]⟩ : ByteArray), .bool a0] (0, 0) _ rfl (bp_ BK141) Tryz.underlying63 rfl (by kernel_rfl)) rfl ?_
 exact ⟨fr_, bw_ HB.out⟩

/-! ### order_number: function 100 -/
def order_number.l0 : Nat → ByteArray → Int → Int → Int → Option (Int)
 | 0, _, _, _, _ => none
 | k + 1, x0, x3, x6, x7 => if x7 < x6 then (if 0 ≤ x7 then (if x7 < (x0.size : Int) then (order_number.l0 k x0 (Go.bits .or .u64 (IntKind.u64.wrap (x3 * 256)) (IntKind.u64.wrap (bt x0 x7))) x6 (wrap64 (x7 + 1))) else (none)) else (none)) else (some x3)
def order_number.f (k : Nat) (a0 : ByteArray) : Option (Int) := order_number.l0 k a0 0 (a0.size : Int) 0
theorem order_number.mono_l : ∀ k, (∀ y0 y1 y2 y3, LeO (order_number.l0 k y0 y1 y2 y3) (order_number.l0 (k + 1) y0 y1 y2 y3))
 | 0 => fun _ _ _ _ r h => by simp [order_number.l0] at h
 | k + 1 => by
  have ih0 := order_number.mono_l k
  ·intro y0 y1 y2 y3
   unfold order_number.l0
   repeat' first
   | (with_reducible exact ih0 _ _ _ _)
   | (with_reducible exact LeO.refl _)
   | (with_reducible exact LeO.none _)
   | (with_reducible refine LeO.ite ?_ ?_)
   | (with_reducible refine LeO.bind ?_ (fun _ => ?_))
   | exact ih0 _ _ _ _
   | exact LeO.none _
   | refine LeO.ite ?_ ?_
   | refine LeO.bind ?_ (fun _ => ?_)
theorem order_number.mono : ∀ a0 k, LeO (order_number.f k a0) (order_number.f (k + 1) a0) := by
 intro a0 k
 have ih0 := order_number.mono_l k
 unfold order_number.f
 repeat' first
   | (with_reducible exact ih0 _ _ _ _)
   | (with_reducible exact LeO.refl _)
   | (with_reducible exact LeO.none _)
   | (with_reducible refine LeO.ite ?_ ?_)
   | (with_reducible refine LeO.bind ?_ (fun _ => ?_))
   | exact ih0 _ _ _ _
   | exact LeO.none _
   | refine LeO.ite ?_ ?_
   | refine LeO.bind ?_ (fun _ => ?_)
set_option maxHeartbeats 8000000 in
set_option maxRecDepth 100000 in
theorem order_number.calls (k : Nat) (a0 : ByteArray) (r : Int) (w : World) (h : order_number.f k a0 = some r) :
  Calls Tryz.prog 100 #[.string a0] w fun e w' => e = .returned (.int .u64 r) ∧ Drawn0 w w' := by
 have H : (order_number.l0 k a0 0 (a0.size : Int) 0) = some r := h
 clear h
 have H' := Aside0.mk H
 clear H
 go_enter Tryz.func100, Tryz.ntmps100
 go_wp2
 go_loopg [3, 7] k (fun kq v3 v7 w' => ∃ (x3_1 : Int) (x7_1 : Int), v3 = .int .u64 x3_1 ∧ v7 = .int .i64 x7_1 ∧ Aside0 (order_number.l0 kq a0 x3_1 (a0.size : Int) x7_1 = some r) ∧ Aside0 (kq ≤ k) ∧ Drawn0 w w')
 case atStart => exact ⟨(0), (0), fe_, fe_, H', ⟨Nat.le_refl _⟩, by repeat (first | exact Drawn0.refl _ | apply Drawn0.step)⟩
 case round =>
  clear H'
  obtain ⟨x3_1, x7_1, rfl, rfl, HA, HK1, ⟨m1, rfl⟩⟩ := hrel
  cases gk with
  | zero => exact absurd HA.out (by simp [order_number.l0])
  | succ k1 =>
   have H := HA.out
   clear HA
   simp only [order_number.l0] at H
   by_cases c2 : x7_1 < (a0.size : Int)
   ·rw [if_pos c2] at H
    have c2b0 := dcT c2
    clear c2
    have c3 : 0 ≤ x7_1 := Classical.byContradiction fun c3 => by rw [if_neg c3] at H; exact absurd H (by simp)
    rw [if_pos c3] at H
    have c3b0 := dcT c3
    clear c3
    have c4 : x7_1 < (a0.size : Int) := Classical.byContradiction fun c4 => by rw [if_neg c4] at H; exact absurd H (by simp)
    rw [if_pos c4] at H
    have c4b0 := dcT c4
    clear c4
    have H' := Aside0.mk H
    clear H
    have p5 : 0 ≤ (x7_1 : Int) := ode_
    have q5 : x7_1 < (a0.size : Int) := ode_
    have hx5 := bt_at a0 x7_1
    replace p5 := eq_true p5
    replace q5 := eq_true q5
    go_wp2
    go_roundg k1
    case measure => have := HK1.out; omega
    case rel => exact ⟨(Go.bits .or .u64 (IntKind.u64.wrap (x3_1 * 256)) (IntKind.u64.wrap (bt a0 x7_1))), (wrap64 (x7_1 + 1)), fe_, fe_, H', ⟨by have := HK1.out; omega⟩, by repeat (first | exact Drawn0.refl _ | apply Drawn0.step)⟩
   rw [if_neg c2] at H
   have c2b0 := dcF c2
   clear c2
   obtain rfl := Option.some.inj H
   go_wp2
   go_ret
   exact ⟨by first | rfl | (simp; done) | (simp [*]; done) | (simp [bne]; done), by repeat (first | exact Drawn0.refl _ | apply Drawn0.step)⟩

/-! ### EXT strings_Cut: function 101 -/
def strings_Cut.f (a0 a1 : ByteArray) : Option (ByteArray × ByteArray × Bool) := if a0.size < 4294967281 then some ((⟨(Lib.cut a0.data.toList a1.data.toList).1.toArray⟩ : ByteArray), (⟨(Lib.cut a0.data.toList a1.data.toList).2.1.toArray⟩ : ByteArray), (Lib.cut a0.data.toList a1.data.toList).2.2) else none
theorem strings_Cut.calls (a0 a1 : ByteArray) (r1 r2 : ByteArray) (r3 : Bool) (w : World) (hG : GW w) (h : strings_Cut.f a0 a1 = some (r1, r2, r3)) :
  Calls Tryz.prog 101 #[.string a0, .string a1] w fun e w' => e = .returned (.tuple #[.string r1, .string r2, .bool r3]) ∧ Below w.heap.size w w' := by
 unfold strings_Cut.f at h
 by_cases hc : a0.size < 4294967281
 ·rw [if_pos hc] at h
  obtain ⟨m, hm⟩ := hG.m
  simp only [Option.some.injEq, Prod.mk.injEq] at h
  obtain ⟨rfl, rfl, rfl⟩ := h
  refine (Tryz.strings_Cut a0 a1 m w hc hm).mono ?_
  rintro e w' ⟨rfl, n, rfl⟩
  exact ⟨rfl, qbN (Below.refl _ _) n⟩
 rw [if_neg hc] at h; cases h

end Go.Proofs.YtddkbhglbkfelaaGreatDoor.T
