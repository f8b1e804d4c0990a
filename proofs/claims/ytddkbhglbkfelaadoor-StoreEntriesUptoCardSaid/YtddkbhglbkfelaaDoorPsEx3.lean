import Derived.Test.YtddkbhglbkfelaaDoorPsEx0
import Derived.Test.YtddkbhglbkfelaaDoorPsEx1
import Derived.Test.YtddkbhglbkfelaaDoorPsEx2
namespace Go.Proofs.YtddkbhglbkfelaaDoor.E
open Go.RowKit Go.Proofs.YtddkbhglbkfelaaDoorW.PrintWords Go.Proofs.YtddkbhglbkfelaaDoorW.PrintLast Go.Proofs.YtddkbhglbkfelaaDoorW.PrintMore Go.Proofs.YtddkbhglbkfelaaDoorX
attribute [local go_sem] max2_int min2_int max_two min_two max_three min_three max_four min_four
set_option linter.unusedVariables false
set_option linter.unusedSimpArgs false

attribute [local go_sem high] eqA72
/-! ### value_Valid: function 30 -/
mutual
def value_Valid.j0 : Nat → Int → Int → ByteArray → Bool → Int → Int → ByteArray → Bool → Option (Option Int)
 | 0, _, _, _, _, _, _, _, _ => none
 | k + 1, x127000, x127001, x127002, x127003, x128000, x128001, x128002, x128003 => (value_Kind.f x127000).bind fun t128 => (if t128.toList = ([] : List UInt8) then (value_Valid.j1 k true x127000 x127001 x127002 x127003) else (value_Valid.j1 k (!(x128000 == x127000) || (!(x128001 == 0) || (!(x128002.toList == ([] : List UInt8)) || (x128003)))) x127000 x127001 x127002 x127003))
def value_Valid.j1 : Nat → Bool → Int → Int → ByteArray → Bool → Option (Option Int)
 | 0, _, _, _, _, _ => none
 | k + 1, x16, x127000, x127001, x127002, x127003 => if x16 = true then (some (some 3)) else (if (x127002.size : Int) > 4096 then (some (some 2)) else ((strings_IndexFunc_Valid.f x127002).bind fun t129 => (if t129 ≥ 0 then (some (some 3)) else (some none))))
end
def value_Valid.f (k : Nat) (a0_0 : Int) (a0_1 : Int) (a0_2 : ByteArray) (a0_3 : Bool) : Option (Option Int) := if a0_0 = 1 then (value_Valid.j0 k a0_0 a0_1 a0_2 a0_3 a0_0 0 a0_2 a0_3) else (if a0_0 = 2 then (value_Valid.j0 k a0_0 a0_1 a0_2 a0_3 a0_0 a0_1 (⟨#[]⟩ : ByteArray) a0_3) else (if a0_0 = 3 then (value_Valid.j0 k a0_0 a0_1 a0_2 a0_3 a0_0 a0_1 a0_2 false) else (value_Valid.j0 k a0_0 a0_1 a0_2 a0_3 a0_0 a0_1 a0_2 a0_3)))
theorem value_Valid.mono_l : ∀ k, (∀ y0 y1 y2 y3 y4 y5 y6 y7, LeO (value_Valid.j0 k y0 y1 y2 y3 y4 y5 y6 y7) (value_Valid.j0 (k + 1) y0 y1 y2 y3 y4 y5 y6 y7)) ∧ (∀ y0 y1 y2 y3 y4, LeO (value_Valid.j1 k y0 y1 y2 y3 y4) (value_Valid.j1 (k + 1) y0 y1 y2 y3 y4))
 | 0 => ⟨fun _ _ _ _ _ _ _ _ r h => by simp [value_Valid.j0] at h, fun _ _ _ _ _ r h => by simp [value_Valid.j1] at h⟩
 | k + 1 => by
  obtain ⟨ih0, ih1⟩ := value_Valid.mono_l k
  refine ⟨?_, ?_⟩
  ·intro y0 y1 y2 y3 y4 y5 y6 y7
   unfold value_Valid.j0
   repeat' first
   | (with_reducible exact ih0 _ _ _ _ _ _ _ _)
   | (with_reducible exact ih1 _ _ _ _ _)
   | (with_reducible exact LeO.refl _)
   | (with_reducible exact LeO.none _)
   | (with_reducible refine LeO.ite ?_ ?_)
   | (with_reducible refine LeO.bind ?_ (fun _ => ?_))
   | exact ih0 _ _ _ _ _ _ _ _
   | exact ih1 _ _ _ _ _
   | exact LeO.none _
   | refine LeO.ite ?_ ?_
   | refine LeO.bind ?_ (fun _ => ?_)
  intro y0 y1 y2 y3 y4
  unfold value_Valid.j1
  repeat' first
  | (with_reducible exact ih0 _ _ _ _ _ _ _ _)
  | (with_reducible exact ih1 _ _ _ _ _)
  | (with_reducible exact LeO.refl _)
  | (with_reducible exact LeO.none _)
  | (with_reducible refine LeO.ite ?_ ?_)
  | (with_reducible refine LeO.bind ?_ (fun _ => ?_))
  | exact ih0 _ _ _ _ _ _ _ _
  | exact ih1 _ _ _ _ _
  | exact LeO.none _
  | refine LeO.ite ?_ ?_
  | refine LeO.bind ?_ (fun _ => ?_)
theorem value_Valid.mono : ∀ a0 a1 a2 a3 k, LeO (value_Valid.f k a0 a1 a2 a3) (value_Valid.f (k + 1) a0 a1 a2 a3) := by
 intro a0 a1 a2 a3 k
 obtain ⟨ih0, ih1⟩ := value_Valid.mono_l k
 unfold value_Valid.f
 repeat' first
   | (with_reducible exact ih0 _ _ _ _ _ _ _ _)
   | (with_reducible exact ih1 _ _ _ _ _)
   | (with_reducible exact LeO.refl _)
   | (with_reducible exact LeO.none _)
   | (with_reducible refine LeO.ite ?_ ?_)
   | (with_reducible refine LeO.bind ?_ (fun _ => ?_))
   | exact ih0 _ _ _ _ _ _ _ _
   | exact ih1 _ _ _ _ _
   | exact LeO.none _
   | refine LeO.ite ?_ ?_
   | refine LeO.bind ?_ (fun _ => ?_)
set_option maxHeartbeats 8000000 in
set_option maxRecDepth 100000 in
theorem value_Valid.calls (k : Nat) (a0_0 : Int) (a0_1 : Int) (a0_2 : ByteArray) (a0_3 : Bool) (r : Option Int) (w : World) (h : value_Valid.f k a0_0 a0_1 a0_2 a0_3 = some r) :
  Calls Tryd.prog 30 #[.agg #[.int .i64 a0_0, .int .i64 a0_1, .string a0_2, .bool a0_3]] w fun e w' => e = .returned (errW r) ∧ Below w.heap.size w w' := by
 have hu72 := Tryd.underlying72
 have hu27 := Tryd.underlying27
 have hu43 := Tryd.underlying43
 have HB := Aside0.mk (Below.refl w.heap.size w)
 have H : (if a0_0 = 1 then (value_Valid.j0 k a0_0 a0_1 a0_2 a0_3 a0_0 0 a0_2 a0_3) else (if a0_0 = 2 then (value_Valid.j0 k a0_0 a0_1 a0_2 a0_3 a0_0 a0_1 (⟨#[]⟩ : ByteArray) a0_3) else (if a0_0 = 3 then (value_Valid.j0 k a0_0 a0_1 a0_2 a0_3 a0_0 a0_1 a0_2 false) else (value_Valid.j0 k a0_0 a0_1 a0_2 a0_3 a0_0 a0_1 a0_2 a0_3)))) = some r := h
 clear h
 have HC2 := Aside0.mk H
 clear H
 go_enter Tryd.func30, Tryd.ntmps30
 go_upto_block 0 with (first | ((with_reducible refine qgd (N := 1) rfl ?_); refine qbe ?hg (N := 1) ?hd (cs := #[.int .i64 a0_0, .int .i64 a0_1, .string a0_2, .bool a0_3]) (t := 72) ?hr ?_; (case hd => rfl); (case hg => rfl); (case hr => first | (go_simp; done) | (go_simp; rfl)); intro gb126 hg w3 hbox hb; have n0_ := Aside0.mk (below_step (bw_ HB.out) hb); have n1_ := Aside0.mk (hbox); have n2_ := Aside0.mk ((by rw [hg]; exact (qbz (bw_ HB.out)) : w.heap.size ≤ gb126)); have n3_ := Aside0.mk ((by rw [hg]; exact (qbz (bw_ HB.out)) : w.heap.size ≤ gb126)); clear HB; have HB := n0_; have BK126 := n1_; have GW126 := n2_; have GE126 := n3_; clear n0_ n1_ n2_ n3_; clear hb hbox hg; have hcz4_0 : w3.cell? ⟨gb126, 0, none⟩ = some (.int .i64 a0_0) := (qkc BK126.out 0).trans rfl; have hcz4_1 : w3.cell? ⟨gb126, 1, none⟩ = some (.int .i64 a0_1) := (qkc BK126.out 1).trans rfl; have hcz4_2 : w3.cell? ⟨gb126, 2, none⟩ = some (.string a0_2) := (qkc BK126.out 2).trans rfl; have hcz4_3 : w3.cell? ⟨gb126, 3, none⟩ = some (.bool a0_3) := (qkc BK126.out 3).trans rfl; have hfz4_0 := qkf BK126.out 0; have hfz4_1 := qkf BK126.out 1; have hfz4_2 := qkf BK126.out 2; have hfz4_3 := qkf BK126.out 3) | ((with_reducible refine qgd (N := 3) rfl ?_); refine qbe ?hg (N := 3) ?hd (cs := #[.int .i64 0, .int .i64 0, .string (⟨#[]⟩ : ByteArray), .bool false]) (t := 72) ?hr ?_; (case hd => rfl); (case hg => rfl); (case hr => first | (go_simp; done) | (go_simp; rfl)); intro gb127 hg w5 hbox hb; have n0_ := Aside0.mk (qkb (g := gb126) (o := .cells #[.int .i64 a0_0, .int .i64 a0_1, .string a0_2, .bool a0_3] 72 (0, 0)) (bl_ BK126.out) hb); have n1_ := Aside0.mk (below_step (bw_ HB.out) hb); have n2_ := Aside0.mk (hbox); have n3_ := Aside0.mk ((by rw [hg]; exact (qbz (bw_ HB.out)) : w.heap.size ≤ gb127)); have n4_ := Aside0.mk ((by rw [hg]; exact (qbz (bw_ HB.out)) : w.heap.size ≤ gb127)); have n5_ := Aside0.mk ((by rw [hg]; exact Nat.ne_of_lt (blk_lt (g := gb126) (o := .cells #[.int .i64 a0_0, .int .i64 a0_1, .string a0_2, .bool a0_3] 72 (0, 0)) (bl_ BK126.out)) : gb126 ≠ gb127)); have n6_ := Aside0.mk ((by rw [hg]; exact Nat.ne_of_gt (blk_lt (g := gb126) (o := .cells #[.int .i64 a0_0, .int .i64 a0_1, .string a0_2, .bool a0_3] 72 (0, 0)) (bl_ BK126.out)) : gb127 ≠ gb126)); clear BK126; clear HB; have BK126 := n0_; have HB := n1_; have BK127 := n2_; have GW127 := n3_; have GE127 := n4_; have NB126_127 := n5_; have NB127_126 := n6_; clear n0_ n1_ n2_ n3_ n4_ n5_ n6_; clear hb hbox hg; have hnb6 := NB127_126.out; have hnc6 := NB126_127.out; have hcz7_0 : w5.cell? ⟨gb127, 0, none⟩ = some (.int .i64 0) := (qkc BK127.out 0).trans rfl; have hcz7_1 : w5.cell? ⟨gb127, 1, none⟩ = some (.int .i64 0) := (qkc BK127.out 1).trans rfl; have hcz7_2 : w5.cell? ⟨gb127, 2, none⟩ = some (.string (⟨#[]⟩ : ByteArray)) := (qkc BK127.out 2).trans rfl; have hcz7_3 : w5.cell? ⟨gb127, 3, none⟩ = some (.bool false) := (qkc BK127.out 3).trans rfl; have hfz7_0 := qkf BK127.out 0; have hfz7_1 := qkf BK127.out 1; have hfz7_2 := qkf BK127.out 2; have hfz7_3 := qkf BK127.out 3; have hcz8_0 : w5.cell? ⟨gb126, 0, none⟩ = some (.int .i64 a0_0) := (qkc BK126.out 0).trans rfl; have hcz8_1 : w5.cell? ⟨gb126, 1, none⟩ = some (.int .i64 a0_1) := (qkc BK126.out 1).trans rfl; have hcz8_2 : w5.cell? ⟨gb126, 2, none⟩ = some (.string a0_2) := (qkc BK126.out 2).trans rfl; have hcz8_3 : w5.cell? ⟨gb126, 3, none⟩ = some (.bool a0_3) := (qkc BK126.out 3).trans rfl; have hfz8_0 := qkf BK126.out 0; have hfz8_1 := qkf BK126.out 1; have hfz8_2 := qkf BK126.out 2; have hfz8_3 := qkf BK126.out 3))
 (try simp only [Act.put, List.setIfInBounds_toArray, List.set_cons_zero, List.set_cons_succ])
 go_cut [] (fun wc => ∃ (kq : Nat) (x128001_1 : Int) (x128002_1 : ByteArray) (x128003_1 : Bool), Aside0 (value_Valid.j0 kq a0_0 a0_1 a0_2 a0_3 a0_0 x128001_1 x128002_1 x128003_1 = some r) ∧ Aside0 (kq ≤ k) ∧ Aside0 (wc.heap[gb126]? = some (.cells #[.int .i64 a0_0, .int .i64 a0_1, .string a0_2, .bool a0_3] 72 (0, 0))) ∧ Aside0 (wc.heap[gb127]? = some (.cells #[.int .i64 a0_0, .int .i64 x128001_1, .string x128002_1, .bool x128003_1] 72 (0, 0))) ∧ Aside0 (Below w.heap.size w wc))
 case first =>
  have H := HC2.out
  clear HC2
  by_cases c9 : a0_0 = 1
  ·rw [if_pos c9] at H
   have c9b0 : (a0_0 == 1) = true := beq_iff_eq.mpr c9
   have c9b1 : (a0_0 != 1) = false := bne_eq_false_iff_eq.mpr c9
   clear c9
   (first | rw [c9b0] | (simp only [i64_w, i32_w]; rw [c9b0]) | skip)
   have H' := Aside0.mk H
   clear H
   have hnb10 := NB127_126.out
   have hnc10 := NB126_127.out
   have hcz11_0 : w5.cell? ⟨gb127, 0, none⟩ = some (.int .i64 0) := (qkc BK127.out 0).trans rfl
   have hcz11_1 : w5.cell? ⟨gb127, 1, none⟩ = some (.int .i64 0) := (qkc BK127.out 1).trans rfl
   have hcz11_2 : w5.cell? ⟨gb127, 2, none⟩ = some (.string (⟨#[]⟩ : ByteArray)) := (qkc BK127.out 2).trans rfl
   have hcz11_3 : w5.cell? ⟨gb127, 3, none⟩ = some (.bool false) := (qkc BK127.out 3).trans rfl
   have hfz11_0 := qkf BK127.out 0
   have hfz11_1 := qkf BK127.out 1
   have hfz11_2 := qkf BK127.out 2
   have hfz11_3 := qkf BK127.out 3
   go_wp2
   refine Met.intro ?_
   go_step
   (repeat apply Exists.intro)
   refine ⟨?rel, ?frm⟩
   case frm => first | rfl | (simp only [c9b0, c9b1]; rfl) | (simp only [c9b0, c9b1]; first | done | rfl)
   case rel => exact ⟨_, (0), (a0_2), (a0_3), H', ⟨by first | omega | exact Nat.le_refl _⟩, ⟨by (with_reducible repeat (first | refine qkN ?_ _ | refine qkd ?_ | refine qka ?_ _)); refine qkr ?_ NB126_127.out _; (with_reducible repeat (first | refine qkN ?_ _ | refine qkd ?_ | refine qka ?_ _)); refine qkr ?_ NB126_127.out _; (with_reducible repeat (first | refine qkN ?_ _ | refine qkd ?_ | refine qka ?_ _)); refine qkr ?_ NB126_127.out _; (with_reducible repeat (first | refine qkN ?_ _ | refine qkd ?_ | refine qka ?_ _)); refine qkr ?_ NB126_127.out _; (with_reducible repeat (first | refine qkN ?_ _ | refine qkd ?_ | refine qka ?_ _)); refine qkr ?_ NB126_127.out _; (with_reducible repeat (first | refine qkN ?_ _ | refine qkd ?_ | refine qka ?_ _)); exact BK126.out⟩, ⟨by (with_reducible repeat (first | refine qkN ?_ _ | refine qkd ?_ | refine qka ?_ _)); refine qkp (cs := #[.int .i64 a0_0, .int .i64 a0_1, .string a0_2, .bool a0_3]) ?_ 1 _ rfl; (with_reducible repeat (first | refine qkN ?_ _ | refine qkd ?_ | refine qka ?_ _)); refine qkp (cs := #[.int .i64 a0_0, .int .i64 a0_1, .string a0_2, .bool false]) ?_ 3 _ rfl; (with_reducible repeat (first | refine qkN ?_ _ | refine qkd ?_ | refine qka ?_ _)); refine qkp (cs := #[.int .i64 a0_0, .int .i64 a0_1, .string (⟨#[]⟩ : ByteArray), .bool false]) ?_ 2 _ rfl; (with_reducible repeat (first | refine qkN ?_ _ | refine qkd ?_ | refine qka ?_ _)); refine qkp (cs := #[.int .i64 a0_0, .int .i64 0, .string (⟨#[]⟩ : ByteArray), .bool false]) ?_ 1 _ rfl; (with_reducible repeat (first | refine qkN ?_ _ | refine qkd ?_ | refine qka ?_ _)); refine qkp (cs := #[.int .i64 0, .int .i64 0, .string (⟨#[]⟩ : ByteArray), .bool false]) ?_ 0 _ rfl; (with_reducible repeat (first | refine qkN ?_ _ | refine qkd ?_ | refine qka ?_ _)); exact BK127.out⟩, ⟨bw_ HB.out⟩⟩
  rw [if_neg c9] at H
  have c9b0 : (a0_0 == 1) = false := beq_eq_false_iff_ne.mpr c9
  have c9b1 : (a0_0 != 1) = true := bne_iff_ne.mpr c9
  (first | rw [c9b0] | (simp only [i64_w, i32_w]; rw [c9b0]) | skip)
  by_cases c12 : a0_0 = 2
  ·rw [if_pos c12] at H
   have c12b0 : (a0_0 == 2) = true := beq_iff_eq.mpr c12
   have c12b1 : (a0_0 != 2) = false := bne_eq_false_iff_eq.mpr c12
   clear c12
   have H' := Aside0.mk H
   clear H
   have hnb13 := NB127_126.out
   have hnc13 := NB126_127.out
   have hcz14_0 : w5.cell? ⟨gb127, 0, none⟩ = some (.int .i64 0) := (qkc BK127.out 0).trans rfl
   have hcz14_1 : w5.cell? ⟨gb127, 1, none⟩ = some (.int .i64 0) := (qkc BK127.out 1).trans rfl
   have hcz14_2 : w5.cell? ⟨gb127, 2, none⟩ = some (.string (⟨#[]⟩ : ByteArray)) := (qkc BK127.out 2).trans rfl
   have hcz14_3 : w5.cell? ⟨gb127, 3, none⟩ = some (.bool false) := (qkc BK127.out 3).trans rfl
   have hfz14_0 := qkf BK127.out 0
   have hfz14_1 := qkf BK127.out 1
   have hfz14_2 := qkf BK127.out 2
   have hfz14_3 := qkf BK127.out 3
   go_wp2
   refine Met.intro ?_
   go_step
   (repeat apply Exists.intro)
   refine ⟨?rel, ?frm⟩
   case frm => first | rfl | (simp only [c9b0, c9b1, c12b0, c12b1]; rfl) | (simp only [c9b0, c9b1, c12b0, c12b1]; first | done | rfl)
   case rel => exact ⟨_, (a0_1), ((⟨#[]⟩ : ByteArray)), (a0_3), H', ⟨by first | omega | exact Nat.le_refl _⟩, ⟨by (with_reducible repeat (first | refine qkN ?_ _ | refine qkd ?_ | refine qka ?_ _)); refine qkr ?_ NB126_127.out _; (with_reducible repeat (first | refine qkN ?_ _ | refine qkd ?_ | refine qka ?_ _)); refine qkr ?_ NB126_127.out _; (with_reducible repeat (first | refine qkN ?_ _ | refine qkd ?_ | refine qka ?_ _)); refine qkr ?_ NB126_127.out _; (with_reducible repeat (first | refine qkN ?_ _ | refine qkd ?_ | refine qka ?_ _)); refine qkr ?_ NB126_127.out _; (with_reducible repeat (first | refine qkN ?_ _ | refine qkd ?_ | refine qka ?_ _)); refine qkr ?_ NB126_127.out _; (with_reducible repeat (first | refine qkN ?_ _ | refine qkd ?_ | refine qka ?_ _)); exact BK126.out⟩, ⟨by (with_reducible repeat (first | refine qkN ?_ _ | refine qkd ?_ | refine qka ?_ _)); refine qkp (cs := #[.int .i64 a0_0, .int .i64 a0_1, .string a0_2, .bool a0_3]) ?_ 2 _ rfl; (with_reducible repeat (first | refine qkN ?_ _ | refine qkd ?_ | refine qka ?_ _)); refine qkp (cs := #[.int .i64 a0_0, .int .i64 a0_1, .string a0_2, .bool false]) ?_ 3 _ rfl; (with_reducible repeat (first | refine qkN ?_ _ | refine qkd ?_ | refine qka ?_ _)); refine qkp (cs := #[.int .i64 a0_0, .int .i64 a0_1, .string (⟨#[]⟩ : ByteArray), .bool false]) ?_ 2 _ rfl; (with_reducible repeat (first | refine qkN ?_ _ | refine qkd ?_ | refine qka ?_ _)); refine qkp (cs := #[.int .i64 a0_0, .int .i64 0, .string (⟨#[]⟩ : ByteArray), .bool false]) ?_ 1 _ rfl; (with_reducible repeat (first | refine qkN ?_ _ | refine qkd ?_ | refine qka ?_ _)); refine qkp (cs := #[.int .i64 0, .int .i64 0, .string (⟨#[]⟩ : ByteArray), .bool false]) ?_ 0 _ rfl; (with_reducible repeat (first | refine qkN ?_ _ | refine qkd ?_ | refine qka ?_ _)); exact BK127.out⟩, ⟨bw_ HB.out⟩⟩
  rw [if_neg c12] at H
  have c12b0 : (a0_0 == 2) = false := beq_eq_false_iff_ne.mpr c12
  have c12b1 : (a0_0 != 2) = true := bne_iff_ne.mpr c12
  by_cases c15 : a0_0 = 3
  ·rw [if_pos c15] at H
   have c15b0 : (a0_0 == 3) = true := beq_iff_eq.mpr c15
   have c15b1 : (a0_0 != 3) = false := bne_eq_false_iff_eq.mpr c15
   clear c15
   have H' := Aside0.mk H
   clear H
   have hnb16 := NB127_126.out
   have hnc16 := NB126_127.out
   have hcz17_0 : w5.cell? ⟨gb127, 0, none⟩ = some (.int .i64 0) := (qkc BK127.out 0).trans rfl
   have hcz17_1 : w5.cell? ⟨gb127, 1, none⟩ = some (.int .i64 0) := (qkc BK127.out 1).trans rfl
   have hcz17_2 : w5.cell? ⟨gb127, 2, none⟩ = some (.string (⟨#[]⟩ : ByteArray)) := (qkc BK127.out 2).trans rfl
   have hcz17_3 : w5.cell? ⟨gb127, 3, none⟩ = some (.bool false) := (qkc BK127.out 3).trans rfl
   have hfz17_0 := qkf BK127.out 0
   have hfz17_1 := qkf BK127.out 1
   have hfz17_2 := qkf BK127.out 2
   have hfz17_3 := qkf BK127.out 3
   go_wp2
   refine Met.intro ?_
   go_step
   (repeat apply Exists.intro)
   refine ⟨?rel, ?frm⟩
   case frm => first | rfl | (simp only [c9b0, c9b1, c12b0, c12b1, c15b0, c15b1]; rfl) | (simp only [c9b0, c9b1, c12b0, c12b1, c15b0, c15b1]; first | done | rfl)
   case rel => exact ⟨_, (a0_1), (a0_2), (false), H', ⟨by first | omega | exact Nat.le_refl _⟩, ⟨by (with_reducible repeat (first | refine qkN ?_ _ | refine qkd ?_ | refine qka ?_ _)); refine qkr ?_ NB126_127.out _; (with_reducible repeat (first | refine qkN ?_ _ | refine qkd ?_ | refine qka ?_ _)); refine qkr ?_ NB126_127.out _; (with_reducible repeat (first | refine qkN ?_ _ | refine qkd ?_ | refine qka ?_ _)); refine qkr ?_ NB126_127.out _; (with_reducible repeat (first | refine qkN ?_ _ | refine qkd ?_ | refine qka ?_ _)); refine qkr ?_ NB126_127.out _; (with_reducible repeat (first | refine qkN ?_ _ | refine qkd ?_ | refine qka ?_ _)); refine qkr ?_ NB126_127.out _; (with_reducible repeat (first | refine qkN ?_ _ | refine qkd ?_ | refine qka ?_ _)); exact BK126.out⟩, ⟨by (with_reducible repeat (first | refine qkN ?_ _ | refine qkd ?_ | refine qka ?_ _)); refine qkp (cs := #[.int .i64 a0_0, .int .i64 a0_1, .string a0_2, .bool a0_3]) ?_ 3 _ rfl; (with_reducible repeat (first | refine qkN ?_ _ | refine qkd ?_ | refine qka ?_ _)); refine qkp (cs := #[.int .i64 a0_0, .int .i64 a0_1, .string a0_2, .bool false]) ?_ 3 _ rfl; (with_reducible repeat (first | refine qkN ?_ _ | refine qkd ?_ | refine qka ?_ _)); refine qkp (cs := #[.int .i64 a0_0, .int .i64 a0_1, .string (⟨#[]⟩ : ByteArray), .bool false]) ?_ 2 _ rfl; (with_reducible repeat (first | refine qkN ?_ _ | refine qkd ?_ | refine qka ?_ _)); refine qkp (cs := #[.int .i64 a0_0, .int .i64 0, .string (⟨#[]⟩ : ByteArray), .bool false]) ?_ 1 _ rfl; (with_reducible repeat (first | refine qkN ?_ _ | refine qkd ?_ | refine qka ?_ _)); refine qkp (cs := #[.int .i64 0, .int .i64 0, .string (⟨#[]⟩ : ByteArray), .bool false]) ?_ 0 _ rfl; (with_reducible repeat (first | refine qkN ?_ _ | refine qkd ?_ | refine qka ?_ _)); exact BK127.out⟩, ⟨bw_ HB.out⟩⟩
  rw [if_neg c15] at H
  have c15b0 : (a0_0 == 3) = false := beq_eq_false_iff_ne.mpr c15
  have c15b1 : (a0_0 != 3) = true := bne_iff_ne.mpr c15
  have H' := Aside0.mk H
  clear H
  go_wp2
  refine Met.intro ?_
  go_step
  (repeat apply Exists.intro)
  refine ⟨?rel, ?frm⟩
  case frm => first | rfl | (simp only [c9b0, c9b1, c12b0, c12b1, c15b0, c15b1]; rfl) | (simp only [c9b0, c9b1, c12b0, c12b1, c15b0, c15b1]; first | done | rfl)
  case rel => exact ⟨_, (a0_1), (a0_2), (a0_3), H', ⟨by first | omega | exact Nat.le_refl _⟩, ⟨by (with_reducible repeat (first | refine qkN ?_ _ | refine qkd ?_ | refine qka ?_ _)); refine qkr ?_ NB126_127.out _; (with_reducible repeat (first | refine qkN ?_ _ | refine qkd ?_ | refine qka ?_ _)); refine qkr ?_ NB126_127.out _; (with_reducible repeat (first | refine qkN ?_ _ | refine qkd ?_ | refine qka ?_ _)); refine qkr ?_ NB126_127.out _; (with_reducible repeat (first | refine qkN ?_ _ | refine qkd ?_ | refine qka ?_ _)); refine qkr ?_ NB126_127.out _; (with_reducible repeat (first | refine qkN ?_ _ | refine qkd ?_ | refine qka ?_ _)); exact BK126.out⟩, ⟨by (with_reducible repeat (first | refine qkN ?_ _ | refine qkd ?_ | refine qka ?_ _)); refine qkp (cs := #[.int .i64 a0_0, .int .i64 a0_1, .string a0_2, .bool false]) ?_ 3 _ rfl; (with_reducible repeat (first | refine qkN ?_ _ | refine qkd ?_ | refine qka ?_ _)); refine qkp (cs := #[.int .i64 a0_0, .int .i64 a0_1, .string (⟨#[]⟩ : ByteArray), .bool false]) ?_ 2 _ rfl; (with_reducible repeat (first | refine qkN ?_ _ | refine qkd ?_ | refine qka ?_ _)); refine qkp (cs := #[.int .i64 a0_0, .int .i64 0, .string (⟨#[]⟩ : ByteArray), .bool false]) ?_ 1 _ rfl; (with_reducible repeat (first | refine qkN ?_ _ | refine qkd ?_ | refine qka ?_ _)); refine qkp (cs := #[.int .i64 0, .int .i64 0, .string (⟨#[]⟩ : ByteArray), .bool false]) ?_ 0 _ rfl; (with_reducible repeat (first | refine qkN ?_ _ | refine qkd ?_ | refine qka ?_ _)); exact BK127.out⟩, ⟨bw_ HB.out⟩⟩
 clear HC2
 (try clear c1); (try clear p2); (try clear c3); (try clear c6); (try clear c9); (try clear c9b0); (try clear c9b1); (try clear c10); (try clear c12); (try clear c12b0); (try clear c12b1); (try clear c13)
 (try clear c15); (try clear c15b0); (try clear c15b1); (try clear c16); (try clear hcz11_0); (try clear hcz11_1); (try clear hcz11_2); (try clear hcz11_3); (try clear hcz14_0); (try clear hcz14_1); (try clear hcz14_2); (try clear hcz14_3)
 (try clear hcz17_0); (try clear hcz17_1); (try clear hcz17_2); (try clear hcz17_3); (try clear hcz4_0); (try clear hcz4_1); (try clear hcz4_2); (try clear hcz4_3); (try clear hcz7_0); (try clear hcz7_1); (try clear hcz7_2); (try clear hcz7_3)
 (try clear hcz8_0); (try clear hcz8_1); (try clear hcz8_2); (try clear hcz8_3); (try clear hfz11_0); (try clear hfz11_1); (try clear hfz11_2); (try clear hfz11_3); (try clear hfz14_0); (try clear hfz14_1); (try clear hfz14_2); (try clear hfz14_3)
 (try clear hfz17_0); (try clear hfz17_1); (try clear hfz17_2); (try clear hfz17_3); (try clear hfz4_0); (try clear hfz4_1); (try clear hfz4_2); (try clear hfz4_3); (try clear hfz7_0); (try clear hfz7_1); (try clear hfz7_2); (try clear hfz7_3)
 (try clear hfz8_0); (try clear hfz8_1); (try clear hfz8_2); (try clear hfz8_3)
 obtain ⟨kq, x128001_1, x128002_1, x128003_1, HA, HJ1, BK126, BK127, HB⟩ := hcut
 cases kq with
 | zero => exact absurd HA.out (by simp [value_Valid.j0])
 | succ kj1 =>
  have H := HA.out
  clear HA
  simp only [value_Valid.j0] at H
  have HC18 := Aside0.mk H
  clear H
  go_upto_region 9 with (fail)
  go_cut [16] (fun v16 wc => ∃ (kq : Nat) (x16_17 : Bool), v16 = .bool x16_17 ∧ Aside0 (value_Valid.j1 kq x16_17 a0_0 a0_1 a0_2 a0_3 = some r) ∧ Aside0 (kq ≤ kj1) ∧ Aside0 (wc.heap[gb126]? = some (.cells #[.int .i64 a0_0, .int .i64 a0_1, .string a0_2, .bool a0_3] 72 (0, 0))) ∧ Aside0 (wc.heap[gb127]? = some (.cells #[.int .i64 a0_0, .int .i64 x128001_1, .string x128002_1, .bool x128003_1] 72 (0, 0))) ∧ Aside0 (Below w.heap.size w wc))
  case first =>
   have H := HC18.out
   clear HC18
   replace H := Option.bind_eq_some_iff.mp H
   obtain ⟨t128, A190, H⟩ := H
   (try dsimp only at H)
   have A19 := Aside0.mk A190
   clear A190
   by_cases c20 : t128.toList = ([] : List UInt8)
   ·rw [if_pos c20] at H
    have c20b0 : (t128.toList == ([] : List UInt8)) = true := beq_iff_eq.mpr c20
    have c20b1 : (t128.toList != ([] : List UInt8)) = false := bne_eq_false_iff_eq.mpr c20
    clear c20
    (first | rw [c20b0] | (simp only [i64_w, i32_w]; rw [c20b0]) | skip)
    have H' := Aside0.mk H
    clear H
    have hnb21 := NB126_127.out
    have hnc21 := NB127_126.out
    have hcz22_0 : wc.cell? ⟨gb126, 0, none⟩ = some (.int .i64 a0_0) := (qkc BK126.out 0).trans rfl
    have hcz22_1 : wc.cell? ⟨gb126, 1, none⟩ = some (.int .i64 a0_1) := (qkc BK126.out 1).trans rfl
    have hcz22_2 : wc.cell? ⟨gb126, 2, none⟩ = some (.string a0_2) := (qkc BK126.out 2).trans rfl
    have hcz22_3 : wc.cell? ⟨gb126, 3, none⟩ = some (.bool a0_3) := (qkc BK126.out 3).trans rfl
    have hfz22_0 := qkf BK126.out 0
    have hfz22_1 := qkf BK126.out 1
    have hfz22_2 := qkf BK126.out 2
    have hfz22_3 := qkf BK126.out 3
    go_wp2_with (first | ((with_reducible refine qgc (f := 46) rfl ?_); refine goesL_ (some 19) rfl rfl Tryd.func46 (by kernel_rfl) rfl #[.int .i64 a0_0] rfl (by (try simp only [List.map_toArray, List.map_cons, List.map_nil]); first | done | rfl | (simp only [List.length_drop, List.length_take]; rfl)) ?_; (with_reducible refine (value_Kind.calls a0_0 t128 _ A19.out).mono ?_); rintro e w' ⟨rfl, ⟨nd, rfl⟩⟩; refine ⟨_, rfl, ?_⟩))
    refine Met.intro ?_
    go_step
    (repeat apply Exists.intro)
    refine ⟨?rel, ?frm⟩
    case frm => first | rfl | (simp only [c20b0, c20b1]; rfl) | (simp only [c20b0, c20b1]; first | done | rfl)
    case rel => exact ⟨_, (true), (by first | rfl | (simp; done) | (simp [*]; done) | (simp [bne]; done)), H', ⟨by have := HJ1.out; first | omega | exact Nat.le_refl _⟩, ⟨by (with_reducible repeat (first | refine qkN ?_ _ | refine qkd ?_ | refine qka ?_ _)); exact BK126.out⟩, ⟨by (with_reducible repeat (first | refine qkN ?_ _ | refine qkd ?_ | refine qka ?_ _)); exact BK127.out⟩, ⟨bw_ HB.out⟩⟩
   rw [if_neg c20] at H
   have c20b0 : (t128.toList == ([] : List UInt8)) = false := beq_eq_false_iff_ne.mpr c20
   have c20b1 : (t128.toList != ([] : List UInt8)) = true := bne_iff_ne.mpr c20
   (first | rw [c20b0] | (simp only [i64_w, i32_w]; rw [c20b0]) | skip)
   have H' := Aside0.mk H
   clear H
   have hnb23 := NB126_127.out
   have hnc23 := NB127_126.out
   have hcz24_0 : wc.cell? ⟨gb126, 0, none⟩ = some (.int .i64 a0_0) := (qkc BK126.out 0).trans rfl
   have hcz24_1 : wc.cell? ⟨gb126, 1, none⟩ = some (.int .i64 a0_1) := (qkc BK126.out 1).trans rfl
   have hcz24_2 : wc.cell? ⟨gb126, 2, none⟩ = some (.string a0_2) := (qkc BK126.out 2).trans rfl
   have hcz24_3 : wc.cell? ⟨gb126, 3, none⟩ = some (.bool a0_3) := (qkc BK126.out 3).trans rfl
   have hfz24_0 := qkf BK126.out 0
   have hfz24_1 := qkf BK126.out 1
   have hfz24_2 := qkf BK126.out 2
   have hfz24_3 := qkf BK126.out 3
   go_wp2_with (first | ((with_reducible refine qgc (f := 46) rfl ?_); refine goesL_ (some 19) rfl rfl Tryd.func46 (by kernel_rfl) rfl #[.int .i64 a0_0] rfl (by (try simp only [List.map_toArray, List.map_cons, List.map_nil]); first | done | rfl | (simp only [List.length_drop, List.length_take]; rfl)) ?_; (with_reducible refine (value_Kind.calls a0_0 t128 _ A19.out).mono ?_); rintro e w' ⟨rfl, ⟨nd, rfl⟩⟩; refine ⟨_, rfl, ?_⟩; have hcz25_0 : wc.cell? ⟨gb127, 0, none⟩ = some (.int .i64 a0_0) := (qkc BK127.out 0).trans rfl; have hcz25_1 : wc.cell? ⟨gb127, 1, none⟩ = some (.int .i64 x128001_1) := (qkc BK127.out 1).trans rfl; have hcz25_2 : wc.cell? ⟨gb127, 2, none⟩ = some (.string x128002_1) := (qkc BK127.out 2).trans rfl; have hcz25_3 : wc.cell? ⟨gb127, 3, none⟩ = some (.bool x128003_1) := (qkc BK127.out 3).trans rfl; have hfz25_0 := qkf BK127.out 0; have hfz25_1 := qkf BK127.out 1; have hfz25_2 := qkf BK127.out 2; have hfz25_3 := qkf BK127.out 3))
   refine Met.intro ?_
   go_step
   (repeat apply Exists.intro)
   refine ⟨?rel, ?frm⟩
   case frm => first | rfl | (simp only [c20b0, c20b1]; rfl) | (simp only [c20b0, c20b1]; first | done | rfl)
   case rel => exact ⟨_, ((!(a0_0 == a0_0) || (!(x128001_1 == 0) || (!(x128002_1.toList == ([] : List UInt8)) || (x128003_1))))), (by first | rfl | (simp; done) | (simp [*]; done) | (simp [bne]; done)), H', ⟨by have := HJ1.out; first | omega | exact Nat.le_refl _⟩, ⟨by (with_reducible repeat (first | refine qkN ?_ _ | refine qkd ?_ | refine qka ?_ _)); exact BK126.out⟩, ⟨by (with_reducible repeat (first | refine qkN ?_ _ | refine qkd ?_ | refine qka ?_ _)); exact BK127.out⟩, ⟨bw_ HB.out⟩⟩
  clear HC18
  (try clear c1); (try clear c2); (try clear p2); (try clear c3); (try clear c4); (try clear c6); (try clear c9); (try clear c9b0); (try clear c9b1); (try clear c10); (try clear c12); (try clear c12b0)
  (try clear c12b1); (try clear c13); (try clear c15); (try clear c15b0); (try clear c15b1); (try clear c16); (try clear c20); (try clear c20b0); (try clear c20b1); (try clear c21); (try clear c23); (try clear hcz11_0)
  (try clear hcz11_1); (try clear hcz11_2); (try clear hcz11_3); (try clear hcz14_0); (try clear hcz14_1); (try clear hcz14_2); (try clear hcz14_3); (try clear hcz17_0); (try clear hcz17_1); (try clear hcz17_2); (try clear hcz17_3); (try clear hcz22_0)
  (try clear hcz22_1); (try clear hcz22_2); (try clear hcz22_3); (try clear hcz24_0); (try clear hcz24_1); (try clear hcz24_2); (try clear hcz24_3); (try clear hcz25_0); (try clear hcz25_1); (try clear hcz25_2); (try clear hcz25_3); (try clear hcz4_0)
  (try clear hcz4_1); (try clear hcz4_2); (try clear hcz4_3); (try clear hcz7_0); (try clear hcz7_1); (try clear hcz7_2); (try clear hcz7_3); (try clear hcz8_0); (try clear hcz8_1); (try clear hcz8_2); (try clear hcz8_3); (try clear hfz11_0)
  (try clear hfz11_1); (try clear hfz11_2); (try clear hfz11_3); (try clear hfz14_0); (try clear hfz14_1); (try clear hfz14_2); (try clear hfz14_3); (try clear hfz17_0); (try clear hfz17_1); (try clear hfz17_2); (try clear hfz17_3); (try clear hfz22_0)
  (try clear hfz22_1); (try clear hfz22_2); (try clear hfz22_3); (try clear hfz24_0); (try clear hfz24_1); (try clear hfz24_2); (try clear hfz24_3); (try clear hfz25_0); (try clear hfz25_1); (try clear hfz25_2); (try clear hfz25_3); (try clear hfz4_0)
  (try clear hfz4_1); (try clear hfz4_2); (try clear hfz4_3); (try clear hfz7_0); (try clear hfz7_1); (try clear hfz7_2); (try clear hfz7_3); (try clear hfz8_0); (try clear hfz8_1); (try clear hfz8_2); (try clear hfz8_3); (try clear p2)
  obtain ⟨kq, x16_17, rfl, HA, HJ17, BK126, BK127, HB⟩ := hcut
  cases kq with
  | zero => exact absurd HA.out (by simp [value_Valid.j1])
  | succ kj17 =>
   have H := HA.out
   clear HA
   simp only [value_Valid.j1] at H
   by_cases c26 : x16_17 = true
   ·subst c26
    rw [if_pos rfl] at H
    obtain rfl := Option.some.inj H
    go_wp2
    go_ret
    exact ⟨by first | rfl | (simp [errW_none, errW_some] <;> rfl) | (simp [*, errW_none, errW_some] <;> rfl), bw_ HB.out⟩
   replace c26 := Bool.eq_false_iff.mpr c26
   subst c26
   rw [if_neg (show ¬ (false = true) by decide)] at H
   by_cases c27 : (a0_2.size : Int) > 4096
   ·rw [if_pos c27] at H
    have c27b0 : decide (4096 < (a0_2.size : Int)) = true := decide_eq_true c27
    have c27b1 : decide (4096 < a0_2.size) = true := decide_eq_true (by omega)
    clear c27
    obtain rfl := Option.some.inj H
    have hnb28 := NB126_127.out
    have hnc28 := NB127_126.out
    have hcz29_0 : wc.cell? ⟨gb126, 0, none⟩ = some (.int .i64 a0_0) := (qkc BK126.out 0).trans rfl
    have hcz29_1 : wc.cell? ⟨gb126, 1, none⟩ = some (.int .i64 a0_1) := (qkc BK126.out 1).trans rfl
    have hcz29_2 : wc.cell? ⟨gb126, 2, none⟩ = some (.string a0_2) := (qkc BK126.out 2).trans rfl
    have hcz29_3 : wc.cell? ⟨gb126, 3, none⟩ = some (.bool a0_3) := (qkc BK126.out 3).trans rfl
    have hfz29_0 := qkf BK126.out 0
    have hfz29_1 := qkf BK126.out 1
    have hfz29_2 := qkf BK126.out 2
    have hfz29_3 := qkf BK126.out 3
    go_wp2
    go_ret
    exact ⟨by first | rfl | (simp [errW_none, errW_some] <;> rfl) | (simp [*, errW_none, errW_some] <;> rfl), bw_ HB.out⟩
   rw [if_neg c27] at H
   have c27b0 : decide (4096 < (a0_2.size : Int)) = false := decide_eq_false c27
   have c27b1 : decide (4096 < a0_2.size) = false := decide_eq_false (by omega)
   clear c27
   replace H := Option.bind_eq_some_iff.mp H
   obtain ⟨t129, A300, H⟩ := H
   (try dsimp only at H)
   have A30 := Aside0.mk A300
   clear A300
   by_cases c31 : t129 ≥ 0
   ·rw [if_pos c31] at H
    have c31b0 : decide (0 ≤ t129) = true := decide_eq_true c31
    clear c31
    obtain rfl := Option.some.inj H
    have hnb32 := NB126_127.out
    have hnc32 := NB127_126.out
    have hcz33_0 : wc.cell? ⟨gb126, 0, none⟩ = some (.int .i64 a0_0) := (qkc BK126.out 0).trans rfl
    have hcz33_1 : wc.cell? ⟨gb126, 1, none⟩ = some (.int .i64 a0_1) := (qkc BK126.out 1).trans rfl
    have hcz33_2 : wc.cell? ⟨gb126, 2, none⟩ = some (.string a0_2) := (qkc BK126.out 2).trans rfl
    have hcz33_3 : wc.cell? ⟨gb126, 3, none⟩ = some (.bool a0_3) := (qkc BK126.out 3).trans rfl
    have hfz33_0 := qkf BK126.out 0
    have hfz33_1 := qkf BK126.out 1
    have hfz33_2 := qkf BK126.out 2
    have hfz33_3 := qkf BK126.out 3
    go_wp2_with (first | ((with_reducible refine qgc (f := 47) rfl ?_); refine goesL_ (some 38) rfl rfl Tryd.func47 (by kernel_rfl) rfl #[.string a0_2, .func (.func 48) #[] #[]] rfl (by (try simp only [List.map_toArray, List.map_cons, List.map_nil]); first | done | rfl | (simp only [List.length_drop, List.length_take]; rfl)) ?_; (with_reducible refine (strings_IndexFunc_Valid.calls a0_2 t129 _ A30.out).mono ?_); rintro e w34 ⟨rfl, hb⟩; refine ⟨_, rfl, ?_⟩; have n0_ := Aside0.mk (qkb (g := gb126) (o := .cells #[.int .i64 a0_0, .int .i64 a0_1, .string a0_2, .bool a0_3] 72 (0, 0)) (bl_ BK126.out) hb); have n1_ := Aside0.mk (qkb (g := gb127) (o := .cells #[.int .i64 a0_0, .int .i64 x128001_1, .string x128002_1, .bool x128003_1] 72 (0, 0)) (bl_ BK127.out) hb); have n2_ := Aside0.mk (below_step (bw_ HB.out) hb); clear BK126; clear BK127; clear HB; have BK126 := n0_; have BK127 := n1_; have HB := n2_; clear n0_ n1_ n2_; (try clear hb); (try clear hb2); (try clear hk); (try clear hi)))
    go_ret
    exact ⟨by first | rfl | (simp [errW_none, errW_some] <;> rfl) | (simp [*, errW_none, errW_some] <;> rfl), bw_ HB.out⟩
   rw [if_neg c31] at H
   have c31b0 : decide (0 ≤ t129) = false := decide_eq_false c31
   clear c31
   obtain rfl := Option.some.inj H
   have hnb35 := NB126_127.out
   have hnc35 := NB127_126.out
   have hcz36_0 : wc.cell? ⟨gb126, 0, none⟩ = some (.int .i64 a0_0) := (qkc BK126.out 0).trans rfl
   have hcz36_1 : wc.cell? ⟨gb126, 1, none⟩ = some (.int .i64 a0_1) := (qkc BK126.out 1).trans rfl
   have hcz36_2 : wc.cell? ⟨gb126, 2, none⟩ = some (.string a0_2) := (qkc BK126.out 2).trans rfl
   have hcz36_3 : wc.cell? ⟨gb126, 3, none⟩ = some (.bool a0_3) := (qkc BK126.out 3).trans rfl
   have hfz36_0 := qkf BK126.out 0
   have hfz36_1 := qkf BK126.out 1
   have hfz36_2 := qkf BK126.out 2
   have hfz36_3 := qkf BK126.out 3
   go_wp2_with (first | ((with_reducible refine qgc (f := 47) rfl ?_); refine goesL_ (some 38) rfl rfl Tryd.func47 (by kernel_rfl) rfl #[.string a0_2, .func (.func 48) #[] #[]] rfl (by (try simp only [List.map_toArray, List.map_cons, List.map_nil]); first | done | rfl | (simp only [List.length_drop, List.length_take]; rfl)) ?_; (with_reducible refine (strings_IndexFunc_Valid.calls a0_2 t129 _ A30.out).mono ?_); rintro e w37 ⟨rfl, hb⟩; refine ⟨_, rfl, ?_⟩; have n0_ := Aside0.mk (qkb (g := gb126) (o := .cells #[.int .i64 a0_0, .int .i64 a0_1, .string a0_2, .bool a0_3] 72 (0, 0)) (bl_ BK126.out) hb); have n1_ := Aside0.mk (qkb (g := gb127) (o := .cells #[.int .i64 a0_0, .int .i64 x128001_1, .string x128002_1, .bool x128003_1] 72 (0, 0)) (bl_ BK127.out) hb); have n2_ := Aside0.mk (below_step (bw_ HB.out) hb); clear BK126; clear BK127; clear HB; have BK126 := n0_; have BK127 := n1_; have HB := n2_; clear n0_ n1_ n2_; (try clear hb); (try clear hb2); (try clear hk); (try clear hi)))
   go_ret
   exact ⟨by first | rfl | (simp [errW_none, errW_some] <;> rfl) | (simp [*, errW_none, errW_some] <;> rfl), bw_ HB.out⟩

/-! ### order_word: function 31 -/
def order_word.l0 : Nat → List Int → Int → Int → Option (List Int)
 | 0, _, _, _ => none
 | k + 1, x0, x1, x5 => if x5 ≥ 0 then (if 0 ≤ (IntKind.u64.wrap (x5)) then (if x0.length < 140737488355328 then (order_word.l0 k (x0 ++ [(shr .u64 x1 (IntKind.u64.wrap (x5))) % 256]) x1 (wrap64 (x5 - 8))) else (none)) else (none)) else (some x0)
def order_word.f (k : Nat) (l0 : List Int) (a1 : Int) : Option (List Int) := order_word.l0 k l0 a1 56
theorem order_word.mono_l : ∀ k, (∀ y0 y1 y2, LeO (order_word.l0 k y0 y1 y2) (order_word.l0 (k + 1) y0 y1 y2))
 | 0 => fun _ _ _ r h => by simp [order_word.l0] at h
 | k + 1 => by
  have ih0 := order_word.mono_l k
  ·intro y0 y1 y2
   unfold order_word.l0
   repeat' first
   | (with_reducible exact ih0 _ _ _)
   | (with_reducible exact LeO.refl _)
   | (with_reducible exact LeO.none _)
   | (with_reducible refine LeO.ite ?_ ?_)
   | (with_reducible refine LeO.bind ?_ (fun _ => ?_))
   | exact ih0 _ _ _
   | exact LeO.none _
   | refine LeO.ite ?_ ?_
   | refine LeO.bind ?_ (fun _ => ?_)
theorem order_word.mono : ∀ a0 a1 k, LeO (order_word.f k a0 a1) (order_word.f (k + 1) a0 a1) := by
 intro a0 a1 k
 have ih0 := order_word.mono_l k
 unfold order_word.f
 repeat' first
   | (with_reducible exact ih0 _ _ _)
   | (with_reducible exact LeO.refl _)
   | (with_reducible exact LeO.none _)
   | (with_reducible refine LeO.ite ?_ ?_)
   | (with_reducible refine LeO.bind ?_ (fun _ => ?_))
   | exact ih0 _ _ _
   | exact LeO.none _
   | refine LeO.ite ?_ ?_
   | refine LeO.bind ?_ (fun _ => ?_)
set_option maxHeartbeats 8000000 in
set_option maxRecDepth 100000 in
theorem order_word.calls (k : Nat) (P0_ : Nat → Prop) (u9000_ : Value) (l0 : List Int) (a1 : Int) (r : List Int) (w0 w : World) (hB : Below w0.heap.size w0 w) (ho0 : Kd.R (Kd.int .u8) 5 w w0.heap.size P0_ u9000_ l0) (h : order_word.f k l0 a1 = some r) :
  Calls Tryd.prog 31 #[u9000_, .int .u64 a1] w fun e w' => ∃ v0_ : Value, e = .returned (v0_) ∧ Kd.R (Kd.int .u8) 5 w' w0.heap.size (fun k_ => (P0_ k_ ∨ w.heap.size ≤ k_)) v0_ r ∧ Below w0.heap.size w0 w' ∧ Kept w w' (fun k_ => P0_ k_) := by
 have HO0 := Aside0.mk (show Kd.R (Kd.int .u8) 5 w w0.heap.size (fun k_ => (P0_ k_ ∨ w.heap.size ≤ k_)) u9000_ l0 from Kd.R_mono ho0 (fun k_ hk => (.inl hk)))
 have HK := Aside0.mk (Kept.refl w (fun k_ => P0_ k_))
 have HW0 := Aside0.mk hB.size
 have HB := Aside0.mk hB
 clear hB
 have H : (order_word.l0 k l0 a1 56) = some r := h
 clear h
 have H' := Aside0.mk H
 clear H
 go_enter Tryd.func31, Tryd.ntmps31
 go_wp2
 go_loopg [0, 5] k (fun kq v0 v5 w' => ∃ (x0_1 : List Int) (x5_1 : Int), v5 = .int .i64 x5_1 ∧ Aside0 (order_word.l0 kq x0_1 a1 x5_1 = some r) ∧ Aside0 (kq ≤ k) ∧ Aside0 (Kd.R (Kd.int .u8) 5 w' w0.heap.size (fun k_ => (P0_ k_ ∨ w.heap.size ≤ k_)) v0 x0_1) ∧ Aside0 (Kept w w' (fun k_ => P0_ k_)) ∧ Aside0 (Below w0.heap.size w0 w'))
 case atStart => exact ⟨(l0), (56), (by first | rfl | (simp; done) | (simp [*]; done) | (simp [bne]; done)), H', ⟨Nat.le_refl _⟩, ⟨by (with_reducible repeat (first | apply Kd.R_alloc | apply Kd.R_drewN | apply Kd.R_drew)); exact HO0.out⟩, ⟨by repeat (first | (with_reducible first | exact HK.out | apply Kept.alloc | apply Kept.drewN | apply Kept.drew) | exact HK.out)⟩, ⟨bw_ HB.out⟩⟩
 case round =>
  clear H'
  (try clear p2)
  obtain ⟨x0_1, x5_1, rfl, HA, HK1, HO_0, HK, HB⟩ := hrel
  cases gk with
  | zero => exact absurd HA.out (by simp [order_word.l0])
  | succ k1 =>
   have H := HA.out
   clear HA
   simp only [order_word.l0] at H
   by_cases c3 : x5_1 ≥ 0
   ·rw [if_pos c3] at H
    have c3b0 : decide (0 ≤ x5_1) = true := decide_eq_true c3
    clear c3
    obtain ⟨ji4, hji4⟩ : ∃ j_ : Int, (IntKind.u64.wrap (x5_1)) = j_ := ⟨_, rfl⟩
    replace H : (if 0 ≤ (ji4) then (if x0_1.length < 140737488355328 then (order_word.l0 k1 (x0_1 ++ [(shr .u64 a1 (ji4)) % 256]) a1 (wrap64 (x5_1 - 8))) else (none)) else (none)) = some r := by first | (rw [hji4] at H; exact H) | (simp only [hji4] at H ⊢; exact H)
    have c5 : 0 ≤ (ji4) := Classical.byContradiction fun c5 => by rw [if_neg c5] at H; exact absurd H (by simp)
    rw [if_pos c5] at H
    have c5b0 := eq_true c5
    have c5b1 : decide (0 ≤ (ji4)) = true := decide_eq_true c5
    clear c5
    obtain ⟨ji6, hji6⟩ : ∃ j_ : Int, (shr .u64 a1 (ji4)) = j_ := ⟨_, rfl⟩
    replace H : (if x0_1.length < 140737488355328 then (order_word.l0 k1 (x0_1 ++ [(ji6) % 256]) a1 (wrap64 (x5_1 - 8))) else (none)) = some r := by first | (rw [hji6] at H; exact H) | (simp only [hji6] at H ⊢; exact H)
    have hji6_ : (a1 / 2 ^ min (ji4).toNat 64) = ji6 := hji6
    have hji6z : (ji4) ≤ 64 → (a1 / 2 ^ (ji4).toNat) = ji6 := shr_small hji6
    have c7 : x0_1.length < 140737488355328 := Classical.byContradiction fun c7 => by rw [if_neg c7] at H; exact absurd H (by simp)
    rw [if_pos c7] at H
    have LMc7 := Aside0.mk c7
    clear c7
    obtain ⟨y130, hy130⟩ : ∃ y_ : List Int, y_ = (x0_1 ++ [(ji6) % 256]) := ⟨_, rfl⟩
    replace H : (order_word.l0 k1 y130 a1 (wrap64 (x5_1 - 8))) = some r := by first | (rw [hy130]; with_reducible exact H) | (have H2_ := (Option.bind_some _ _).symm.trans H; rw [hy130]; with_reducible exact H2_) | (have H2_ := (Option.bind_some _ _).symm.trans H; with_reducible exact H2_) | with_reducible exact H | (rw [hy130]; exact H) | exact H
    have Ny130 := Aside0.mk hy130
    clear hy130
    have H' := Aside0.mk H
    clear H
    go_wp2_with (first | ((with_reducible refine gate_builtin (b := .append) (xs := #[.tmp 10, .tmp 16]) rfl ?_); at_builtin; refine Kd.R_append (Kd.int .u8) (w0 := w0) w0.heap.size rfl (.tmp 10) (.tmp 16) 25 5 (.int .u8 0) 1 rfl Tryd.underlying25 info5 rfl (by decide) (by omega) u0 x0_1 ((ji6) % 256) [.int .u8 ((ji6) % 256)] (fun k_ => (P0_ k_ ∨ w.heap.size ≤ k_)) (fun _ => False) rfl rfl ?aP (fun _ hk => hk.elim) ?aF ?aO ?aB ?aS ?aL ?_; (case aP => exact rfl); (case aB => exact (bw_ HB.out)); (case aF => exact (fun k_ hk => (.inr (Nat.le_trans (by first | exact HK.out.1 | exact (show Kept w _ (fun k_ => P0_ k_) from by repeat (first | (with_reducible first | exact HK.out | apply Kept.alloc | apply Kept.drewN | apply Kept.drew) | exact HK.out)).1) hk)))); (case aO => exact (kR_ HO_0.out)); (case aS => exact (qbz (bw_ HB.out))); (case aL => have := LMc7.out; omega); intro v131 w8 ho hb hg hat; rw [← Ny130.out] at ho; have n0_ := Aside0.mk (hb); have n1_ := Aside0.mk (Kept.of_grown (S := (fun k_ => P0_ k_)) hg (by repeat (first | (with_reducible first | exact HK.out | apply Kept.alloc | apply Kept.drewN | apply Kept.drew) | exact HK.out)) (fun k_ e_ => (HO_0.out.1 k_ e_))); have n2_ := Aside0.mk (ho); clear HB; clear HK; clear HO_0; have HB := n0_; have HK := n1_; have HO132 := n2_; clear n0_ n1_ n2_; clear ho hb hg hat))
    go_roundg k1
    case measure => have := HK1.out; omega
    case rel => exact ⟨(y130), (wrap64 (x5_1 - 8)), (by first | rfl | (simp; done) | (simp [*]; done) | (simp [bne]; done)), H', ⟨by have := HK1.out; omega⟩, ⟨by (with_reducible repeat (first | apply Kd.R_alloc | apply Kd.R_drewN | apply Kd.R_drew)); exact HO132.out⟩, ⟨by repeat (first | (with_reducible first | exact HK.out | apply Kept.alloc | apply Kept.drewN | apply Kept.drew) | exact HK.out)⟩, ⟨bw_ HB.out⟩⟩
   rw [if_neg c3] at H
   have c3b0 : decide (0 ≤ x5_1) = false := decide_eq_false c3
   clear c3
   obtain rfl := Option.some.inj H
   go_wp2
   go_ret
   exact ⟨_, by first | rfl | (simp [errW_none, errW_some] <;> rfl) | (simp [*, errW_none, errW_some] <;> rfl), by (with_reducible repeat (first | apply Kd.R_alloc | apply Kd.R_drewN | apply Kd.R_drew)); exact HO_0.out, bw_ HB.out, by repeat (first | (with_reducible first | exact HK.out | apply Kept.alloc | apply Kept.drewN | apply Kept.drew) | exact HK.out)⟩

end Go.Proofs.YtddkbhglbkfelaaDoor.E
