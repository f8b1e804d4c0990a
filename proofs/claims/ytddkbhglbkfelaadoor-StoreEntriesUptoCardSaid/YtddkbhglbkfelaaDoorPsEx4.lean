import Derived.Test.YtddkbhglbkfelaaDoorPsEx0
import Derived.Test.YtddkbhglbkfelaaDoorPsEx2
import Derived.Test.YtddkbhglbkfelaaDoorPsEx3
namespace Go.Proofs.YtddkbhglbkfelaaDoor.E
open Go.RowKit Go.Proofs.YtddkbhglbkfelaaDoorW.PrintWords Go.Proofs.YtddkbhglbkfelaaDoorW.PrintLast Go.Proofs.YtddkbhglbkfelaaDoorW.PrintMore Go.Proofs.YtddkbhglbkfelaaDoorX
attribute [local go_sem] max2_int min2_int max_two min_two max_three min_three max_four min_four
set_option linter.unusedVariables false
set_option linter.unusedSimpArgs false

/-! ### order_Encode: function 15 -/
mutual
def order_Encode.l0 : Nat → List (S72) → List (S72) → Int → Int → Option (ByteArray × Option Int)
 | 0, _, _, _, _ => none
 | k + 1, x0, x11, x12, x13 => if x13 < x12 then (if 0 ≤ x13 then (if x13 < (x11.length : Int) then ((value_Valid.f k ((rd_T72 x11 x13).f0) ((rd_T72 x11 x13).f1) ((rd_T72 x11 x13).f2) ((rd_T72 x11 x13).f3)).bind fun t135 => (if t135.isNone = true then (order_Encode.l0 k x0 x11 x12 (wrap64 (x13 + 1))) else (some ((⟨#[]⟩ : ByteArray), some (t135.getD 0))))) else (none)) else (none)) else (if (x0.length : Int) > 16 then (some ((⟨#[]⟩ : ByteArray), some 2)) else (order_Encode.l1 k ([] : List Int) x0 (x0.length : Int) 0))
def order_Encode.l1 : Nat → List Int → List (S72) → Int → Int → Option (ByteArray × Option Int)
 | 0, _, _, _, _ => none
 | k + 1, x7, x27, x28, x29 => if x29 < x28 then (if 0 ≤ x29 then (if x29 < (x27.length : Int) then (if x7.length < 140737488355328 then ((some (x7 ++ [(((rd_T72 x27 x29).f0) + 1) % 256] : List Int)).bind fun y139 => (if ((rd_T72 x27 x29).f0) = 1 then ((order_word.f k y139 (Go.bits .xor .u64 (IntKind.u64.wrap ((rd_T72 x27 x29).f1)) 9223372036854775808)).bind fun t142 => (order_Encode.l1 k t142 x27 x28 (wrap64 (x29 + 1)))) else (if ((rd_T72 x27 x29).f0) = 2 then (if y139.length + ((rd_T72 x27 x29).f2).size < 140737488355328 then ((some (y139 ++ bytesOf ((rd_T72 x27 x29).f2) : List Int)).bind fun y145 => (if y145.length < 140737488355328 then (order_Encode.l1 k (y145 ++ [0]) x27 x28 (wrap64 (x29 + 1))) else (none))) else (none)) else (if ((rd_T72 x27 x29).f0) = 3 then (if (rd_T72 x27 x29).f3 = true then (if y139.length < 140737488355328 then (order_Encode.l1 k (y139 ++ [1]) x27 x28 (wrap64 (x29 + 1))) else (none)) else (if y139.length < 140737488355328 then (order_Encode.l1 k (y139 ++ [0]) x27 x28 (wrap64 (x29 + 1))) else (none))) else (order_Encode.l1 k y139 x27 x28 (wrap64 (x29 + 1))))))) else (none)) else (none)) else (none)) else (some (strOfNums x7, none))
end
def order_Encode.f (k : Nat) (l0 : List (S72)) : Option (ByteArray × Option Int) := order_Encode.l0 k l0 l0 (l0.length : Int) 0
theorem order_Encode.mono_l : ∀ k, (∀ y0 y1 y2 y3, LeO (order_Encode.l0 k y0 y1 y2 y3) (order_Encode.l0 (k + 1) y0 y1 y2 y3)) ∧ (∀ y0 y1 y2 y3, LeO (order_Encode.l1 k y0 y1 y2 y3) (order_Encode.l1 (k + 1) y0 y1 y2 y3))
 | 0 => ⟨fun _ _ _ _ r h => by simp [order_Encode.l0] at h, fun _ _ _ _ r h => by simp [order_Encode.l1] at h⟩
 | k + 1 => by
  obtain ⟨ih0, ih1⟩ := order_Encode.mono_l k
  refine ⟨?_, ?_⟩
  ·intro y0 y1 y2 y3
   unfold order_Encode.l0
   repeat' first
   | (with_reducible exact ih0 _ _ _ _)
   | (with_reducible exact ih1 _ _ _ _)
   | (with_reducible exact order_word.mono _ _ _)
   | (with_reducible exact value_Valid.mono _ _ _ _ _)
   | (with_reducible exact LeO.refl _)
   | (with_reducible exact LeO.none _)
   | (with_reducible refine LeO.ite ?_ ?_)
   | (with_reducible refine LeO.bind ?_ (fun _ => ?_))
   | exact ih0 _ _ _ _
   | exact ih1 _ _ _ _
   | exact order_word.mono _ _ _
   | exact value_Valid.mono _ _ _ _ _
   | exact LeO.none _
   | refine LeO.ite ?_ ?_
   | refine LeO.bind ?_ (fun _ => ?_)
  intro y0 y1 y2 y3
  unfold order_Encode.l1
  repeat' first
  | (with_reducible exact ih0 _ _ _ _)
  | (with_reducible exact ih1 _ _ _ _)
  | (with_reducible exact order_word.mono _ _ _)
  | (with_reducible exact value_Valid.mono _ _ _ _ _)
  | (with_reducible exact LeO.refl _)
  | (with_reducible exact LeO.none _)
  | (with_reducible refine LeO.ite ?_ ?_)
  | (with_reducible refine LeO.bind ?_ (fun _ => ?_))
  | exact ih0 _ _ _ _
  | exact ih1 _ _ _ _
  | exact order_word.mono _ _ _
  | exact value_Valid.mono _ _ _ _ _
  | exact LeO.none _
  | refine LeO.ite ?_ ?_
  | refine LeO.bind ?_ (fun _ => ?_)
theorem order_Encode.mono : ∀ a0 k, LeO (order_Encode.f k a0) (order_Encode.f (k + 1) a0) := by
 intro a0 k
 obtain ⟨ih0, ih1⟩ := order_Encode.mono_l k
 unfold order_Encode.f
 repeat' first
   | (with_reducible exact ih0 _ _ _ _)
   | (with_reducible exact ih1 _ _ _ _)
   | (with_reducible exact order_word.mono _ _ _)
   | (with_reducible exact value_Valid.mono _ _ _ _ _)
   | (with_reducible exact LeO.refl _)
   | (with_reducible exact LeO.none _)
   | (with_reducible refine LeO.ite ?_ ?_)
   | (with_reducible refine LeO.bind ?_ (fun _ => ?_))
   | exact ih0 _ _ _ _
   | exact ih1 _ _ _ _
   | exact order_word.mono _ _ _
   | exact value_Valid.mono _ _ _ _ _
   | exact LeO.none _
   | refine LeO.ite ?_ ?_
   | refine LeO.bind ?_ (fun _ => ?_)
set_option maxHeartbeats 8000000 in
set_option maxRecDepth 100000 in
theorem order_Encode.calls (k : Nat) (A0 : Option Addr) (c0 : Nat) (l0 : List (S72)) (r1 : ByteArray) (r2 : Option Int) (w : World) (hr0 : Kd.C k72 w A0 l0.length l0) (hc0 : l0.length ≤ c0) (h : order_Encode.f k l0 = some (r1, r2)) :
  Calls Tryd.prog 15 #[.slice A0 l0.length c0] w fun e w' => e = .returned (.tuple #[.string r1, errW r2]) ∧ Below w.heap.size w w' := by
 have hu72 := Tryd.underlying72
 have hu27 := Tryd.underlying27
 have hu43 := Tryd.underlying43
 have HR0 := Aside0.mk hr0
 have HC0 := Aside0.mk hc0
 clear hr0 hc0
 have HB := Aside0.mk (Below.refl w.heap.size w)
 have H : (order_Encode.l0 k l0 l0 (l0.length : Int) 0) = some (r1, r2) := h
 clear h
 have H' := Aside0.mk H
 clear H
 go_enter Tryd.func15, Tryd.ntmps15
 go_wp2
 go_loopg [13] k (fun kq v13 w' => ∃ (x13_1 : Int), v13 = .int .i64 x13_1 ∧ Aside0 (order_Encode.l0 kq l0 l0 (l0.length : Int) x13_1 = some (r1, r2)) ∧ Aside0 (kq ≤ k) ∧ Aside0 (Below w.heap.size w w'))
 case atStart => exact ⟨(0), (by first | rfl | (simp; done) | (simp [*]; done) | (simp [bne]; done)), H', ⟨Nat.le_refl _⟩, ⟨bw_ HB.out⟩⟩
 case round =>
  clear H'
  (try clear c1)
  obtain ⟨x13_1, rfl, HA, HK1, HB⟩ := hrel
  cases gk with
  | zero => exact absurd HA.out (by simp [order_Encode.l0])
  | succ k1 =>
   have H := HA.out
   clear HA
   simp only [order_Encode.l0] at H
   by_cases c2 : x13_1 < (l0.length : Int)
   ·rw [if_pos c2] at H
    have c2b0 : decide (x13_1 < (l0.length : Int)) = true := decide_eq_true c2
    clear c2
    have c3 : 0 ≤ x13_1 := Classical.byContradiction fun c3 => by rw [if_neg c3] at H; exact absurd H (by simp)
    rw [if_pos c3] at H
    have c3b0 : decide (0 ≤ x13_1) = true := decide_eq_true c3
    clear c3
    have c4 : x13_1 < (l0.length : Int) := Classical.byContradiction fun c4 => by rw [if_neg c4] at H; exact absurd H (by simp)
    rw [if_pos c4] at H
    have c4b0 : decide (x13_1 < (l0.length : Int)) = true := decide_eq_true c4
    clear c4
    replace H := Option.bind_eq_some_iff.mp H
    obtain ⟨t135, A50, H⟩ := H
    (try dsimp only at H)
    have A5 := Aside0.mk A50
    clear A50
    rcases t135 with _ | q136
    ·have H1 : (order_Encode.l0 k1 l0 l0 (l0.length : Int) (wrap64 (x13_1 + 1))) = some (r1, r2) := by rw [if_pos (show (none : Option Int).isNone = true by rfl)] at H; exact H
     clear H
     have H := H1
     clear H1
     try simp only [errW_none, errW_some]
     have H' := Aside0.mk H
     clear H
     have p133 : 0 ≤ (x13_1 : Int) := ode_
     have q133 : x13_1 < (l0.length : Int) := ode_
     obtain ⟨ad133, e133, hx133_0, hx133_1, hx133_2, hx133_3⟩ := at_T72 HR0.out x13_1 p133 q133
     cases e133
     replace hx133_0 := (HB.out.cell (World.block_lt_of_cell? w _ hx133_0)).trans hx133_0
     replace hx133_1 := (HB.out.cell (World.block_lt_of_cell? w _ hx133_1)).trans hx133_1
     replace hx133_2 := (HB.out.cell (World.block_lt_of_cell? w _ hx133_2)).trans hx133_2
     replace hx133_3 := (HB.out.cell (World.block_lt_of_cell? w _ hx133_3)).trans hx133_3
     replace p133 := eq_true p133
     replace q133 := eq_true q133
     go_wp2_with (first | ((with_reducible refine qgd (N := 5) rfl ?_); refine qbe ?hg (N := 5) ?hd (cs := #[.int .i64 0, .int .i64 0, .string (⟨#[]⟩ : ByteArray), .bool false]) (t := 72) ?hr ?_; (case hd => rfl); (case hg => rfl); (case hr => first | (go_simp; done) | (go_simp; rfl)); intro gb134 hg w6 hbox hb; have n0_ := Aside0.mk (below_step (bw_ HB.out) hb); have n1_ := Aside0.mk (hbox); have n2_ := Aside0.mk ((by rw [hg]; exact (qbz (bw_ HB.out)) : w.heap.size ≤ gb134)); have n3_ := Aside0.mk ((by rw [hg]; exact (qbz (bw_ HB.out)) : w.heap.size ≤ gb134)); clear HB; have HB := n0_; have BK134 := n1_; have GW134 := n2_; have GE134 := n3_; clear n0_ n1_ n2_ n3_; clear hb hbox hg; have hcz7_0 : w6.cell? ⟨gb134, 0, none⟩ = some (.int .i64 0) := (qkc BK134.out 0).trans rfl; have hcz7_1 : w6.cell? ⟨gb134, 1, none⟩ = some (.int .i64 0) := (qkc BK134.out 1).trans rfl; have hcz7_2 : w6.cell? ⟨gb134, 2, none⟩ = some (.string (⟨#[]⟩ : ByteArray)) := (qkc BK134.out 2).trans rfl; have hcz7_3 : w6.cell? ⟨gb134, 3, none⟩ = some (.bool false) := (qkc BK134.out 3).trans rfl; have hfz7_0 := qkf BK134.out 0; have hfz7_1 := qkf BK134.out 1; have hfz7_2 := qkf BK134.out 2; have hfz7_3 := qkf BK134.out 3) | ((with_reducible refine qgc (f := 30) rfl ?_); refine goesL_ (some 18) rfl rfl Tryd.func30 (by kernel_rfl) rfl #[.agg #[.int .i64 ((rd_T72 l0 x13_1).f0), .int .i64 ((rd_T72 l0 x13_1).f1), .string ((rd_T72 l0 x13_1).f2), .bool ((rd_T72 l0 x13_1).f3)]] rfl (by (try simp only [List.map_toArray, List.map_cons, List.map_nil]); first | done | rfl | (simp only [List.length_drop, List.length_take]; rfl)) ?_; (with_reducible refine (value_Valid.calls k1 ((rd_T72 l0 x13_1).f0) ((rd_T72 l0 x13_1).f1) ((rd_T72 l0 x13_1).f2) ((rd_T72 l0 x13_1).f3) none _ A5.out).mono ?_); rintro e w8 ⟨rfl, hb⟩; refine ⟨_, rfl, ?_⟩; have n0_ := Aside0.mk (qkb (g := gb134) (o := .cells #[.int .i64 ((rd_T72 l0 x13_1).f0), .int .i64 ((rd_T72 l0 x13_1).f1), .string ((rd_T72 l0 x13_1).f2), .bool ((rd_T72 l0 x13_1).f3)] 72 (0, 0)) (by (with_reducible repeat (first | refine qkN ?_ _ | refine qkd ?_ | refine qka ?_ _)); refine qkp (cs := #[.int .i64 ((rd_T72 l0 x13_1).f0), .int .i64 ((rd_T72 l0 x13_1).f1), .string ((rd_T72 l0 x13_1).f2), .bool false]) ?_ 3 _ rfl; (with_reducible repeat (first | refine qkN ?_ _ | refine qkd ?_ | refine qka ?_ _)); refine qkp (cs := #[.int .i64 ((rd_T72 l0 x13_1).f0), .int .i64 ((rd_T72 l0 x13_1).f1), .string (⟨#[]⟩ : ByteArray), .bool false]) ?_ 2 _ rfl; (with_reducible repeat (first | refine qkN ?_ _ | refine qkd ?_ | refine qka ?_ _)); refine qkp (cs := #[.int .i64 ((rd_T72 l0 x13_1).f0), .int .i64 0, .string (⟨#[]⟩ : ByteArray), .bool false]) ?_ 1 _ rfl; (with_reducible repeat (first | refine qkN ?_ _ | refine qkd ?_ | refine qka ?_ _)); refine qkp (cs := #[.int .i64 0, .int .i64 0, .string (⟨#[]⟩ : ByteArray), .bool false]) ?_ 0 _ rfl; (with_reducible repeat (first | refine qkN ?_ _ | refine qkd ?_ | refine qka ?_ _)); exact BK134.out) hb); have n1_ := Aside0.mk (below_step (bw_ HB.out) hb); clear BK134; clear HB; have BK134 := n0_; have HB := n1_; clear n0_ n1_; (try clear hb); (try clear hb2); (try clear hk); (try clear hi); (try simp only [errW_none, errW_some])))
     go_roundg k1
     case measure => have := HK1.out; omega
     case rel => exact ⟨(wrap64 (x13_1 + 1)), (by first | rfl | (simp; done) | (simp [*]; done) | (simp [bne]; done)), H', ⟨by have := HK1.out; omega⟩, ⟨bw_ HB.out⟩⟩
    have H1 : (some ((⟨#[]⟩ : ByteArray), some q136)) = some (r1, r2) := by rw [if_neg (show ¬ (some q136).isNone = true by simp)] at H; exact H
    clear H
    have H := H1
    clear H1
    try simp only [errW_none, errW_some]
    simp only [Option.some.injEq, Prod.mk.injEq] at H
    obtain ⟨rfl, rfl⟩ := H
    have p133 : 0 ≤ (x13_1 : Int) := ode_
    have q133 : x13_1 < (l0.length : Int) := ode_
    obtain ⟨ad133, e133, hx133_0, hx133_1, hx133_2, hx133_3⟩ := at_T72 HR0.out x13_1 p133 q133
    cases e133
    replace hx133_0 := (HB.out.cell (World.block_lt_of_cell? w _ hx133_0)).trans hx133_0
    replace hx133_1 := (HB.out.cell (World.block_lt_of_cell? w _ hx133_1)).trans hx133_1
    replace hx133_2 := (HB.out.cell (World.block_lt_of_cell? w _ hx133_2)).trans hx133_2
    replace hx133_3 := (HB.out.cell (World.block_lt_of_cell? w _ hx133_3)).trans hx133_3
    replace p133 := eq_true p133
    replace q133 := eq_true q133
    go_wp2_with (first | ((with_reducible refine qgd (N := 5) rfl ?_); refine qbe ?hg (N := 5) ?hd (cs := #[.int .i64 0, .int .i64 0, .string (⟨#[]⟩ : ByteArray), .bool false]) (t := 72) ?hr ?_; (case hd => rfl); (case hg => rfl); (case hr => first | (go_simp; done) | (go_simp; rfl)); intro gb134 hg w9 hbox hb; have n0_ := Aside0.mk (below_step (bw_ HB.out) hb); have n1_ := Aside0.mk (hbox); have n2_ := Aside0.mk ((by rw [hg]; exact (qbz (bw_ HB.out)) : w.heap.size ≤ gb134)); have n3_ := Aside0.mk ((by rw [hg]; exact (qbz (bw_ HB.out)) : w.heap.size ≤ gb134)); clear HB; have HB := n0_; have BK134 := n1_; have GW134 := n2_; have GE134 := n3_; clear n0_ n1_ n2_ n3_; clear hb hbox hg; have hcz10_0 : w9.cell? ⟨gb134, 0, none⟩ = some (.int .i64 0) := (qkc BK134.out 0).trans rfl; have hcz10_1 : w9.cell? ⟨gb134, 1, none⟩ = some (.int .i64 0) := (qkc BK134.out 1).trans rfl; have hcz10_2 : w9.cell? ⟨gb134, 2, none⟩ = some (.string (⟨#[]⟩ : ByteArray)) := (qkc BK134.out 2).trans rfl; have hcz10_3 : w9.cell? ⟨gb134, 3, none⟩ = some (.bool false) := (qkc BK134.out 3).trans rfl; have hfz10_0 := qkf BK134.out 0; have hfz10_1 := qkf BK134.out 1; have hfz10_2 := qkf BK134.out 2; have hfz10_3 := qkf BK134.out 3) | ((with_reducible refine qgc (f := 30) rfl ?_); refine goesL_ (some 18) rfl rfl Tryd.func30 (by kernel_rfl) rfl #[.agg #[.int .i64 ((rd_T72 l0 x13_1).f0), .int .i64 ((rd_T72 l0 x13_1).f1), .string ((rd_T72 l0 x13_1).f2), .bool ((rd_T72 l0 x13_1).f3)]] rfl (by (try simp only [List.map_toArray, List.map_cons, List.map_nil]); first | done | rfl | (simp only [List.length_drop, List.length_take]; rfl)) ?_; (with_reducible refine (value_Valid.calls k1 ((rd_T72 l0 x13_1).f0) ((rd_T72 l0 x13_1).f1) ((rd_T72 l0 x13_1).f2) ((rd_T72 l0 x13_1).f3) (some q136) _ A5.out).mono ?_); rintro e w11 ⟨rfl, hb⟩; refine ⟨_, rfl, ?_⟩; have n0_ := Aside0.mk (qkb (g := gb134) (o := .cells #[.int .i64 ((rd_T72 l0 x13_1).f0), .int .i64 ((rd_T72 l0 x13_1).f1), .string ((rd_T72 l0 x13_1).f2), .bool ((rd_T72 l0 x13_1).f3)] 72 (0, 0)) (by (with_reducible repeat (first | refine qkN ?_ _ | refine qkd ?_ | refine qka ?_ _)); refine qkp (cs := #[.int .i64 ((rd_T72 l0 x13_1).f0), .int .i64 ((rd_T72 l0 x13_1).f1), .string ((rd_T72 l0 x13_1).f2), .bool false]) ?_ 3 _ rfl; (with_reducible repeat (first | refine qkN ?_ _ | refine qkd ?_ | refine qka ?_ _)); refine qkp (cs := #[.int .i64 ((rd_T72 l0 x13_1).f0), .int .i64 ((rd_T72 l0 x13_1).f1), .string (⟨#[]⟩ : ByteArray), .bool false]) ?_ 2 _ rfl; (with_reducible repeat (first | refine qkN ?_ _ | refine qkd ?_ | refine qka ?_ _)); refine qkp (cs := #[.int .i64 ((rd_T72 l0 x13_1).f0), .int .i64 0, .string (⟨#[]⟩ : ByteArray), .bool false]) ?_ 1 _ rfl; (with_reducible repeat (first | refine qkN ?_ _ | refine qkd ?_ | refine qka ?_ _)); refine qkp (cs := #[.int .i64 0, .int .i64 0, .string (⟨#[]⟩ : ByteArray), .bool false]) ?_ 0 _ rfl; (with_reducible repeat (first | refine qkN ?_ _ | refine qkd ?_ | refine qka ?_ _)); exact BK134.out) hb); have n1_ := Aside0.mk (below_step (bw_ HB.out) hb); clear BK134; clear HB; have BK134 := n0_; have HB := n1_; clear n0_ n1_; (try clear hb); (try clear hb2); (try clear hk); (try clear hi); (try simp only [errW_none, errW_some])))
    go_ret2
    exact ⟨by first | rfl | (simp [errW_none, errW_some] <;> rfl) | (simp [*, errW_none, errW_some] <;> rfl), bw_ HB.out⟩
   rw [if_neg c2] at H
   have c2b0 : decide (x13_1 < (l0.length : Int)) = false := decide_eq_false c2
   clear c2
   by_cases c12 : (l0.length : Int) > 16
   ·rw [if_pos c12] at H
    have c12b0 : decide (16 < (l0.length : Int)) = true := decide_eq_true c12
    have c12b1 : decide (16 < l0.length) = true := decide_eq_true (by omega)
    clear c12
    simp only [Option.some.injEq, Prod.mk.injEq] at H
    obtain ⟨rfl, rfl⟩ := H
    go_wp2
    go_ret2
    exact ⟨by first | rfl | (simp [errW_none, errW_some] <;> rfl) | (simp [*, errW_none, errW_some] <;> rfl), bw_ HB.out⟩
   rw [if_neg c12] at H
   have c12b0 : decide (16 < (l0.length : Int)) = false := decide_eq_false c12
   have c12b1 : decide (16 < l0.length) = false := decide_eq_false (by omega)
   clear c12
   have H' := Aside0.mk H
   clear H
   go_wp2
   go_loopg [7, 29] k1 (fun kq v7 v29 w' => ∃ (x7_2 : List Int) (x29_2 : Int), v29 = .int .i64 x29_2 ∧ Aside0 (order_Encode.l1 kq x7_2 l0 (l0.length : Int) x29_2 = some (r1, r2)) ∧ Aside0 (kq ≤ k1) ∧ Aside0 (Kd.R (Kd.int .u8) 5 w' w.heap.size (fun _ => True) v7 x7_2) ∧ Aside0 (Below w.heap.size w w'))
   case atStart => exact ⟨(([] : List Int)), (0), (by first | rfl | (simp; done) | (simp [*]; done) | (simp [bne]; done)), H', ⟨Nat.le_refl _⟩, ⟨by first | exact Kd.R_nil _ _ _ _ _ | exact Kd.N_nil _ _ _ _ _ | exact Kd.V_nil _ _ _ _ _ | exact Kd.Q_nil _ _ _ _ _ | exact Kd.S_nil _ _ _ _ _⟩, ⟨bw_ HB.out⟩⟩
   case round =>
    clear H'
    (try clear c1); (try clear p1); (try clear q1); (try clear hx1); (try clear c2); (try clear c2b0); (try clear p2); (try clear c3); (try clear c3b0); (try clear c4); (try clear c4b0); (try clear p6)
    (try clear c12); (try clear c12b0); (try clear c12b1); (try clear hcz10_0); (try clear hcz10_1); (try clear hcz10_2); (try clear hcz10_3); (try clear hcz7_0); (try clear hcz7_1); (try clear hcz7_2); (try clear hcz7_3); (try clear hfz10_0)
    (try clear hfz10_1); (try clear hfz10_2); (try clear hfz10_3); (try clear hfz7_0); (try clear hfz7_1); (try clear hfz7_2); (try clear hfz7_3); (try clear hx133_0); (try clear hx133_1); (try clear hx133_2); (try clear hx133_3); (try clear p133)
    (try clear q133); (try clear q136)
    obtain ⟨x7_2, x29_2, rfl, HA, HK2, HO_7, HB⟩ := hrel
    cases gk with
    | zero => exact absurd HA.out (by simp [order_Encode.l1])
    | succ k2 =>
     have H := HA.out
     clear HA
     simp only [order_Encode.l1] at H
     by_cases c13 : x29_2 < (l0.length : Int)
     ·rw [if_pos c13] at H
      have c13b0 : decide (x29_2 < (l0.length : Int)) = true := decide_eq_true c13
      clear c13
      have c14 : 0 ≤ x29_2 := Classical.byContradiction fun c14 => by rw [if_neg c14] at H; exact absurd H (by simp)
      rw [if_pos c14] at H
      have c14b0 : decide (0 ≤ x29_2) = true := decide_eq_true c14
      clear c14
      have c15 : x29_2 < (l0.length : Int) := Classical.byContradiction fun c15 => by rw [if_neg c15] at H; exact absurd H (by simp)
      rw [if_pos c15] at H
      have c15b0 : decide (x29_2 < (l0.length : Int)) = true := decide_eq_true c15
      clear c15
      have c16 : x7_2.length < 140737488355328 := Classical.byContradiction fun c16 => by rw [if_neg c16] at H; exact absurd H (by simp)
      rw [if_pos c16] at H
      have LMc16 := Aside0.mk c16
      clear c16
      obtain ⟨y139, hy139⟩ : ∃ y_ : List Int, y_ = (x7_2 ++ [(((rd_T72 l0 x29_2).f0) + 1) % 256]) := ⟨_, rfl⟩
      replace H : (if ((rd_T72 l0 x29_2).f0) = 1 then ((order_word.f k2 y139 (Go.bits .xor .u64 (IntKind.u64.wrap ((rd_T72 l0 x29_2).f1)) 9223372036854775808)).bind fun t142 => (order_Encode.l1 k2 t142 l0 (l0.length : Int) (wrap64 (x29_2 + 1)))) else (if ((rd_T72 l0 x29_2).f0) = 2 then (if y139.length + ((rd_T72 l0 x29_2).f2).size < 140737488355328 then ((some (y139 ++ bytesOf ((rd_T72 l0 x29_2).f2) : List Int)).bind fun y145 => (if y145.length < 140737488355328 then (order_Encode.l1 k2 (y145 ++ [0]) l0 (l0.length : Int) (wrap64 (x29_2 + 1))) else (none))) else (none)) else (if ((rd_T72 l0 x29_2).f0) = 3 then (if (rd_T72 l0 x29_2).f3 = true then (if y139.length < 140737488355328 then (order_Encode.l1 k2 (y139 ++ [1]) l0 (l0.length : Int) (wrap64 (x29_2 + 1))) else (none)) else (if y139.length < 140737488355328 then (order_Encode.l1 k2 (y139 ++ [0]) l0 (l0.length : Int) (wrap64 (x29_2 + 1))) else (none))) else (order_Encode.l1 k2 y139 l0 (l0.length : Int) (wrap64 (x29_2 + 1)))))) = some (r1, r2) := by first | (rw [hy139]; with_reducible exact H) | (have H2_ := (Option.bind_some _ _).symm.trans H; rw [hy139]; with_reducible exact H2_) | (have H2_ := (Option.bind_some _ _).symm.trans H; with_reducible exact H2_) | with_reducible exact H | (rw [hy139]; exact H) | exact H
      have Ny139 := Aside0.mk hy139
      clear hy139
      by_cases c17 : ((rd_T72 l0 x29_2).f0) = 1
      ·rw [if_pos c17] at H
       have c17b0 : (((rd_T72 l0 x29_2).f0) == 1) = true := beq_iff_eq.mpr c17
       have c17b1 : (((rd_T72 l0 x29_2).f0) != 1) = false := bne_eq_false_iff_eq.mpr c17
       clear c17
       replace H := Option.bind_eq_some_iff.mp H
       obtain ⟨t142, A180, H⟩ := H
       (try dsimp only at H)
       have A18 := Aside0.mk A180
       clear A180
       have H' := Aside0.mk H
       clear H
       have p137 : 0 ≤ (x29_2 : Int) := ode_
       have q137 : x29_2 < (l0.length : Int) := ode_
       obtain ⟨ad137, e137, hx137_0, hx137_1, hx137_2, hx137_3⟩ := at_T72 HR0.out x29_2 p137 q137
       cases e137
       replace hx137_0 := (HB.out.cell (World.block_lt_of_cell? w _ hx137_0)).trans hx137_0
       replace hx137_1 := (HB.out.cell (World.block_lt_of_cell? w _ hx137_1)).trans hx137_1
       replace hx137_2 := (HB.out.cell (World.block_lt_of_cell? w _ hx137_2)).trans hx137_2
       replace hx137_3 := (HB.out.cell (World.block_lt_of_cell? w _ hx137_3)).trans hx137_3
       replace p137 := eq_true p137
       replace q137 := eq_true q137
       go_wp2_with (first | ((with_reducible refine qgd (N := 9) rfl ?_); refine qbe ?hg (N := 9) ?hd (cs := #[.int .i64 0, .int .i64 0, .string (⟨#[]⟩ : ByteArray), .bool false]) (t := 72) ?hr ?_; (case hd => rfl); (case hg => rfl); (case hr => first | (go_simp; done) | (go_simp; rfl)); intro gb138 hg w19 hbox hb; have n0_ := Aside0.mk (Kd.R_below (kR_ HO_7.out) hb); have n1_ := Aside0.mk (below_step (bw_ HB.out) hb); have n2_ := Aside0.mk (hbox); have n3_ := Aside0.mk ((by rw [hg]; exact (qbz (bw_ HB.out)) : w.heap.size ≤ gb138)); have n4_ := Aside0.mk ((by rw [hg]; exact (qbz (bw_ HB.out)) : w.heap.size ≤ gb138)); clear HO_7; clear HB; have HO_7 := n0_; have HB := n1_; have BK138 := n2_; have GW138 := n3_; have GE138 := n4_; clear n0_ n1_ n2_ n3_ n4_; clear hb hbox hg; have hcz20_0 : w19.cell? ⟨gb138, 0, none⟩ = some (.int .i64 0) := (qkc BK138.out 0).trans rfl; have hcz20_1 : w19.cell? ⟨gb138, 1, none⟩ = some (.int .i64 0) := (qkc BK138.out 1).trans rfl; have hcz20_2 : w19.cell? ⟨gb138, 2, none⟩ = some (.string (⟨#[]⟩ : ByteArray)) := (qkc BK138.out 2).trans rfl; have hcz20_3 : w19.cell? ⟨gb138, 3, none⟩ = some (.bool false) := (qkc BK138.out 3).trans rfl; have hfz20_0 := qkf BK138.out 0; have hfz20_1 := qkf BK138.out 1; have hfz20_2 := qkf BK138.out 2; have hfz20_3 := qkf BK138.out 3) | ((with_reducible refine gate_builtin (b := .append) (xs := #[.tmp 33, .tmp 38]) rfl ?_); at_builtin; refine Kd.R_append (Kd.int .u8) (w0 := w) w.heap.size rfl (.tmp 33) (.tmp 38) 25 5 (.int .u8 0) 1 rfl Tryd.underlying25 info5 rfl (by decide) (by omega) u7 x7_2 ((((rd_T72 l0 x29_2).f0) + 1) % 256) [.int .u8 ((((rd_T72 l0 x29_2).f0) + 1) % 256)] (fun _ => True) (fun _ => False) rfl (by first | (go_simp; done) | (go_simp; rfl)) ?aP (fun _ hk => hk.elim) ?aF ?aO ?aB ?aS ?aL ?_; (case aP => exact rfl); (case aB => exact (bw_ HB.out)); (case aF => exact (fun _ _ => trivial)); (case aO => exact (by (with_reducible repeat (first | apply Kd.R_alloc | apply Kd.R_drewN | apply Kd.R_drew)); exact Kd.R_mono (Kd.R_far (p := ⟨gb138, 3, none⟩) (Kd.R_far (p := ⟨gb138, 2, none⟩) (Kd.R_far (p := ⟨gb138, 1, none⟩) (Kd.R_far (p := ⟨gb138, 0, none⟩) (Kd.R_types HO_7.out BK138.out (by decide)) (fun _ hk => hk.2) (.int .i64 ((rd_T72 l0 x29_2).f0))) (fun _ hk => hk.2) (.int .i64 ((rd_T72 l0 x29_2).f1))) (fun _ hk => hk.2) (.string ((rd_T72 l0 x29_2).f2))) (fun _ hk => hk.2) (.bool ((rd_T72 l0 x29_2).f3))) (fun _ hk => trivial))); (case aS => exact (qbz (bw_ HB.out))); (case aL => have := LMc16.out; omega); intro v140 w21 ho hb hg hat; rw [← Ny139.out] at ho; have n0_ := Aside0.mk (blk_grown (g := gb138) (o := .cells #[.int .i64 ((rd_T72 l0 x29_2).f0), .int .i64 ((rd_T72 l0 x29_2).f1), .string ((rd_T72 l0 x29_2).f2), .bool ((rd_T72 l0 x29_2).f3)] 72 (0, 0)) (by (with_reducible repeat (first | refine qkN ?_ _ | refine qkd ?_ | refine qka ?_ _)); refine qkp (cs := #[.int .i64 ((rd_T72 l0 x29_2).f0), .int .i64 ((rd_T72 l0 x29_2).f1), .string ((rd_T72 l0 x29_2).f2), .bool false]) ?_ 3 _ rfl; (with_reducible repeat (first | refine qkN ?_ _ | refine qkd ?_ | refine qka ?_ _)); refine qkp (cs := #[.int .i64 ((rd_T72 l0 x29_2).f0), .int .i64 ((rd_T72 l0 x29_2).f1), .string (⟨#[]⟩ : ByteArray), .bool false]) ?_ 2 _ rfl; (with_reducible repeat (first | refine qkN ?_ _ | refine qkd ?_ | refine qka ?_ _)); refine qkp (cs := #[.int .i64 ((rd_T72 l0 x29_2).f0), .int .i64 0, .string (⟨#[]⟩ : ByteArray), .bool false]) ?_ 1 _ rfl; (with_reducible repeat (first | refine qkN ?_ _ | refine qkd ?_ | refine qka ?_ _)); refine qkp (cs := #[.int .i64 0, .int .i64 0, .string (⟨#[]⟩ : ByteArray), .bool false]) ?_ 0 _ rfl; (with_reducible repeat (first | refine qkN ?_ _ | refine qkd ?_ | refine qka ?_ _)); exact BK138.out) hg (Kd.R_ne HO_7.out BK138.out (by decide))); have n1_ := Aside0.mk (hb); have n2_ := Aside0.mk (ho); clear BK138; clear HB; clear HO_7; have BK138 := n0_; have HB := n1_; have HO141 := n2_; clear n0_ n1_ n2_; clear ho hb hg hat; have hcz22_0 : w21.cell? ⟨gb138, 0, none⟩ = some (.int .i64 ((rd_T72 l0 x29_2).f0)) := (qkc BK138.out 0).trans rfl; have hcz22_1 : w21.cell? ⟨gb138, 1, none⟩ = some (.int .i64 ((rd_T72 l0 x29_2).f1)) := (qkc BK138.out 1).trans rfl; have hcz22_2 : w21.cell? ⟨gb138, 2, none⟩ = some (.string ((rd_T72 l0 x29_2).f2)) := (qkc BK138.out 2).trans rfl; have hcz22_3 : w21.cell? ⟨gb138, 3, none⟩ = some (.bool ((rd_T72 l0 x29_2).f3)) := (qkc BK138.out 3).trans rfl; have hfz22_0 := qkf BK138.out 0; have hfz22_1 := qkf BK138.out 1; have hfz22_2 := qkf BK138.out 2; have hfz22_3 := qkf BK138.out 3; obtain ⟨Ao23, co23, eo23⟩ := Kd.R_slice HO141.out; subst eo23) | ((with_reducible refine qgc (f := 31) rfl ?_); refine goesL_ (some 49) rfl rfl Tryd.func31 (by kernel_rfl) rfl #[.slice Ao23 y139.length co23, .int .u64 (Go.bits .xor .u64 (IntKind.u64.wrap ((rd_T72 l0 x29_2).f1)) 9223372036854775808)] rfl (by (try simp only [List.map_toArray, List.map_cons, List.map_nil]); first | done | rfl | (simp only [List.length_drop, List.length_take]; rfl)) ?_; (with_reducible refine (order_word.calls k2 (fun k_ => some k_ = (.slice Ao23 y139.length co23 : Value).ownBlock) (.slice Ao23 y139.length co23) y139 (Go.bits .xor .u64 (IntKind.u64.wrap ((rd_T72 l0 x29_2).f1)) 9223372036854775808) t142 w _ ?side1 ?side2 A18.out).mono ?_); (case side1 => repeat (first | (with_reducible first | exact HB.out | apply below_alloc | apply qbN | apply qb1 | refine qbs ?_ GE138.out) | exact HB.out)); (case side2 => exact Kd.R_tight rfl HO141.out); rintro e w24 ⟨v143, rfl, ho0, hb, hkp⟩; refine ⟨_, rfl, ?_⟩; have n0_ := Aside0.mk (blk_kept (bl_ BK138.out) hkp (fun hs_ => (fun e_ => (Kd.R_ne HO141.out BK138.out (by decide)) e_) hs_)); have n1_ := Aside0.mk (Kd.R_mono (ok' := fun k_ => True) ho0 (fun k_ hk_ => trivial)); have n2_ := Aside0.mk (hb); clear BK138; clear HB; clear HO141; have BK138 := n0_; have HO144 := n1_; have HB := n2_; clear n0_ n1_ n2_; (try clear hb); (try clear hkp); (try clear ho0)))
       go_roundg k2
       case measure => have := HK1.out; have := HK2.out; omega
       case rel => exact ⟨(t142), (wrap64 (x29_2 + 1)), (by first | rfl | (simp; done) | (simp [*]; done) | (simp [bne]; done)), H', ⟨by have := HK1.out; have := HK2.out; omega⟩, ⟨by (with_reducible repeat (first | apply Kd.R_alloc | apply Kd.R_drewN | apply Kd.R_drew)); exact HO144.out⟩, ⟨bw_ HB.out⟩⟩
      rw [if_neg c17] at H
      have c17b0 : (((rd_T72 l0 x29_2).f0) == 1) = false := beq_eq_false_iff_ne.mpr c17
      have c17b1 : (((rd_T72 l0 x29_2).f0) != 1) = true := bne_iff_ne.mpr c17
      by_cases c25 : ((rd_T72 l0 x29_2).f0) = 2
      ·rw [if_pos c25] at H
       have c25b0 : (((rd_T72 l0 x29_2).f0) == 2) = true := beq_iff_eq.mpr c25
       have c25b1 : (((rd_T72 l0 x29_2).f0) != 2) = false := bne_eq_false_iff_eq.mpr c25
       clear c25
       have c26 : y139.length + ((rd_T72 l0 x29_2).f2).size < 140737488355328 := Classical.byContradiction fun c26 => by rw [if_neg c26] at H; exact absurd H (by simp)
       rw [if_pos c26] at H
       have LMc26 := Aside0.mk c26
       clear c26
       obtain ⟨y145, hy145⟩ : ∃ y_ : List Int, y_ = (y139 ++ bytesOf ((rd_T72 l0 x29_2).f2)) := ⟨_, rfl⟩
       replace H : (if y145.length < 140737488355328 then (order_Encode.l1 k2 (y145 ++ [0]) l0 (l0.length : Int) (wrap64 (x29_2 + 1))) else (none)) = some (r1, r2) := by first | (rw [hy145]; with_reducible exact H) | (have H2_ := (Option.bind_some _ _).symm.trans H; rw [hy145]; with_reducible exact H2_) | (have H2_ := (Option.bind_some _ _).symm.trans H; with_reducible exact H2_) | with_reducible exact H | (rw [hy145]; exact H) | exact H
       have Ny145 := Aside0.mk hy145
       clear hy145
       have c27 : y145.length < 140737488355328 := Classical.byContradiction fun c27 => by rw [if_neg c27] at H; exact absurd H (by simp)
       rw [if_pos c27] at H
       have LMc27 := Aside0.mk c27
       clear c27
       obtain ⟨y148, hy148⟩ : ∃ y_ : List Int, y_ = (y145 ++ [0]) := ⟨_, rfl⟩
       replace H : (order_Encode.l1 k2 y148 l0 (l0.length : Int) (wrap64 (x29_2 + 1))) = some (r1, r2) := by first | (rw [hy148]; with_reducible exact H) | (have H2_ := (Option.bind_some _ _).symm.trans H; rw [hy148]; with_reducible exact H2_) | (have H2_ := (Option.bind_some _ _).symm.trans H; with_reducible exact H2_) | with_reducible exact H | (rw [hy148]; exact H) | exact H
       have Ny148 := Aside0.mk hy148
       clear hy148
       have H' := Aside0.mk H
       clear H
       have p137 : 0 ≤ (x29_2 : Int) := ode_
       have q137 : x29_2 < (l0.length : Int) := ode_
       obtain ⟨ad137, e137, hx137_0, hx137_1, hx137_2, hx137_3⟩ := at_T72 HR0.out x29_2 p137 q137
       cases e137
       replace hx137_0 := (HB.out.cell (World.block_lt_of_cell? w _ hx137_0)).trans hx137_0
       replace hx137_1 := (HB.out.cell (World.block_lt_of_cell? w _ hx137_1)).trans hx137_1
       replace hx137_2 := (HB.out.cell (World.block_lt_of_cell? w _ hx137_2)).trans hx137_2
       replace hx137_3 := (HB.out.cell (World.block_lt_of_cell? w _ hx137_3)).trans hx137_3
       replace p137 := eq_true p137
       replace q137 := eq_true q137
       go_wp2_with (first | ((with_reducible refine qgd (N := 9) rfl ?_); refine qbe ?hg (N := 9) ?hd (cs := #[.int .i64 0, .int .i64 0, .string (⟨#[]⟩ : ByteArray), .bool false]) (t := 72) ?hr ?_; (case hd => rfl); (case hg => rfl); (case hr => first | (go_simp; done) | (go_simp; rfl)); intro gb138 hg w28 hbox hb; have n0_ := Aside0.mk (Kd.R_below (kR_ HO_7.out) hb); have n1_ := Aside0.mk (below_step (bw_ HB.out) hb); have n2_ := Aside0.mk (hbox); have n3_ := Aside0.mk ((by rw [hg]; exact (qbz (bw_ HB.out)) : w.heap.size ≤ gb138)); have n4_ := Aside0.mk ((by rw [hg]; exact (qbz (bw_ HB.out)) : w.heap.size ≤ gb138)); clear HO_7; clear HB; have HO_7 := n0_; have HB := n1_; have BK138 := n2_; have GW138 := n3_; have GE138 := n4_; clear n0_ n1_ n2_ n3_ n4_; clear hb hbox hg; have hcz29_0 : w28.cell? ⟨gb138, 0, none⟩ = some (.int .i64 0) := (qkc BK138.out 0).trans rfl; have hcz29_1 : w28.cell? ⟨gb138, 1, none⟩ = some (.int .i64 0) := (qkc BK138.out 1).trans rfl; have hcz29_2 : w28.cell? ⟨gb138, 2, none⟩ = some (.string (⟨#[]⟩ : ByteArray)) := (qkc BK138.out 2).trans rfl; have hcz29_3 : w28.cell? ⟨gb138, 3, none⟩ = some (.bool false) := (qkc BK138.out 3).trans rfl; have hfz29_0 := qkf BK138.out 0; have hfz29_1 := qkf BK138.out 1; have hfz29_2 := qkf BK138.out 2; have hfz29_3 := qkf BK138.out 3) | ((with_reducible refine gate_builtin (b := .append) (xs := #[.tmp 33, .tmp 38]) rfl ?_); at_builtin; refine Kd.R_append (Kd.int .u8) (w0 := w) w.heap.size rfl (.tmp 33) (.tmp 38) 25 5 (.int .u8 0) 1 rfl Tryd.underlying25 info5 rfl (by decide) (by omega) u7 x7_2 ((((rd_T72 l0 x29_2).f0) + 1) % 256) [.int .u8 ((((rd_T72 l0 x29_2).f0) + 1) % 256)] (fun _ => True) (fun _ => False) rfl (by first | (go_simp; done) | (go_simp; rfl)) ?aP (fun _ hk => hk.elim) ?aF ?aO ?aB ?aS ?aL ?_; (case aP => exact rfl); (case aB => exact (bw_ HB.out)); (case aF => exact (fun _ _ => trivial)); (case aO => exact (by (with_reducible repeat (first | apply Kd.R_alloc | apply Kd.R_drewN | apply Kd.R_drew)); exact Kd.R_mono (Kd.R_far (p := ⟨gb138, 3, none⟩) (Kd.R_far (p := ⟨gb138, 2, none⟩) (Kd.R_far (p := ⟨gb138, 1, none⟩) (Kd.R_far (p := ⟨gb138, 0, none⟩) (Kd.R_types HO_7.out BK138.out (by decide)) (fun _ hk => hk.2) (.int .i64 ((rd_T72 l0 x29_2).f0))) (fun _ hk => hk.2) (.int .i64 ((rd_T72 l0 x29_2).f1))) (fun _ hk => hk.2) (.string ((rd_T72 l0 x29_2).f2))) (fun _ hk => hk.2) (.bool ((rd_T72 l0 x29_2).f3))) (fun _ hk => trivial))); (case aS => exact (qbz (bw_ HB.out))); (case aL => have := LMc16.out; omega); intro v140 w30 ho hb hg hat; rw [← Ny139.out] at ho; have n0_ := Aside0.mk (blk_grown (g := gb138) (o := .cells #[.int .i64 ((rd_T72 l0 x29_2).f0), .int .i64 ((rd_T72 l0 x29_2).f1), .string ((rd_T72 l0 x29_2).f2), .bool ((rd_T72 l0 x29_2).f3)] 72 (0, 0)) (by (with_reducible repeat (first | refine qkN ?_ _ | refine qkd ?_ | refine qka ?_ _)); refine qkp (cs := #[.int .i64 ((rd_T72 l0 x29_2).f0), .int .i64 ((rd_T72 l0 x29_2).f1), .string ((rd_T72 l0 x29_2).f2), .bool false]) ?_ 3 _ rfl; (with_reducible repeat (first | refine qkN ?_ _ | refine qkd ?_ | refine qka ?_ _)); refine qkp (cs := #[.int .i64 ((rd_T72 l0 x29_2).f0), .int .i64 ((rd_T72 l0 x29_2).f1), .string (⟨#[]⟩ : ByteArray), .bool false]) ?_ 2 _ rfl; (with_reducible repeat (first | refine qkN ?_ _ | refine qkd ?_ | refine qka ?_ _)); refine qkp (cs := #[.int .i64 ((rd_T72 l0 x29_2).f0), .int .i64 0, .string (⟨#[]⟩ : ByteArray), .bool false]) ?_ 1 _ rfl; (with_reducible repeat (first | refine qkN ?_ _ | refine qkd ?_ | refine qka ?_ _)); refine qkp (cs := #[.int .i64 0, .int .i64 0, .string (⟨#[]⟩ : ByteArray), .bool false]) ?_ 0 _ rfl; (with_reducible repeat (first | refine qkN ?_ _ | refine qkd ?_ | refine qka ?_ _)); exact BK138.out) hg (Kd.R_ne HO_7.out BK138.out (by decide))); have n1_ := Aside0.mk (hb); have n2_ := Aside0.mk (ho); clear BK138; clear HB; clear HO_7; have BK138 := n0_; have HB := n1_; have HO141 := n2_; clear n0_ n1_ n2_; clear ho hb hg hat; have hcz31_0 : w30.cell? ⟨gb138, 0, none⟩ = some (.int .i64 ((rd_T72 l0 x29_2).f0)) := (qkc BK138.out 0).trans rfl; have hcz31_1 : w30.cell? ⟨gb138, 1, none⟩ = some (.int .i64 ((rd_T72 l0 x29_2).f1)) := (qkc BK138.out 1).trans rfl; have hcz31_2 : w30.cell? ⟨gb138, 2, none⟩ = some (.string ((rd_T72 l0 x29_2).f2)) := (qkc BK138.out 2).trans rfl; have hcz31_3 : w30.cell? ⟨gb138, 3, none⟩ = some (.bool ((rd_T72 l0 x29_2).f3)) := (qkc BK138.out 3).trans rfl; have hfz31_0 := qkf BK138.out 0; have hfz31_1 := qkf BK138.out 1; have hfz31_2 := qkf BK138.out 2; have hfz31_3 := qkf BK138.out 3) | (at_builtin; refine print_append_str (w0 := w) w.heap.size rfl (.tmp 52) _ 25 9 5 rfl Tryd.underlying25 Tryd.underlying9 info5 v140 y139 ((rd_T72 l0 x29_2).f2) rfl rfl ?aO ?aB ?aS ?aL ?_; (case aB => exact (bw_ HB.out)); (case aO => exact (Kd.own_of_R (kR_ HO141.out))); (case aS => exact (qbz (bw_ HB.out))); (case aL => have := LMc26.out; omega); intro v146 w32 ho0 hb hg; have ho := Kd.R_of_own (h1 := fun _ => rfl) (ok := fun _ => True) ho0 (fun _ _ => trivial); clear ho0; have hat := True.intro; rw [← Ny145.out] at ho; change Kd.R (Kd.int .u8) 5 w32 w.heap.size (fun _ => True) v146 y145 at ho; have n0_ := Aside0.mk (blk_grown (g := gb138) (o := .cells #[.int .i64 ((rd_T72 l0 x29_2).f0), .int .i64 ((rd_T72 l0 x29_2).f1), .string ((rd_T72 l0 x29_2).f2), .bool ((rd_T72 l0 x29_2).f3)] 72 (0, 0)) (bl_ BK138.out) hg (Kd.R_ne HO141.out BK138.out (by decide))); have n1_ := Aside0.mk (hb); have n2_ := Aside0.mk (ho); clear BK138; clear HB; clear HO141; have BK138 := n0_; have HB := n1_; have HO147 := n2_; clear n0_ n1_ n2_; clear ho hb hg hat) | ((with_reducible refine gate_builtin (b := .append) (xs := #[.tmp 55, .tmp 56]) rfl ?_); at_builtin; refine Kd.R_append (Kd.int .u8) (w0 := w) w.heap.size rfl (.tmp 55) (.tmp 56) 25 5 (.int .u8 0) 1 rfl Tryd.underlying25 info5 rfl (by decide) (by omega) v146 y145 0 [.int .u8 0] (fun _ => True) (fun _ => False) rfl rfl ?aP (fun _ hk => hk.elim) ?aF ?aO ?aB ?aS ?aL ?_; (case aP => exact rfl); (case aB => exact (bw_ HB.out)); (case aF => exact (fun _ _ => trivial)); (case aO => exact (kR_ HO147.out)); (case aS => exact (qbz (bw_ HB.out))); (case aL => have := LMc27.out; omega); intro v149 w33 ho hb hg hat; rw [← Ny148.out] at ho; have n0_ := Aside0.mk (blk_grown (g := gb138) (o := .cells #[.int .i64 ((rd_T72 l0 x29_2).f0), .int .i64 ((rd_T72 l0 x29_2).f1), .string ((rd_T72 l0 x29_2).f2), .bool ((rd_T72 l0 x29_2).f3)] 72 (0, 0)) (bl_ BK138.out) hg (Kd.R_ne HO147.out BK138.out (by decide))); have n1_ := Aside0.mk (hb); have n2_ := Aside0.mk (ho); clear BK138; clear HB; clear HO147; have BK138 := n0_; have HB := n1_; have HO150 := n2_; clear n0_ n1_ n2_; clear ho hb hg hat))
       go_roundg k2
       case measure => have := HK1.out; have := HK2.out; omega
       case rel => exact ⟨(y148), (wrap64 (x29_2 + 1)), (by first | rfl | (simp; done) | (simp [*]; done) | (simp [bne]; done)), H', ⟨by have := HK1.out; have := HK2.out; omega⟩, ⟨by (with_reducible repeat (first | apply Kd.R_alloc | apply Kd.R_drewN | apply Kd.R_drew)); exact HO150.out⟩, ⟨bw_ HB.out⟩⟩
      rw [if_neg c25] at H
      have c25b0 : (((rd_T72 l0 x29_2).f0) == 2) = false := beq_eq_false_iff_ne.mpr c25
      have c25b1 : (((rd_T72 l0 x29_2).f0) != 2) = true := bne_iff_ne.mpr c25
      by_cases c34 : ((rd_T72 l0 x29_2).f0) = 3
      ·rw [if_pos c34] at H
       have c34b0 : (((rd_T72 l0 x29_2).f0) == 3) = true := beq_iff_eq.mpr c34
       have c34b1 : (((rd_T72 l0 x29_2).f0) != 3) = false := bne_eq_false_iff_eq.mpr c34
       clear c34
       obtain ⟨bq35, hbq35⟩ : ∃ b_ : Bool, b_ = ((rd_T72 l0 x29_2).f3) := ⟨_, rfl⟩
       replace H : (if bq35 = true then (if y139.length < 140737488355328 then (order_Encode.l1 k2 (y139 ++ [1]) l0 (l0.length : Int) (wrap64 (x29_2 + 1))) else (none)) else (if y139.length < 140737488355328 then (order_Encode.l1 k2 (y139 ++ [0]) l0 (l0.length : Int) (wrap64 (x29_2 + 1))) else (none))) = some (r1, r2) := by rw [← hbq35] at H; exact H
       have Nbq35 := Aside0.mk hbq35
       clear hbq35
       by_cases c36 : bq35 = true
       ·subst c36
        rw [if_pos rfl] at H
        have c37 : y139.length < 140737488355328 := Classical.byContradiction fun c37 => by rw [if_neg c37] at H; exact absurd H (by simp)
        rw [if_pos c37] at H
        have LMc37 := Aside0.mk c37
        clear c37
        obtain ⟨y151, hy151⟩ : ∃ y_ : List Int, y_ = (y139 ++ [1]) := ⟨_, rfl⟩
        replace H : (order_Encode.l1 k2 y151 l0 (l0.length : Int) (wrap64 (x29_2 + 1))) = some (r1, r2) := by first | (rw [hy151]; with_reducible exact H) | (have H2_ := (Option.bind_some _ _).symm.trans H; rw [hy151]; with_reducible exact H2_) | (have H2_ := (Option.bind_some _ _).symm.trans H; with_reducible exact H2_) | with_reducible exact H | (rw [hy151]; exact H) | exact H
        have Ny151 := Aside0.mk hy151
        clear hy151
        have H' := Aside0.mk H
        clear H
        have p137 : 0 ≤ (x29_2 : Int) := ode_
        have q137 : x29_2 < (l0.length : Int) := ode_
        obtain ⟨ad137, e137, hx137_0, hx137_1, hx137_2, hx137_3⟩ := at_T72 HR0.out x29_2 p137 q137
        (try rw [← Nbq35.out] at hx137_3)
        cases e137
        replace hx137_0 := (HB.out.cell (World.block_lt_of_cell? w _ hx137_0)).trans hx137_0
        replace hx137_1 := (HB.out.cell (World.block_lt_of_cell? w _ hx137_1)).trans hx137_1
        replace hx137_2 := (HB.out.cell (World.block_lt_of_cell? w _ hx137_2)).trans hx137_2
        replace hx137_3 := (HB.out.cell (World.block_lt_of_cell? w _ hx137_3)).trans hx137_3
        replace p137 := eq_true p137
        replace q137 := eq_true q137
        go_wp2_with (first | ((with_reducible refine qgd (N := 9) rfl ?_); refine qbe ?hg (N := 9) ?hd (cs := #[.int .i64 0, .int .i64 0, .string (⟨#[]⟩ : ByteArray), .bool false]) (t := 72) ?hr ?_; (case hd => rfl); (case hg => rfl); (case hr => first | (go_simp; done) | (go_simp; rfl)); intro gb138 hg w38 hbox hb; have n0_ := Aside0.mk (Kd.R_below (kR_ HO_7.out) hb); have n1_ := Aside0.mk (below_step (bw_ HB.out) hb); have n2_ := Aside0.mk (hbox); have n3_ := Aside0.mk ((by rw [hg]; exact (qbz (bw_ HB.out)) : w.heap.size ≤ gb138)); have n4_ := Aside0.mk ((by rw [hg]; exact (qbz (bw_ HB.out)) : w.heap.size ≤ gb138)); clear HO_7; clear HB; have HO_7 := n0_; have HB := n1_; have BK138 := n2_; have GW138 := n3_; have GE138 := n4_; clear n0_ n1_ n2_ n3_ n4_; clear hb hbox hg; have hcz39_0 : w38.cell? ⟨gb138, 0, none⟩ = some (.int .i64 0) := (qkc BK138.out 0).trans rfl; have hcz39_1 : w38.cell? ⟨gb138, 1, none⟩ = some (.int .i64 0) := (qkc BK138.out 1).trans rfl; have hcz39_2 : w38.cell? ⟨gb138, 2, none⟩ = some (.string (⟨#[]⟩ : ByteArray)) := (qkc BK138.out 2).trans rfl; have hcz39_3 : w38.cell? ⟨gb138, 3, none⟩ = some (.bool false) := (qkc BK138.out 3).trans rfl; have hfz39_0 := qkf BK138.out 0; have hfz39_1 := qkf BK138.out 1; have hfz39_2 := qkf BK138.out 2; have hfz39_3 := qkf BK138.out 3) | ((with_reducible refine gate_builtin (b := .append) (xs := #[.tmp 33, .tmp 38]) rfl ?_); at_builtin; refine Kd.R_append (Kd.int .u8) (w0 := w) w.heap.size rfl (.tmp 33) (.tmp 38) 25 5 (.int .u8 0) 1 rfl Tryd.underlying25 info5 rfl (by decide) (by omega) u7 x7_2 ((((rd_T72 l0 x29_2).f0) + 1) % 256) [.int .u8 ((((rd_T72 l0 x29_2).f0) + 1) % 256)] (fun _ => True) (fun _ => False) rfl (by first | (go_simp; done) | (go_simp; rfl)) ?aP (fun _ hk => hk.elim) ?aF ?aO ?aB ?aS ?aL ?_; (case aP => exact rfl); (case aB => exact (bw_ HB.out)); (case aF => exact (fun _ _ => trivial)); (case aO => exact (by (with_reducible repeat (first | apply Kd.R_alloc | apply Kd.R_drewN | apply Kd.R_drew)); exact Kd.R_mono (Kd.R_far (p := ⟨gb138, 3, none⟩) (Kd.R_far (p := ⟨gb138, 2, none⟩) (Kd.R_far (p := ⟨gb138, 1, none⟩) (Kd.R_far (p := ⟨gb138, 0, none⟩) (Kd.R_types HO_7.out BK138.out (by decide)) (fun _ hk => hk.2) (.int .i64 ((rd_T72 l0 x29_2).f0))) (fun _ hk => hk.2) (.int .i64 ((rd_T72 l0 x29_2).f1))) (fun _ hk => hk.2) (.string ((rd_T72 l0 x29_2).f2))) (fun _ hk => hk.2) (.bool true)) (fun _ hk => trivial))); (case aS => exact (qbz (bw_ HB.out))); (case aL => have := LMc16.out; omega); intro v140 w40 ho hb hg hat; rw [← Ny139.out] at ho; have n0_ := Aside0.mk (blk_grown (g := gb138) (o := .cells #[.int .i64 ((rd_T72 l0 x29_2).f0), .int .i64 ((rd_T72 l0 x29_2).f1), .string ((rd_T72 l0 x29_2).f2), .bool true] 72 (0, 0)) (by (with_reducible repeat (first | refine qkN ?_ _ | refine qkd ?_ | refine qka ?_ _)); refine qkp (cs := #[.int .i64 ((rd_T72 l0 x29_2).f0), .int .i64 ((rd_T72 l0 x29_2).f1), .string ((rd_T72 l0 x29_2).f2), .bool false]) ?_ 3 _ rfl; (with_reducible repeat (first | refine qkN ?_ _ | refine qkd ?_ | refine qka ?_ _)); refine qkp (cs := #[.int .i64 ((rd_T72 l0 x29_2).f0), .int .i64 ((rd_T72 l0 x29_2).f1), .string (⟨#[]⟩ : ByteArray), .bool false]) ?_ 2 _ rfl; (with_reducible repeat (first | refine qkN ?_ _ | refine qkd ?_ | refine qka ?_ _)); refine qkp (cs := #[.int .i64 ((rd_T72 l0 x29_2).f0), .int .i64 0, .string (⟨#[]⟩ : ByteArray), .bool false]) ?_ 1 _ rfl; (with_reducible repeat (first | refine qkN ?_ _ | refine qkd ?_ | refine qka ?_ _)); refine qkp (cs := #[.int .i64 0, .int .i64 0, .string (⟨#[]⟩ : ByteArray), .bool false]) ?_ 0 _ rfl; (with_reducible repeat (first | refine qkN ?_ _ | refine qkd ?_ | refine qka ?_ _)); exact BK138.out) hg (Kd.R_ne HO_7.out BK138.out (by decide))); have n1_ := Aside0.mk (hb); have n2_ := Aside0.mk (ho); clear BK138; clear HB; clear HO_7; have BK138 := n0_; have HB := n1_; have HO141 := n2_; clear n0_ n1_ n2_; clear ho hb hg hat; have hcz41_0 : w40.cell? ⟨gb138, 0, none⟩ = some (.int .i64 ((rd_T72 l0 x29_2).f0)) := (qkc BK138.out 0).trans rfl; have hcz41_1 : w40.cell? ⟨gb138, 1, none⟩ = some (.int .i64 ((rd_T72 l0 x29_2).f1)) := (qkc BK138.out 1).trans rfl; have hcz41_2 : w40.cell? ⟨gb138, 2, none⟩ = some (.string ((rd_T72 l0 x29_2).f2)) := (qkc BK138.out 2).trans rfl; have hcz41_3 : w40.cell? ⟨gb138, 3, none⟩ = some (.bool true) := (qkc BK138.out 3).trans rfl; have hfz41_0 := qkf BK138.out 0; have hfz41_1 := qkf BK138.out 1; have hfz41_2 := qkf BK138.out 2; have hfz41_3 := qkf BK138.out 3) | ((with_reducible refine gate_builtin (b := .append) (xs := #[.tmp 62, .tmp 64]) rfl ?_); at_builtin; refine Kd.R_append (Kd.int .u8) (w0 := w) w.heap.size rfl (.tmp 62) (.tmp 64) 25 5 (.int .u8 0) 1 rfl Tryd.underlying25 info5 rfl (by decide) (by omega) v140 y139 1 [.int .u8 1] (fun _ => True) (fun _ => False) rfl rfl ?aP (fun _ hk => hk.elim) ?aF ?aO ?aB ?aS ?aL ?_; (case aP => exact rfl); (case aB => exact (bw_ HB.out)); (case aF => exact (fun _ _ => trivial)); (case aO => exact (kR_ HO141.out)); (case aS => exact (qbz (bw_ HB.out))); (case aL => have := LMc37.out; omega); intro v152 w42 ho hb hg hat; rw [← Ny151.out] at ho; have n0_ := Aside0.mk (blk_grown (g := gb138) (o := .cells #[.int .i64 ((rd_T72 l0 x29_2).f0), .int .i64 ((rd_T72 l0 x29_2).f1), .string ((rd_T72 l0 x29_2).f2), .bool true] 72 (0, 0)) (bl_ BK138.out) hg (Kd.R_ne HO141.out BK138.out (by decide))); have n1_ := Aside0.mk (hb); have n2_ := Aside0.mk (ho); clear BK138; clear HB; clear HO141; have BK138 := n0_; have HB := n1_; have HO153 := n2_; clear n0_ n1_ n2_; clear ho hb hg hat))
        go_roundg k2
        case measure => have := HK1.out; have := HK2.out; omega
        case rel => (try rw [← Nbq35.out]); exact ⟨(y151), (wrap64 (x29_2 + 1)), (by first | rfl | (simp; done) | (simp [*]; done) | (simp [bne]; done)), H', ⟨by have := HK1.out; have := HK2.out; omega⟩, ⟨by (with_reducible repeat (first | apply Kd.R_alloc | apply Kd.R_drewN | apply Kd.R_drew)); exact HO153.out⟩, ⟨bw_ HB.out⟩⟩
       replace c36 := Bool.eq_false_iff.mpr c36
       subst c36
       rw [if_neg (show ¬ (false = true) by decide)] at H
       have c43 : y139.length < 140737488355328 := Classical.byContradiction fun c43 => by rw [if_neg c43] at H; exact absurd H (by simp)
       rw [if_pos c43] at H
       have LMc43 := Aside0.mk c43
       clear c43
       obtain ⟨y154, hy154⟩ : ∃ y_ : List Int, y_ = (y139 ++ [0]) := ⟨_, rfl⟩
       replace H : (order_Encode.l1 k2 y154 l0 (l0.length : Int) (wrap64 (x29_2 + 1))) = some (r1, r2) := by first | (rw [hy154]; with_reducible exact H) | (have H2_ := (Option.bind_some _ _).symm.trans H; rw [hy154]; with_reducible exact H2_) | (have H2_ := (Option.bind_some _ _).symm.trans H; with_reducible exact H2_) | with_reducible exact H | (rw [hy154]; exact H) | exact H
       have Ny154 := Aside0.mk hy154
       clear hy154
       have H' := Aside0.mk H
       clear H
       have p137 : 0 ≤ (x29_2 : Int) := ode_
       have q137 : x29_2 < (l0.length : Int) := ode_
       obtain ⟨ad137, e137, hx137_0, hx137_1, hx137_2, hx137_3⟩ := at_T72 HR0.out x29_2 p137 q137
       (try rw [← Nbq35.out] at hx137_3)
       cases e137
       replace hx137_0 := (HB.out.cell (World.block_lt_of_cell? w _ hx137_0)).trans hx137_0
       replace hx137_1 := (HB.out.cell (World.block_lt_of_cell? w _ hx137_1)).trans hx137_1
       replace hx137_2 := (HB.out.cell (World.block_lt_of_cell? w _ hx137_2)).trans hx137_2
       replace hx137_3 := (HB.out.cell (World.block_lt_of_cell? w _ hx137_3)).trans hx137_3
       replace p137 := eq_true p137
       replace q137 := eq_true q137
       go_wp2_with (first | ((with_reducible refine qgd (N := 9) rfl ?_); refine qbe ?hg (N := 9) ?hd (cs := #[.int .i64 0, .int .i64 0, .string (⟨#[]⟩ : ByteArray), .bool false]) (t := 72) ?hr ?_; (case hd => rfl); (case hg => rfl); (case hr => first | (go_simp; done) | (go_simp; rfl)); intro gb138 hg w44 hbox hb; have n0_ := Aside0.mk (Kd.R_below (kR_ HO_7.out) hb); have n1_ := Aside0.mk (below_step (bw_ HB.out) hb); have n2_ := Aside0.mk (hbox); have n3_ := Aside0.mk ((by rw [hg]; exact (qbz (bw_ HB.out)) : w.heap.size ≤ gb138)); have n4_ := Aside0.mk ((by rw [hg]; exact (qbz (bw_ HB.out)) : w.heap.size ≤ gb138)); clear HO_7; clear HB; have HO_7 := n0_; have HB := n1_; have BK138 := n2_; have GW138 := n3_; have GE138 := n4_; clear n0_ n1_ n2_ n3_ n4_; clear hb hbox hg; have hcz45_0 : w44.cell? ⟨gb138, 0, none⟩ = some (.int .i64 0) := (qkc BK138.out 0).trans rfl; have hcz45_1 : w44.cell? ⟨gb138, 1, none⟩ = some (.int .i64 0) := (qkc BK138.out 1).trans rfl; have hcz45_2 : w44.cell? ⟨gb138, 2, none⟩ = some (.string (⟨#[]⟩ : ByteArray)) := (qkc BK138.out 2).trans rfl; have hcz45_3 : w44.cell? ⟨gb138, 3, none⟩ = some (.bool false) := (qkc BK138.out 3).trans rfl; have hfz45_0 := qkf BK138.out 0; have hfz45_1 := qkf BK138.out 1; have hfz45_2 := qkf BK138.out 2; have hfz45_3 := qkf BK138.out 3) | ((with_reducible refine gate_builtin (b := .append) (xs := #[.tmp 33, .tmp 38]) rfl ?_); at_builtin; refine Kd.R_append (Kd.int .u8) (w0 := w) w.heap.size rfl (.tmp 33) (.tmp 38) 25 5 (.int .u8 0) 1 rfl Tryd.underlying25 info5 rfl (by decide) (by omega) u7 x7_2 ((((rd_T72 l0 x29_2).f0) + 1) % 256) [.int .u8 ((((rd_T72 l0 x29_2).f0) + 1) % 256)] (fun _ => True) (fun _ => False) rfl (by first | (go_simp; done) | (go_simp; rfl)) ?aP (fun _ hk => hk.elim) ?aF ?aO ?aB ?aS ?aL ?_; (case aP => exact rfl); (case aB => exact (bw_ HB.out)); (case aF => exact (fun _ _ => trivial)); (case aO => exact (by (with_reducible repeat (first | apply Kd.R_alloc | apply Kd.R_drewN | apply Kd.R_drew)); exact Kd.R_mono (Kd.R_far (p := ⟨gb138, 3, none⟩) (Kd.R_far (p := ⟨gb138, 2, none⟩) (Kd.R_far (p := ⟨gb138, 1, none⟩) (Kd.R_far (p := ⟨gb138, 0, none⟩) (Kd.R_types HO_7.out BK138.out (by decide)) (fun _ hk => hk.2) (.int .i64 ((rd_T72 l0 x29_2).f0))) (fun _ hk => hk.2) (.int .i64 ((rd_T72 l0 x29_2).f1))) (fun _ hk => hk.2) (.string ((rd_T72 l0 x29_2).f2))) (fun _ hk => hk.2) (.bool false)) (fun _ hk => trivial))); (case aS => exact (qbz (bw_ HB.out))); (case aL => have := LMc16.out; omega); intro v140 w46 ho hb hg hat; rw [← Ny139.out] at ho; have n0_ := Aside0.mk (blk_grown (g := gb138) (o := .cells #[.int .i64 ((rd_T72 l0 x29_2).f0), .int .i64 ((rd_T72 l0 x29_2).f1), .string ((rd_T72 l0 x29_2).f2), .bool false] 72 (0, 0)) (by (with_reducible repeat (first | refine qkN ?_ _ | refine qkd ?_ | refine qka ?_ _)); refine qkp (cs := #[.int .i64 ((rd_T72 l0 x29_2).f0), .int .i64 ((rd_T72 l0 x29_2).f1), .string ((rd_T72 l0 x29_2).f2), .bool false]) ?_ 3 _ rfl; (with_reducible repeat (first | refine qkN ?_ _ | refine qkd ?_ | refine qka ?_ _)); refine qkp (cs := #[.int .i64 ((rd_T72 l0 x29_2).f0), .int .i64 ((rd_T72 l0 x29_2).f1), .string (⟨#[]⟩ : ByteArray), .bool false]) ?_ 2 _ rfl; (with_reducible repeat (first | refine qkN ?_ _ | refine qkd ?_ | refine qka ?_ _)); refine qkp (cs := #[.int .i64 ((rd_T72 l0 x29_2).f0), .int .i64 0, .string (⟨#[]⟩ : ByteArray), .bool false]) ?_ 1 _ rfl; (with_reducible repeat (first | refine qkN ?_ _ | refine qkd ?_ | refine qka ?_ _)); refine qkp (cs := #[.int .i64 0, .int .i64 0, .string (⟨#[]⟩ : ByteArray), .bool false]) ?_ 0 _ rfl; (with_reducible repeat (first | refine qkN ?_ _ | refine qkd ?_ | refine qka ?_ _)); exact BK138.out) hg (Kd.R_ne HO_7.out BK138.out (by decide))); have n1_ := Aside0.mk (hb); have n2_ := Aside0.mk (ho); clear BK138; clear HB; clear HO_7; have BK138 := n0_; have HB := n1_; have HO141 := n2_; clear n0_ n1_ n2_; clear ho hb hg hat; have hcz47_0 : w46.cell? ⟨gb138, 0, none⟩ = some (.int .i64 ((rd_T72 l0 x29_2).f0)) := (qkc BK138.out 0).trans rfl; have hcz47_1 : w46.cell? ⟨gb138, 1, none⟩ = some (.int .i64 ((rd_T72 l0 x29_2).f1)) := (qkc BK138.out 1).trans rfl; have hcz47_2 : w46.cell? ⟨gb138, 2, none⟩ = some (.string ((rd_T72 l0 x29_2).f2)) := (qkc BK138.out 2).trans rfl; have hcz47_3 : w46.cell? ⟨gb138, 3, none⟩ = some (.bool false) := (qkc BK138.out 3).trans rfl; have hfz47_0 := qkf BK138.out 0; have hfz47_1 := qkf BK138.out 1; have hfz47_2 := qkf BK138.out 2; have hfz47_3 := qkf BK138.out 3) | ((with_reducible refine gate_builtin (b := .append) (xs := #[.tmp 62, .tmp 64]) rfl ?_); at_builtin; refine Kd.R_append (Kd.int .u8) (w0 := w) w.heap.size rfl (.tmp 62) (.tmp 64) 25 5 (.int .u8 0) 1 rfl Tryd.underlying25 info5 rfl (by decide) (by omega) v140 y139 0 [.int .u8 0] (fun _ => True) (fun _ => False) rfl rfl ?aP (fun _ hk => hk.elim) ?aF ?aO ?aB ?aS ?aL ?_; (case aP => exact rfl); (case aB => exact (bw_ HB.out)); (case aF => exact (fun _ _ => trivial)); (case aO => exact (kR_ HO141.out)); (case aS => exact (qbz (bw_ HB.out))); (case aL => have := LMc43.out; omega); intro v155 w48 ho hb hg hat; rw [← Ny154.out] at ho; have n0_ := Aside0.mk (blk_grown (g := gb138) (o := .cells #[.int .i64 ((rd_T72 l0 x29_2).f0), .int .i64 ((rd_T72 l0 x29_2).f1), .string ((rd_T72 l0 x29_2).f2), .bool false] 72 (0, 0)) (bl_ BK138.out) hg (Kd.R_ne HO141.out BK138.out (by decide))); have n1_ := Aside0.mk (hb); have n2_ := Aside0.mk (ho); clear BK138; clear HB; clear HO141; have BK138 := n0_; have HB := n1_; have HO156 := n2_; clear n0_ n1_ n2_; clear ho hb hg hat))
       go_roundg k2
       case measure => have := HK1.out; have := HK2.out; omega
       case rel => (try rw [← Nbq35.out]); exact ⟨(y154), (wrap64 (x29_2 + 1)), (by first | rfl | (simp; done) | (simp [*]; done) | (simp [bne]; done)), H', ⟨by have := HK1.out; have := HK2.out; omega⟩, ⟨by (with_reducible repeat (first | apply Kd.R_alloc | apply Kd.R_drewN | apply Kd.R_drew)); exact HO156.out⟩, ⟨bw_ HB.out⟩⟩
      rw [if_neg c34] at H
      have c34b0 : (((rd_T72 l0 x29_2).f0) == 3) = false := beq_eq_false_iff_ne.mpr c34
      have c34b1 : (((rd_T72 l0 x29_2).f0) != 3) = true := bne_iff_ne.mpr c34
      have H' := Aside0.mk H
      clear H
      have p137 : 0 ≤ (x29_2 : Int) := ode_
      have q137 : x29_2 < (l0.length : Int) := ode_
      obtain ⟨ad137, e137, hx137_0, hx137_1, hx137_2, hx137_3⟩ := at_T72 HR0.out x29_2 p137 q137
      cases e137
      replace hx137_0 := (HB.out.cell (World.block_lt_of_cell? w _ hx137_0)).trans hx137_0
      replace hx137_1 := (HB.out.cell (World.block_lt_of_cell? w _ hx137_1)).trans hx137_1
      replace hx137_2 := (HB.out.cell (World.block_lt_of_cell? w _ hx137_2)).trans hx137_2
      replace hx137_3 := (HB.out.cell (World.block_lt_of_cell? w _ hx137_3)).trans hx137_3
      replace p137 := eq_true p137
      replace q137 := eq_true q137
      go_wp2_with (first | ((with_reducible refine qgd (N := 9) rfl ?_); refine qbe ?hg (N := 9) ?hd (cs := #[.int .i64 0, .int .i64 0, .string (⟨#[]⟩ : ByteArray), .bool false]) (t := 72) ?hr ?_; (case hd => rfl); (case hg => rfl); (case hr => first | (go_simp; done) | (go_simp; rfl)); intro gb138 hg w49 hbox hb; have n0_ := Aside0.mk (Kd.R_below (kR_ HO_7.out) hb); have n1_ := Aside0.mk (below_step (bw_ HB.out) hb); have n2_ := Aside0.mk (hbox); have n3_ := Aside0.mk ((by rw [hg]; exact (qbz (bw_ HB.out)) : w.heap.size ≤ gb138)); have n4_ := Aside0.mk ((by rw [hg]; exact (qbz (bw_ HB.out)) : w.heap.size ≤ gb138)); clear HO_7; clear HB; have HO_7 := n0_; have HB := n1_; have BK138 := n2_; have GW138 := n3_; have GE138 := n4_; clear n0_ n1_ n2_ n3_ n4_; clear hb hbox hg; have hcz50_0 : w49.cell? ⟨gb138, 0, none⟩ = some (.int .i64 0) := (qkc BK138.out 0).trans rfl; have hcz50_1 : w49.cell? ⟨gb138, 1, none⟩ = some (.int .i64 0) := (qkc BK138.out 1).trans rfl; have hcz50_2 : w49.cell? ⟨gb138, 2, none⟩ = some (.string (⟨#[]⟩ : ByteArray)) := (qkc BK138.out 2).trans rfl; have hcz50_3 : w49.cell? ⟨gb138, 3, none⟩ = some (.bool false) := (qkc BK138.out 3).trans rfl; have hfz50_0 := qkf BK138.out 0; have hfz50_1 := qkf BK138.out 1; have hfz50_2 := qkf BK138.out 2; have hfz50_3 := qkf BK138.out 3) | ((with_reducible refine gate_builtin (b := .append) (xs := #[.tmp 33, .tmp 38]) rfl ?_); at_builtin; refine Kd.R_append (Kd.int .u8) (w0 := w) w.heap.size rfl (.tmp 33) (.tmp 38) 25 5 (.int .u8 0) 1 rfl Tryd.underlying25 info5 rfl (by decide) (by omega) u7 x7_2 ((((rd_T72 l0 x29_2).f0) + 1) % 256) [.int .u8 ((((rd_T72 l0 x29_2).f0) + 1) % 256)] (fun _ => True) (fun _ => False) rfl (by first | (go_simp; done) | (go_simp; rfl)) ?aP (fun _ hk => hk.elim) ?aF ?aO ?aB ?aS ?aL ?_; (case aP => exact rfl); (case aB => exact (bw_ HB.out)); (case aF => exact (fun _ _ => trivial)); (case aO => exact (by (with_reducible repeat (first | apply Kd.R_alloc | apply Kd.R_drewN | apply Kd.R_drew)); exact Kd.R_mono (Kd.R_far (p := ⟨gb138, 3, none⟩) (Kd.R_far (p := ⟨gb138, 2, none⟩) (Kd.R_far (p := ⟨gb138, 1, none⟩) (Kd.R_far (p := ⟨gb138, 0, none⟩) (Kd.R_types HO_7.out BK138.out (by decide)) (fun _ hk => hk.2) (.int .i64 ((rd_T72 l0 x29_2).f0))) (fun _ hk => hk.2) (.int .i64 ((rd_T72 l0 x29_2).f1))) (fun _ hk => hk.2) (.string ((rd_T72 l0 x29_2).f2))) (fun _ hk => hk.2) (.bool ((rd_T72 l0 x29_2).f3))) (fun _ hk => trivial))); (case aS => exact (qbz (bw_ HB.out))); (case aL => have := LMc16.out; omega); intro v140 w51 ho hb hg hat; rw [← Ny139.out] at ho; have n0_ := Aside0.mk (blk_grown (g := gb138) (o := .cells #[.int .i64 ((rd_T72 l0 x29_2).f0), .int .i64 ((rd_T72 l0 x29_2).f1), .string ((rd_T72 l0 x29_2).f2), .bool ((rd_T72 l0 x29_2).f3)] 72 (0, 0)) (by (with_reducible repeat (first | refine qkN ?_ _ | refine qkd ?_ | refine qka ?_ _)); refine qkp (cs := #[.int .i64 ((rd_T72 l0 x29_2).f0), .int .i64 ((rd_T72 l0 x29_2).f1), .string ((rd_T72 l0 x29_2).f2), .bool false]) ?_ 3 _ rfl; (with_reducible repeat (first | refine qkN ?_ _ | refine qkd ?_ | refine qka ?_ _)); refine qkp (cs := #[.int .i64 ((rd_T72 l0 x29_2).f0), .int .i64 ((rd_T72 l0 x29_2).f1), .string (⟨#[]⟩ : ByteArray), .bool false]) ?_ 2 _ rfl; (with_reducible repeat (first | refine qkN ?_ _ | refine qkd ?_ | refine qka ?_ _)); refine qkp (cs := #[.int .i64 ((rd_T72 l0 x29_2).f0), .int .i64 0, .string (⟨#[]⟩ : ByteArray), .bool false]) ?_ 1 _ rfl; (with_reducible repeat (first | refine qkN ?_ _ | refine qkd ?_ | refine qka ?_ _)); refine qkp (cs := #[.int .i64 0, .int .i64 0, .string (⟨#[]⟩ : ByteArray), .bool false]) ?_ 0 _ rfl; (with_reducible repeat (first | refine qkN ?_ _ | refine qkd ?_ | refine qka ?_ _)); exact BK138.out) hg (Kd.R_ne HO_7.out BK138.out (by decide))); have n1_ := Aside0.mk (hb); have n2_ := Aside0.mk (ho); clear BK138; clear HB; clear HO_7; have BK138 := n0_; have HB := n1_; have HO141 := n2_; clear n0_ n1_ n2_; clear ho hb hg hat; have hcz52_0 : w51.cell? ⟨gb138, 0, none⟩ = some (.int .i64 ((rd_T72 l0 x29_2).f0)) := (qkc BK138.out 0).trans rfl; have hcz52_1 : w51.cell? ⟨gb138, 1, none⟩ = some (.int .i64 ((rd_T72 l0 x29_2).f1)) := (qkc BK138.out 1).trans rfl; have hcz52_2 : w51.cell? ⟨gb138, 2, none⟩ = some (.string ((rd_T72 l0 x29_2).f2)) := (qkc BK138.out 2).trans rfl; have hcz52_3 : w51.cell? ⟨gb138, 3, none⟩ = some (.bool ((rd_T72 l0 x29_2).f3)) := (qkc BK138.out 3).trans rfl; have hfz52_0 := qkf BK138.out 0; have hfz52_1 := qkf BK138.out 1; have hfz52_2 := qkf BK138.out 2; have hfz52_3 := qkf BK138.out 3))
      go_roundg k2
      case measure => have := HK1.out; have := HK2.out; omega
      case rel => exact ⟨(y139), (wrap64 (x29_2 + 1)), (by first | rfl | (simp; done) | (simp [*]; done) | (simp [bne]; done)), H', ⟨by have := HK1.out; have := HK2.out; omega⟩, ⟨by (with_reducible repeat (first | apply Kd.R_alloc | apply Kd.R_drewN | apply Kd.R_drew)); exact HO141.out⟩, ⟨bw_ HB.out⟩⟩
     rw [if_neg c13] at H
     have c13b0 : decide (x29_2 < (l0.length : Int)) = false := decide_eq_false c13
     clear c13
     simp only [Option.some.injEq, Prod.mk.injEq] at H
     obtain ⟨rfl, rfl⟩ := H
     have hcv53 := own_string (P := Tryd.prog) Tryd.underlying25 Tryd.underlying5 Tryd.underlying9 (Kd.own_of_R HO_7.out)
     go_wp2
     go_ret2
     exact ⟨by first | rfl | (simp [errW_none, errW_some] <;> rfl) | (simp [*, errW_none, errW_some] <;> rfl), bw_ HB.out⟩

/-! ### store_EncodeEntry: function 4 -/
def store_EncodeEntry.l0 : Nat → List Int → List (List (S72)) → Int → Int → Option (List Int × Option Int)
 | 0, _, _, _, _ => none
 | k + 1, x4, x23, x24, x25 => if x25 < x24 then (if 0 ≤ x25 then (if x25 < (x23.length : Int) then ((order_Encode.f k (rd_L5 x23 x25)).bind fun bt169 => (if bt169.2.isNone = true then ((pack_AppendText.f k x4 bt169.1).bind fun t172 => (store_EncodeEntry.l0 k t172 x23 x24 (wrap64 (x25 + 1)))) else (some (([] : List Int), some (bt169.2.getD 0))))) else (none)) else (none)) else (some (x4, none))
def store_EncodeEntry.f (k : Nat) (a0_0 : ByteArray) (l0_1 : List (List (S72))) : Option (List Int × Option Int) := (table_Name.f k a0_0).bind fun t158 => (if t158 = true then ((pack_AppendText.f k (([2] : List Int)) a0_0).bind fun t162 => ((store_count.f k t162 (l0_1.length : Int)).bind fun t165 => (store_EncodeEntry.l0 k t165 l0_1 (l0_1.length : Int) 0))) else (some (([] : List Int), some 30)))
theorem store_EncodeEntry.mono_l : ∀ k, (∀ y0 y1 y2 y3, LeO (store_EncodeEntry.l0 k y0 y1 y2 y3) (store_EncodeEntry.l0 (k + 1) y0 y1 y2 y3))
 | 0 => fun _ _ _ _ r h => by simp [store_EncodeEntry.l0] at h
 | k + 1 => by
  have ih0 := store_EncodeEntry.mono_l k
  ·intro y0 y1 y2 y3
   unfold store_EncodeEntry.l0
   repeat' first
   | (with_reducible exact ih0 _ _ _ _)
   | (with_reducible exact order_Encode.mono _ _)
   | (with_reducible exact pack_AppendText.mono _ _ _)
   | (with_reducible exact store_count.mono _ _ _)
   | (with_reducible exact table_Name.mono _ _)
   | (with_reducible exact LeO.refl _)
   | (with_reducible exact LeO.none _)
   | (with_reducible refine LeO.ite ?_ ?_)
   | (with_reducible refine LeO.bind ?_ (fun _ => ?_))
   | exact ih0 _ _ _ _
   | exact order_Encode.mono _ _
   | exact pack_AppendText.mono _ _ _
   | exact store_count.mono _ _ _
   | exact table_Name.mono _ _
   | exact LeO.none _
   | refine LeO.ite ?_ ?_
   | refine LeO.bind ?_ (fun _ => ?_)
theorem store_EncodeEntry.mono : ∀ a0 a1 k, LeO (store_EncodeEntry.f k a0 a1) (store_EncodeEntry.f (k + 1) a0 a1) := by
 intro a0 a1 k
 have ih0 := store_EncodeEntry.mono_l k
 unfold store_EncodeEntry.f
 repeat' first
   | (with_reducible exact ih0 _ _ _ _)
   | (with_reducible exact order_Encode.mono _ _)
   | (with_reducible exact pack_AppendText.mono _ _ _)
   | (with_reducible exact store_count.mono _ _ _)
   | (with_reducible exact table_Name.mono _ _)
   | (with_reducible exact LeO.refl _)
   | (with_reducible exact LeO.none _)
   | (with_reducible refine LeO.ite ?_ ?_)
   | (with_reducible refine LeO.bind ?_ (fun _ => ?_))
   | exact ih0 _ _ _ _
   | exact order_Encode.mono _ _
   | exact pack_AppendText.mono _ _ _
   | exact store_count.mono _ _ _
   | exact table_Name.mono _ _
   | exact LeO.none _
   | refine LeO.ite ?_ ?_
   | refine LeO.bind ?_ (fun _ => ?_)
def store_EncodeEntry.T3 : Bool × List (List Nat × List Nat) := (true, [([], []), ([], []), ([1], [1]), ([0, 2], [0, 2]), ([], []), ([4], [4]), ([5], [5]), ([3, 6, 3], [3, 6]), ([7, 7, 0, 1, 2, 3, 4, 5, 6, 7], [7])])
def store_EncodeEntry.B3 : List Nat := [0, 0, 2, 7, 0, 16, 48, 127, 255]
theorem store_EncodeEntry.tab3 : rtab .any (opsOf Tryd.f4 3) = store_EncodeEntry.T3 := by kernel_rfl
theorem store_EncodeEntry.bits3 : waitsOk store_EncodeEntry.T3.2 store_EncodeEntry.B3 = true := by kernel_rfl
set_option maxHeartbeats 8000000 in
set_option maxRecDepth 100000 in
theorem store_EncodeEntry.calls (k : Nat) (a0_0 : ByteArray) (A0_1 : Option Addr) (c0_1 : Nat) (l0_1 : List (List (S72))) (r1 : List Int) (r2 : Option Int) (w : World) (hr0_1 : Kd.C (Kd.slice 72 k72) w A0_1 l0_1.length l0_1) (hc0_1 : l0_1.length ≤ c0_1) (hG : GW w) (h : store_EncodeEntry.f k a0_0 l0_1 = some (r1, r2)) :
  Calls Tryd.prog 4 #[.agg #[.string a0_0, .slice A0_1 l0_1.length c0_1]] w fun e w' => ∃ v0_ : Value, e = .returned (.tuple #[v0_, errW r2]) ∧ Kd.R (Kd.int .u8) 5 w' w.heap.size (fun _ => True) v0_ r1 ∧ Below w.heap.size w w' := by
 have hu30 := Tryd.underlying30
 have hu27 := Tryd.underlying27
 have hu43 := Tryd.underlying43
 have HR0_1 := Aside0.mk hr0_1
 have HC0_1 := Aside0.mk hc0_1
 clear hr0_1 hc0_1
 have HB := Aside0.mk (Below.refl w.heap.size w)
 have HG := Aside0.mk hG
 clear hG
 have H : ((table_Name.f k a0_0).bind fun t158 => (if t158 = true then ((pack_AppendText.f k (([2] : List Int)) a0_0).bind fun t162 => ((store_count.f k t162 (l0_1.length : Int)).bind fun t165 => (store_EncodeEntry.l0 k t165 l0_1 (l0_1.length : Int) 0))) else (some (([] : List Int), some 30)))) = some (r1, r2) := h
 clear h
 replace H := Option.bind_eq_some_iff.mp H
 obtain ⟨t158, A20, H⟩ := H
 (try dsimp only at H)
 have A2 := Aside0.mk A20
 clear A20
 by_cases c3 : t158 = true
 ·subst c3
  rw [if_pos rfl] at H
  obtain ⟨y159, hy159⟩ : ∃ y_ : List Int, y_ = (([2] : List Int)) := ⟨_, rfl⟩
  replace H : ((pack_AppendText.f k y159 a0_0).bind fun t162 => ((store_count.f k t162 (l0_1.length : Int)).bind fun t165 => (store_EncodeEntry.l0 k t165 l0_1 (l0_1.length : Int) 0))) = some (r1, r2) := by first | (rw [hy159]; with_reducible exact H) | (have H2_ := (Option.bind_some _ _).symm.trans H; rw [hy159]; with_reducible exact H2_) | (have H2_ := (Option.bind_some _ _).symm.trans H; with_reducible exact H2_) | with_reducible exact H | (rw [hy159]; exact H) | exact H
  have Ny159 := Aside0.mk hy159
  clear hy159
  replace H := Option.bind_eq_some_iff.mp H
  obtain ⟨t162, A40, H⟩ := H
  (try dsimp only at H)
  have A4 := Aside0.mk A40
  clear A40
  replace H := Option.bind_eq_some_iff.mp H
  obtain ⟨t165, A50, H⟩ := H
  (try dsimp only at H)
  have A5 := Aside0.mk A50
  clear A50
  have H' := Aside0.mk H
  clear H
  go_enter Tryd.func4, Tryd.ntmps4
  try go_wp2_with (first | ((with_reducible refine qgd (N := 1) rfl ?_); refine qbe ?hg (N := 1) ?hd (cs := #[.string a0_0, .slice A0_1 l0_1.length c0_1]) (t := 30) ?hr ?_; (case hd => rfl); (case hg => rfl); (case hr => first | (go_simp; done) | (go_simp; rfl)); intro gb157 hg w6 hbox hb; have n0_ := Aside0.mk (below_step (bw_ HB.out) hb); have n1_ := Aside0.mk (hbox); have n2_ := Aside0.mk ((by rw [hg]; exact (qbz (bw_ HB.out)) : w.heap.size ≤ gb157)); have n3_ := Aside0.mk ((by rw [hg]; exact (qbz (bw_ HB.out)) : w.heap.size ≤ gb157)); clear HB; have HB := n0_; have BK157 := n1_; have GW157 := n2_; have GE157 := n3_; clear n0_ n1_ n2_ n3_; clear hb hbox hg; have hcz7_0 : w6.cell? ⟨gb157, 0, none⟩ = some (.string a0_0) := (qkc BK157.out 0).trans rfl; have hcz7_1 : w6.cell? ⟨gb157, 1, none⟩ = some (.slice A0_1 l0_1.length c0_1) := (qkc BK157.out 1).trans rfl; have hfz7_0 := qkf BK157.out 0; have hfz7_1 := qkf BK157.out 1) | ((with_reducible refine qgc (f := 12) rfl ?_); refine goesL_ (some 11) rfl rfl Tryd.func12 (by kernel_rfl) rfl #[.string a0_0] rfl (by (try simp only [List.map_toArray, List.map_cons, List.map_nil]); first | done | rfl | (simp only [List.length_drop, List.length_take]; rfl)) ?_; (with_reducible refine (table_Name.calls k a0_0 true _ ?side1 A2.out).mono ?_); (case side1 => exact GW_below HG.out (bw_ HB.out)); rintro e w8 ⟨rfl, hb⟩; refine ⟨_, rfl, ?_⟩; have n0_ := Aside0.mk (qkb (g := gb157) (o := .cells #[.string a0_0, .slice A0_1 l0_1.length c0_1] 30 (0, 0)) (bl_ BK157.out) hb); have n1_ := Aside0.mk (below_step (bw_ HB.out) hb); clear BK157; clear HB; have BK157 := n0_; have HB := n1_; clear n0_ n1_; (try clear hb); (try clear hb2); (try clear hk); (try clear hi)))
  have n0_ := Aside0.mk (qkd BK157.out)
  have n1_ := Aside0.mk (qb1 HB.out)
  clear BK157
  clear HB
  have BK157 := n0_
  have HB := n1_
  clear n0_ n1_
  refine start_ (n := 9) (S := fun w' => w'.cell? ⟨gb157, 0, none⟩ = some (.string a0_0) ∧ w'.cell? ⟨gb157, 1, none⟩ = some (.slice A0_1 l0_1.length c0_1)) (ds := []) #[false, false, false, false, false, false, false, false, false] (by kernel_rfl) rfl rfl ⟨(qkc BK157.out 0).trans rfl, (qkc BK157.out 1).trans rfl⟩ (fun hHeld => ?_); refine with_tabW store_EncodeEntry.tab3 store_EncodeEntry.bits3 (fun HT_ HW_ => ?_)
  generalize w8.drew = w9 at BK157 HB hHeld ⊢
  refine pure_ (i := 1) (N := some 15) (v := ?_) (a' := ?_) #[false, true, false, false, false, false, false, false, false] rfl rfl (any_of HT_.out (by kernel_rfl)) (fun _ _ _ h => h) (Or.inl ⟨by rfl, ?_⟩) ?_ ?_
  rotate_left
  ·intro w'
   go_simp
   with_reducible rfl
  rotate_left
  ·simp only [Act.put, List.setIfInBounds_toArray, List.set_cons_zero, List.set_cons_succ, i64_w, i32_w]
   rfl
  refine pure_ (i := 4) (N := some 18) (v := ?_) (a' := ?_) #[false, true, false, false, true, false, false, false, false] rfl rfl (any_of HT_.out (by kernel_rfl)) (fun _ _ _ h => h) (Or.inl ⟨by rfl, ?_⟩) ?_ ?_
  rotate_left
  ·intro w'
   go_simp
   with_reducible rfl
  rotate_left
  ·simp only [Act.put, List.setIfInBounds_toArray, List.set_cons_zero, List.set_cons_succ, i64_w, i32_w]
   rfl
  refine take_ (i := 2) (N := some 16) (v := ?_) (a' := ?_) #[false, true, true, false, true, false, false, false, false] rfl rfl (take_ofW HT_.out HW_.out (by kernel_rfl)) (fun _ _ _ h => h) (Or.inl ⟨by rfl, ?_⟩) hHeld ?_ ?_
  rotate_left
  ·rintro w' ⟨s0, s1⟩
   go_simp
   with_reducible rfl
  rotate_left
  ·simp only [Act.put, List.setIfInBounds_toArray, List.set_cons_zero, List.set_cons_succ, i64_w, i32_w]
   rfl
  refine take_ (i := 5) (N := some 19) (v := ?_) (a' := ?_) #[false, true, true, false, true, true, false, false, false] rfl rfl (take_ofW HT_.out HW_.out (by kernel_rfl)) (fun _ _ _ h => h) (Or.inl ⟨by rfl, ?_⟩) hHeld ?_ ?_
  rotate_left
  ·rintro w' ⟨s0, s1⟩
   go_simp
   with_reducible rfl
  rotate_left
  ·simp only [Act.put, List.setIfInBounds_toArray, List.set_cons_zero, List.set_cons_succ, i64_w, i32_w]
   rfl
  refine pure_ (i := 6) (N := some 20) (v := ?_) (a' := ?_) #[false, true, true, false, true, true, true, false, false] rfl rfl (any_of HT_.out (by kernel_rfl)) (fun _ _ _ h => h) (Or.inl ⟨by rfl, ?_⟩) ?_ ?_
  rotate_left
  ·intro w'
   go_simp
   with_reducible rfl
  rotate_left
  ·simp only [Act.put, List.setIfInBounds_toArray, List.set_cons_zero, List.set_cons_succ, i64_w, i32_w]
   rfl
  refine one_ (i := 0) (N := some 14) #[true, true, true, false, true, true, true, false, false] rfl rfl (one_of HT_.out (by kernel_rfl)) (by decide) (fun K hK => ?_)
  refine Kd.R_lit_step (Kd.int .u8) _ 5 ?hg (N := 14) ?hd (xs := ([2] : List Int)) (inner := [.int .u8 2]) (ok := fun _ => True) (okp := fun _ => True) ?hr ?hp (fun _ hk => hk) trivial (Below.refl _ _) (Nat.le_refl _) (by simp) ?_; (case hd => rfl); (case hg => rfl); (case hr => first | (go_simp; done) | (go_simp; rfl)); (case hp => exact (Reps.one (show Kd.M (Kd.int .u8) _ _ _ 2 [.int .u8 2] from rfl) (Reps.none _ _)))
  intro v160 w10 ho11 hb hg_ hnew_
  clear hg_ hnew_
  (first | rw [← Ny159.out] at ho11 | (simp only [Int.reduceToNat] at ho11; rw [← Ny159.out] at ho11))
  have n0_ := Aside0.mk (Kd.R_lower ho11 (qbz (bw_ HB.out)))
  have n1_ := Aside0.mk (qkb (g := gb157) (o := .cells #[.string a0_0, .slice A0_1 l0_1.length c0_1] 30 (0, 0)) (bl_ BK157.out) hb)
  have n2_ := Aside0.mk (below_step (bw_ HB.out) hb)
  clear BK157
  clear HB
  have HO161 := n0_
  have BK157 := n1_
  have HB := n2_
  clear n0_ n1_ n2_
  clear hb ho11
  obtain ⟨Ao12, co12, eo12⟩ := Kd.R_slice HO161.out
  (first | subst eo12 | (injection eo12 with f1_ f2_ f3_; have f4_ := f1_.symm; have f5_ := f3_.symm; clear f1_ f2_ f3_; subst f4_; subst f5_))
  refine hK.out _ _ ⟨(qkc BK157.out 0).trans rfl, (qkc BK157.out 1).trans rfl⟩ (fun hHeld => ?_)
  clear hK K
  refine norm_ (a' := ?_) ?_ ?_
  rotate_left
  ·show Act.put _ (some 14) _ = _
   simp only [Act.put, List.setIfInBounds_toArray, List.set_cons_zero, List.set_cons_succ, i64_w, i32_w]
   rfl
  refine one_ (i := 3) (N := some 17) #[true, true, true, true, true, true, true, false, false] rfl rfl (one_of HT_.out (by kernel_rfl)) (by decide) (fun K hK => ?_)
  refine goes_ Tryd.func14 (by kernel_rfl) rfl #[.slice Ao12 y159.length co12, .string a0_0] (by rfl) rfl rfl (by (try simp only [List.map_toArray, List.map_cons, List.map_nil]); first | done | rfl | (simp only [List.length_drop, List.length_take]; rfl)) ?_
  with_reducible refine (pack_AppendText.calls k _ _ y159 a0_0 t162 _ ?side1 ?side2 A4.out).mono ?_
  (case side1 => repeat (first | exact (Kd.R_reads' HO161.out).2.2 | (with_reducible refine Kd.C_alloc ?_ _) | (with_reducible refine Kd.C_drewN ?_ _) | (with_reducible refine Kd.C_drew ?_)))
  (case side2 => exact (Kd.R_reads' HO161.out).2.1)
  rintro e w13 ⟨v163, rfl, ho0, hb⟩
  refine ⟨_, rfl, ?_⟩
  have n0_ := Aside0.mk (Kd.R_elder' (kR_ HO161.out) (Kd.R_base ho0) hb)
  have n1_ := Aside0.mk (Kd.R_lower (Kd.R_new' ho0 (Kd.R_lt (kR_ HO161.out))) (qbz (bw_ HB.out)))
  have n2_ := Aside0.mk (qkb (g := gb157) (o := .cells #[.string a0_0, .slice A0_1 l0_1.length c0_1] 30 (0, 0)) (bl_ BK157.out) hb)
  have n3_ := Aside0.mk (below_step (bw_ HB.out) hb)
  clear HO161
  clear BK157
  clear HB
  have HO161 := n0_
  have HO164 := n1_
  have BK157 := n2_
  have HB := n3_
  clear n0_ n1_ n2_ n3_
  (try clear hb); (try clear hb2); (try clear hk); (try clear hi); (try clear ho0)
  obtain ⟨Ao14, co14, eo14⟩ := Kd.R_slice HO164.out
  (first | subst eo14 | (injection eo14 with f1_ f2_ f3_; have f4_ := f1_.symm; have f5_ := f3_.symm; clear f1_ f2_ f3_; subst f4_; subst f5_))
  refine hK.out _ _ ⟨(qkc BK157.out 0).trans rfl, (qkc BK157.out 1).trans rfl⟩ (fun hHeld => ?_)
  clear hK K
  refine norm_ (a' := ?_) ?_ ?_
  rotate_left
  ·show Act.put _ (some 17) _ = _
   simp only [Act.put, List.setIfInBounds_toArray, List.set_cons_zero, List.set_cons_succ, i64_w, i32_w]
   rfl
  refine one_ (i := 7) (N := some 21) #[true, true, true, true, true, true, true, true, false] rfl rfl (one_of HT_.out (by kernel_rfl)) (by decide) (fun K hK => ?_)
  refine goes_ Tryd.func13 (by kernel_rfl) rfl #[.slice Ao14 t162.length co14, .int .i64 (l0_1.length : Int)] (by rfl) rfl rfl (by (try simp only [List.map_toArray, List.map_cons, List.map_nil]); first | done | rfl | (simp only [List.length_drop, List.length_take]; rfl)) ?_
  with_reducible refine (store_count.calls k _ _ t162 (l0_1.length : Int) t165 _ ?side1 ?side2 A5.out).mono ?_
  (case side1 => repeat (first | exact (Kd.R_reads' HO164.out).2.2 | (with_reducible refine Kd.C_alloc ?_ _) | (with_reducible refine Kd.C_drewN ?_ _) | (with_reducible refine Kd.C_drew ?_)))
  (case side2 => exact (Kd.R_reads' HO164.out).2.1)
  rintro e w15 ⟨v166, rfl, ho0, hb⟩
  refine ⟨_, rfl, ?_⟩
  have n0_ := Aside0.mk (Kd.R_elder' (kR_ HO161.out) (Kd.R_base ho0) hb)
  have n1_ := Aside0.mk (Kd.R_elder' (kR_ HO164.out) (Kd.R_base ho0) hb)
  have n2_ := Aside0.mk (Kd.R_lower (Kd.R_new' (Kd.R_new' ho0 (Kd.R_lt (kR_ HO161.out))) (Kd.R_lt (kR_ HO164.out))) (qbz (bw_ HB.out)))
  have n3_ := Aside0.mk (qkb (g := gb157) (o := .cells #[.string a0_0, .slice A0_1 l0_1.length c0_1] 30 (0, 0)) (bl_ BK157.out) hb)
  have n4_ := Aside0.mk (below_step (bw_ HB.out) hb)
  clear HO161
  clear HO164
  clear BK157
  clear HB
  have HO161 := n0_
  have HO164 := n1_
  have HO167 := n2_
  have BK157 := n3_
  have HB := n4_
  clear n0_ n1_ n2_ n3_ n4_
  (try clear hb); (try clear hb2); (try clear hk); (try clear hi); (try clear ho0)
  refine hK.out _ _ ⟨(qkc BK157.out 0).trans rfl, (qkc BK157.out 1).trans rfl⟩ (fun hHeld => ?_)
  clear hK K
  refine norm_ (a' := ?_) ?_ ?_
  rotate_left
  ·show Act.put _ (some 21) _ = _
   simp only [Act.put, List.setIfInBounds_toArray, List.set_cons_zero, List.set_cons_succ, i64_w, i32_w]
   rfl
  refine pure_ (i := 8) (N := some 4) (v := ?_) (a' := ?_) #[true, true, true, true, true, true, true, true, true] rfl rfl (any_of HT_.out (by kernel_rfl)) (fun _ _ _ h => h) (Or.inl ⟨by rfl, ?_⟩) ?_ ?_
  rotate_left
  ·intro w'
   go_simp
   with_reducible rfl
  rotate_left
  ·simp only [Act.put, List.setIfInBounds_toArray, List.set_cons_zero, List.set_cons_succ, i64_w, i32_w]
   rfl
  refine done_ (done_of HT_.out (by kernel_rfl)) ?_
  have hcz16_0 : w15.cell? ⟨gb157, 0, none⟩ = some (.string a0_0) := (qkc BK157.out 0).trans rfl
  have hcz16_1 : w15.cell? ⟨gb157, 1, none⟩ = some (.slice A0_1 l0_1.length c0_1) := (qkc BK157.out 1).trans rfl
  have hfz16_0 := qkf BK157.out 0
  have hfz16_1 := qkf BK157.out 1
  try go_wp2
  go_loopg [4, 25] k (fun kq v4 v25 w' => ∃ (x4_1 : List Int) (x25_1 : Int), v25 = .int .i64 x25_1 ∧ Aside0 (store_EncodeEntry.l0 kq x4_1 l0_1 (l0_1.length : Int) x25_1 = some (r1, r2)) ∧ Aside0 (kq ≤ k) ∧ Aside0 (Kd.R (Kd.int .u8) 5 w' w.heap.size (fun _ => True) v4 x4_1) ∧ Aside0 (w'.heap[gb157]? = some (.cells #[.string a0_0, (.slice A0_1 l0_1.length c0_1)] 30 (0, 0))) ∧ Aside0 (Below w.heap.size w w'))
  case atStart => exact ⟨(t165), (0), (by first | rfl | (simp; done) | (simp [*]; done) | (simp [bne]; done)), H', ⟨Nat.le_refl _⟩, ⟨by (with_reducible repeat (first | apply Kd.R_alloc | apply Kd.R_drewN | apply Kd.R_drew)); exact Kd.R_mono HO167.out (fun _ hk => trivial)⟩, ⟨by (with_reducible repeat (first | refine qkN ?_ _ | refine qkd ?_ | refine qka ?_ _)); exact BK157.out⟩, ⟨bw_ HB.out⟩⟩
  case round =>
   clear H'
   (try clear c1); (try clear p2); (try clear c3); (try clear c4); (try clear c12); (try clear c13); (try clear c14); (try clear hcz16_0); (try clear hcz16_1); (try clear hcz7_0); (try clear hcz7_1); (try clear hfz16_0)
   (try clear hfz16_1); (try clear hfz7_0); (try clear hfz7_1)
   obtain ⟨x4_1, x25_1, rfl, HA, HK1, HO_4, BK157, HB⟩ := hrel
   cases gk with
   | zero => exact absurd HA.out (by simp [store_EncodeEntry.l0])
   | succ k1 =>
    have H := HA.out
    clear HA
    simp only [store_EncodeEntry.l0] at H
    by_cases c17 : x25_1 < (l0_1.length : Int)
    ·rw [if_pos c17] at H
     have c17b0 : decide (x25_1 < (l0_1.length : Int)) = true := decide_eq_true c17
     clear c17
     have c18 : 0 ≤ x25_1 := Classical.byContradiction fun c18 => by rw [if_neg c18] at H; exact absurd H (by simp)
     rw [if_pos c18] at H
     have c18b0 : decide (0 ≤ x25_1) = true := decide_eq_true c18
     clear c18
     have c19 : x25_1 < (l0_1.length : Int) := Classical.byContradiction fun c19 => by rw [if_neg c19] at H; exact absurd H (by simp)
     rw [if_pos c19] at H
     have c19b0 : decide (x25_1 < (l0_1.length : Int)) = true := decide_eq_true c19
     clear c19
     replace H := Option.bind_eq_some_iff.mp H
     obtain ⟨⟨t169, t170⟩, A200, H⟩ := H
     (try dsimp only at H)
     have A20 := Aside0.mk A200
     clear A200
     rcases t170 with _ | q171
     ·have H1 : ((pack_AppendText.f k1 x4_1 t169).bind fun t172 => (store_EncodeEntry.l0 k1 t172 l0_1 (l0_1.length : Int) (wrap64 (x25_1 + 1)))) = some (r1, r2) := by rw [if_pos (show (none : Option Int).isNone = true by rfl)] at H; exact H
      clear H
      have H := H1
      clear H1
      try simp only [errW_none, errW_some]
      replace H := Option.bind_eq_some_iff.mp H
      obtain ⟨t172, A210, H⟩ := H
      (try dsimp only at H)
      have A21 := Aside0.mk A210
      clear A210
      have H' := Aside0.mk H
      clear H
      have p168 : 0 ≤ (x25_1 : Int) := ode_
      have q168 : x25_1 < (l0_1.length : Int) := ode_
      obtain ⟨ad168, A168_0, c168_0, e168, hx168_0, hl168_0, hi168_0⟩ := at_L5 HR0_1.out x25_1 p168 q168
      cases e168
      replace hx168_0 := (HB.out.cell (World.block_lt_of_cell? w _ hx168_0)).trans hx168_0
      have HR168_0 := Aside0.mk hi168_0
      have HC168_0 := Aside0.mk hl168_0
      clear hi168_0 hl168_0
      replace p168 := eq_true p168
      replace q168 := eq_true q168
      go_wp2_with (first | ((with_reducible refine qgc (f := 15) rfl ?_); refine goesL_ (some 31) rfl rfl Tryd.func15 (by kernel_rfl) rfl #[.slice A168_0 (rd_L5 l0_1 x25_1).length c168_0] rfl (by (try simp only [List.map_toArray, List.map_cons, List.map_nil]); first | done | rfl | (simp only [List.length_drop, List.length_take]; rfl)) ?_; (with_reducible refine (order_Encode.calls k1 _ _ (rd_L5 l0_1 x25_1) t169 none _ ?side1 ?side2 A20.out).mono ?_); (case side1 => repeat (first | exact (Kd.C_below HR168_0.out HB.out) | (with_reducible refine Kd.C_alloc ?_ _) | (with_reducible refine Kd.C_drewN ?_ _) | (with_reducible refine Kd.C_drew ?_))); (case side2 => exact HC168_0.out); rintro e w22 ⟨rfl, hb⟩; refine ⟨_, rfl, ?_⟩; have n0_ := Aside0.mk (Kd.R_below (kR_ HO_4.out) hb); have n1_ := Aside0.mk (qkb (g := gb157) (o := .cells #[.string a0_0, .slice (some ad168) l0_1.length c0_1] 30 (0, 0)) (bl_ BK157.out) hb); have n2_ := Aside0.mk (below_step (bw_ HB.out) hb); clear HO_4; clear BK157; clear HB; have HO_4 := n0_; have BK157 := n1_; have HB := n2_; clear n0_ n1_ n2_; (try clear hb); (try clear hb2); (try clear hk); (try clear hi); (try simp only [errW_none, errW_some]); obtain ⟨Ao23, co23, eo23⟩ := Kd.R_slice HO_4.out; subst eo23) | ((with_reducible refine qgc (f := 14) rfl ?_); refine goesL_ (some 39) rfl rfl Tryd.func14 (by kernel_rfl) rfl #[.slice Ao23 x4_1.length co23, .string t169] rfl (by (try simp only [List.map_toArray, List.map_cons, List.map_nil]); first | done | rfl | (simp only [List.length_drop, List.length_take]; rfl)) ?_; (with_reducible refine (pack_AppendText.calls k1 _ _ x4_1 t169 t172 _ ?side1 ?side2 A21.out).mono ?_); (case side1 => repeat (first | exact (Kd.R_reads' HO_4.out).2.2 | (with_reducible refine Kd.C_alloc ?_ _) | (with_reducible refine Kd.C_drewN ?_ _) | (with_reducible refine Kd.C_drew ?_))); (case side2 => exact (Kd.R_reads' HO_4.out).2.1); rintro e w24 ⟨v173, rfl, ho0, hb⟩; refine ⟨_, rfl, ?_⟩; have n0_ := Aside0.mk (Kd.R_elder' (kR_ HO_4.out) (Kd.R_base ho0) hb); have n1_ := Aside0.mk (Kd.R_lower (Kd.R_new' ho0 (Kd.R_lt (kR_ HO_4.out))) (qbz (bw_ HB.out))); have n2_ := Aside0.mk (qkb (g := gb157) (o := .cells #[.string a0_0, .slice (some ad168) l0_1.length c0_1] 30 (0, 0)) (bl_ BK157.out) hb); have n3_ := Aside0.mk (below_step (bw_ HB.out) hb); clear HO_4; clear BK157; clear HB; have HO_4 := n0_; have HO174 := n1_; have BK157 := n2_; have HB := n3_; clear n0_ n1_ n2_ n3_; (try clear hb); (try clear hb2); (try clear hk); (try clear hi); (try clear ho0)))
      go_roundg k1
      case measure => have := HK1.out; omega
      case rel => exact ⟨(t172), (wrap64 (x25_1 + 1)), (by first | rfl | (simp; done) | (simp [*]; done) | (simp [bne]; done)), H', ⟨by have := HK1.out; omega⟩, ⟨by (with_reducible repeat (first | apply Kd.R_alloc | apply Kd.R_drewN | apply Kd.R_drew)); exact Kd.R_mono HO174.out (fun _ hk => trivial)⟩, ⟨by (with_reducible repeat (first | refine qkN ?_ _ | refine qkd ?_ | refine qka ?_ _)); exact BK157.out⟩, ⟨bw_ HB.out⟩⟩
     have H1 : (some (([] : List Int), some q171)) = some (r1, r2) := by rw [if_neg (show ¬ (some q171).isNone = true by simp)] at H; exact H
     clear H
     have H := H1
     clear H1
     try simp only [errW_none, errW_some]
     simp only [Option.some.injEq, Prod.mk.injEq] at H
     obtain ⟨rfl, rfl⟩ := H
     have p168 : 0 ≤ (x25_1 : Int) := ode_
     have q168 : x25_1 < (l0_1.length : Int) := ode_
     obtain ⟨ad168, A168_0, c168_0, e168, hx168_0, hl168_0, hi168_0⟩ := at_L5 HR0_1.out x25_1 p168 q168
     cases e168
     replace hx168_0 := (HB.out.cell (World.block_lt_of_cell? w _ hx168_0)).trans hx168_0
     have HR168_0 := Aside0.mk hi168_0
     have HC168_0 := Aside0.mk hl168_0
     clear hi168_0 hl168_0
     replace p168 := eq_true p168
     replace q168 := eq_true q168
     go_wp2_with (first | ((with_reducible refine qgc (f := 15) rfl ?_); refine goesL_ (some 31) rfl rfl Tryd.func15 (by kernel_rfl) rfl #[.slice A168_0 (rd_L5 l0_1 x25_1).length c168_0] rfl (by (try simp only [List.map_toArray, List.map_cons, List.map_nil]); first | done | rfl | (simp only [List.length_drop, List.length_take]; rfl)) ?_; (with_reducible refine (order_Encode.calls k1 _ _ (rd_L5 l0_1 x25_1) t169 (some q171) _ ?side1 ?side2 A20.out).mono ?_); (case side1 => repeat (first | exact (Kd.C_below HR168_0.out HB.out) | (with_reducible refine Kd.C_alloc ?_ _) | (with_reducible refine Kd.C_drewN ?_ _) | (with_reducible refine Kd.C_drew ?_))); (case side2 => exact HC168_0.out); rintro e w25 ⟨rfl, hb⟩; refine ⟨_, rfl, ?_⟩; have n0_ := Aside0.mk (Kd.R_below (kR_ HO_4.out) hb); have n1_ := Aside0.mk (qkb (g := gb157) (o := .cells #[.string a0_0, .slice (some ad168) l0_1.length c0_1] 30 (0, 0)) (bl_ BK157.out) hb); have n2_ := Aside0.mk (below_step (bw_ HB.out) hb); clear HO_4; clear BK157; clear HB; have HO_4 := n0_; have BK157 := n1_; have HB := n2_; clear n0_ n1_ n2_; (try clear hb); (try clear hb2); (try clear hk); (try clear hi); (try simp only [errW_none, errW_some])))
     go_ret2
     exact ⟨_, by first | rfl | (simp [errW_none, errW_some] <;> rfl) | (simp [*, errW_none, errW_some] <;> rfl), by first | exact Kd.R_nil _ _ _ _ _ | exact Kd.N_nil _ _ _ _ _ | exact Kd.V_nil _ _ _ _ _ | exact Kd.Q_nil _ _ _ _ _ | exact Kd.S_nil _ _ _ _ _, bw_ HB.out⟩
    rw [if_neg c17] at H
    have c17b0 : decide (x25_1 < (l0_1.length : Int)) = false := decide_eq_false c17
    clear c17
    simp only [Option.some.injEq, Prod.mk.injEq] at H
    obtain ⟨rfl, rfl⟩ := H
    go_wp2
    go_ret2
    exact ⟨_, by first | rfl | (simp [errW_none, errW_some] <;> rfl) | (simp [*, errW_none, errW_some] <;> rfl), by (with_reducible repeat (first | apply Kd.R_alloc | apply Kd.R_drewN | apply Kd.R_drew)); exact HO_4.out, bw_ HB.out⟩
 replace c3 := Bool.eq_false_iff.mpr c3
 subst c3
 rw [if_neg (show ¬ (false = true) by decide)] at H
 simp only [Option.some.injEq, Prod.mk.injEq] at H
 obtain ⟨rfl, rfl⟩ := H
 go_enter Tryd.func4, Tryd.ntmps4
 go_wp2_with (first | ((with_reducible refine qgd (N := 1) rfl ?_); refine qbe ?hg (N := 1) ?hd (cs := #[.string a0_0, .slice A0_1 l0_1.length c0_1]) (t := 30) ?hr ?_; (case hd => rfl); (case hg => rfl); (case hr => first | (go_simp; done) | (go_simp; rfl)); intro gb157 hg w26 hbox hb; have n0_ := Aside0.mk (below_step (bw_ HB.out) hb); have n1_ := Aside0.mk (hbox); have n2_ := Aside0.mk ((by rw [hg]; exact (qbz (bw_ HB.out)) : w.heap.size ≤ gb157)); have n3_ := Aside0.mk ((by rw [hg]; exact (qbz (bw_ HB.out)) : w.heap.size ≤ gb157)); clear HB; have HB := n0_; have BK157 := n1_; have GW157 := n2_; have GE157 := n3_; clear n0_ n1_ n2_ n3_; clear hb hbox hg; have hcz27_0 : w26.cell? ⟨gb157, 0, none⟩ = some (.string a0_0) := (qkc BK157.out 0).trans rfl; have hcz27_1 : w26.cell? ⟨gb157, 1, none⟩ = some (.slice A0_1 l0_1.length c0_1) := (qkc BK157.out 1).trans rfl; have hfz27_0 := qkf BK157.out 0; have hfz27_1 := qkf BK157.out 1) | ((with_reducible refine qgc (f := 12) rfl ?_); refine goesL_ (some 11) rfl rfl Tryd.func12 (by kernel_rfl) rfl #[.string a0_0] rfl (by (try simp only [List.map_toArray, List.map_cons, List.map_nil]); first | done | rfl | (simp only [List.length_drop, List.length_take]; rfl)) ?_; (with_reducible refine (table_Name.calls k a0_0 false _ ?side1 A2.out).mono ?_); (case side1 => exact GW_below HG.out (bw_ HB.out)); rintro e w28 ⟨rfl, hb⟩; refine ⟨_, rfl, ?_⟩; have n0_ := Aside0.mk (qkb (g := gb157) (o := .cells #[.string a0_0, .slice A0_1 l0_1.length c0_1] 30 (0, 0)) (bl_ BK157.out) hb); have n1_ := Aside0.mk (below_step (bw_ HB.out) hb); clear BK157; clear HB; have BK157 := n0_; have HB := n1_; clear n0_ n1_; (try clear hb); (try clear hb2); (try clear hk); (try clear hi)))
 go_ret2
 exact ⟨_, by first | rfl | (simp [errW_none, errW_some] <;> rfl) | (simp [*, errW_none, errW_some] <;> rfl), by first | exact Kd.R_nil _ _ _ _ _ | exact Kd.N_nil _ _ _ _ _ | exact Kd.V_nil _ _ _ _ _ | exact Kd.Q_nil _ _ _ _ _ | exact Kd.S_nil _ _ _ _ _, bw_ HB.out⟩

/-! ### barbicanlaw26_twin2: function 16 -/
def barbicanlaw26_twin2.f (l0 : List (S72)) : Option ((List (S72))) := if ([] : List (S72)).length + l0.length < 3518437208883 then (some (([] : List (S72)) ++ l0)) else (none)
set_option maxHeartbeats 8000000 in
set_option maxRecDepth 100000 in
theorem barbicanlaw26_twin2.calls (A0 : Option Addr) (c0 : Nat) (l0 : List (S72)) (r : List (S72)) (w : World) (hr0 : Kd.C k72 w A0 l0.length l0) (hc0 : l0.length ≤ c0) (h : barbicanlaw26_twin2.f l0 = some r) :
  Calls Tryd.prog 16 #[.slice A0 l0.length c0] w fun e w' => ∃ v0_ : Value, e = .returned (v0_) ∧ Kd.R k72 72 w' w.heap.size (fun _ => True) v0_ r ∧ Below w.heap.size w w' := by
 have HR0 := Aside0.mk hr0
 have HC0 := Aside0.mk hc0
 clear hr0 hc0
 have HB := Aside0.mk (Below.refl w.heap.size w)
 have H : (if ([] : List (S72)).length + l0.length < 3518437208883 then (some (([] : List (S72)) ++ l0)) else (none)) = some r := h
 clear h
 have c2 : ([] : List (S72)).length + l0.length < 3518437208883 := Classical.byContradiction fun c2 => by rw [if_neg c2] at H; exact absurd H (by simp)
 rw [if_pos c2] at H
 have LMc2 := Aside0.mk c2
 clear c2
 obtain ⟨y175, hy175⟩ : ∃ y_ : List (S72), y_ = (([] : List (S72)) ++ l0) := ⟨_, rfl⟩
 replace H : (some y175) = some r := by first | (rw [hy175]; with_reducible exact H) | (have H2_ := (Option.bind_some _ _).symm.trans H; rw [hy175]; with_reducible exact H2_) | (have H2_ := (Option.bind_some _ _).symm.trans H; with_reducible exact H2_) | with_reducible exact H | (rw [hy175]; exact H) | exact H
 have Ny175 := Aside0.mk hy175
 clear hy175
 obtain rfl := Option.some.inj H
 go_enter Tryd.func16, Tryd.ntmps16
 go_wp2_with (first | ((with_reducible refine gate_builtin (b := .append) (xs := #[.tmp 4, .tmp 5]) rfl ?_); at_builtin; refine Kd.R_append_rows k72 (w0 := w) w.heap.size rfl (.tmp 4) (.tmp 5) 46 72 (.agg #[(.int .i64 0), (.int .i64 0), (.string ⟨#[]⟩), (.bool false)]) 40 rfl Tryd.underlying46 info72 rfl (by decide) (by omega) (.slice none 0 0) ([] : List (S72)) l0 _ _ _ (fun _ => True) (fun _ => False) rfl rfl ?aO ?aR (fun _ _ h => h) (fun _ h => h.elim) ?aF ?aB ?aS ?aL ?_; (case aR => repeat (first | exact HR0.out | (with_reducible refine Kd.C_alloc ?_ _) | (with_reducible refine Kd.C_drewN ?_ _) | (with_reducible refine Kd.C_drew ?_))); (case aB => exact (bw_ HB.out)); (case aF => exact (fun _ _ => trivial)); (case aO => exact ((Kd.R_nil _ _ _ _ (fun _ => True)))); (case aS => exact (qbz (bw_ HB.out))); (case aL => have := LMc2.out; omega); intro v176 w3 ho hb hg hat; rw [← Ny175.out] at ho; have n0_ := Aside0.mk (hb); have n1_ := Aside0.mk (ho); clear HB; have HB := n0_; have HO177 := n1_; clear n0_ n1_; clear ho hb hg hat))
 go_ret
 exact ⟨_, by first | rfl | (simp [errW_none, errW_some] <;> rfl) | (simp [*, errW_none, errW_some] <;> rfl), by (with_reducible repeat (first | apply Kd.R_alloc | apply Kd.R_drewN | apply Kd.R_drew)); exact HO177.out, bw_ HB.out⟩

end Go.Proofs.YtddkbhglbkfelaaDoor.E
