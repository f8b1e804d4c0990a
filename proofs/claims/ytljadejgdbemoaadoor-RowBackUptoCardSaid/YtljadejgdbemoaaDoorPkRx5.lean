import Derived.Test.YtljadejgdbemoaaDoorPkRx0
import Derived.Test.YtljadejgdbemoaaDoorPkRx2
import Derived.Test.YtljadejgdbemoaaDoorPkRx3
import Derived.Test.YtljadejgdbemoaaDoorPkRx4
namespace Go.Proofs.YtljadejgdbemoaaDoor.R
open Go.RowKit Go.Proofs.YtljadejgdbemoaaDoorW.PrintWords Go.Proofs.YtljadejgdbemoaaDoorW.PrintLast Go.Proofs.YtljadejgdbemoaaDoorW.PrintMore Go.Proofs.YtljadejgdbemoaaDoorX
attribute [local go_sem] max2_int min2_int max_two min_two max_three min_three max_four min_four
set_option linter.unusedVariables false
set_option linter.unusedSimpArgs false

/-! ### order_Encode: function 39 -/
mutual
def order_Encode.l0 : Nat → List (S38) → List (S38) → Int → Int → Option (ByteArray × Option Int)
 | 0, _, _, _, _ => none
 | k + 1, x0, x11, x12, x13 => if x13 < x12 then (if 0 ≤ x13 then (if x13 < (x11.length : Int) then ((value_Valid.f k ((r8 x11 x13).f0) ((r8 x11 x13).f1) ((r8 x11 x13).f2) ((r8 x11 x13).f3)).bind fun t173 => (if t173.isNone = true then (order_Encode.l0 k x0 x11 x12 (wrap64 (x13 + 1))) else (some ((⟨#[]⟩ : ByteArray), some (t173.getD 0))))) else (none)) else (none)) else (if (x0.length : Int) > 16 then (some ((⟨#[]⟩ : ByteArray), some 2)) else (order_Encode.l1 k ([] : List Int) x0 (x0.length : Int) 0))
def order_Encode.l1 : Nat → List Int → List (S38) → Int → Int → Option (ByteArray × Option Int)
 | 0, _, _, _, _ => none
 | k + 1, x7, x27, x28, x29 => if x29 < x28 then (if 0 ≤ x29 then (if x29 < (x27.length : Int) then (if x7.length < 140737488355328 then ((some (x7 ++ [(((r8 x27 x29).f0) + 1) % 256] : List Int)).bind fun y177 => (if ((r8 x27 x29).f0) = 1 then ((order_word.f k y177 (Go.bits .xor .u64 (IntKind.u64.wrap ((r8 x27 x29).f1)) 9223372036854775808)).bind fun t180 => (order_Encode.l1 k t180 x27 x28 (wrap64 (x29 + 1)))) else (if ((r8 x27 x29).f0) = 2 then (if y177.length + ((r8 x27 x29).f2).size < 140737488355328 then ((some (y177 ++ bytesOf ((r8 x27 x29).f2) : List Int)).bind fun y183 => (if y183.length < 140737488355328 then (order_Encode.l1 k (y183 ++ [0]) x27 x28 (wrap64 (x29 + 1))) else (none))) else (none)) else (if ((r8 x27 x29).f0) = 3 then (if (r8 x27 x29).f3 = true then (if y177.length < 140737488355328 then (order_Encode.l1 k (y177 ++ [1]) x27 x28 (wrap64 (x29 + 1))) else (none)) else (if y177.length < 140737488355328 then (order_Encode.l1 k (y177 ++ [0]) x27 x28 (wrap64 (x29 + 1))) else (none))) else (order_Encode.l1 k y177 x27 x28 (wrap64 (x29 + 1))))))) else (none)) else (none)) else (none)) else (some (strOfNums x7, none))
end
def order_Encode.f (k : Nat) (l0 : List (S38)) : Option (ByteArray × Option Int) := order_Encode.l0 k l0 l0 (l0.length : Int) 0
theorem order_Encode.mono_l : ∀ k, (∀ y0 y1 y2 y3, LeO (order_Encode.l0 k y0 y1 y2 y3) (order_Encode.l0 (k + 1) y0 y1 y2 y3)) ∧ (∀ y0 y1 y2 y3, LeO (order_Encode.l1 k y0 y1 y2 y3) (order_Encode.l1 (k + 1) y0 y1 y2 y3))
 | 0 => ⟨fun _ _ _ _ r h => by simp [order_Encode.l0] at h, fun _ _ _ _ r h => by simp [order_Encode.l1] at h⟩
 | k + 1 => by
  obtain ⟨ih0, ih1⟩ := order_Encode.mono_l k
  refine ⟨?_, ?_⟩
  ·intro y0 y1 y2 y3
   unfold order_Encode.l0
   repeat' first
   | (with_reducible exact ih0 _ _ _ _)
   | (with_reducible exact ih1 _ _ _ _)
   | (with_reducible exact order_word.mono _ _ _)
   | (with_reducible exact value_Valid.mono _ _ _ _ _)
   | (with_reducible exact LeO.refl _)
   | (with_reducible exact LeO.none _)
   | (with_reducible refine LeO.ite ?_ ?_)
   | (with_reducible refine LeO.bind ?_ (fun _ => ?_))
   | exact ih0 _ _ _ _
   | exact ih1 _ _ _ _
   | exact order_word.mono _ _ _
   | exact value_Valid.mono _ _ _ _ _
   | exact LeO.none _
   | refine LeO.ite ?_ ?_
   | refine LeO.bind ?_ (fun _ => ?_)
  ·intro y0 y1 y2 y3
   unfold order_Encode.l1
   repeat' first
   | (with_reducible exact ih0 _ _ _ _)
   | (with_reducible exact ih1 _ _ _ _)
   | (with_reducible exact order_word.mono _ _ _)
   | (with_reducible exact value_Valid.mono _ _ _ _ _)
   | (with_reducible exact LeO.refl _)
   | (with_reducible exact LeO.none _)
   | (with_reducible refine LeO.ite ?_ ?_)
   | (with_reducible refine LeO.bind ?_ (fun _ => ?_))
   | exact ih0 _ _ _ _
   | exact ih1 _ _ _ _
   | exact order_word.mono _ _ _
   | exact value_Valid.mono _ _ _ _ _
   | exact LeO.none _
   | refine LeO.ite ?_ ?_
   | refine LeO.bind ?_ (fun _ => ?_)
theorem order_Encode.mono : ∀ a0 k, LeO (order_Encode.f k a0) (order_Encode.f (k + 1) a0) := by
 intro a0 k
 obtain ⟨ih0, ih1⟩ := order_Encode.mono_l k
 unfold order_Encode.f
 repeat' first
   | (with_reducible exact ih0 _ _ _ _)
   | (with_reducible exact ih1 _ _ _ _)
   | (with_reducible exact order_word.mono _ _ _)
   | (with_reducible exact value_Valid.mono _ _ _ _ _)
   | (with_reducible exact LeO.refl _)
   | (with_reducible exact LeO.none _)
   | (with_reducible refine LeO.ite ?_ ?_)
   | (with_reducible refine LeO.bind ?_ (fun _ => ?_))
   | exact ih0 _ _ _ _
   | exact ih1 _ _ _ _
   | exact order_word.mono _ _ _
   | exact value_Valid.mono _ _ _ _ _
   | exact LeO.none _
   | refine LeO.ite ?_ ?_
   | refine LeO.bind ?_ (fun _ => ?_)
set_option maxHeartbeats 8000000 in
set_option maxRecDepth 100000 in
theorem order_Encode.calls (k : Nat) (A0 : Option Addr) (c0 : Nat) (l0 : List (S38)) (r1 : ByteArray) (r2 : Option Int) (w : World) (hr0 : Kd.C k38 w A0 l0.length l0) (hc0 : l0.length ≤ c0) (h : order_Encode.f k l0 = some (r1, r2)) :
  Calls Tryd.prog 39 #[.slice A0 l0.length c0] w fun e w' => e = .returned (.tuple #[.string r1, errW r2]) ∧ Below w.heap.size w w' := by
 have hu38 := Tryd.underlying38
 have hu28 := Tryd.underlying28
 have hu72 := Tryd.underlying72
 have HR0 := Aside0.mk hr0
 have HC0 := Aside0.mk hc0
 clear hr0 hc0
 have HB := Aside0.mk (Below.refl w.heap.size w)
 have H : (order_Encode.l0 k l0 l0 (l0.length : Int) 0) = some (r1, r2) := h
 clear h
 have H' := Aside0.mk H
 clear H
 go_enter Tryd.func39, Tryd.ntmps39
 go_wp2
 go_loopg [13] k (fun kq v13 w' => ∃ (x13_1 : Int), v13 = .int .i64 x13_1 ∧ Aside0 (order_Encode.l0 kq l0 l0 (l0.length : Int) x13_1 = some (r1, r2)) ∧ Aside0 (kq ≤ k) ∧ Aside0 (Below w.heap.size w w'))
 case atStart => exact ⟨(0), (by first | rfl | (simp; done) | (simp [*]; done)), H', ⟨Nat.le_refl _⟩, ⟨by repeat (first | (with_reducible first | exact HB.out | apply below_alloc | apply qbN | apply qb1) | exact HB.out)⟩⟩
 case round =>
  clear H'
  obtain ⟨x13_1, rfl, HA, HK1, HB⟩ := hrel
  cases gk with
  | zero => exact absurd HA.out (by simp [order_Encode.l0])
  | succ k1 =>
   have H := HA.out
   clear HA
   simp only [order_Encode.l0] at H
   by_cases c2 : x13_1 < (l0.length : Int)
   ·rw [if_pos c2] at H
    have c2b0 : decide (x13_1 < (l0.length : Int)) = true := decide_eq_true c2
    clear c2
    by_cases c3 : 0 ≤ x13_1
    ·rw [if_pos c3] at H
     have c3b0 : decide (0 ≤ x13_1) = true := decide_eq_true c3
     clear c3
     by_cases c4 : x13_1 < (l0.length : Int)
     ·rw [if_pos c4] at H
      have c4b0 : decide (x13_1 < (l0.length : Int)) = true := decide_eq_true c4
      clear c4
      replace H := Option.bind_eq_some_iff.mp H
      obtain ⟨t173, A50, H⟩ := H
      replace H : (if t173.isNone = true then (order_Encode.l0 k1 l0 l0 (l0.length : Int) (wrap64 (x13_1 + 1))) else (some ((⟨#[]⟩ : ByteArray), some (t173.getD 0)))) = some (r1, r2) := H
      have A5 := Aside0.mk A50
      clear A50
      rcases t173 with _ | q174
      ·have H1 : (order_Encode.l0 k1 l0 l0 (l0.length : Int) (wrap64 (x13_1 + 1))) = some (r1, r2) := by rw [if_pos (show (none : Option Int).isNone = true by rfl)] at H; exact H
       clear H
       have H := H1
       clear H1
       try simp only [eWn, eWs]
       have H' := Aside0.mk H
       clear H
       have p171 : 0 ≤ (x13_1 : Int) := ode_
       have q171 : x13_1 < (l0.length : Int) := ode_
       obtain ⟨ad171, e171, hx171_0, hx171_1, hx171_2, hx171_3⟩ := at_T38 HR0.out x13_1 p171 q171
       cases e171
       replace hx171_0 := (HB.out.cell (World.block_lt_of_cell? w _ hx171_0)).trans hx171_0
       replace hx171_1 := (HB.out.cell (World.block_lt_of_cell? w _ hx171_1)).trans hx171_1
       replace hx171_2 := (HB.out.cell (World.block_lt_of_cell? w _ hx171_2)).trans hx171_2
       replace hx171_3 := (HB.out.cell (World.block_lt_of_cell? w _ hx171_3)).trans hx171_3
       replace p171 := eq_true p171
       replace q171 := eq_true q171
       go_wp2_with (first | ((with_reducible refine qgd (N := 5) rfl ?_); refine qbe ?hg (N := 5) ?hd (cs := #[.int .i64 0, .int .i64 0, .string (⟨#[]⟩ : ByteArray), .bool false]) (t := 38) ?hr ?_; (case hd => rfl); (case hg => rfl); (case hr => first | (go_simp; done) | (go_simp; rfl)); intro gb172 hg w6 hbox hb; have n0_ := Aside0.mk (below_step (by repeat (first | (with_reducible first | exact HB.out | apply below_alloc | apply qbN | apply qb1) | exact HB.out)) hb); have n1_ := Aside0.mk (hbox); have n2_ := Aside0.mk ((by rw [hg]; exact (qbz (by repeat (first | (with_reducible first | exact HB.out | apply below_alloc | apply qbN | apply qb1) | exact HB.out))) : w.heap.size ≤ gb172)); have n3_ := Aside0.mk ((by rw [hg]; exact (qbz (by repeat (first | (with_reducible first | exact HB.out | apply below_alloc | apply qbN | apply qb1) | exact HB.out))) : w.heap.size ≤ gb172)); clear HB; have HB := n0_; have BK172 := n1_; have GW172 := n2_; have GE172 := n3_; clear n0_ n1_ n2_ n3_; clear hb hbox hg; have hcz7_0 : w6.cell? ⟨gb172, 0, none⟩ = some (.int .i64 0) := (qkc BK172.out 0).trans rfl; have hcz7_1 : w6.cell? ⟨gb172, 1, none⟩ = some (.int .i64 0) := (qkc BK172.out 1).trans rfl; have hcz7_2 : w6.cell? ⟨gb172, 2, none⟩ = some (.string (⟨#[]⟩ : ByteArray)) := (qkc BK172.out 2).trans rfl; have hcz7_3 : w6.cell? ⟨gb172, 3, none⟩ = some (.bool false) := (qkc BK172.out 3).trans rfl; have hfz7_0 := qkf BK172.out 0; have hfz7_1 := qkf BK172.out 1; have hfz7_2 := qkf BK172.out 2; have hfz7_3 := qkf BK172.out 3) | ((with_reducible refine qgc (f := 21) rfl ?_); refine goesL_ (some 18) rfl rfl Tryd.func21 (by kernel_rfl) rfl #[.agg #[.int .i64 ((r8 l0 x13_1).f0), .int .i64 ((r8 l0 x13_1).f1), .string ((r8 l0 x13_1).f2), .bool ((r8 l0 x13_1).f3)]] rfl (by (try simp only [List.map_toArray, List.map_cons, List.map_nil]); first | done | rfl | (simp only [List.length_drop, List.length_take]; rfl)) ?_; (with_reducible refine (value_Valid.calls k1 ((r8 l0 x13_1).f0) ((r8 l0 x13_1).f1) ((r8 l0 x13_1).f2) ((r8 l0 x13_1).f3) none _ A5.out).mono ?_); rintro e w8 ⟨rfl, hb⟩; refine ⟨_, rfl, ?_⟩; have n0_ := Aside0.mk (qkb (g := gb172) (o := .cells #[.int .i64 ((r8 l0 x13_1).f0), .int .i64 ((r8 l0 x13_1).f1), .string ((r8 l0 x13_1).f2), .bool ((r8 l0 x13_1).f3)] 38 (0, 0)) (by (with_reducible repeat (first | refine qkN ?_ _ | refine qkd ?_ | refine qka ?_ _)); refine qkp (cs := #[.int .i64 ((r8 l0 x13_1).f0), .int .i64 ((r8 l0 x13_1).f1), .string ((r8 l0 x13_1).f2), .bool false]) ?_ 3 _ rfl; (with_reducible repeat (first | refine qkN ?_ _ | refine qkd ?_ | refine qka ?_ _)); refine qkp (cs := #[.int .i64 ((r8 l0 x13_1).f0), .int .i64 ((r8 l0 x13_1).f1), .string (⟨#[]⟩ : ByteArray), .bool false]) ?_ 2 _ rfl; (with_reducible repeat (first | refine qkN ?_ _ | refine qkd ?_ | refine qka ?_ _)); refine qkp (cs := #[.int .i64 ((r8 l0 x13_1).f0), .int .i64 0, .string (⟨#[]⟩ : ByteArray), .bool false]) ?_ 1 _ rfl; (with_reducible repeat (first | refine qkN ?_ _ | refine qkd ?_ | refine qka ?_ _)); refine qkp (cs := #[.int .i64 0, .int .i64 0, .string (⟨#[]⟩ : ByteArray), .bool false]) ?_ 0 _ rfl; (with_reducible repeat (first | refine qkN ?_ _ | refine qkd ?_ | refine qka ?_ _)); exact BK172.out) hb); have n1_ := Aside0.mk (below_step (by repeat (first | (with_reducible first | exact HB.out | apply below_alloc | apply qbN | apply qb1 | refine qbs ?_ GE172.out) | exact HB.out)) hb); clear BK172; clear HB; have BK172 := n0_; have HB := n1_; clear n0_ n1_; (try clear hb); (try clear hb2); (try clear hk); (try clear hi); (try simp only [eWn, eWs])))
       go_roundg k1
       case measure => have := HK1.out; omega
       case rel => exact ⟨(wrap64 (x13_1 + 1)), (by first | rfl | (simp; done) | (simp [*]; done)), H', ⟨by have := HK1.out; omega⟩, ⟨by repeat (first | (with_reducible first | exact HB.out | apply below_alloc | apply qbN | apply qb1 | refine qbs ?_ GE172.out) | exact HB.out)⟩⟩
      ·have H1 : (some ((⟨#[]⟩ : ByteArray), some q174)) = some (r1, r2) := by rw [if_neg (show ¬ (some q174).isNone = true by simp)] at H; exact H
       clear H
       have H := H1
       clear H1
       try simp only [eWn, eWs]
       simp only [Option.some.injEq, Prod.mk.injEq] at H
       obtain ⟨rfl, rfl⟩ := H
       have p171 : 0 ≤ (x13_1 : Int) := ode_
       have q171 : x13_1 < (l0.length : Int) := ode_
       obtain ⟨ad171, e171, hx171_0, hx171_1, hx171_2, hx171_3⟩ := at_T38 HR0.out x13_1 p171 q171
       cases e171
       replace hx171_0 := (HB.out.cell (World.block_lt_of_cell? w _ hx171_0)).trans hx171_0
       replace hx171_1 := (HB.out.cell (World.block_lt_of_cell? w _ hx171_1)).trans hx171_1
       replace hx171_2 := (HB.out.cell (World.block_lt_of_cell? w _ hx171_2)).trans hx171_2
       replace hx171_3 := (HB.out.cell (World.block_lt_of_cell? w _ hx171_3)).trans hx171_3
       replace p171 := eq_true p171
       replace q171 := eq_true q171
       go_wp2_with (first | ((with_reducible refine qgd (N := 5) rfl ?_); refine qbe ?hg (N := 5) ?hd (cs := #[.int .i64 0, .int .i64 0, .string (⟨#[]⟩ : ByteArray), .bool false]) (t := 38) ?hr ?_; (case hd => rfl); (case hg => rfl); (case hr => first | (go_simp; done) | (go_simp; rfl)); intro gb172 hg w9 hbox hb; have n0_ := Aside0.mk (below_step (by repeat (first | (with_reducible first | exact HB.out | apply below_alloc | apply qbN | apply qb1) | exact HB.out)) hb); have n1_ := Aside0.mk (hbox); have n2_ := Aside0.mk ((by rw [hg]; exact (qbz (by repeat (first | (with_reducible first | exact HB.out | apply below_alloc | apply qbN | apply qb1) | exact HB.out))) : w.heap.size ≤ gb172)); have n3_ := Aside0.mk ((by rw [hg]; exact (qbz (by repeat (first | (with_reducible first | exact HB.out | apply below_alloc | apply qbN | apply qb1) | exact HB.out))) : w.heap.size ≤ gb172)); clear HB; have HB := n0_; have BK172 := n1_; have GW172 := n2_; have GE172 := n3_; clear n0_ n1_ n2_ n3_; clear hb hbox hg; have hcz10_0 : w9.cell? ⟨gb172, 0, none⟩ = some (.int .i64 0) := (qkc BK172.out 0).trans rfl; have hcz10_1 : w9.cell? ⟨gb172, 1, none⟩ = some (.int .i64 0) := (qkc BK172.out 1).trans rfl; have hcz10_2 : w9.cell? ⟨gb172, 2, none⟩ = some (.string (⟨#[]⟩ : ByteArray)) := (qkc BK172.out 2).trans rfl; have hcz10_3 : w9.cell? ⟨gb172, 3, none⟩ = some (.bool false) := (qkc BK172.out 3).trans rfl; have hfz10_0 := qkf BK172.out 0; have hfz10_1 := qkf BK172.out 1; have hfz10_2 := qkf BK172.out 2; have hfz10_3 := qkf BK172.out 3) | ((with_reducible refine qgc (f := 21) rfl ?_); refine goesL_ (some 18) rfl rfl Tryd.func21 (by kernel_rfl) rfl #[.agg #[.int .i64 ((r8 l0 x13_1).f0), .int .i64 ((r8 l0 x13_1).f1), .string ((r8 l0 x13_1).f2), .bool ((r8 l0 x13_1).f3)]] rfl (by (try simp only [List.map_toArray, List.map_cons, List.map_nil]); first | done | rfl | (simp only [List.length_drop, List.length_take]; rfl)) ?_; (with_reducible refine (value_Valid.calls k1 ((r8 l0 x13_1).f0) ((r8 l0 x13_1).f1) ((r8 l0 x13_1).f2) ((r8 l0 x13_1).f3) (some q174) _ A5.out).mono ?_); rintro e w11 ⟨rfl, hb⟩; refine ⟨_, rfl, ?_⟩; have n0_ := Aside0.mk (qkb (g := gb172) (o := .cells #[.int .i64 ((r8 l0 x13_1).f0), .int .i64 ((r8 l0 x13_1).f1), .string ((r8 l0 x13_1).f2), .bool ((r8 l0 x13_1).f3)] 38 (0, 0)) (by (with_reducible repeat (first | refine qkN ?_ _ | refine qkd ?_ | refine qka ?_ _)); refine qkp (cs := #[.int .i64 ((r8 l0 x13_1).f0), .int .i64 ((r8 l0 x13_1).f1), .string ((r8 l0 x13_1).f2), .bool false]) ?_ 3 _ rfl; (with_reducible repeat (first | refine qkN ?_ _ | refine qkd ?_ | refine qka ?_ _)); refine qkp (cs := #[.int .i64 ((r8 l0 x13_1).f0), .int .i64 ((r8 l0 x13_1).f1), .string (⟨#[]⟩ : ByteArray), .bool false]) ?_ 2 _ rfl; (with_reducible repeat (first | refine qkN ?_ _ | refine qkd ?_ | refine qka ?_ _)); refine qkp (cs := #[.int .i64 ((r8 l0 x13_1).f0), .int .i64 0, .string (⟨#[]⟩ : ByteArray), .bool false]) ?_ 1 _ rfl; (with_reducible repeat (first | refine qkN ?_ _ | refine qkd ?_ | refine qka ?_ _)); refine qkp (cs := #[.int .i64 0, .int .i64 0, .string (⟨#[]⟩ : ByteArray), .bool false]) ?_ 0 _ rfl; (with_reducible repeat (first | refine qkN ?_ _ | refine qkd ?_ | refine qka ?_ _)); exact BK172.out) hb); have n1_ := Aside0.mk (below_step (by repeat (first | (with_reducible first | exact HB.out | apply below_alloc | apply qbN | apply qb1 | refine qbs ?_ GE172.out) | exact HB.out)) hb); clear BK172; clear HB; have BK172 := n0_; have HB := n1_; clear n0_ n1_; (try clear hb); (try clear hb2); (try clear hk); (try clear hi); (try simp only [eWn, eWs])))
       go_ret2
       exact ⟨by first | rfl | (simp [eWn, eWs] <;> rfl) | (simp [*, eWn, eWs] <;> rfl), by repeat (first | (with_reducible first | exact HB.out | apply below_alloc | apply qbN | apply qb1 | refine qbs ?_ GE172.out) | exact HB.out)⟩
     ·rw [if_neg c4] at H
      exact absurd H (by simp)
    ·rw [if_neg c3] at H
     exact absurd H (by simp)
   ·rw [if_neg c2] at H
    have c2b0 : decide (x13_1 < (l0.length : Int)) = false := decide_eq_false c2
    clear c2
    by_cases c12 : (l0.length : Int) > 16
    ·rw [if_pos c12] at H
     have c12b0 : decide (16 < (l0.length : Int)) = true := decide_eq_true c12
     have c12b1 : decide (16 < l0.length) = true := decide_eq_true (by omega)
     clear c12
     simp only [Option.some.injEq, Prod.mk.injEq] at H
     obtain ⟨rfl, rfl⟩ := H
     go_wp2
     go_ret2
     exact ⟨by first | rfl | (simp [eWn, eWs] <;> rfl) | (simp [*, eWn, eWs] <;> rfl), by repeat (first | (with_reducible first | exact HB.out | apply below_alloc | apply qbN | apply qb1) | exact HB.out)⟩
    ·rw [if_neg c12] at H
     have c12b0 : decide (16 < (l0.length : Int)) = false := decide_eq_false c12
     have c12b1 : decide (16 < l0.length) = false := decide_eq_false (by omega)
     clear c12
     have H' := Aside0.mk H
     clear H
     go_wp2
     go_loopg [7, 29] k1 (fun kq v7 v29 w' => ∃ (x7_2 : List Int) (x29_2 : Int), v29 = .int .i64 x29_2 ∧ Aside0 (order_Encode.l1 kq x7_2 l0 (l0.length : Int) x29_2 = some (r1, r2)) ∧ Aside0 (kq ≤ k1) ∧ Aside0 (Kd.R (Kd.int .u8) 5 w' w.heap.size (fun _ => True) v7 x7_2) ∧ Aside0 (Below w.heap.size w w'))
     case atStart => exact ⟨(([] : List Int)), (0), (by first | rfl | (simp; done) | (simp [*]; done)), H', ⟨Nat.le_refl _⟩, ⟨by first | exact Kd.R_nil _ _ _ _ _ | exact Kd.N_nil _ _ _ _ _ | exact Kd.V_nil _ _ _ _ _ | exact Kd.Q_nil _ _ _ _ _ | exact Kd.S_nil _ _ _ _ _⟩, ⟨by repeat (first | (with_reducible first | exact HB.out | apply below_alloc | apply qbN | apply qb1) | exact HB.out)⟩⟩
     case round =>
      clear H'
      try clear c1
      try clear p1
      try clear q1
      try clear hx1
      try clear c2
      try clear c2b0
      try clear p2
      try clear c3
      try clear c3b0
      try clear c4
      try clear c4b0
      try clear p6
      try clear c12
      try clear c12b0
      try clear c12b1
      try clear hcz10_0
      try clear hcz10_1
      try clear hcz10_2
      try clear hcz10_3
      try clear hcz7_0
      try clear hcz7_1
      try clear hcz7_2
      try clear hcz7_3
      try clear hfz10_0
      try clear hfz10_1
      try clear hfz10_2
      try clear hfz10_3
      try clear hfz7_0
      try clear hfz7_1
      try clear hfz7_2
      try clear hfz7_3
      try clear hx171_0
      try clear hx171_1
      try clear hx171_2
      try clear hx171_3
      try clear p171
      try clear q171
      try clear q174
      obtain ⟨x7_2, x29_2, rfl, HA, HK2, HO_7, HB⟩ := hrel
      cases gk with
      | zero => exact absurd HA.out (by simp [order_Encode.l1])
      | succ k2 =>
       have H := HA.out
       clear HA
       simp only [order_Encode.l1] at H
       by_cases c13 : x29_2 < (l0.length : Int)
       ·rw [if_pos c13] at H
        have c13b0 : decide (x29_2 < (l0.length : Int)) = true := decide_eq_true c13
        clear c13
        by_cases c14 : 0 ≤ x29_2
        ·rw [if_pos c14] at H
         have c14b0 : decide (0 ≤ x29_2) = true := decide_eq_true c14
         clear c14
         by_cases c15 : x29_2 < (l0.length : Int)
         ·rw [if_pos c15] at H
          have c15b0 : decide (x29_2 < (l0.length : Int)) = true := decide_eq_true c15
          clear c15
          by_cases c16 : x7_2.length < 140737488355328
          ·rw [if_pos c16] at H
           have LMc16 := Aside0.mk c16
           clear c16
           obtain ⟨y177, hy177⟩ : ∃ y_ : List Int, y_ = (x7_2 ++ [(((r8 l0 x29_2).f0) + 1) % 256]) := ⟨_, rfl⟩
           replace H : (if ((r8 l0 x29_2).f0) = 1 then ((order_word.f k2 y177 (Go.bits .xor .u64 (IntKind.u64.wrap ((r8 l0 x29_2).f1)) 9223372036854775808)).bind fun t180 => (order_Encode.l1 k2 t180 l0 (l0.length : Int) (wrap64 (x29_2 + 1)))) else (if ((r8 l0 x29_2).f0) = 2 then (if y177.length + ((r8 l0 x29_2).f2).size < 140737488355328 then ((some (y177 ++ bytesOf ((r8 l0 x29_2).f2) : List Int)).bind fun y183 => (if y183.length < 140737488355328 then (order_Encode.l1 k2 (y183 ++ [0]) l0 (l0.length : Int) (wrap64 (x29_2 + 1))) else (none))) else (none)) else (if ((r8 l0 x29_2).f0) = 3 then (if (r8 l0 x29_2).f3 = true then (if y177.length < 140737488355328 then (order_Encode.l1 k2 (y177 ++ [1]) l0 (l0.length : Int) (wrap64 (x29_2 + 1))) else (none)) else (if y177.length < 140737488355328 then (order_Encode.l1 k2 (y177 ++ [0]) l0 (l0.length : Int) (wrap64 (x29_2 + 1))) else (none))) else (order_Encode.l1 k2 y177 l0 (l0.length : Int) (wrap64 (x29_2 + 1)))))) = some (r1, r2) := by first | (rw [hy177]; with_reducible exact H) | (have H2_ := (Option.bind_some _ _).symm.trans H; rw [hy177]; with_reducible exact H2_) | (have H2_ := (Option.bind_some _ _).symm.trans H; with_reducible exact H2_) | with_reducible exact H | (rw [hy177]; exact H) | exact H
           have Ny177 := Aside0.mk hy177
           clear hy177
           by_cases c17 : ((r8 l0 x29_2).f0) = 1
           ·rw [if_pos c17] at H
            have c17b0 : (((r8 l0 x29_2).f0) == 1) = true := beq_iff_eq.mpr c17
            have c17b1 : (((r8 l0 x29_2).f0) != 1) = false := bne_eq_false_iff_eq.mpr c17
            clear c17
            replace H := Option.bind_eq_some_iff.mp H
            obtain ⟨t180, A180, H⟩ := H
            replace H : (order_Encode.l1 k2 t180 l0 (l0.length : Int) (wrap64 (x29_2 + 1))) = some (r1, r2) := H
            have A18 := Aside0.mk A180
            clear A180
            have H' := Aside0.mk H
            clear H
            have p175 : 0 ≤ (x29_2 : Int) := ode_
            have q175 : x29_2 < (l0.length : Int) := ode_
            obtain ⟨ad175, e175, hx175_0, hx175_1, hx175_2, hx175_3⟩ := at_T38 HR0.out x29_2 p175 q175
            cases e175
            replace hx175_0 := (HB.out.cell (World.block_lt_of_cell? w _ hx175_0)).trans hx175_0
            replace hx175_1 := (HB.out.cell (World.block_lt_of_cell? w _ hx175_1)).trans hx175_1
            replace hx175_2 := (HB.out.cell (World.block_lt_of_cell? w _ hx175_2)).trans hx175_2
            replace hx175_3 := (HB.out.cell (World.block_lt_of_cell? w _ hx175_3)).trans hx175_3
            replace p175 := eq_true p175
            replace q175 := eq_true q175
            go_wp2_with (first | ((with_reducible refine qgd (N := 9) rfl ?_); refine qbe ?hg (N := 9) ?hd (cs := #[.int .i64 0, .int .i64 0, .string (⟨#[]⟩ : ByteArray), .bool false]) (t := 38) ?hr ?_; (case hd => rfl); (case hg => rfl); (case hr => first | (go_simp; done) | (go_simp; rfl)); intro gb176 hg w19 hbox hb; have n0_ := Aside0.mk (Kd.R_below (by (with_reducible repeat (first | apply Kd.R_alloc | apply Kd.R_drewN | apply Kd.R_drew)); exact HO_7.out) hb); have n1_ := Aside0.mk (below_step (by repeat (first | (with_reducible first | exact HB.out | apply below_alloc | apply qbN | apply qb1) | exact HB.out)) hb); have n2_ := Aside0.mk (hbox); have n3_ := Aside0.mk ((by rw [hg]; exact (qbz (by repeat (first | (with_reducible first | exact HB.out | apply below_alloc | apply qbN | apply qb1) | exact HB.out))) : w.heap.size ≤ gb176)); have n4_ := Aside0.mk ((by rw [hg]; exact (qbz (by repeat (first | (with_reducible first | exact HB.out | apply below_alloc | apply qbN | apply qb1) | exact HB.out))) : w.heap.size ≤ gb176)); clear HO_7; clear HB; have HO_7 := n0_; have HB := n1_; have BK176 := n2_; have GW176 := n3_; have GE176 := n4_; clear n0_ n1_ n2_ n3_ n4_; clear hb hbox hg; have hcz20_0 : w19.cell? ⟨gb176, 0, none⟩ = some (.int .i64 0) := (qkc BK176.out 0).trans rfl; have hcz20_1 : w19.cell? ⟨gb176, 1, none⟩ = some (.int .i64 0) := (qkc BK176.out 1).trans rfl; have hcz20_2 : w19.cell? ⟨gb176, 2, none⟩ = some (.string (⟨#[]⟩ : ByteArray)) := (qkc BK176.out 2).trans rfl; have hcz20_3 : w19.cell? ⟨gb176, 3, none⟩ = some (.bool false) := (qkc BK176.out 3).trans rfl; have hfz20_0 := qkf BK176.out 0; have hfz20_1 := qkf BK176.out 1; have hfz20_2 := qkf BK176.out 2; have hfz20_3 := qkf BK176.out 3) | ((with_reducible refine gate_builtin (b := .append) (xs := #[.tmp 33, .tmp 38]) rfl ?_); at_builtin; refine Kd.R_append (Kd.int .u8) (w0 := w) w.heap.size rfl (.tmp 33) (.tmp 38) 26 5 (.int .u8 0) 1 rfl Tryd.underlying26 info5 rfl (by decide) (by omega) u7 x7_2 ((((r8 l0 x29_2).f0) + 1) % 256) [.int .u8 ((((r8 l0 x29_2).f0) + 1) % 256)] (fun _ => True) (fun _ => False) rfl (by first | (go_simp; done) | (go_simp; rfl)) ?aP (fun _ hk => hk.elim) ?aF ?aO ?aB ?aS ?aL ?_; (case aP => exact rfl); (case aB => exact (by repeat (first | (with_reducible first | exact HB.out | apply below_alloc | apply qbN | apply qb1 | refine qbs ?_ GE176.out) | exact HB.out))); (case aF => exact (fun _ _ => trivial)); (case aO => exact (by (with_reducible repeat (first | apply Kd.R_alloc | apply Kd.R_drewN | apply Kd.R_drew)); exact Kd.R_mono (Kd.R_far (p := ⟨gb176, 3, none⟩) (Kd.R_far (p := ⟨gb176, 2, none⟩) (Kd.R_far (p := ⟨gb176, 1, none⟩) (Kd.R_far (p := ⟨gb176, 0, none⟩) (Kd.R_types HO_7.out BK176.out (by decide)) (fun _ hk => hk.2) (.int .i64 ((r8 l0 x29_2).f0))) (fun _ hk => hk.2) (.int .i64 ((r8 l0 x29_2).f1))) (fun _ hk => hk.2) (.string ((r8 l0 x29_2).f2))) (fun _ hk => hk.2) (.bool ((r8 l0 x29_2).f3))) (fun _ hk => trivial))); (case aS => exact (qbz (by repeat (first | (with_reducible first | exact HB.out | apply below_alloc | apply qbN | apply qb1 | refine qbs ?_ GE176.out) | exact HB.out)))); (case aL => have := LMc16.out; omega); intro v178 w21 ho hb hg hat; rw [← Ny177.out] at ho; have n0_ := Aside0.mk (blk_grown (g := gb176) (o := .cells #[.int .i64 ((r8 l0 x29_2).f0), .int .i64 ((r8 l0 x29_2).f1), .string ((r8 l0 x29_2).f2), .bool ((r8 l0 x29_2).f3)] 38 (0, 0)) (by (with_reducible repeat (first | refine qkN ?_ _ | refine qkd ?_ | refine qka ?_ _)); refine qkp (cs := #[.int .i64 ((r8 l0 x29_2).f0), .int .i64 ((r8 l0 x29_2).f1), .string ((r8 l0 x29_2).f2), .bool false]) ?_ 3 _ rfl; (with_reducible repeat (first | refine qkN ?_ _ | refine qkd ?_ | refine qka ?_ _)); refine qkp (cs := #[.int .i64 ((r8 l0 x29_2).f0), .int .i64 ((r8 l0 x29_2).f1), .string (⟨#[]⟩ : ByteArray), .bool false]) ?_ 2 _ rfl; (with_reducible repeat (first | refine qkN ?_ _ | refine qkd ?_ | refine qka ?_ _)); refine qkp (cs := #[.int .i64 ((r8 l0 x29_2).f0), .int .i64 0, .string (⟨#[]⟩ : ByteArray), .bool false]) ?_ 1 _ rfl; (with_reducible repeat (first | refine qkN ?_ _ | refine qkd ?_ | refine qka ?_ _)); refine qkp (cs := #[.int .i64 0, .int .i64 0, .string (⟨#[]⟩ : ByteArray), .bool false]) ?_ 0 _ rfl; (with_reducible repeat (first | refine qkN ?_ _ | refine qkd ?_ | refine qka ?_ _)); exact BK176.out) hg (Kd.R_ne HO_7.out BK176.out (by decide))); have n1_ := Aside0.mk (hb); have n2_ := Aside0.mk (ho); clear BK176; clear HB; clear HO_7; have BK176 := n0_; have HB := n1_; have HO179 := n2_; clear n0_ n1_ n2_; clear ho hb hg hat; have hcz22_0 : w21.cell? ⟨gb176, 0, none⟩ = some (.int .i64 ((r8 l0 x29_2).f0)) := (qkc BK176.out 0).trans rfl; have hcz22_1 : w21.cell? ⟨gb176, 1, none⟩ = some (.int .i64 ((r8 l0 x29_2).f1)) := (qkc BK176.out 1).trans rfl; have hcz22_2 : w21.cell? ⟨gb176, 2, none⟩ = some (.string ((r8 l0 x29_2).f2)) := (qkc BK176.out 2).trans rfl; have hcz22_3 : w21.cell? ⟨gb176, 3, none⟩ = some (.bool ((r8 l0 x29_2).f3)) := (qkc BK176.out 3).trans rfl; have hfz22_0 := qkf BK176.out 0; have hfz22_1 := qkf BK176.out 1; have hfz22_2 := qkf BK176.out 2; have hfz22_3 := qkf BK176.out 3; obtain ⟨Ao23, co23, eo23⟩ := Kd.R_slice HO179.out; subst eo23) | ((with_reducible refine qgc (f := 70) rfl ?_); refine goesL_ (some 49) rfl rfl Tryd.func70 (by kernel_rfl) rfl #[.slice Ao23 y177.length co23, .int .u64 (Go.bits .xor .u64 (IntKind.u64.wrap ((r8 l0 x29_2).f1)) 9223372036854775808)] rfl (by (try simp only [List.map_toArray, List.map_cons, List.map_nil]); first | done | rfl | (simp only [List.length_drop, List.length_take]; rfl)) ?_; (with_reducible refine (order_word.calls k2 (fun k_ => some k_ = (.slice Ao23 y177.length co23 : Value).ownBlock) (.slice Ao23 y177.length co23) y177 (Go.bits .xor .u64 (IntKind.u64.wrap ((r8 l0 x29_2).f1)) 9223372036854775808) t180 w _ ?side1 ?side2 A18.out).mono ?_); (case side1 => repeat (first | (with_reducible first | exact HB.out | apply below_alloc | apply qbN | apply qb1 | refine qbs ?_ GE176.out) | exact HB.out)); (case side2 => exact Kd.R_tight rfl HO179.out); rintro e w24 ⟨v181, rfl, ho0, hb, hkp⟩; refine ⟨_, rfl, ?_⟩; have n0_ := Aside0.mk (blk_kept (by (with_reducible repeat (first | refine qkN ?_ _ | refine qkd ?_ | refine qka ?_ _)); exact BK176.out) hkp (fun hs_ => (fun e_ => (Kd.R_ne HO179.out BK176.out (by decide)) e_) hs_)); have n1_ := Aside0.mk (Kd.R_mono (ok' := fun k_ => True) ho0 (fun k_ hk_ => trivial)); have n2_ := Aside0.mk (hb); clear BK176; clear HB; clear HO179; have BK176 := n0_; have HO182 := n1_; have HB := n2_; clear n0_ n1_ n2_; (try clear hb); (try clear hkp); (try clear ho0)))
            go_roundg k2
            case measure => have := HK1.out; have := HK2.out; omega
            case rel => exact ⟨(t180), (wrap64 (x29_2 + 1)), (by first | rfl | (simp; done) | (simp [*]; done)), H', ⟨by have := HK1.out; have := HK2.out; omega⟩, ⟨by (with_reducible repeat (first | apply Kd.R_alloc | apply Kd.R_drewN | apply Kd.R_drew)); exact HO182.out⟩, ⟨by repeat (first | (with_reducible first | exact HB.out | apply below_alloc | apply qbN | apply qb1 | refine qbs ?_ GE176.out) | exact HB.out)⟩⟩
           ·rw [if_neg c17] at H
            have c17b0 : (((r8 l0 x29_2).f0) == 1) = false := beq_eq_false_iff_ne.mpr c17
            have c17b1 : (((r8 l0 x29_2).f0) != 1) = true := bne_iff_ne.mpr c17
            by_cases c25 : ((r8 l0 x29_2).f0) = 2
            ·rw [if_pos c25] at H
             have c25b0 : (((r8 l0 x29_2).f0) == 2) = true := beq_iff_eq.mpr c25
             have c25b1 : (((r8 l0 x29_2).f0) != 2) = false := bne_eq_false_iff_eq.mpr c25
             clear c25
             by_cases c26 : y177.length + ((r8 l0 x29_2).f2).size < 140737488355328
             ·rw [if_pos c26] at H
              have LMc26 := Aside0.mk c26
              clear c26
              obtain ⟨y183, hy183⟩ : ∃ y_ : List Int, y_ = (y177 ++ bytesOf ((r8 l0 x29_2).f2)) := ⟨_, rfl⟩
              replace H : (if y183.length < 140737488355328 then (order_Encode.l1 k2 (y183 ++ [0]) l0 (l0.length : Int) (wrap64 (x29_2 + 1))) else (none)) = some (r1, r2) := by first | (rw [hy183]; with_reducible exact H) | (have H2_ := (Option.bind_some _ _).symm.trans H; rw [hy183]; with_reducible exact H2_) | (have H2_ := (Option.bind_some _ _).symm.trans H; with_reducible exact H2_) | with_reducible exact H | (rw [hy183]; exact H) | exact H
              have Ny183 := Aside0.mk hy183
              clear hy183
              by_cases c27 : y183.length < 140737488355328
              ·rw [if_pos c27] at H
               have LMc27 := Aside0.mk c27
               clear c27
               obtain ⟨y186, hy186⟩ : ∃ y_ : List Int, y_ = (y183 ++ [0]) := ⟨_, rfl⟩
               replace H : (order_Encode.l1 k2 y186 l0 (l0.length : Int) (wrap64 (x29_2 + 1))) = some (r1, r2) := by first | (rw [hy186]; with_reducible exact H) | (have H2_ := (Option.bind_some _ _).symm.trans H; rw [hy186]; with_reducible exact H2_) | (have H2_ := (Option.bind_some _ _).symm.trans H; with_reducible exact H2_) | with_reducible exact H | (rw [hy186]; exact H) | exact H
               have Ny186 := Aside0.mk hy186
               clear hy186
               have H' := Aside0.mk H
               clear H
               have p175 : 0 ≤ (x29_2 : Int) := ode_
               have q175 : x29_2 < (l0.length : Int) := ode_
               obtain ⟨ad175, e175, hx175_0, hx175_1, hx175_2, hx175_3⟩ := at_T38 HR0.out x29_2 p175 q175
               cases e175
               replace hx175_0 := (HB.out.cell (World.block_lt_of_cell? w _ hx175_0)).trans hx175_0
               replace hx175_1 := (HB.out.cell (World.block_lt_of_cell? w _ hx175_1)).trans hx175_1
               replace hx175_2 := (HB.out.cell (World.block_lt_of_cell? w _ hx175_2)).trans hx175_2
               replace hx175_3 := (HB.out.cell (World.block_lt_of_cell? w _ hx175_3)).trans hx175_3
               replace p175 := eq_true p175
               replace q175 := eq_true q175
               go_wp2_with (first | ((with_reducible refine qgd (N := 9) rfl ?_); refine qbe ?hg (N := 9) ?hd (cs := #[.int .i64 0, .int .i64 0, .string (⟨#[]⟩ : ByteArray), .bool false]) (t := 38) ?hr ?_; (case hd => rfl); (case hg => rfl); (case hr => first | (go_simp; done) | (go_simp; rfl)); intro gb176 hg w28 hbox hb; have n0_ := Aside0.mk (Kd.R_below (by (with_reducible repeat (first | apply Kd.R_alloc | apply Kd.R_drewN | apply Kd.R_drew)); exact HO_7.out) hb); have n1_ := Aside0.mk (below_step (by repeat (first | (with_reducible first | exact HB.out | apply below_alloc | apply qbN | apply qb1) | exact HB.out)) hb); have n2_ := Aside0.mk (hbox); have n3_ := Aside0.mk ((by rw [hg]; exact (qbz (by repeat (first | (with_reducible first | exact HB.out | apply below_alloc | apply qbN | apply qb1) | exact HB.out))) : w.heap.size ≤ gb176)); have n4_ := Aside0.mk ((by rw [hg]; exact (qbz (by repeat (first | (with_reducible first | exact HB.out | apply below_alloc | apply qbN | apply qb1) | exact HB.out))) : w.heap.size ≤ gb176)); clear HO_7; clear HB; have HO_7 := n0_; have HB := n1_; have BK176 := n2_; have GW176 := n3_; have GE176 := n4_; clear n0_ n1_ n2_ n3_ n4_; clear hb hbox hg; have hcz29_0 : w28.cell? ⟨gb176, 0, none⟩ = some (.int .i64 0) := (qkc BK176.out 0).trans rfl; have hcz29_1 : w28.cell? ⟨gb176, 1, none⟩ = some (.int .i64 0) := (qkc BK176.out 1).trans rfl; have hcz29_2 : w28.cell? ⟨gb176, 2, none⟩ = some (.string (⟨#[]⟩ : ByteArray)) := (qkc BK176.out 2).trans rfl; have hcz29_3 : w28.cell? ⟨gb176, 3, none⟩ = some (.bool false) := (qkc BK176.out 3).trans rfl; have hfz29_0 := qkf BK176.out 0; have hfz29_1 := qkf BK176.out 1; have hfz29_2 := qkf BK176.out 2; have hfz29_3 := qkf BK176.out 3) | ((with_reducible refine gate_builtin (b := .append) (xs := #[.tmp 33, .tmp 38]) rfl ?_); at_builtin; refine Kd.R_append (Kd.int .u8) (w0 := w) w.heap.size rfl (.tmp 33) (.tmp 38) 26 5 (.int .u8 0) 1 rfl Tryd.underlying26 info5 rfl (by decide) (by omega) u7 x7_2 ((((r8 l0 x29_2).f0) + 1) % 256) [.int .u8 ((((r8 l0 x29_2).f0) + 1) % 256)] (fun _ => True) (fun _ => False) rfl (by first | (go_simp; done) | (go_simp; rfl)) ?aP (fun _ hk => hk.elim) ?aF ?aO ?aB ?aS ?aL ?_; (case aP => exact rfl); (case aB => exact (by repeat (first | (with_reducible first | exact HB.out | apply below_alloc | apply qbN | apply qb1 | refine qbs ?_ GE176.out) | exact HB.out))); (case aF => exact (fun _ _ => trivial)); (case aO => exact (by (with_reducible repeat (first | apply Kd.R_alloc | apply Kd.R_drewN | apply Kd.R_drew)); exact Kd.R_mono (Kd.R_far (p := ⟨gb176, 3, none⟩) (Kd.R_far (p := ⟨gb176, 2, none⟩) (Kd.R_far (p := ⟨gb176, 1, none⟩) (Kd.R_far (p := ⟨gb176, 0, none⟩) (Kd.R_types HO_7.out BK176.out (by decide)) (fun _ hk => hk.2) (.int .i64 ((r8 l0 x29_2).f0))) (fun _ hk => hk.2) (.int .i64 ((r8 l0 x29_2).f1))) (fun _ hk => hk.2) (.string ((r8 l0 x29_2).f2))) (fun _ hk => hk.2) (.bool ((r8 l0 x29_2).f3))) (fun _ hk => trivial))); (case aS => exact (qbz (by repeat (first | (with_reducible first | exact HB.out | apply below_alloc | apply qbN | apply qb1 | refine qbs ?_ GE176.out) | exact HB.out)))); (case aL => have := LMc16.out; omega); intro v178 w30 ho hb hg hat; rw [← Ny177.out] at ho; have n0_ := Aside0.mk (blk_grown (g := gb176) (o := .cells #[.int .i64 ((r8 l0 x29_2).f0), .int .i64 ((r8 l0 x29_2).f1), .string ((r8 l0 x29_2).f2), .bool ((r8 l0 x29_2).f3)] 38 (0, 0)) (by (with_reducible repeat (first | refine qkN ?_ _ | refine qkd ?_ | refine qka ?_ _)); refine qkp (cs := #[.int .i64 ((r8 l0 x29_2).f0), .int .i64 ((r8 l0 x29_2).f1), .string ((r8 l0 x29_2).f2), .bool false]) ?_ 3 _ rfl; (with_reducible repeat (first | refine qkN ?_ _ | refine qkd ?_ | refine qka ?_ _)); refine qkp (cs := #[.int .i64 ((r8 l0 x29_2).f0), .int .i64 ((r8 l0 x29_2).f1), .string (⟨#[]⟩ : ByteArray), .bool false]) ?_ 2 _ rfl; (with_reducible repeat (first | refine qkN ?_ _ | refine qkd ?_ | refine qka ?_ _)); refine qkp (cs := #[.int .i64 ((r8 l0 x29_2).f0), .int .i64 0, .string (⟨#[]⟩ : ByteArray), .bool false]) ?_ 1 _ rfl; (with_reducible repeat (first | refine qkN ?_ _ | refine qkd ?_ | refine qka ?_ _)); refine qkp (cs := #[.int .i64 0, .int .i64 0, .string (⟨#[]⟩ : ByteArray), .bool false]) ?_ 0 _ rfl; (with_reducible repeat (first | refine qkN ?_ _ | refine qkd ?_ | refine qka ?_ _)); exact BK176.out) hg (Kd.R_ne HO_7.out BK176.out (by decide))); have n1_ := Aside0.mk (hb); have n2_ := Aside0.mk (ho); clear BK176; clear HB; clear HO_7; have BK176 := n0_; have HB := n1_; have HO179 := n2_; clear n0_ n1_ n2_; clear ho hb hg hat; have hcz31_0 : w30.cell? ⟨gb176, 0, none⟩ = some (.int .i64 ((r8 l0 x29_2).f0)) := (qkc BK176.out 0).trans rfl; have hcz31_1 : w30.cell? ⟨gb176, 1, none⟩ = some (.int .i64 ((r8 l0 x29_2).f1)) := (qkc BK176.out 1).trans rfl; have hcz31_2 : w30.cell? ⟨gb176, 2, none⟩ = some (.string ((r8 l0 x29_2).f2)) := (qkc BK176.out 2).trans rfl; have hcz31_3 : w30.cell? ⟨gb176, 3, none⟩ = some (.bool ((r8 l0 x29_2).f3)) := (qkc BK176.out 3).trans rfl; have hfz31_0 := qkf BK176.out 0; have hfz31_1 := qkf BK176.out 1; have hfz31_2 := qkf BK176.out 2; have hfz31_3 := qkf BK176.out 3) | (at_builtin; refine print_append_str (w0 := w) w.heap.size rfl (.tmp 52) _ 26 9 5 rfl Tryd.underlying26 Tryd.underlying9 info5 v178 y177 ((r8 l0 x29_2).f2) rfl rfl ?aO ?aB ?aS ?aL ?_; (case aB => exact (by repeat (first | (with_reducible first | exact HB.out | apply below_alloc | apply qbN | apply qb1 | refine qbs ?_ GE176.out) | exact HB.out))); (case aO => exact (Kd.own_of_R (by (with_reducible repeat (first | apply Kd.R_alloc | apply Kd.R_drewN | apply Kd.R_drew)); exact HO179.out))); (case aS => exact (qbz (by repeat (first | (with_reducible first | exact HB.out | apply below_alloc | apply qbN | apply qb1 | refine qbs ?_ GE176.out) | exact HB.out)))); (case aL => have := LMc26.out; omega); intro v184 w32 ho0 hb hg; have ho := Kd.R_of_own (h1 := fun _ => rfl) (ok := fun _ => True) ho0 (fun _ _ => trivial); clear ho0; have hat := True.intro; rw [← Ny183.out] at ho; change Kd.R (Kd.int .u8) 5 w32 w.heap.size (fun _ => True) v184 y183 at ho; have n0_ := Aside0.mk (blk_grown (g := gb176) (o := .cells #[.int .i64 ((r8 l0 x29_2).f0), .int .i64 ((r8 l0 x29_2).f1), .string ((r8 l0 x29_2).f2), .bool ((r8 l0 x29_2).f3)] 38 (0, 0)) (by (with_reducible repeat (first | refine qkN ?_ _ | refine qkd ?_ | refine qka ?_ _)); exact BK176.out) hg (Kd.R_ne HO179.out BK176.out (by decide))); have n1_ := Aside0.mk (hb); have n2_ := Aside0.mk (ho); clear BK176; clear HB; clear HO179; have BK176 := n0_; have HB := n1_; have HO185 := n2_; clear n0_ n1_ n2_; clear ho hb hg hat) | ((with_reducible refine gate_builtin (b := .append) (xs := #[.tmp 55, .tmp 56]) rfl ?_); at_builtin; refine Kd.R_append (Kd.int .u8) (w0 := w) w.heap.size rfl (.tmp 55) (.tmp 56) 26 5 (.int .u8 0) 1 rfl Tryd.underlying26 info5 rfl (by decide) (by omega) v184 y183 0 [.int .u8 0] (fun _ => True) (fun _ => False) rfl rfl ?aP (fun _ hk => hk.elim) ?aF ?aO ?aB ?aS ?aL ?_; (case aP => exact rfl); (case aB => exact (by repeat (first | (with_reducible first | exact HB.out | apply below_alloc | apply qbN | apply qb1 | refine qbs ?_ GE176.out) | exact HB.out))); (case aF => exact (fun _ _ => trivial)); (case aO => exact (by (with_reducible repeat (first | apply Kd.R_alloc | apply Kd.R_drewN | apply Kd.R_drew)); exact HO185.out)); (case aS => exact (qbz (by repeat (first | (with_reducible first | exact HB.out | apply below_alloc | apply qbN | apply qb1 | refine qbs ?_ GE176.out) | exact HB.out)))); (case aL => have := LMc27.out; omega); intro v187 w33 ho hb hg hat; rw [← Ny186.out] at ho; have n0_ := Aside0.mk (blk_grown (g := gb176) (o := .cells #[.int .i64 ((r8 l0 x29_2).f0), .int .i64 ((r8 l0 x29_2).f1), .string ((r8 l0 x29_2).f2), .bool ((r8 l0 x29_2).f3)] 38 (0, 0)) (by (with_reducible repeat (first | refine qkN ?_ _ | refine qkd ?_ | refine qka ?_ _)); exact BK176.out) hg (Kd.R_ne HO185.out BK176.out (by decide))); have n1_ := Aside0.mk (hb); have n2_ := Aside0.mk (ho); clear BK176; clear HB; clear HO185; have BK176 := n0_; have HB := n1_; have HO188 := n2_; clear n0_ n1_ n2_; clear ho hb hg hat))
               go_roundg k2
               case measure => have := HK1.out; have := HK2.out; omega
               case rel => exact ⟨(y186), (wrap64 (x29_2 + 1)), (by first | rfl | (simp; done) | (simp [*]; done)), H', ⟨by have := HK1.out; have := HK2.out; omega⟩, ⟨by (with_reducible repeat (first | apply Kd.R_alloc | apply Kd.R_drewN | apply Kd.R_drew)); exact HO188.out⟩, ⟨by repeat (first | (with_reducible first | exact HB.out | apply below_alloc | apply qbN | apply qb1 | refine qbs ?_ GE176.out) | exact HB.out)⟩⟩
              ·rw [if_neg c27] at H
               exact absurd H (by simp)
             ·rw [if_neg c26] at H
              exact absurd H (by simp)
            ·rw [if_neg c25] at H
             have c25b0 : (((r8 l0 x29_2).f0) == 2) = false := beq_eq_false_iff_ne.mpr c25
             have c25b1 : (((r8 l0 x29_2).f0) != 2) = true := bne_iff_ne.mpr c25
             by_cases c34 : ((r8 l0 x29_2).f0) = 3
             ·rw [if_pos c34] at H
              have c34b0 : (((r8 l0 x29_2).f0) == 3) = true := beq_iff_eq.mpr c34
              have c34b1 : (((r8 l0 x29_2).f0) != 3) = false := bne_eq_false_iff_eq.mpr c34
              clear c34
              obtain ⟨bq35, hbq35⟩ : ∃ b_ : Bool, b_ = ((r8 l0 x29_2).f3) := ⟨_, rfl⟩
              replace H : (if bq35 = true then (if y177.length < 140737488355328 then (order_Encode.l1 k2 (y177 ++ [1]) l0 (l0.length : Int) (wrap64 (x29_2 + 1))) else (none)) else (if y177.length < 140737488355328 then (order_Encode.l1 k2 (y177 ++ [0]) l0 (l0.length : Int) (wrap64 (x29_2 + 1))) else (none))) = some (r1, r2) := by rw [← hbq35] at H; exact H
              have Nbq35 := Aside0.mk hbq35
              clear hbq35
              by_cases c36 : bq35 = true
              ·subst c36
               have H1 : (if y177.length < 140737488355328 then (order_Encode.l1 k2 (y177 ++ [1]) l0 (l0.length : Int) (wrap64 (x29_2 + 1))) else (none)) = some (r1, r2) := by rw [if_pos rfl] at H; exact H
               clear H
               have H := H1
               clear H1
               by_cases c37 : y177.length < 140737488355328
               ·rw [if_pos c37] at H
                have LMc37 := Aside0.mk c37
                clear c37
                obtain ⟨y189, hy189⟩ : ∃ y_ : List Int, y_ = (y177 ++ [1]) := ⟨_, rfl⟩
                replace H : (order_Encode.l1 k2 y189 l0 (l0.length : Int) (wrap64 (x29_2 + 1))) = some (r1, r2) := by first | (rw [hy189]; with_reducible exact H) | (have H2_ := (Option.bind_some _ _).symm.trans H; rw [hy189]; with_reducible exact H2_) | (have H2_ := (Option.bind_some _ _).symm.trans H; with_reducible exact H2_) | with_reducible exact H | (rw [hy189]; exact H) | exact H
                have Ny189 := Aside0.mk hy189
                clear hy189
                have H' := Aside0.mk H
                clear H
                have p175 : 0 ≤ (x29_2 : Int) := ode_
                have q175 : x29_2 < (l0.length : Int) := ode_
                obtain ⟨ad175, e175, hx175_0, hx175_1, hx175_2, hx175_3⟩ := at_T38 HR0.out x29_2 p175 q175
                (try rw [← Nbq35.out] at hx175_3)
                cases e175
                replace hx175_0 := (HB.out.cell (World.block_lt_of_cell? w _ hx175_0)).trans hx175_0
                replace hx175_1 := (HB.out.cell (World.block_lt_of_cell? w _ hx175_1)).trans hx175_1
                replace hx175_2 := (HB.out.cell (World.block_lt_of_cell? w _ hx175_2)).trans hx175_2
                replace hx175_3 := (HB.out.cell (World.block_lt_of_cell? w _ hx175_3)).trans hx175_3
                replace p175 := eq_true p175
                replace q175 := eq_true q175
                go_wp2_with (first | ((with_reducible refine qgd (N := 9) rfl ?_); refine qbe ?hg (N := 9) ?hd (cs := #[.int .i64 0, .int .i64 0, .string (⟨#[]⟩ : ByteArray), .bool false]) (t := 38) ?hr ?_; (case hd => rfl); (case hg => rfl); (case hr => first | (go_simp; done) | (go_simp; rfl)); intro gb176 hg w38 hbox hb; have n0_ := Aside0.mk (Kd.R_below (by (with_reducible repeat (first | apply Kd.R_alloc | apply Kd.R_drewN | apply Kd.R_drew)); exact HO_7.out) hb); have n1_ := Aside0.mk (below_step (by repeat (first | (with_reducible first | exact HB.out | apply below_alloc | apply qbN | apply qb1) | exact HB.out)) hb); have n2_ := Aside0.mk (hbox); have n3_ := Aside0.mk ((by rw [hg]; exact (qbz (by repeat (first | (with_reducible first | exact HB.out | apply below_alloc | apply qbN | apply qb1) | exact HB.out))) : w.heap.size ≤ gb176)); have n4_ := Aside0.mk ((by rw [hg]; exact (qbz (by repeat (first | (with_reducible first | exact HB.out | apply below_alloc | apply qbN | apply qb1) | exact HB.out))) : w.heap.size ≤ gb176)); clear HO_7; clear HB; have HO_7 := n0_; have HB := n1_; have BK176 := n2_; have GW176 := n3_; have GE176 := n4_; clear n0_ n1_ n2_ n3_ n4_; clear hb hbox hg; have hcz39_0 : w38.cell? ⟨gb176, 0, none⟩ = some (.int .i64 0) := (qkc BK176.out 0).trans rfl; have hcz39_1 : w38.cell? ⟨gb176, 1, none⟩ = some (.int .i64 0) := (qkc BK176.out 1).trans rfl; have hcz39_2 : w38.cell? ⟨gb176, 2, none⟩ = some (.string (⟨#[]⟩ : ByteArray)) := (qkc BK176.out 2).trans rfl; have hcz39_3 : w38.cell? ⟨gb176, 3, none⟩ = some (.bool false) := (qkc BK176.out 3).trans rfl; have hfz39_0 := qkf BK176.out 0; have hfz39_1 := qkf BK176.out 1; have hfz39_2 := qkf BK176.out 2; have hfz39_3 := qkf BK176.out 3) | ((with_reducible refine gate_builtin (b := .append) (xs := #[.tmp 33, .tmp 38]) rfl ?_); at_builtin; refine Kd.R_append (Kd.int .u8) (w0 := w) w.heap.size rfl (.tmp 33) (.tmp 38) 26 5 (.int .u8 0) 1 rfl Tryd.underlying26 info5 rfl (by decide) (by omega) u7 x7_2 ((((r8 l0 x29_2).f0) + 1) % 256) [.int .u8 ((((r8 l0 x29_2).f0) + 1) % 256)] (fun _ => True) (fun _ => False) rfl (by first | (go_simp; done) | (go_simp; rfl)) ?aP (fun _ hk => hk.elim) ?aF ?aO ?aB ?aS ?aL ?_; (case aP => exact rfl); (case aB => exact (by repeat (first | (with_reducible first | exact HB.out | apply below_alloc | apply qbN | apply qb1 | refine qbs ?_ GE176.out) | exact HB.out))); (case aF => exact (fun _ _ => trivial)); (case aO => exact (by (with_reducible repeat (first | apply Kd.R_alloc | apply Kd.R_drewN | apply Kd.R_drew)); exact Kd.R_mono (Kd.R_far (p := ⟨gb176, 3, none⟩) (Kd.R_far (p := ⟨gb176, 2, none⟩) (Kd.R_far (p := ⟨gb176, 1, none⟩) (Kd.R_far (p := ⟨gb176, 0, none⟩) (Kd.R_types HO_7.out BK176.out (by decide)) (fun _ hk => hk.2) (.int .i64 ((r8 l0 x29_2).f0))) (fun _ hk => hk.2) (.int .i64 ((r8 l0 x29_2).f1))) (fun _ hk => hk.2) (.string ((r8 l0 x29_2).f2))) (fun _ hk => hk.2) (.bool true)) (fun _ hk => trivial))); (case aS => exact (qbz (by repeat (first | (with_reducible first | exact HB.out | apply below_alloc | apply qbN | apply qb1 | refine qbs ?_ GE176.out) | exact HB.out)))); (case aL => have := LMc16.out; omega); intro v178 w40 ho hb hg hat; rw [← Ny177.out] at ho; have n0_ := Aside0.mk (blk_grown (g := gb176) (o := .cells #[.int .i64 ((r8 l0 x29_2).f0), .int .i64 ((r8 l0 x29_2).f1), .string ((r8 l0 x29_2).f2), .bool true] 38 (0, 0)) (by (with_reducible repeat (first | refine qkN ?_ _ | refine qkd ?_ | refine qka ?_ _)); refine qkp (cs := #[.int .i64 ((r8 l0 x29_2).f0), .int .i64 ((r8 l0 x29_2).f1), .string ((r8 l0 x29_2).f2), .bool false]) ?_ 3 _ rfl; (with_reducible repeat (first | refine qkN ?_ _ | refine qkd ?_ | refine qka ?_ _)); refine qkp (cs := #[.int .i64 ((r8 l0 x29_2).f0), .int .i64 ((r8 l0 x29_2).f1), .string (⟨#[]⟩ : ByteArray), .bool false]) ?_ 2 _ rfl; (with_reducible repeat (first | refine qkN ?_ _ | refine qkd ?_ | refine qka ?_ _)); refine qkp (cs := #[.int .i64 ((r8 l0 x29_2).f0), .int .i64 0, .string (⟨#[]⟩ : ByteArray), .bool false]) ?_ 1 _ rfl; (with_reducible repeat (first | refine qkN ?_ _ | refine qkd ?_ | refine qka ?_ _)); refine qkp (cs := #[.int .i64 0, .int .i64 0, .string (⟨#[]⟩ : ByteArray), .bool false]) ?_ 0 _ rfl; (with_reducible repeat (first | refine qkN ?_ _ | refine qkd ?_ | refine qka ?_ _)); exact BK176.out) hg (Kd.R_ne HO_7.out BK176.out (by decide))); have n1_ := Aside0.mk (hb); have n2_ := Aside0.mk (ho); clear BK176; clear HB; clear HO_7; have BK176 := n0_; have HB := n1_; have HO179 := n2_; clear n0_ n1_ n2_; clear ho hb hg hat; have hcz41_0 : w40.cell? ⟨gb176, 0, none⟩ = some (.int .i64 ((r8 l0 x29_2).f0)) := (qkc BK176.out 0).trans rfl; have hcz41_1 : w40.cell? ⟨gb176, 1, none⟩ = some (.int .i64 ((r8 l0 x29_2).f1)) := (qkc BK176.out 1).trans rfl; have hcz41_2 : w40.cell? ⟨gb176, 2, none⟩ = some (.string ((r8 l0 x29_2).f2)) := (qkc BK176.out 2).trans rfl; have hcz41_3 : w40.cell? ⟨gb176, 3, none⟩ = some (.bool true) := (qkc BK176.out 3).trans rfl; have hfz41_0 := qkf BK176.out 0; have hfz41_1 := qkf BK176.out 1; have hfz41_2 := qkf BK176.out 2; have hfz41_3 := qkf BK176.out 3) | ((with_reducible refine gate_builtin (b := .append) (xs := #[.tmp 62, .tmp 64]) rfl ?_); at_builtin; refine Kd.R_append (Kd.int .u8) (w0 := w) w.heap.size rfl (.tmp 62) (.tmp 64) 26 5 (.int .u8 0) 1 rfl Tryd.underlying26 info5 rfl (by decide) (by omega) v178 y177 1 [.int .u8 1] (fun _ => True) (fun _ => False) rfl rfl ?aP (fun _ hk => hk.elim) ?aF ?aO ?aB ?aS ?aL ?_; (case aP => exact rfl); (case aB => exact (by repeat (first | (with_reducible first | exact HB.out | apply below_alloc | apply qbN | apply qb1 | refine qbs ?_ GE176.out) | exact HB.out))); (case aF => exact (fun _ _ => trivial)); (case aO => exact (by (with_reducible repeat (first | apply Kd.R_alloc | apply Kd.R_drewN | apply Kd.R_drew)); exact HO179.out)); (case aS => exact (qbz (by repeat (first | (with_reducible first | exact HB.out | apply below_alloc | apply qbN | apply qb1 | refine qbs ?_ GE176.out) | exact HB.out)))); (case aL => have := LMc37.out; omega); intro v190 w42 ho hb hg hat; rw [← Ny189.out] at ho; have n0_ := Aside0.mk (blk_grown (g := gb176) (o := .cells #[.int .i64 ((r8 l0 x29_2).f0), .int .i64 ((r8 l0 x29_2).f1), .string ((r8 l0 x29_2).f2), .bool true] 38 (0, 0)) (by (with_reducible repeat (first | refine qkN ?_ _ | refine qkd ?_ | refine qka ?_ _)); exact BK176.out) hg (Kd.R_ne HO179.out BK176.out (by decide))); have n1_ := Aside0.mk (hb); have n2_ := Aside0.mk (ho); clear BK176; clear HB; clear HO179; have BK176 := n0_; have HB := n1_; have HO191 := n2_; clear n0_ n1_ n2_; clear ho hb hg hat))
                go_roundg k2
                case measure => have := HK1.out; have := HK2.out; omega
                case rel => (try rw [← Nbq35.out]); exact ⟨(y189), (wrap64 (x29_2 + 1)), (by first | rfl | (simp; done) | (simp [*]; done)), H', ⟨by have := HK1.out; have := HK2.out; omega⟩, ⟨by (with_reducible repeat (first | apply Kd.R_alloc | apply Kd.R_drewN | apply Kd.R_drew)); exact HO191.out⟩, ⟨by repeat (first | (with_reducible first | exact HB.out | apply below_alloc | apply qbN | apply qb1 | refine qbs ?_ GE176.out) | exact HB.out)⟩⟩
               ·rw [if_neg c37] at H
                exact absurd H (by simp)
              ·replace c36 := Bool.eq_false_iff.mpr c36
               subst c36
               have H1 : (if y177.length < 140737488355328 then (order_Encode.l1 k2 (y177 ++ [0]) l0 (l0.length : Int) (wrap64 (x29_2 + 1))) else (none)) = some (r1, r2) := by rw [if_neg (show ¬ (false = true) by decide)] at H; exact H
               clear H
               have H := H1
               clear H1
               by_cases c43 : y177.length < 140737488355328
               ·rw [if_pos c43] at H
                have LMc43 := Aside0.mk c43
                clear c43
                obtain ⟨y192, hy192⟩ : ∃ y_ : List Int, y_ = (y177 ++ [0]) := ⟨_, rfl⟩
                replace H : (order_Encode.l1 k2 y192 l0 (l0.length : Int) (wrap64 (x29_2 + 1))) = some (r1, r2) := by first | (rw [hy192]; with_reducible exact H) | (have H2_ := (Option.bind_some _ _).symm.trans H; rw [hy192]; with_reducible exact H2_) | (have H2_ := (Option.bind_some _ _).symm.trans H; with_reducible exact H2_) | with_reducible exact H | (rw [hy192]; exact H) | exact H
                have Ny192 := Aside0.mk hy192
                clear hy192
                have H' := Aside0.mk H
                clear H
                have p175 : 0 ≤ (x29_2 : Int) := ode_
                have q175 : x29_2 < (l0.length : Int) := ode_
                obtain ⟨ad175, e175, hx175_0, hx175_1, hx175_2, hx175_3⟩ := at_T38 HR0.out x29_2 p175 q175
                (try rw [← Nbq35.out] at hx175_3)
                cases e175
                replace hx175_0 := (HB.out.cell (World.block_lt_of_cell? w _ hx175_0)).trans hx175_0
                replace hx175_1 := (HB.out.cell (World.block_lt_of_cell? w _ hx175_1)).trans hx175_1
                replace hx175_2 := (HB.out.cell (World.block_lt_of_cell? w _ hx175_2)).trans hx175_2
                replace hx175_3 := (HB.out.cell (World.block_lt_of_cell? w _ hx175_3)).trans hx175_3
                replace p175 := eq_true p175
                replace q175 := eq_true q175
                go_wp2_with (first | ((with_reducible refine qgd (N := 9) rfl ?_); refine qbe ?hg (N := 9) ?hd (cs := #[.int .i64 0, .int .i64 0, .string (⟨#[]⟩ : ByteArray), .bool false]) (t := 38) ?hr ?_; (case hd => rfl); (case hg => rfl); (case hr => first | (go_simp; done) | (go_simp; rfl)); intro gb176 hg w44 hbox hb; have n0_ := Aside0.mk (Kd.R_below (by (with_reducible repeat (first | apply Kd.R_alloc | apply Kd.R_drewN | apply Kd.R_drew)); exact HO_7.out) hb); have n1_ := Aside0.mk (below_step (by repeat (first | (with_reducible first | exact HB.out | apply below_alloc | apply qbN | apply qb1) | exact HB.out)) hb); have n2_ := Aside0.mk (hbox); have n3_ := Aside0.mk ((by rw [hg]; exact (qbz (by repeat (first | (with_reducible first | exact HB.out | apply below_alloc | apply qbN | apply qb1) | exact HB.out))) : w.heap.size ≤ gb176)); have n4_ := Aside0.mk ((by rw [hg]; exact (qbz (by repeat (first | (with_reducible first | exact HB.out | apply below_alloc | apply qbN | apply qb1) | exact HB.out))) : w.heap.size ≤ gb176)); clear HO_7; clear HB; have HO_7 := n0_; have HB := n1_; have BK176 := n2_; have GW176 := n3_; have GE176 := n4_; clear n0_ n1_ n2_ n3_ n4_; clear hb hbox hg; have hcz45_0 : w44.cell? ⟨gb176, 0, none⟩ = some (.int .i64 0) := (qkc BK176.out 0).trans rfl; have hcz45_1 : w44.cell? ⟨gb176, 1, none⟩ = some (.int .i64 0) := (qkc BK176.out 1).trans rfl; have hcz45_2 : w44.cell? ⟨gb176, 2, none⟩ = some (.string (⟨#[]⟩ : ByteArray)) := (qkc BK176.out 2).trans rfl; have hcz45_3 : w44.cell? ⟨gb176, 3, none⟩ = some (.bool false) := (qkc BK176.out 3).trans rfl; have hfz45_0 := qkf BK176.out 0; have hfz45_1 := qkf BK176.out 1; have hfz45_2 := qkf BK176.out 2; have hfz45_3 := qkf BK176.out 3) | ((with_reducible refine gate_builtin (b := .append) (xs := #[.tmp 33, .tmp 38]) rfl ?_); at_builtin; refine Kd.R_append (Kd.int .u8) (w0 := w) w.heap.size rfl (.tmp 33) (.tmp 38) 26 5 (.int .u8 0) 1 rfl Tryd.underlying26 info5 rfl (by decide) (by omega) u7 x7_2 ((((r8 l0 x29_2).f0) + 1) % 256) [.int .u8 ((((r8 l0 x29_2).f0) + 1) % 256)] (fun _ => True) (fun _ => False) rfl (by first | (go_simp; done) | (go_simp; rfl)) ?aP (fun _ hk => hk.elim) ?aF ?aO ?aB ?aS ?aL ?_; (case aP => exact rfl); (case aB => exact (by repeat (first | (with_reducible first | exact HB.out | apply below_alloc | apply qbN | apply qb1 | refine qbs ?_ GE176.out) | exact HB.out))); (case aF => exact (fun _ _ => trivial)); (case aO => exact (by (with_reducible repeat (first | apply Kd.R_alloc | apply Kd.R_drewN | apply Kd.R_drew)); exact Kd.R_mono (Kd.R_far (p := ⟨gb176, 3, none⟩) (Kd.R_far (p := ⟨gb176, 2, none⟩) (Kd.R_far (p := ⟨gb176, 1, none⟩) (Kd.R_far (p := ⟨gb176, 0, none⟩) (Kd.R_types HO_7.out BK176.out (by decide)) (fun _ hk => hk.2) (.int .i64 ((r8 l0 x29_2).f0))) (fun _ hk => hk.2) (.int .i64 ((r8 l0 x29_2).f1))) (fun _ hk => hk.2) (.string ((r8 l0 x29_2).f2))) (fun _ hk => hk.2) (.bool false)) (fun _ hk => trivial))); (case aS => exact (qbz (by repeat (first | (with_reducible first | exact HB.out | apply below_alloc | apply qbN | apply qb1 | refine qbs ?_ GE176.out) | exact HB.out)))); (case aL => have := LMc16.out; omega); intro v178 w46 ho hb hg hat; rw [← Ny177.out] at ho; have n0_ := Aside0.mk (blk_grown (g := gb176) (o := .cells #[.int .i64 ((r8 l0 x29_2).f0), .int .i64 ((r8 l0 x29_2).f1), .string ((r8 l0 x29_2).f2), .bool false] 38 (0, 0)) (by (with_reducible repeat (first | refine qkN ?_ _ | refine qkd ?_ | refine qka ?_ _)); refine qkp (cs := #[.int .i64 ((r8 l0 x29_2).f0), .int .i64 ((r8 l0 x29_2).f1), .string ((r8 l0 x29_2).f2), .bool false]) ?_ 3 _ rfl; (with_reducible repeat (first | refine qkN ?_ _ | refine qkd ?_ | refine qka ?_ _)); refine qkp (cs := #[.int .i64 ((r8 l0 x29_2).f0), .int .i64 ((r8 l0 x29_2).f1), .string (⟨#[]⟩ : ByteArray), .bool false]) ?_ 2 _ rfl; (with_reducible repeat (first | refine qkN ?_ _ | refine qkd ?_ | refine qka ?_ _)); refine qkp (cs := #[.int .i64 ((r8 l0 x29_2).f0), .int .i64 0, .string (⟨#[]⟩ : ByteArray), .bool false]) ?_ 1 _ rfl; (with_reducible repeat (first | refine qkN ?_ _ | refine qkd ?_ | refine qka ?_ _)); refine qkp (cs := #[.int .i64 0, .int .i64 0, .string (⟨#[]⟩ : ByteArray), .bool false]) ?_ 0 _ rfl; (with_reducible repeat (first | refine qkN ?_ _ | refine qkd ?_ | refine qka ?_ _)); exact BK176.out) hg (Kd.R_ne HO_7.out BK176.out (by decide))); have n1_ := Aside0.mk (hb); have n2_ := Aside0.mk (ho); clear BK176; clear HB; clear HO_7; have BK176 := n0_; have HB := n1_; have HO179 := n2_; clear n0_ n1_ n2_; clear ho hb hg hat; have hcz47_0 : w46.cell? ⟨gb176, 0, none⟩ = some (.int .i64 ((r8 l0 x29_2).f0)) := (qkc BK176.out 0).trans rfl; have hcz47_1 : w46.cell? ⟨gb176, 1, none⟩ = some (.int .i64 ((r8 l0 x29_2).f1)) := (qkc BK176.out 1).trans rfl; have hcz47_2 : w46.cell? ⟨gb176, 2, none⟩ = some (.string ((r8 l0 x29_2).f2)) := (qkc BK176.out 2).trans rfl; have hcz47_3 : w46.cell? ⟨gb176, 3, none⟩ = some (.bool false) := (qkc BK176.out 3).trans rfl; have hfz47_0 := qkf BK176.out 0; have hfz47_1 := qkf BK176.out 1; have hfz47_2 := qkf BK176.out 2; have hfz47_3 := qkf BK176.out 3) | ((with_reducible refine gate_builtin (b := .append) (xs := #[.tmp 62, .tmp 64]) rfl ?_); at_builtin; refine Kd.R_append (Kd.int .u8) (w0 := w) w.heap.size rfl (.tmp 62) (.tmp 64) 26 5 (.int .u8 0) 1 rfl Tryd.underlying26 info5 rfl (by decide) (by omega) v178 y177 0 [.int .u8 0] (fun _ => True) (fun _ => False) rfl rfl ?aP (fun _ hk => hk.elim) ?aF ?aO ?aB ?aS ?aL ?_; (case aP => exact rfl); (case aB => exact (by repeat (first | (with_reducible first | exact HB.out | apply below_alloc | apply qbN | apply qb1 | refine qbs ?_ GE176.out) | exact HB.out))); (case aF => exact (fun _ _ => trivial)); (case aO => exact (by (with_reducible repeat (first | apply Kd.R_alloc | apply Kd.R_drewN | apply Kd.R_drew)); exact HO179.out)); (case aS => exact (qbz (by repeat (first | (with_reducible first | exact HB.out | apply below_alloc | apply qbN | apply qb1 | refine qbs ?_ GE176.out) | exact HB.out)))); (case aL => have := LMc43.out; omega); intro v193 w48 ho hb hg hat; rw [← Ny192.out] at ho; have n0_ := Aside0.mk (blk_grown (g := gb176) (o := .cells #[.int .i64 ((r8 l0 x29_2).f0), .int .i64 ((r8 l0 x29_2).f1), .string ((r8 l0 x29_2).f2), .bool false] 38 (0, 0)) (by (with_reducible repeat (first | refine qkN ?_ _ | refine qkd ?_ | refine qka ?_ _)); exact BK176.out) hg (Kd.R_ne HO179.out BK176.out (by decide))); have n1_ := Aside0.mk (hb); have n2_ := Aside0.mk (ho); clear BK176; clear HB; clear HO179; have BK176 := n0_; have HB := n1_; have HO194 := n2_; clear n0_ n1_ n2_; clear ho hb hg hat))
                go_roundg k2
                case measure => have := HK1.out; have := HK2.out; omega
                case rel => (try rw [← Nbq35.out]); exact ⟨(y192), (wrap64 (x29_2 + 1)), (by first | rfl | (simp; done) | (simp [*]; done)), H', ⟨by have := HK1.out; have := HK2.out; omega⟩, ⟨by (with_reducible repeat (first | apply Kd.R_alloc | apply Kd.R_drewN | apply Kd.R_drew)); exact HO194.out⟩, ⟨by repeat (first | (with_reducible first | exact HB.out | apply below_alloc | apply qbN | apply qb1 | refine qbs ?_ GE176.out) | exact HB.out)⟩⟩
               ·rw [if_neg c43] at H
                exact absurd H (by simp)
             ·rw [if_neg c34] at H
              have c34b0 : (((r8 l0 x29_2).f0) == 3) = false := beq_eq_false_iff_ne.mpr c34
              have c34b1 : (((r8 l0 x29_2).f0) != 3) = true := bne_iff_ne.mpr c34
              have H' := Aside0.mk H
              clear H
              have p175 : 0 ≤ (x29_2 : Int) := ode_
              have q175 : x29_2 < (l0.length : Int) := ode_
              obtain ⟨ad175, e175, hx175_0, hx175_1, hx175_2, hx175_3⟩ := at_T38 HR0.out x29_2 p175 q175
              cases e175
              replace hx175_0 := (HB.out.cell (World.block_lt_of_cell? w _ hx175_0)).trans hx175_0
              replace hx175_1 := (HB.out.cell (World.block_lt_of_cell? w _ hx175_1)).trans hx175_1
              replace hx175_2 := (HB.out.cell (World.block_lt_of_cell? w _ hx175_2)).trans hx175_2
              replace hx175_3 := (HB.out.cell (World.block_lt_of_cell? w _ hx175_3)).trans hx175_3
              replace p175 := eq_true p175
              replace q175 := eq_true q175
              go_wp2_with (first | ((with_reducible refine qgd (N := 9) rfl ?_); refine qbe ?hg (N := 9) ?hd (cs := #[.int .i64 0, .int .i64 0, .string (⟨#[]⟩ : ByteArray), .bool false]) (t := 38) ?hr ?_; (case hd => rfl); (case hg => rfl); (case hr => first | (go_simp; done) | (go_simp; rfl)); intro gb176 hg w49 hbox hb; have n0_ := Aside0.mk (Kd.R_below (by (with_reducible repeat (first | apply Kd.R_alloc | apply Kd.R_drewN | apply Kd.R_drew)); exact HO_7.out) hb); have n1_ := Aside0.mk (below_step (by repeat (first | (with_reducible first | exact HB.out | apply below_alloc | apply qbN | apply qb1) | exact HB.out)) hb); have n2_ := Aside0.mk (hbox); have n3_ := Aside0.mk ((by rw [hg]; exact (qbz (by repeat (first | (with_reducible first | exact HB.out | apply below_alloc | apply qbN | apply qb1) | exact HB.out))) : w.heap.size ≤ gb176)); have n4_ := Aside0.mk ((by rw [hg]; exact (qbz (by repeat (first | (with_reducible first | exact HB.out | apply below_alloc | apply qbN | apply qb1) | exact HB.out))) : w.heap.size ≤ gb176)); clear HO_7; clear HB; have HO_7 := n0_; have HB := n1_; have BK176 := n2_; have GW176 := n3_; have GE176 := n4_; clear n0_ n1_ n2_ n3_ n4_; clear hb hbox hg; have hcz50_0 : w49.cell? ⟨gb176, 0, none⟩ = some (.int .i64 0) := (qkc BK176.out 0).trans rfl; have hcz50_1 : w49.cell? ⟨gb176, 1, none⟩ = some (.int .i64 0) := (qkc BK176.out 1).trans rfl; have hcz50_2 : w49.cell? ⟨gb176, 2, none⟩ = some (.string (⟨#[]⟩ : ByteArray)) := (qkc BK176.out 2).trans rfl; have hcz50_3 : w49.cell? ⟨gb176, 3, none⟩ = some (.bool false) := (qkc BK176.out 3).trans rfl; have hfz50_0 := qkf BK176.out 0; have hfz50_1 := qkf BK176.out 1; have hfz50_2 := qkf BK176.out 2; have hfz50_3 := qkf BK176.out 3) | ((with_reducible refine gate_builtin (b := .append) (xs := #[.tmp 33, .tmp 38]) rfl ?_); at_builtin; refine Kd.R_append (Kd.int .u8) (w0 := w) w.heap.size rfl (.tmp 33) (.tmp 38) 26 5 (.int .u8 0) 1 rfl Tryd.underlying26 info5 rfl (by decide) (by omega) u7 x7_2 ((((r8 l0 x29_2).f0) + 1) % 256) [.int .u8 ((((r8 l0 x29_2).f0) + 1) % 256)] (fun _ => True) (fun _ => False) rfl (by first | (go_simp; done) | (go_simp; rfl)) ?aP (fun _ hk => hk.elim) ?aF ?aO ?aB ?aS ?aL ?_; (case aP => exact rfl); (case aB => exact (by repeat (first | (with_reducible first | exact HB.out | apply below_alloc | apply qbN | apply qb1 | refine qbs ?_ GE176.out) | exact HB.out))); (case aF => exact (fun _ _ => trivial)); (case aO => exact (by (with_reducible repeat (first | apply Kd.R_alloc | apply Kd.R_drewN | apply Kd.R_drew)); exact Kd.R_mono (Kd.R_far (p := ⟨gb176, 3, none⟩) (Kd.R_far (p := ⟨gb176, 2, none⟩) (Kd.R_far (p := ⟨gb176, 1, none⟩) (Kd.R_far (p := ⟨gb176, 0, none⟩) (Kd.R_types HO_7.out BK176.out (by decide)) (fun _ hk => hk.2) (.int .i64 ((r8 l0 x29_2).f0))) (fun _ hk => hk.2) (.int .i64 ((r8 l0 x29_2).f1))) (fun _ hk => hk.2) (.string ((r8 l0 x29_2).f2))) (fun _ hk => hk.2) (.bool ((r8 l0 x29_2).f3))) (fun _ hk => trivial))); (case aS => exact (qbz (by repeat (first | (with_reducible first | exact HB.out | apply below_alloc | apply qbN | apply qb1 | refine qbs ?_ GE176.out) | exact HB.out)))); (case aL => have := LMc16.out; omega); intro v178 w51 ho hb hg hat; rw [← Ny177.out] at ho; have n0_ := Aside0.mk (blk_grown (g := gb176) (o := .cells #[.int .i64 ((r8 l0 x29_2).f0), .int .i64 ((r8 l0 x29_2).f1), .string ((r8 l0 x29_2).f2), .bool ((r8 l0 x29_2).f3)] 38 (0, 0)) (by (with_reducible repeat (first | refine qkN ?_ _ | refine qkd ?_ | refine qka ?_ _)); refine qkp (cs := #[.int .i64 ((r8 l0 x29_2).f0), .int .i64 ((r8 l0 x29_2).f1), .string ((r8 l0 x29_2).f2), .bool false]) ?_ 3 _ rfl; (with_reducible repeat (first | refine qkN ?_ _ | refine qkd ?_ | refine qka ?_ _)); refine qkp (cs := #[.int .i64 ((r8 l0 x29_2).f0), .int .i64 ((r8 l0 x29_2).f1), .string (⟨#[]⟩ : ByteArray), .bool false]) ?_ 2 _ rfl; (with_reducible repeat (first | refine qkN ?_ _ | refine qkd ?_ | refine qka ?_ _)); refine qkp (cs := #[.int .i64 ((r8 l0 x29_2).f0), .int .i64 0, .string (⟨#[]⟩ : ByteArray), .bool false]) ?_ 1 _ rfl; (with_reducible repeat (first | refine qkN ?_ _ | refine qkd ?_ | refine qka ?_ _)); refine qkp (cs := #[.int .i64 0, .int .i64 0, .string (⟨#[]⟩ : ByteArray), .bool false]) ?_ 0 _ rfl; (with_reducible repeat (first | refine qkN ?_ _ | refine qkd ?_ | refine qka ?_ _)); exact BK176.out) hg (Kd.R_ne HO_7.out BK176.out (by decide))); have n1_ := Aside0.mk (hb); have n2_ := Aside0.mk (ho); clear BK176; clear HB; clear HO_7; have BK176 := n0_; have HB := n1_; have HO179 := n2_; clear n0_ n1_ n2_; clear ho hb hg hat; have hcz52_0 : w51.cell? ⟨gb176, 0, none⟩ = some (.int .i64 ((r8 l0 x29_2).f0)) := (qkc BK176.out 0).trans rfl; have hcz52_1 : w51.cell? ⟨gb176, 1, none⟩ = some (.int .i64 ((r8 l0 x29_2).f1)) := (qkc BK176.out 1).trans rfl; have hcz52_2 : w51.cell? ⟨gb176, 2, none⟩ = some (.string ((r8 l0 x29_2).f2)) := (qkc BK176.out 2).trans rfl; have hcz52_3 : w51.cell? ⟨gb176, 3, none⟩ = some (.bool ((r8 l0 x29_2).f3)) := (qkc BK176.out 3).trans rfl; have hfz52_0 := qkf BK176.out 0; have hfz52_1 := qkf BK176.out 1; have hfz52_2 := qkf BK176.out 2; have hfz52_3 := qkf BK176.out 3))
              go_roundg k2
              case measure => have := HK1.out; have := HK2.out; omega
              case rel => exact ⟨(y177), (wrap64 (x29_2 + 1)), (by first | rfl | (simp; done) | (simp [*]; done)), H', ⟨by have := HK1.out; have := HK2.out; omega⟩, ⟨by (with_reducible repeat (first | apply Kd.R_alloc | apply Kd.R_drewN | apply Kd.R_drew)); exact HO179.out⟩, ⟨by repeat (first | (with_reducible first | exact HB.out | apply below_alloc | apply qbN | apply qb1 | refine qbs ?_ GE176.out) | exact HB.out)⟩⟩
          ·rw [if_neg c16] at H
           exact absurd H (by simp)
         ·rw [if_neg c15] at H
          exact absurd H (by simp)
        ·rw [if_neg c14] at H
         exact absurd H (by simp)
       ·rw [if_neg c13] at H
        have c13b0 : decide (x29_2 < (l0.length : Int)) = false := decide_eq_false c13
        clear c13
        simp only [Option.some.injEq, Prod.mk.injEq] at H
        obtain ⟨rfl, rfl⟩ := H
        have hcv53 := own_string (P := Tryd.prog) Tryd.underlying26 Tryd.underlying5 Tryd.underlying9 (Kd.own_of_R HO_7.out)
        go_wp2
        go_ret2
        exact ⟨by first | rfl | (simp [eWn, eWs] <;> rfl) | (simp [*, eWn, eWs] <;> rfl), by repeat (first | (with_reducible first | exact HB.out | apply below_alloc | apply qbN | apply qb1) | exact HB.out)⟩

/-! ### row_Key: function 12 -/
def row_Key.l0 : Nat → List (S38) → List (S38) → List Int → Int → Int → Option (ByteArray × Option Int)
 | 0, _, _, _, _, _ => none
 | k + 1, x1, x7, x17, x18, x19 => if x19 < x18 then (if 0 ≤ x19 then (if x19 < (x17.length : Int) then (if 0 ≤ (rd x17 x19) then (if (rd x17 x19) < (x1.length : Int) then (if x7.length < 3518437208883 then (row_Key.l0 k x1 (x7 ++ [(⟨(r8 x1 (rd x17 x19)).f0, (r8 x1 (rd x17 x19)).f1, (r8 x1 (rd x17 x19)).f2, (r8 x1 (rd x17 x19)).f3⟩ : S38)]) x17 x18 (wrap64 (x19 + 1))) else (none)) else (none)) else (none)) else (none)) else (none)) else ((order_Encode.f k x7).bind fun bt206 => (some (bt206.1, bt206.2)))
def row_Key.f (k : Nat) (a0_0 : ByteArray) (l0_1 : List (S36)) (l1 : List (S38)) : Option (ByteArray × Option Int) := (row_Check.f k a0_0 l0_1 l1).bind fun t196 => (if t196.isNone = true then ((row_Keys.f k a0_0 l0_1).bind fun t198 => (row_Key.l0 k l1 ([] : List (S38)) t198 (t198.length : Int) 0)) else (some ((⟨#[]⟩ : ByteArray), some (t196.getD 0))))
theorem row_Key.mono_l : ∀ k, (∀ y0 y1 y2 y3 y4, LeO (row_Key.l0 k y0 y1 y2 y3 y4) (row_Key.l0 (k + 1) y0 y1 y2 y3 y4))
 | 0 => fun _ _ _ _ _ r h => by simp [row_Key.l0] at h
 | k + 1 => by
  have ih0 := row_Key.mono_l k
  ·intro y0 y1 y2 y3 y4
   unfold row_Key.l0
   repeat' first
   | (with_reducible exact ih0 _ _ _ _ _)
   | (with_reducible exact order_Encode.mono _ _)
   | (with_reducible exact row_Check.mono _ _ _ _)
   | (with_reducible exact row_Keys.mono _ _ _)
   | (with_reducible exact LeO.refl _)
   | (with_reducible exact LeO.none _)
   | (with_reducible refine LeO.ite ?_ ?_)
   | (with_reducible refine LeO.bind ?_ (fun _ => ?_))
   | exact ih0 _ _ _ _ _
   | exact order_Encode.mono _ _
   | exact row_Check.mono _ _ _ _
   | exact row_Keys.mono _ _ _
   | exact LeO.none _
   | refine LeO.ite ?_ ?_
   | refine LeO.bind ?_ (fun _ => ?_)
theorem row_Key.mono : ∀ a0 a1 a2 k, LeO (row_Key.f k a0 a1 a2) (row_Key.f (k + 1) a0 a1 a2) := by
 intro a0 a1 a2 k
 have ih0 := row_Key.mono_l k
 unfold row_Key.f
 repeat' first
   | (with_reducible exact ih0 _ _ _ _ _)
   | (with_reducible exact order_Encode.mono _ _)
   | (with_reducible exact row_Check.mono _ _ _ _)
   | (with_reducible exact row_Keys.mono _ _ _)
   | (with_reducible exact LeO.refl _)
   | (with_reducible exact LeO.none _)
   | (with_reducible refine LeO.ite ?_ ?_)
   | (with_reducible refine LeO.bind ?_ (fun _ => ?_))
   | exact ih0 _ _ _ _ _
   | exact order_Encode.mono _ _
   | exact row_Check.mono _ _ _ _
   | exact row_Keys.mono _ _ _
   | exact LeO.none _
   | refine LeO.ite ?_ ?_
   | refine LeO.bind ?_ (fun _ => ?_)
set_option maxHeartbeats 8000000 in
set_option maxRecDepth 100000 in
theorem row_Key.calls (k : Nat) (a0_0 : ByteArray) (A0_1 : Option Addr) (c0_1 : Nat) (l0_1 : List (S36)) (A1 : Option Addr) (c1 : Nat) (l1 : List (S38)) (r1 : ByteArray) (r2 : Option Int) (w : World) (hr0_1 : Kd.C k36 w A0_1 l0_1.length l0_1) (hc0_1 : l0_1.length ≤ c0_1) (hr1 : Kd.C k38 w A1 l1.length l1) (hc1 : l1.length ≤ c1) (h : row_Key.f k a0_0 l0_1 l1 = some (r1, r2)) :
  Calls Tryd.prog 12 #[.agg #[.string a0_0, .slice A0_1 l0_1.length c0_1], .slice A1 l1.length c1] w fun e w' => e = .returned (.tuple #[.string r1, errW r2]) ∧ Below w.heap.size w w' := by
 have hu24 := Tryd.underlying24
 have hu38 := Tryd.underlying38
 have hu28 := Tryd.underlying28
 have hu72 := Tryd.underlying72
 have HR0_1 := Aside0.mk hr0_1
 have HC0_1 := Aside0.mk hc0_1
 clear hr0_1 hc0_1
 have HR1 := Aside0.mk hr1
 have HC1 := Aside0.mk hc1
 clear hr1 hc1
 have HB := Aside0.mk (Below.refl w.heap.size w)
 have H : ((row_Check.f k a0_0 l0_1 l1).bind fun t196 => (if t196.isNone = true then ((row_Keys.f k a0_0 l0_1).bind fun t198 => (row_Key.l0 k l1 ([] : List (S38)) t198 (t198.length : Int) 0)) else (some ((⟨#[]⟩ : ByteArray), some (t196.getD 0))))) = some (r1, r2) := h
 clear h
 replace H := Option.bind_eq_some_iff.mp H
 obtain ⟨t196, A30, H⟩ := H
 replace H : (if t196.isNone = true then ((row_Keys.f k a0_0 l0_1).bind fun t198 => (row_Key.l0 k l1 ([] : List (S38)) t198 (t198.length : Int) 0)) else (some ((⟨#[]⟩ : ByteArray), some (t196.getD 0)))) = some (r1, r2) := H
 have A3 := Aside0.mk A30
 clear A30
 rcases t196 with _ | q197
 ·have H1 : ((row_Keys.f k a0_0 l0_1).bind fun t198 => (row_Key.l0 k l1 ([] : List (S38)) t198 (t198.length : Int) 0)) = some (r1, r2) := by rw [if_pos (show (none : Option Int).isNone = true by rfl)] at H; exact H
  clear H
  have H := H1
  clear H1
  try simp only [eWn, eWs]
  replace H := Option.bind_eq_some_iff.mp H
  obtain ⟨t198, A40, H⟩ := H
  replace H : (row_Key.l0 k l1 ([] : List (S38)) t198 (t198.length : Int) 0) = some (r1, r2) := H
  have A4 := Aside0.mk A40
  clear A40
  have H' := Aside0.mk H
  clear H
  go_enter Tryd.func12, Tryd.ntmps12
  go_wp2_with (first | ((with_reducible refine qgd (N := 2) rfl ?_); refine qbe ?hg (N := 2) ?hd (cs := #[.string a0_0, .slice A0_1 l0_1.length c0_1]) (t := 24) ?hr ?_; (case hd => rfl); (case hg => rfl); (case hr => first | (go_simp; done) | (go_simp; rfl)); intro gb195 hg w5 hbox hb; have n0_ := Aside0.mk (below_step (by repeat (first | (with_reducible first | exact HB.out | apply below_alloc | apply qbN | apply qb1) | exact HB.out)) hb); have n1_ := Aside0.mk (hbox); have n2_ := Aside0.mk ((by rw [hg]; exact (qbz (by repeat (first | (with_reducible first | exact HB.out | apply below_alloc | apply qbN | apply qb1) | exact HB.out))) : w.heap.size ≤ gb195)); have n3_ := Aside0.mk ((by rw [hg]; exact (qbz (by repeat (first | (with_reducible first | exact HB.out | apply below_alloc | apply qbN | apply qb1) | exact HB.out))) : w.heap.size ≤ gb195)); clear HB; have HB := n0_; have BK195 := n1_; have GW195 := n2_; have GE195 := n3_; clear n0_ n1_ n2_ n3_; clear hb hbox hg; have hcz6_0 : w5.cell? ⟨gb195, 0, none⟩ = some (.string a0_0) := (qkc BK195.out 0).trans rfl; have hcz6_1 : w5.cell? ⟨gb195, 1, none⟩ = some (.slice A0_1 l0_1.length c0_1) := (qkc BK195.out 1).trans rfl; have hfz6_0 := qkf BK195.out 0; have hfz6_1 := qkf BK195.out 1) | ((with_reducible refine qgc (f := 35) rfl ?_); refine goesL_ (some 12) rfl rfl Tryd.func35 (by kernel_rfl) rfl #[.agg #[.string a0_0, .slice A0_1 l0_1.length c0_1], .slice A1 l1.length c1] rfl (by (try simp only [List.map_toArray, List.map_cons, List.map_nil]); first | done | rfl | (simp only [List.length_drop, List.length_take]; rfl)) ?_; (with_reducible refine (row_Check.calls k a0_0 _ _ l0_1 _ _ l1 none _ ?side1 ?side2 ?side3 ?side4 A3.out).mono ?_); (case side1 => repeat (first | exact (Kd.C_below HR0_1.out HB.out) | (with_reducible refine Kd.C_alloc ?_ _) | (with_reducible refine Kd.C_drewN ?_ _) | (with_reducible refine Kd.C_drew ?_))); (case side2 => exact HC0_1.out); (case side3 => repeat (first | exact (Kd.C_below HR1.out HB.out) | (with_reducible refine Kd.C_alloc ?_ _) | (with_reducible refine Kd.C_drewN ?_ _) | (with_reducible refine Kd.C_drew ?_))); (case side4 => exact HC1.out); rintro e w7 ⟨rfl, hb⟩; refine ⟨_, rfl, ?_⟩; have n0_ := Aside0.mk (qkb (g := gb195) (o := .cells #[.string a0_0, .slice A0_1 l0_1.length c0_1] 24 (0, 0)) (by (with_reducible repeat (first | refine qkN ?_ _ | refine qkd ?_ | refine qka ?_ _)); exact BK195.out) hb); have n1_ := Aside0.mk (below_step (by repeat (first | (with_reducible first | exact HB.out | apply below_alloc | apply qbN | apply qb1 | refine qbs ?_ GE195.out) | exact HB.out)) hb); clear BK195; clear HB; have BK195 := n0_; have HB := n1_; clear n0_ n1_; (try clear hb); (try clear hb2); (try clear hk); (try clear hi); (try simp only [eWn, eWs]); have hcz8_0 : w7.cell? ⟨gb195, 0, none⟩ = some (.string a0_0) := (qkc BK195.out 0).trans rfl; have hcz8_1 : w7.cell? ⟨gb195, 1, none⟩ = some (.slice A0_1 l0_1.length c0_1) := (qkc BK195.out 1).trans rfl; have hfz8_0 := qkf BK195.out 0; have hfz8_1 := qkf BK195.out 1) | ((with_reducible refine qgc (f := 38) rfl ?_); refine goesL_ (some 17) rfl rfl Tryd.func38 (by kernel_rfl) rfl #[.agg #[.string a0_0, .slice A0_1 l0_1.length c0_1]] rfl (by (try simp only [List.map_toArray, List.map_cons, List.map_nil]); first | done | rfl | (simp only [List.length_drop, List.length_take]; rfl)) ?_; (with_reducible refine (row_Keys.calls k a0_0 _ _ l0_1 t198 _ ?side1 ?side2 A4.out).mono ?_); (case side1 => repeat (first | exact (Kd.C_below HR0_1.out HB.out) | (with_reducible refine Kd.C_alloc ?_ _) | (with_reducible refine Kd.C_drewN ?_ _) | (with_reducible refine Kd.C_drew ?_))); (case side2 => exact HC0_1.out); rintro e w9 ⟨v199, rfl, ho0, hb⟩; refine ⟨_, rfl, ?_⟩; have n0_ := Aside0.mk (Kd.R_lower ho0 (qbz (by repeat (first | (with_reducible first | exact HB.out | apply below_alloc | apply qbN | apply qb1 | refine qbs ?_ GE195.out) | exact HB.out)))); have n1_ := Aside0.mk (qkb (g := gb195) (o := .cells #[.string a0_0, .slice A0_1 l0_1.length c0_1] 24 (0, 0)) (by (with_reducible repeat (first | refine qkN ?_ _ | refine qkd ?_ | refine qka ?_ _)); exact BK195.out) hb); have n2_ := Aside0.mk (below_step (by repeat (first | (with_reducible first | exact HB.out | apply below_alloc | apply qbN | apply qb1 | refine qbs ?_ GE195.out) | exact HB.out)) hb); clear BK195; clear HB; have HO200 := n0_; have BK195 := n1_; have HB := n2_; clear n0_ n1_ n2_; (try clear hb); (try clear hb2); (try clear hk); (try clear hi); (try clear ho0); obtain ⟨Ao10, co10, eo10⟩ := Kd.R_slice HO200.out; subst eo10))
  go_loopg [7, 19] k (fun kq v7 v19 w' => ∃ (x7_1 : List (S38)) (x19_1 : Int), v19 = .int .i64 x19_1 ∧ Aside0 (row_Key.l0 kq l1 x7_1 t198 (t198.length : Int) x19_1 = some (r1, r2)) ∧ Aside0 (kq ≤ k) ∧ Aside0 (Kd.R k38 38 w' w.heap.size (fun _ => True) v7 x7_1) ∧ Aside0 (Kd.R (Kd.int .i64) 3 w' w.heap.size (fun _ => True) (.slice Ao10 t198.length co10) t198) ∧ Aside0 (w'.heap[gb195]? = some (.cells #[.string a0_0, (.slice A0_1 l0_1.length c0_1)] 24 (0, 0))) ∧ Aside0 (Below w.heap.size w w'))
  case atStart => exact ⟨(([] : List (S38))), (0), (by first | rfl | (simp; done) | (simp [*]; done)), H', ⟨Nat.le_refl _⟩, ⟨by first | exact Kd.R_nil _ _ _ _ _ | exact Kd.N_nil _ _ _ _ _ | exact Kd.V_nil _ _ _ _ _ | exact Kd.Q_nil _ _ _ _ _ | exact Kd.S_nil _ _ _ _ _⟩, ⟨by (with_reducible repeat (first | apply Kd.R_alloc | apply Kd.R_drewN | apply Kd.R_drew)); exact HO200.out⟩, ⟨by (with_reducible repeat (first | refine qkN ?_ _ | refine qkd ?_ | refine qka ?_ _)); exact BK195.out⟩, ⟨by repeat (first | (with_reducible first | exact HB.out | apply below_alloc | apply qbN | apply qb1 | refine qbs ?_ GE195.out) | exact HB.out)⟩⟩
  case round =>
   clear H'
   try clear c1
   try clear q1
   try clear p2
   try clear c3
   try clear hcz6_0
   try clear hcz6_1
   try clear hcz8_0
   try clear hcz8_1
   try clear hfz6_0
   try clear hfz6_1
   try clear hfz8_0
   try clear hfz8_1
   try clear q197
   obtain ⟨x7_1, x19_1, rfl, HA, HK1, HO_7, HO_17, BK195, HB⟩ := hrel
   cases gk with
   | zero => exact absurd HA.out (by simp [row_Key.l0])
   | succ k1 =>
    have H := HA.out
    clear HA
    simp only [row_Key.l0] at H
    by_cases c11 : x19_1 < (t198.length : Int)
    ·rw [if_pos c11] at H
     have c11b0 : decide (x19_1 < (t198.length : Int)) = true := decide_eq_true c11
     clear c11
     by_cases c12 : 0 ≤ x19_1
     ·rw [if_pos c12] at H
      have c12b0 : decide (0 ≤ x19_1) = true := decide_eq_true c12
      clear c12
      by_cases c13 : x19_1 < (t198.length : Int)
      ·rw [if_pos c13] at H
       have c13b0 : decide (x19_1 < (t198.length : Int)) = true := decide_eq_true c13
       clear c13
       by_cases c14 : 0 ≤ (rd t198 x19_1)
       ·rw [if_pos c14] at H
        have c14b0 : decide (0 ≤ (rd t198 x19_1)) = true := decide_eq_true c14
        clear c14
        by_cases c15 : (rd t198 x19_1) < (l1.length : Int)
        ·rw [if_pos c15] at H
         have c15b0 : decide ((rd t198 x19_1) < (l1.length : Int)) = true := decide_eq_true c15
         clear c15
         by_cases c16 : x7_1.length < 3518437208883
         ·rw [if_pos c16] at H
          have LMc16 := Aside0.mk c16
          clear c16
          obtain ⟨y203, hy203⟩ : ∃ y_ : List (S38), y_ = (x7_1 ++ [(⟨(r8 l1 (rd t198 x19_1)).f0, (r8 l1 (rd t198 x19_1)).f1, (r8 l1 (rd t198 x19_1)).f2, (r8 l1 (rd t198 x19_1)).f3⟩ : S38)]) := ⟨_, rfl⟩
          replace H : (row_Key.l0 k1 l1 y203 t198 (t198.length : Int) (wrap64 (x19_1 + 1))) = some (r1, r2) := by first | (rw [hy203]; with_reducible exact H) | (have H2_ := (Option.bind_some _ _).symm.trans H; rw [hy203]; with_reducible exact H2_) | (have H2_ := (Option.bind_some _ _).symm.trans H; with_reducible exact H2_) | with_reducible exact H | (rw [hy203]; exact H) | exact H
          have Ny203 := Aside0.mk hy203
          clear hy203
          have H' := Aside0.mk H
          clear H
          have p201 : 0 ≤ (x19_1 : Int) := ode_
          have q201 : x19_1 < (t198.length : Int) := ode_
          obtain ⟨ad201, e201, hx201_0⟩ := Kd.at_int (Kd.R_reads' HO_17.out).2.2 x19_1 p201 q201
          cases e201
          replace p201 := eq_true p201
          replace q201 := eq_true q201
          have p202 : 0 ≤ ((rd t198 x19_1) : Int) := ode_
          have q202 : (rd t198 x19_1) < (l1.length : Int) := ode_
          obtain ⟨ad202, e202, hx202_0, hx202_1, hx202_2, hx202_3⟩ := at_T38 HR1.out (rd t198 x19_1) p202 q202
          cases e202
          replace hx202_0 := (HB.out.cell (World.block_lt_of_cell? w _ hx202_0)).trans hx202_0
          replace hx202_1 := (HB.out.cell (World.block_lt_of_cell? w _ hx202_1)).trans hx202_1
          replace hx202_2 := (HB.out.cell (World.block_lt_of_cell? w _ hx202_2)).trans hx202_2
          replace hx202_3 := (HB.out.cell (World.block_lt_of_cell? w _ hx202_3)).trans hx202_3
          replace p202 := eq_true p202
          replace q202 := eq_true q202
          go_wp2_with (first | ((with_reducible refine gate_builtin (b := .append) (xs := #[.tmp 23, .tmp 28]) rfl ?_); at_builtin; refine Kd.R_append k38 (w0 := w) w.heap.size rfl (.tmp 23) (.tmp 28) 25 38 (.agg #[(.int .i64 0), (.int .i64 0), (.string ⟨#[]⟩), (.bool false)]) 40 rfl Tryd.underlying25 info38 rfl (by decide) (by omega) u7 x7_1 (⟨(r8 l1 (rd t198 x19_1)).f0, (r8 l1 (rd t198 x19_1)).f1, (r8 l1 (rd t198 x19_1)).f2, (r8 l1 (rd t198 x19_1)).f3⟩ : S38) [.int .i64 ((r8 l1 (rd t198 x19_1)).f0), .int .i64 ((r8 l1 (rd t198 x19_1)).f1), .string ((r8 l1 (rd t198 x19_1)).f2), .bool ((r8 l1 (rd t198 x19_1)).f3)] (fun _ => True) (fun _ => False) rfl rfl ?aP (fun _ hk => hk.elim) ?aF ?aO ?aB ?aS ?aL ?_; (case aP => exact k38_mkM _ _ _ (⟨(r8 l1 (rd t198 x19_1)).f0, (r8 l1 (rd t198 x19_1)).f1, (r8 l1 (rd t198 x19_1)).f2, (r8 l1 (rd t198 x19_1)).f3⟩ : S38)); (case aB => exact (by repeat (first | (with_reducible first | exact HB.out | apply below_alloc | apply qbN | apply qb1 | refine qbs ?_ GE195.out) | exact HB.out))); (case aF => exact (fun _ _ => trivial)); (case aO => exact (by (with_reducible repeat (first | apply Kd.R_alloc | apply Kd.R_drewN | apply Kd.R_drew)); exact HO_7.out)); (case aS => exact (qbz (by repeat (first | (with_reducible first | exact HB.out | apply below_alloc | apply qbN | apply qb1 | refine qbs ?_ GE195.out) | exact HB.out)))); (case aL => have := LMc16.out; omega); intro v204 w17 ho hb hg hat; rw [← Ny203.out] at ho; have n0_ := Aside0.mk (Kd.R_over' (by (with_reducible repeat (first | apply Kd.R_alloc | apply Kd.R_drewN | apply Kd.R_drew)); exact HO_17.out) (Kd.R_typed (by (with_reducible repeat (first | apply Kd.R_alloc | apply Kd.R_drewN | apply Kd.R_drew)); exact HO_7.out)) (by decide) hg); have n1_ := Aside0.mk (blk_grown (g := gb195) (o := .cells #[.string a0_0, .slice A0_1 l0_1.length c0_1] 24 (0, 0)) (by (with_reducible repeat (first | refine qkN ?_ _ | refine qkd ?_ | refine qka ?_ _)); exact BK195.out) hg (Kd.R_ne HO_7.out BK195.out (by decide))); have n2_ := Aside0.mk (hb); have n3_ := Aside0.mk (ho); clear HO_17; clear BK195; clear HB; clear HO_7; have HO_17 := n0_; have BK195 := n1_; have HB := n2_; have HO205 := n3_; clear n0_ n1_ n2_ n3_; clear ho hb hg hat))
          go_roundg k1
          case measure => have := HK1.out; omega
          case rel => exact ⟨(y203), (wrap64 (x19_1 + 1)), (by first | rfl | (simp; done) | (simp [*]; done)), H', ⟨by have := HK1.out; omega⟩, ⟨by (with_reducible repeat (first | apply Kd.R_alloc | apply Kd.R_drewN | apply Kd.R_drew)); exact HO205.out⟩, ⟨by (with_reducible repeat (first | apply Kd.R_alloc | apply Kd.R_drewN | apply Kd.R_drew)); exact HO_17.out⟩, ⟨by (with_reducible repeat (first | refine qkN ?_ _ | refine qkd ?_ | refine qka ?_ _)); exact BK195.out⟩, ⟨by repeat (first | (with_reducible first | exact HB.out | apply below_alloc | apply qbN | apply qb1 | refine qbs ?_ GE195.out) | exact HB.out)⟩⟩
         ·rw [if_neg c16] at H
          exact absurd H (by simp)
        ·rw [if_neg c15] at H
         exact absurd H (by simp)
       ·rw [if_neg c14] at H
        exact absurd H (by simp)
      ·rw [if_neg c13] at H
       exact absurd H (by simp)
     ·rw [if_neg c12] at H
      exact absurd H (by simp)
    ·rw [if_neg c11] at H
     have c11b0 : decide (x19_1 < (t198.length : Int)) = false := decide_eq_false c11
     clear c11
     replace H := Option.bind_eq_some_iff.mp H
     obtain ⟨⟨t206, t207⟩, A180, H⟩ := H
     replace H : (some (t206, t207)) = some (r1, r2) := H
     have A18 := Aside0.mk A180
     clear A180
     simp only [Option.some.injEq, Prod.mk.injEq] at H
     obtain ⟨rfl, rfl⟩ := H
     obtain ⟨Ao19, co19, eo19⟩ := Kd.R_slice HO_7.out
     subst eo19
     go_wp2_with (first | ((with_reducible refine qgc (f := 39) rfl ?_); refine goesL_ (some 32) rfl rfl Tryd.func39 (by kernel_rfl) rfl #[.slice Ao19 x7_1.length co19] rfl (by (try simp only [List.map_toArray, List.map_cons, List.map_nil]); first | done | rfl | (simp only [List.length_drop, List.length_take]; rfl)) ?_; (with_reducible refine (order_Encode.calls k1 _ _ x7_1 t206 t207 _ ?side1 ?side2 A18.out).mono ?_); (case side1 => repeat (first | exact (Kd.R_reads' HO_7.out).2.2 | (with_reducible refine Kd.C_alloc ?_ _) | (with_reducible refine Kd.C_drewN ?_ _) | (with_reducible refine Kd.C_drew ?_))); (case side2 => exact (Kd.R_reads' HO_7.out).2.1); rintro e w20 ⟨rfl, hb⟩; refine ⟨_, rfl, ?_⟩; have n0_ := Aside0.mk (Kd.R_below (by (with_reducible repeat (first | apply Kd.R_alloc | apply Kd.R_drewN | apply Kd.R_drew)); exact HO_7.out) hb); have n1_ := Aside0.mk (Kd.R_below (by (with_reducible repeat (first | apply Kd.R_alloc | apply Kd.R_drewN | apply Kd.R_drew)); exact HO_17.out) hb); have n2_ := Aside0.mk (qkb (g := gb195) (o := .cells #[.string a0_0, .slice A0_1 l0_1.length c0_1] 24 (0, 0)) (by (with_reducible repeat (first | refine qkN ?_ _ | refine qkd ?_ | refine qka ?_ _)); exact BK195.out) hb); have n3_ := Aside0.mk (below_step (by repeat (first | (with_reducible first | exact HB.out | apply below_alloc | apply qbN | apply qb1 | refine qbs ?_ GE195.out) | exact HB.out)) hb); clear HO_7; clear HO_17; clear BK195; clear HB; have HO_7 := n0_; have HO_17 := n1_; have BK195 := n2_; have HB := n3_; clear n0_ n1_ n2_ n3_; (try clear hb); (try clear hb2); (try clear hk); (try clear hi); (try simp only [eWn, eWs])))
     go_ret2
     exact ⟨by first | rfl | (simp [eWn, eWs] <;> rfl) | (simp [*, eWn, eWs] <;> rfl), by repeat (first | (with_reducible first | exact HB.out | apply below_alloc | apply qbN | apply qb1 | refine qbs ?_ GE195.out) | exact HB.out)⟩
 ·have H1 : (some ((⟨#[]⟩ : ByteArray), some q197)) = some (r1, r2) := by rw [if_neg (show ¬ (some q197).isNone = true by simp)] at H; exact H
  clear H
  have H := H1
  clear H1
  try simp only [eWn, eWs]
  simp only [Option.some.injEq, Prod.mk.injEq] at H
  obtain ⟨rfl, rfl⟩ := H
  go_enter Tryd.func12, Tryd.ntmps12
  go_wp2_with (first | ((with_reducible refine qgd (N := 2) rfl ?_); refine qbe ?hg (N := 2) ?hd (cs := #[.string a0_0, .slice A0_1 l0_1.length c0_1]) (t := 24) ?hr ?_; (case hd => rfl); (case hg => rfl); (case hr => first | (go_simp; done) | (go_simp; rfl)); intro gb195 hg w21 hbox hb; have n0_ := Aside0.mk (below_step (by repeat (first | (with_reducible first | exact HB.out | apply below_alloc | apply qbN | apply qb1) | exact HB.out)) hb); have n1_ := Aside0.mk (hbox); have n2_ := Aside0.mk ((by rw [hg]; exact (qbz (by repeat (first | (with_reducible first | exact HB.out | apply below_alloc | apply qbN | apply qb1) | exact HB.out))) : w.heap.size ≤ gb195)); have n3_ := Aside0.mk ((by rw [hg]; exact (qbz (by repeat (first | (with_reducible first | exact HB.out | apply below_alloc | apply qbN | apply qb1) | exact HB.out))) : w.heap.size ≤ gb195)); clear HB; have HB := n0_; have BK195 := n1_; have GW195 := n2_; have GE195 := n3_; clear n0_ n1_ n2_ n3_; clear hb hbox hg; have hcz22_0 : w21.cell? ⟨gb195, 0, none⟩ = some (.string a0_0) := (qkc BK195.out 0).trans rfl; have hcz22_1 : w21.cell? ⟨gb195, 1, none⟩ = some (.slice A0_1 l0_1.length c0_1) := (qkc BK195.out 1).trans rfl; have hfz22_0 := qkf BK195.out 0; have hfz22_1 := qkf BK195.out 1) | ((with_reducible refine qgc (f := 35) rfl ?_); refine goesL_ (some 12) rfl rfl Tryd.func35 (by kernel_rfl) rfl #[.agg #[.string a0_0, .slice A0_1 l0_1.length c0_1], .slice A1 l1.length c1] rfl (by (try simp only [List.map_toArray, List.map_cons, List.map_nil]); first | done | rfl | (simp only [List.length_drop, List.length_take]; rfl)) ?_; (with_reducible refine (row_Check.calls k a0_0 _ _ l0_1 _ _ l1 (some q197) _ ?side1 ?side2 ?side3 ?side4 A3.out).mono ?_); (case side1 => repeat (first | exact (Kd.C_below HR0_1.out HB.out) | (with_reducible refine Kd.C_alloc ?_ _) | (with_reducible refine Kd.C_drewN ?_ _) | (with_reducible refine Kd.C_drew ?_))); (case side2 => exact HC0_1.out); (case side3 => repeat (first | exact (Kd.C_below HR1.out HB.out) | (with_reducible refine Kd.C_alloc ?_ _) | (with_reducible refine Kd.C_drewN ?_ _) | (with_reducible refine Kd.C_drew ?_))); (case side4 => exact HC1.out); rintro e w23 ⟨rfl, hb⟩; refine ⟨_, rfl, ?_⟩; have n0_ := Aside0.mk (qkb (g := gb195) (o := .cells #[.string a0_0, .slice A0_1 l0_1.length c0_1] 24 (0, 0)) (by (with_reducible repeat (first | refine qkN ?_ _ | refine qkd ?_ | refine qka ?_ _)); exact BK195.out) hb); have n1_ := Aside0.mk (below_step (by repeat (first | (with_reducible first | exact HB.out | apply below_alloc | apply qbN | apply qb1 | refine qbs ?_ GE195.out) | exact HB.out)) hb); clear BK195; clear HB; have BK195 := n0_; have HB := n1_; clear n0_ n1_; (try clear hb); (try clear hb2); (try clear hk); (try clear hi); (try simp only [eWn, eWs])))
  go_ret2
  exact ⟨by first | rfl | (simp [eWn, eWs] <;> rfl) | (simp [*, eWn, eWs] <;> rfl), by repeat (first | (with_reducible first | exact HB.out | apply below_alloc | apply qbN | apply qb1 | refine qbs ?_ GE195.out) | exact HB.out)⟩

/-! ### EXT barbicanlaw14_num: function 18 -/
def barbicanlaw14_num.f (a0 : Option Int) : Option Int := some (a0.getD 0)
theorem barbicanlaw14_num.calls (a0 : Option Int) (r : Int) (w : World) (hG : GW w) (h : barbicanlaw14_num.f a0 = some r) :
  Calls Tryd.prog 18 #[errW a0] w fun e w' => e = .returned (.int .i64 r) ∧ Below w.heap.size w w' := by
 obtain rfl := Option.some.inj h
 have hu := Tryd.underlying72
 have hu2 := Tryd.underlying28
 cases a0 with
 | none =>
  simp only [eWn]
  go_enter Tryd.func18, Tryd.ntmps18
  go_wp2
  go_ret
  exact ⟨rfl, below_alloc (Below.refl _ _) _⟩
 | some c =>
  simp only [eWs]
  have hg : (w.alloc (.cells #[.int .i64 0] 72)).cell? ⟨0, 0, none⟩ = some (.iface 142 (.agg #[.pointer (some ⟨10, 28, none⟩)])) := by
   rw [World.cell?_alloc_lt _ _ ⟨0, 0, none⟩ (World.block_lt_of_cell? w _ hG.e)]; exact hG.e
  have C := fun ht hf => as_hit c ⟨w.heap.size, 0, none⟩ (.int .i64 0) (w.alloc (.cells #[.int .i64 0] 72)) hg ht hf
  go_enter Tryd.func18, Tryd.ntmps18
  go_wp2_with (go_at_call 46; refine (C (by simp) (by simp)).mono ?_; rintro e w' ⟨rfl, rfl⟩)
  go_ret
  refine ⟨rfl, ?_⟩
  repeat (first | exact Below.refl _ _ | apply below_alloc | refine Below.setCell ?_ (Nat.le_refl _) _)

/-! ### barbicanlaw14_sure: function 13 -/
def barbicanlaw14_sure.f (k : Nat)  : Option (Bool) := (some (([(⟨(⟨#[107]⟩ : ByteArray), 1, true, false⟩ : S36), (⟨(⟨#[115]⟩ : ByteArray), 2, false, true⟩ : S36)] : List (S36)) : List (S36))).bind fun y208 => ((row_Encode.f k (⟨#[]⟩ : ByteArray) y208 (([(⟨1, (-1), (⟨#[]⟩ : ByteArray), false⟩ : S38), (⟨0, 0, (⟨#[]⟩ : ByteArray), false⟩ : S38)] : List (S38)))).bind fun bt215 => (if (strOfNums bt215.1).toList = ([1, 1, 0] : List UInt8) then (if bt215.2.isNone = true then ((row_Check.f k (⟨#[]⟩ : ByteArray) y208 (([(⟨0, 0, (⟨#[]⟩ : ByteArray), false⟩ : S38), (⟨0, 0, (⟨#[]⟩ : ByteArray), false⟩ : S38)] : List (S38)))).bind fun t223 => ((barbicanlaw14_num.f t223).bind fun t224 => (some (t224 == 33)))) else (some false)) else (some false)))
theorem barbicanlaw14_sure.mono : ∀ k, LeO (barbicanlaw14_sure.f k ) (barbicanlaw14_sure.f (k + 1) ) := by
 intro  k
 unfold barbicanlaw14_sure.f
 repeat' first
   | (with_reducible exact row_Check.mono _ _ _ _)
   | (with_reducible exact row_Encode.mono _ _ _ _)
   | (with_reducible exact LeO.refl _)
   | (with_reducible exact LeO.none _)
   | (with_reducible refine LeO.ite ?_ ?_)
   | (with_reducible refine LeO.bind ?_ (fun _ => ?_))
   | exact row_Check.mono _ _ _ _
   | exact row_Encode.mono _ _ _ _
   | exact LeO.none _
   | refine LeO.ite ?_ ?_
   | refine LeO.bind ?_ (fun _ => ?_)
set_option maxHeartbeats 8000000 in
set_option maxRecDepth 100000 in
theorem barbicanlaw14_sure.calls (k : Nat)  (r : Bool) (w : World) (hG : GW w) (h : barbicanlaw14_sure.f k  = some r) :
  Calls Tryd.prog 13 #[] w fun e w' => e = .returned (.bool r) ∧ Below w.heap.size w w' := by
 have hu36 := Tryd.underlying36
 have hu24 := Tryd.underlying24
 have hu38 := Tryd.underlying38
 have hu28 := Tryd.underlying28
 have hu72 := Tryd.underlying72
 have HB := Aside0.mk (Below.refl w.heap.size w)
 have HG := Aside0.mk hG
 clear hG
 have H : ((some (([(⟨(⟨#[107]⟩ : ByteArray), 1, true, false⟩ : S36), (⟨(⟨#[115]⟩ : ByteArray), 2, false, true⟩ : S36)] : List (S36)) : List (S36))).bind fun y208 => ((row_Encode.f k (⟨#[]⟩ : ByteArray) y208 (([(⟨1, (-1), (⟨#[]⟩ : ByteArray), false⟩ : S38), (⟨0, 0, (⟨#[]⟩ : ByteArray), false⟩ : S38)] : List (S38)))).bind fun bt215 => (if (strOfNums bt215.1).toList = ([1, 1, 0] : List UInt8) then (if bt215.2.isNone = true then ((row_Check.f k (⟨#[]⟩ : ByteArray) y208 (([(⟨0, 0, (⟨#[]⟩ : ByteArray), false⟩ : S38), (⟨0, 0, (⟨#[]⟩ : ByteArray), false⟩ : S38)] : List (S38)))).bind fun t223 => ((barbicanlaw14_num.f t223).bind fun t224 => (some (t224 == 33)))) else (some false)) else (some false)))) = some r := h
 clear h
 obtain ⟨y208, hy208⟩ : ∃ y_ : List (S36), y_ = (([(⟨(⟨#[107]⟩ : ByteArray), 1, true, false⟩ : S36), (⟨(⟨#[115]⟩ : ByteArray), 2, false, true⟩ : S36)] : List (S36))) := ⟨_, rfl⟩
 replace H : ((row_Encode.f k (⟨#[]⟩ : ByteArray) y208 (([(⟨1, (-1), (⟨#[]⟩ : ByteArray), false⟩ : S38), (⟨0, 0, (⟨#[]⟩ : ByteArray), false⟩ : S38)] : List (S38)))).bind fun bt215 => (if (strOfNums bt215.1).toList = ([1, 1, 0] : List UInt8) then (if bt215.2.isNone = true then ((row_Check.f k (⟨#[]⟩ : ByteArray) y208 (([(⟨0, 0, (⟨#[]⟩ : ByteArray), false⟩ : S38), (⟨0, 0, (⟨#[]⟩ : ByteArray), false⟩ : S38)] : List (S38)))).bind fun t223 => ((barbicanlaw14_num.f t223).bind fun t224 => (some (t224 == 33)))) else (some false)) else (some false))) = some r := by first | (rw [hy208]; with_reducible exact H) | (have H2_ := (Option.bind_some _ _).symm.trans H; rw [hy208]; with_reducible exact H2_) | (have H2_ := (Option.bind_some _ _).symm.trans H; with_reducible exact H2_) | with_reducible exact H | (rw [hy208]; exact H) | exact H
 have Ny208 := Aside0.mk hy208
 clear hy208
 obtain ⟨y212, hy212⟩ : ∃ y_ : List (S38), y_ = (([(⟨1, (-1), (⟨#[]⟩ : ByteArray), false⟩ : S38), (⟨0, 0, (⟨#[]⟩ : ByteArray), false⟩ : S38)] : List (S38))) := ⟨_, rfl⟩
 replace H : ((row_Encode.f k (⟨#[]⟩ : ByteArray) y208 y212).bind fun bt215 => (if (strOfNums bt215.1).toList = ([1, 1, 0] : List UInt8) then (if bt215.2.isNone = true then ((row_Check.f k (⟨#[]⟩ : ByteArray) y208 (([(⟨0, 0, (⟨#[]⟩ : ByteArray), false⟩ : S38), (⟨0, 0, (⟨#[]⟩ : ByteArray), false⟩ : S38)] : List (S38)))).bind fun t223 => ((barbicanlaw14_num.f t223).bind fun t224 => (some (t224 == 33)))) else (some false)) else (some false))) = some r := by first | (rw [hy212]; with_reducible exact H) | (have H2_ := (Option.bind_some _ _).symm.trans H; rw [hy212]; with_reducible exact H2_) | (have H2_ := (Option.bind_some _ _).symm.trans H; with_reducible exact H2_) | with_reducible exact H | (rw [hy212]; exact H) | exact H
 have Ny212 := Aside0.mk hy212
 clear hy212
 replace H := Option.bind_eq_some_iff.mp H
 obtain ⟨⟨t215, t218⟩, A10, H⟩ := H
 replace H : (if (strOfNums t215).toList = ([1, 1, 0] : List UInt8) then (if t218.isNone = true then ((row_Check.f k (⟨#[]⟩ : ByteArray) y208 (([(⟨0, 0, (⟨#[]⟩ : ByteArray), false⟩ : S38), (⟨0, 0, (⟨#[]⟩ : ByteArray), false⟩ : S38)] : List (S38)))).bind fun t223 => ((barbicanlaw14_num.f t223).bind fun t224 => (some (t224 == 33)))) else (some false)) else (some false)) = some r := H
 have A1 := Aside0.mk A10
 clear A10
 by_cases c2 : (strOfNums t215).toList = ([1, 1, 0] : List UInt8)
 ·rw [if_pos c2] at H
  have c2b0 : ((strOfNums t215).toList == ([1, 1, 0] : List UInt8)) = true := beq_iff_eq.mpr c2
  have c2b1 : ((strOfNums t215).toList != ([1, 1, 0] : List UInt8)) = false := bne_eq_false_iff_eq.mpr c2
  clear c2
  rcases t218 with _ | q219
  ·have H1 : ((row_Check.f k (⟨#[]⟩ : ByteArray) y208 (([(⟨0, 0, (⟨#[]⟩ : ByteArray), false⟩ : S38), (⟨0, 0, (⟨#[]⟩ : ByteArray), false⟩ : S38)] : List (S38)))).bind fun t223 => ((barbicanlaw14_num.f t223).bind fun t224 => (some (t224 == 33)))) = some r := by rw [if_pos (show (none : Option Int).isNone = true by rfl)] at H; exact H
   clear H
   have H := H1
   clear H1
   try simp only [eWn, eWs]
   obtain ⟨y220, hy220⟩ : ∃ y_ : List (S38), y_ = (([(⟨0, 0, (⟨#[]⟩ : ByteArray), false⟩ : S38), (⟨0, 0, (⟨#[]⟩ : ByteArray), false⟩ : S38)] : List (S38))) := ⟨_, rfl⟩
   replace H : ((row_Check.f k (⟨#[]⟩ : ByteArray) y208 y220).bind fun t223 => ((barbicanlaw14_num.f t223).bind fun t224 => (some (t224 == 33)))) = some r := by first | (rw [hy220]; with_reducible exact H) | (have H2_ := (Option.bind_some _ _).symm.trans H; rw [hy220]; with_reducible exact H2_) | (have H2_ := (Option.bind_some _ _).symm.trans H; with_reducible exact H2_) | with_reducible exact H | (rw [hy220]; exact H) | exact H
   have Ny220 := Aside0.mk hy220
   clear hy220
   replace H := Option.bind_eq_some_iff.mp H
   obtain ⟨t223, A30, H⟩ := H
   replace H : ((barbicanlaw14_num.f t223).bind fun t224 => (some (t224 == 33))) = some r := H
   have A3 := Aside0.mk A30
   clear A30
   replace H := Option.bind_eq_some_iff.mp H
   obtain ⟨t224, A40, H⟩ := H
   replace H : (some (t224 == 33)) = some r := H
   have A4 := Aside0.mk A40
   clear A40
   obtain rfl := Option.some.inj H
   go_enter Tryd.func13, Tryd.ntmps13
   go_wp2_with (first | ((with_reducible refine qgd (N := 6) rfl ?_); (try (refine gate_guard (by rfl) ?_; dsimp only)); refine Kd.R_lit k36 _ 36 ?hg (N := 6) ?hd (xs := ([(⟨(⟨#[107]⟩ : ByteArray), 1, true, false⟩ : S36), (⟨(⟨#[115]⟩ : ByteArray), 2, false, true⟩ : S36)] : List (S36))) (inner := [.string (⟨#[107]⟩ : ByteArray), .int .i64 1, .bool true, .bool false, .string (⟨#[115]⟩ : ByteArray), .int .i64 2, .bool false, .bool true]) (ok := fun _ => True) (okp := fun _ => True) ?hr ?hp (fun _ hk => hk) trivial (Below.refl _ _) (Nat.le_refl _) (by simp) ?_; (case hd => rfl); (case hg => rfl); (case hr => first | (go_simp; done) | (go_simp; rfl)); (case hp => exact (Reps.c4 (show Kd.M k36 _ _ _ (⟨(⟨#[107]⟩ : ByteArray), 1, true, false⟩ : S36) [.string (⟨#[107]⟩ : ByteArray), .int .i64 1, .bool true, .bool false] from (k36_mkM _ _ _ (⟨(⟨#[107]⟩ : ByteArray), 1, true, false⟩ : S36) )) (Reps.c4 (show Kd.M k36 _ _ _ (⟨(⟨#[115]⟩ : ByteArray), 2, false, true⟩ : S36) [.string (⟨#[115]⟩ : ByteArray), .int .i64 2, .bool false, .bool true] from (k36_mkM _ _ _ (⟨(⟨#[115]⟩ : ByteArray), 2, false, true⟩ : S36) )) (Reps.none _ _)))); intro v209 w5 ho6 hb hg_ hnew_; clear hg_ hnew_; (first | rw [← Ny208.out] at ho6 | (simp only [Int.reduceToNat] at ho6; rw [← Ny208.out] at ho6)); have n0_ := Aside0.mk (Kd.R_lower ho6 (qbz (by repeat (first | (with_reducible first | exact HB.out | apply below_alloc | apply qbN | apply qb1) | exact HB.out)))); have n1_ := Aside0.mk (below_step (by repeat (first | (with_reducible first | exact HB.out | apply below_alloc | apply qbN | apply qb1) | exact HB.out)) hb); clear HB; have HO210 := n0_; have HB := n1_; clear n0_ n1_; clear hb ho6; obtain ⟨Ao7, co7, eo7⟩ := Kd.R_slice HO210.out; subst eo7) | ((with_reducible refine qgd (N := 1) rfl ?_); (try (refine gate_guard (by rfl) ?_; dsimp only)); refine qbe ?hg (N := 1) ?hd (cs := #[.string (⟨#[]⟩ : ByteArray), .slice none 0 0]) (t := 24) ?hr ?_; (case hd => rfl); (case hg => rfl); (case hr => first | (go_simp; done) | (go_simp; rfl)); intro gb211 hg w8 hbox hb; have n0_ := Aside0.mk (Kd.R_below (by (with_reducible repeat (first | apply Kd.R_alloc | apply Kd.R_drewN | apply Kd.R_drew)); exact HO210.out) hb); have n1_ := Aside0.mk (below_step (by repeat (first | (with_reducible first | exact HB.out | apply below_alloc | apply qbN | apply qb1) | exact HB.out)) hb); have n2_ := Aside0.mk (hbox); have n3_ := Aside0.mk ((by rw [hg]; exact (qbz (by repeat (first | (with_reducible first | exact HB.out | apply below_alloc | apply qbN | apply qb1) | exact HB.out))) : w.heap.size ≤ gb211)); have n4_ := Aside0.mk ((by rw [hg]; exact (qbz (by repeat (first | (with_reducible first | exact HB.out | apply below_alloc | apply qbN | apply qb1) | exact HB.out))) : w.heap.size ≤ gb211)); clear HO210; clear HB; have HO210 := n0_; have HB := n1_; have BK211 := n2_; have GW211 := n3_; have GE211 := n4_; clear n0_ n1_ n2_ n3_ n4_; clear hb hbox hg; have hcz9_0 : w8.cell? ⟨gb211, 0, none⟩ = some (.string (⟨#[]⟩ : ByteArray)) := (qkc BK211.out 0).trans rfl; have hcz9_1 : w8.cell? ⟨gb211, 1, none⟩ = some (.slice none 0 0) := (qkc BK211.out 1).trans rfl; have hfz9_0 := qkf BK211.out 0; have hfz9_1 := qkf BK211.out 1) | ((with_reducible refine qgd (N := 12) rfl ?_); (try (refine gate_guard (by rfl) ?_; dsimp only)); refine Kd.R_lit k38 _ 38 ?hg (N := 12) ?hd (xs := ([(⟨1, (-1), (⟨#[]⟩ : ByteArray), false⟩ : S38), (⟨0, 0, (⟨#[]⟩ : ByteArray), false⟩ : S38)] : List (S38))) (inner := [.int .i64 1, .int .i64 (-1), .string (⟨#[]⟩ : ByteArray), .bool false, .int .i64 0, .int .i64 0, .string (⟨#[]⟩ : ByteArray), .bool false]) (ok := fun _ => True) (okp := fun _ => True) ?hr ?hp (fun _ hk => hk) trivial (Below.refl _ _) (Nat.le_refl _) (by simp) ?_; (case hd => rfl); (case hg => rfl); (case hr => first | (go_simp; done) | (go_simp; rfl)); (case hp => exact (Reps.c4 (show Kd.M k38 _ _ _ (⟨1, (-1), (⟨#[]⟩ : ByteArray), false⟩ : S38) [.int .i64 1, .int .i64 (-1), .string (⟨#[]⟩ : ByteArray), .bool false] from (k38_mkM _ _ _ (⟨1, (-1), (⟨#[]⟩ : ByteArray), false⟩ : S38) )) (Reps.c4 (show Kd.M k38 _ _ _ (⟨0, 0, (⟨#[]⟩ : ByteArray), false⟩ : S38) [.int .i64 0, .int .i64 0, .string (⟨#[]⟩ : ByteArray), .bool false] from (k38_mkM _ _ _ (⟨0, 0, (⟨#[]⟩ : ByteArray), false⟩ : S38) )) (Reps.none _ _)))); intro v213 w10 ho11 hb hg_ hnew_; clear hg_ hnew_; (first | rw [← Ny212.out] at ho11 | (simp only [Int.reduceToNat] at ho11; rw [← Ny212.out] at ho11)); have n0_ := Aside0.mk (Kd.R_below (by (with_reducible repeat (first | apply Kd.R_alloc | apply Kd.R_drewN | apply Kd.R_drew)); exact (Kd.R_mono (Kd.R_far (p := ⟨gb211, 1, none⟩) (Kd.R_far (p := ⟨gb211, 0, none⟩) (Kd.R_types HO210.out BK211.out (by decide)) (fun _ hk => hk.2) (.string (⟨#[]⟩ : ByteArray))) (fun _ hk => hk.2) (.slice Ao7 y208.length co7)) (fun _ h_ => h_.1))) hb); have n1_ := Aside0.mk (Kd.R_lower ho11 (qbz (by repeat (first | (with_reducible first | exact HB.out | apply below_alloc | apply qbN | apply qb1 | refine qbs ?_ GE211.out) | exact HB.out)))); have n2_ := Aside0.mk (qkb (g := gb211) (o := .cells #[.string (⟨#[]⟩ : ByteArray), .slice Ao7 y208.length co7] 24 (0, 0)) (by (with_reducible repeat (first | refine qkN ?_ _ | refine qkd ?_ | refine qka ?_ _)); refine qkp (cs := #[.string (⟨#[]⟩ : ByteArray), .slice none 0 0]) ?_ 1 _ rfl; (with_reducible repeat (first | refine qkN ?_ _ | refine qkd ?_ | refine qka ?_ _)); refine qkp (cs := #[.string (⟨#[]⟩ : ByteArray), .slice none 0 0]) ?_ 0 _ rfl; (with_reducible repeat (first | refine qkN ?_ _ | refine qkd ?_ | refine qka ?_ _)); exact BK211.out) hb); have n3_ := Aside0.mk (below_step (by repeat (first | (with_reducible first | exact HB.out | apply below_alloc | apply qbN | apply qb1 | refine qbs ?_ GE211.out) | exact HB.out)) hb); clear HO210; clear BK211; clear HB; have HO210 := n0_; have HO214 := n1_; have BK211 := n2_; have HB := n3_; clear n0_ n1_ n2_ n3_; clear hb ho11; obtain ⟨Ao12, co12, eo12⟩ := Kd.R_slice HO214.out; subst eo12) | ((with_reducible refine qgc (f := 10) rfl ?_); refine goesL_ (some 13) rfl rfl Tryd.func10 (by kernel_rfl) rfl #[.agg #[.string (⟨#[]⟩ : ByteArray), .slice Ao7 y208.length co7], .slice Ao12 y212.length co12] rfl (by (try simp only [List.map_toArray, List.map_cons, List.map_nil]); first | done | rfl | (simp only [List.length_drop, List.length_take]; rfl)) ?_; (with_reducible refine (row_Encode.calls k (⟨#[]⟩ : ByteArray) _ _ y208 _ _ y212 t215 none _ ?side1 ?side2 ?side3 ?side4 A1.out).mono ?_); (case side1 => repeat (first | exact (Kd.R_reads' HO210.out).2.2 | (with_reducible refine Kd.C_alloc ?_ _) | (with_reducible refine Kd.C_drewN ?_ _) | (with_reducible refine Kd.C_drew ?_))); (case side2 => exact (Kd.R_reads' HO210.out).2.1); (case side3 => repeat (first | exact (Kd.R_reads' HO214.out).2.2 | (with_reducible refine Kd.C_alloc ?_ _) | (with_reducible refine Kd.C_drewN ?_ _) | (with_reducible refine Kd.C_drew ?_))); (case side4 => exact (Kd.R_reads' HO214.out).2.1); rintro e w13 ⟨v216, rfl, ho0, hb⟩; refine ⟨_, rfl, ?_⟩; have n0_ := Aside0.mk (Kd.R_below (by (with_reducible repeat (first | apply Kd.R_alloc | apply Kd.R_drewN | apply Kd.R_drew)); exact HO210.out) hb); have n1_ := Aside0.mk (Kd.R_below (by (with_reducible repeat (first | apply Kd.R_alloc | apply Kd.R_drewN | apply Kd.R_drew)); exact HO214.out) hb); have n2_ := Aside0.mk (Kd.R_lower ho0 (qbz (by repeat (first | (with_reducible first | exact HB.out | apply below_alloc | apply qbN | apply qb1 | refine qbs ?_ GE211.out) | exact HB.out)))); have n3_ := Aside0.mk (qkb (g := gb211) (o := .cells #[.string (⟨#[]⟩ : ByteArray), .slice Ao7 y208.length co7] 24 (0, 0)) (by (with_reducible repeat (first | refine qkN ?_ _ | refine qkd ?_ | refine qka ?_ _)); exact BK211.out) hb); have n4_ := Aside0.mk (below_step (by repeat (first | (with_reducible first | exact HB.out | apply below_alloc | apply qbN | apply qb1 | refine qbs ?_ GE211.out) | exact HB.out)) hb); clear HO210; clear HO214; clear BK211; clear HB; have HO210 := n0_; have HO214 := n1_; have HO217 := n2_; have BK211 := n3_; have HB := n4_; clear n0_ n1_ n2_ n3_ n4_; (try clear hb); (try clear hb2); (try clear hk); (try clear hi); (try clear ho0); (try simp only [eWn, eWs]); have hcv14 := own_string (P := Tryd.prog) Tryd.underlying26 Tryd.underlying5 Tryd.underlying9 (Kd.own_of_R HO217.out); have hcz15_0 : w13.cell? ⟨gb211, 0, none⟩ = some (.string (⟨#[]⟩ : ByteArray)) := (qkc BK211.out 0).trans rfl; have hcz15_1 : w13.cell? ⟨gb211, 1, none⟩ = some (.slice Ao7 y208.length co7) := (qkc BK211.out 1).trans rfl; have hfz15_0 := qkf BK211.out 0; have hfz15_1 := qkf BK211.out 1) | ((with_reducible refine qgd (N := 27) rfl ?_); (try (refine gate_guard (by rfl) ?_; dsimp only)); refine Kd.R_lit k38 _ 38 ?hg (N := 27) ?hd (xs := ([(⟨0, 0, (⟨#[]⟩ : ByteArray), false⟩ : S38), (⟨0, 0, (⟨#[]⟩ : ByteArray), false⟩ : S38)] : List (S38))) (inner := [.int .i64 0, .int .i64 0, .string (⟨#[]⟩ : ByteArray), .bool false, .int .i64 0, .int .i64 0, .string (⟨#[]⟩ : ByteArray), .bool false]) (ok := fun _ => True) (okp := fun _ => True) ?hr ?hp (fun _ hk => hk) trivial (Below.refl _ _) (Nat.le_refl _) (by simp) ?_; (case hd => rfl); (case hg => rfl); (case hr => first | (go_simp; done) | (go_simp; rfl)); (case hp => exact (Reps.c4 (show Kd.M k38 _ _ _ (⟨0, 0, (⟨#[]⟩ : ByteArray), false⟩ : S38) [.int .i64 0, .int .i64 0, .string (⟨#[]⟩ : ByteArray), .bool false] from (k38_mkM _ _ _ (⟨0, 0, (⟨#[]⟩ : ByteArray), false⟩ : S38) )) (Reps.c4 (show Kd.M k38 _ _ _ (⟨0, 0, (⟨#[]⟩ : ByteArray), false⟩ : S38) [.int .i64 0, .int .i64 0, .string (⟨#[]⟩ : ByteArray), .bool false] from (k38_mkM _ _ _ (⟨0, 0, (⟨#[]⟩ : ByteArray), false⟩ : S38) )) (Reps.none _ _)))); intro v221 w16 ho17 hb hg_ hnew_; clear hg_ hnew_; (first | rw [← Ny220.out] at ho17 | (simp only [Int.reduceToNat] at ho17; rw [← Ny220.out] at ho17)); have n0_ := Aside0.mk (Kd.R_below (by (with_reducible repeat (first | apply Kd.R_alloc | apply Kd.R_drewN | apply Kd.R_drew)); exact HO210.out) hb); have n1_ := Aside0.mk (Kd.R_elder' (by (with_reducible repeat (first | apply Kd.R_alloc | apply Kd.R_drewN | apply Kd.R_drew)); exact HO214.out) (Kd.R_base ho17) hb); have n2_ := Aside0.mk (Kd.R_below (by (with_reducible repeat (first | apply Kd.R_alloc | apply Kd.R_drewN | apply Kd.R_drew)); exact HO217.out) hb); have n3_ := Aside0.mk (Kd.R_lower (Kd.R_new' ho17 (Kd.R_lt (by (with_reducible repeat (first | apply Kd.R_alloc | apply Kd.R_drewN | apply Kd.R_drew)); exact HO214.out))) (qbz (by repeat (first | (with_reducible first | exact HB.out | apply below_alloc | apply qbN | apply qb1 | refine qbs ?_ GE211.out) | exact HB.out)))); have n4_ := Aside0.mk (qkb (g := gb211) (o := .cells #[.string (⟨#[]⟩ : ByteArray), .slice Ao7 y208.length co7] 24 (0, 0)) (by (with_reducible repeat (first | refine qkN ?_ _ | refine qkd ?_ | refine qka ?_ _)); exact BK211.out) hb); have n5_ := Aside0.mk (below_step (by repeat (first | (with_reducible first | exact HB.out | apply below_alloc | apply qbN | apply qb1 | refine qbs ?_ GE211.out) | exact HB.out)) hb); clear HO210; clear HO214; clear HO217; clear BK211; clear HB; have HO210 := n0_; have HO214 := n1_; have HO217 := n2_; have HO222 := n3_; have BK211 := n4_; have HB := n5_; clear n0_ n1_ n2_ n3_ n4_ n5_; clear hb ho17; obtain ⟨Ao18, co18, eo18⟩ := Kd.R_slice HO222.out; subst eo18) | (go_at_call 35; (with_reducible refine (row_Check.calls k (⟨#[]⟩ : ByteArray) _ _ y208 _ _ y220 t223 _ ?side1 ?side2 ?side3 ?side4 A3.out).mono ?_); (case side1 => repeat (first | exact (Kd.R_reads' HO210.out).2.2 | (with_reducible refine Kd.C_alloc ?_ _) | (with_reducible refine Kd.C_drewN ?_ _) | (with_reducible refine Kd.C_drew ?_))); (case side2 => exact (Kd.R_reads' HO210.out).2.1); (case side3 => repeat (first | exact (Kd.R_reads' HO222.out).2.2 | (with_reducible refine Kd.C_alloc ?_ _) | (with_reducible refine Kd.C_drewN ?_ _) | (with_reducible refine Kd.C_drew ?_))); (case side4 => exact (Kd.R_reads' HO222.out).2.1); rintro e w19 ⟨rfl, hb⟩; have n0_ := Aside0.mk (Kd.R_below (by (with_reducible repeat (first | apply Kd.R_alloc | apply Kd.R_drewN | apply Kd.R_drew)); exact HO210.out) hb); have n1_ := Aside0.mk (Kd.R_below (by (with_reducible repeat (first | apply Kd.R_alloc | apply Kd.R_drewN | apply Kd.R_drew)); exact HO214.out) hb); have n2_ := Aside0.mk (Kd.R_below (by (with_reducible repeat (first | apply Kd.R_alloc | apply Kd.R_drewN | apply Kd.R_drew)); exact HO217.out) hb); have n3_ := Aside0.mk (Kd.R_below (by (with_reducible repeat (first | apply Kd.R_alloc | apply Kd.R_drewN | apply Kd.R_drew)); exact HO222.out) hb); have n4_ := Aside0.mk (qkb (g := gb211) (o := .cells #[.string (⟨#[]⟩ : ByteArray), .slice Ao7 y208.length co7] 24 (0, 0)) (by (with_reducible repeat (first | refine qkN ?_ _ | refine qkd ?_ | refine qka ?_ _)); exact BK211.out) hb); have n5_ := Aside0.mk (below_step (by repeat (first | (with_reducible first | exact HB.out | apply below_alloc | apply qbN | apply qb1 | refine qbs ?_ GE211.out) | exact HB.out)) hb); clear HO210; clear HO214; clear HO217; clear HO222; clear BK211; clear HB; have HO210 := n0_; have HO214 := n1_; have HO217 := n2_; have HO222 := n3_; have BK211 := n4_; have HB := n5_; clear n0_ n1_ n2_ n3_ n4_ n5_; (try clear hb); (try clear hb2); (try clear hk); (try clear hi); (try simp only [eWn, eWs]); have CA4 := fun W (hG_ : GW W) => barbicanlaw14_num.calls t223 t224 W hG_ A4.out; try simp only [eWn, eWs] at CA4) | (go_at_call 18; (with_reducible refine (CA4 _ ?side1).mono ?_); (case side1 => exact GW_below HG.out (by repeat (first | (with_reducible first | exact HB.out | apply below_alloc | apply qbN | apply qb1 | refine qbs ?_ GE211.out) | exact HB.out))); rintro e w20 ⟨rfl, hb⟩; have n0_ := Aside0.mk (Kd.R_below (by (with_reducible repeat (first | apply Kd.R_alloc | apply Kd.R_drewN | apply Kd.R_drew)); exact HO210.out) hb); have n1_ := Aside0.mk (Kd.R_below (by (with_reducible repeat (first | apply Kd.R_alloc | apply Kd.R_drewN | apply Kd.R_drew)); exact HO214.out) hb); have n2_ := Aside0.mk (Kd.R_below (by (with_reducible repeat (first | apply Kd.R_alloc | apply Kd.R_drewN | apply Kd.R_drew)); exact HO217.out) hb); have n3_ := Aside0.mk (Kd.R_below (by (with_reducible repeat (first | apply Kd.R_alloc | apply Kd.R_drewN | apply Kd.R_drew)); exact HO222.out) hb); have n4_ := Aside0.mk (qkb (g := gb211) (o := .cells #[.string (⟨#[]⟩ : ByteArray), .slice Ao7 y208.length co7] 24 (0, 0)) (by (with_reducible repeat (first | refine qkN ?_ _ | refine qkd ?_ | refine qka ?_ _)); exact BK211.out) hb); have n5_ := Aside0.mk (below_step (by repeat (first | (with_reducible first | exact HB.out | apply below_alloc | apply qbN | apply qb1 | refine qbs ?_ GE211.out) | exact HB.out)) hb); clear HO210; clear HO214; clear HO217; clear HO222; clear BK211; clear HB; have HO210 := n0_; have HO214 := n1_; have HO217 := n2_; have HO222 := n3_; have BK211 := n4_; have HB := n5_; clear n0_ n1_ n2_ n3_ n4_ n5_; (try clear hb); (try clear hb2); (try clear hk); (try clear hi)))
   go_ret
   exact ⟨by first | rfl | (simp [eWn, eWs] <;> rfl) | (simp [*, eWn, eWs] <;> rfl), by repeat (first | (with_reducible first | exact HB.out | apply below_alloc | apply qbN | apply qb1 | refine qbs ?_ GE211.out) | exact HB.out)⟩
  ·have H1 : (some false) = some r := by rw [if_neg (show ¬ (some q219).isNone = true by simp)] at H; exact H
   clear H
   have H := H1
   clear H1
   try simp only [eWn, eWs]
   obtain rfl := Option.some.inj H
   go_enter Tryd.func13, Tryd.ntmps13
   go_wp2_with (first | ((with_reducible refine qgd (N := 6) rfl ?_); (try (refine gate_guard (by rfl) ?_; dsimp only)); refine Kd.R_lit k36 _ 36 ?hg (N := 6) ?hd (xs := ([(⟨(⟨#[107]⟩ : ByteArray), 1, true, false⟩ : S36), (⟨(⟨#[115]⟩ : ByteArray), 2, false, true⟩ : S36)] : List (S36))) (inner := [.string (⟨#[107]⟩ : ByteArray), .int .i64 1, .bool true, .bool false, .string (⟨#[115]⟩ : ByteArray), .int .i64 2, .bool false, .bool true]) (ok := fun _ => True) (okp := fun _ => True) ?hr ?hp (fun _ hk => hk) trivial (Below.refl _ _) (Nat.le_refl _) (by simp) ?_; (case hd => rfl); (case hg => rfl); (case hr => first | (go_simp; done) | (go_simp; rfl)); (case hp => exact (Reps.c4 (show Kd.M k36 _ _ _ (⟨(⟨#[107]⟩ : ByteArray), 1, true, false⟩ : S36) [.string (⟨#[107]⟩ : ByteArray), .int .i64 1, .bool true, .bool false] from (k36_mkM _ _ _ (⟨(⟨#[107]⟩ : ByteArray), 1, true, false⟩ : S36) )) (Reps.c4 (show Kd.M k36 _ _ _ (⟨(⟨#[115]⟩ : ByteArray), 2, false, true⟩ : S36) [.string (⟨#[115]⟩ : ByteArray), .int .i64 2, .bool false, .bool true] from (k36_mkM _ _ _ (⟨(⟨#[115]⟩ : ByteArray), 2, false, true⟩ : S36) )) (Reps.none _ _)))); intro v209 w21 ho22 hb hg_ hnew_; clear hg_ hnew_; (first | rw [← Ny208.out] at ho22 | (simp only [Int.reduceToNat] at ho22; rw [← Ny208.out] at ho22)); have n0_ := Aside0.mk (Kd.R_lower ho22 (qbz (by repeat (first | (with_reducible first | exact HB.out | apply below_alloc | apply qbN | apply qb1) | exact HB.out)))); have n1_ := Aside0.mk (below_step (by repeat (first | (with_reducible first | exact HB.out | apply below_alloc | apply qbN | apply qb1) | exact HB.out)) hb); clear HB; have HO210 := n0_; have HB := n1_; clear n0_ n1_; clear hb ho22; obtain ⟨Ao23, co23, eo23⟩ := Kd.R_slice HO210.out; subst eo23) | ((with_reducible refine qgd (N := 1) rfl ?_); (try (refine gate_guard (by rfl) ?_; dsimp only)); refine qbe ?hg (N := 1) ?hd (cs := #[.string (⟨#[]⟩ : ByteArray), .slice none 0 0]) (t := 24) ?hr ?_; (case hd => rfl); (case hg => rfl); (case hr => first | (go_simp; done) | (go_simp; rfl)); intro gb211 hg w24 hbox hb; have n0_ := Aside0.mk (Kd.R_below (by (with_reducible repeat (first | apply Kd.R_alloc | apply Kd.R_drewN | apply Kd.R_drew)); exact HO210.out) hb); have n1_ := Aside0.mk (below_step (by repeat (first | (with_reducible first | exact HB.out | apply below_alloc | apply qbN | apply qb1) | exact HB.out)) hb); have n2_ := Aside0.mk (hbox); have n3_ := Aside0.mk ((by rw [hg]; exact (qbz (by repeat (first | (with_reducible first | exact HB.out | apply below_alloc | apply qbN | apply qb1) | exact HB.out))) : w.heap.size ≤ gb211)); have n4_ := Aside0.mk ((by rw [hg]; exact (qbz (by repeat (first | (with_reducible first | exact HB.out | apply below_alloc | apply qbN | apply qb1) | exact HB.out))) : w.heap.size ≤ gb211)); clear HO210; clear HB; have HO210 := n0_; have HB := n1_; have BK211 := n2_; have GW211 := n3_; have GE211 := n4_; clear n0_ n1_ n2_ n3_ n4_; clear hb hbox hg; have hcz25_0 : w24.cell? ⟨gb211, 0, none⟩ = some (.string (⟨#[]⟩ : ByteArray)) := (qkc BK211.out 0).trans rfl; have hcz25_1 : w24.cell? ⟨gb211, 1, none⟩ = some (.slice none 0 0) := (qkc BK211.out 1).trans rfl; have hfz25_0 := qkf BK211.out 0; have hfz25_1 := qkf BK211.out 1) | ((with_reducible refine qgd (N := 12) rfl ?_); (try (refine gate_guard (by rfl) ?_; dsimp only)); refine Kd.R_lit k38 _ 38 ?hg (N := 12) ?hd (xs := ([(⟨1, (-1), (⟨#[]⟩ : ByteArray), false⟩ : S38), (⟨0, 0, (⟨#[]⟩ : ByteArray), false⟩ : S38)] : List (S38))) (inner := [.int .i64 1, .int .i64 (-1), .string (⟨#[]⟩ : ByteArray), .bool false, .int .i64 0, .int .i64 0, .string (⟨#[]⟩ : ByteArray), .bool false]) (ok := fun _ => True) (okp := fun _ => True) ?hr ?hp (fun _ hk => hk) trivial (Below.refl _ _) (Nat.le_refl _) (by simp) ?_; (case hd => rfl); (case hg => rfl); (case hr => first | (go_simp; done) | (go_simp; rfl)); (case hp => exact (Reps.c4 (show Kd.M k38 _ _ _ (⟨1, (-1), (⟨#[]⟩ : ByteArray), false⟩ : S38) [.int .i64 1, .int .i64 (-1), .string (⟨#[]⟩ : ByteArray), .bool false] from (k38_mkM _ _ _ (⟨1, (-1), (⟨#[]⟩ : ByteArray), false⟩ : S38) )) (Reps.c4 (show Kd.M k38 _ _ _ (⟨0, 0, (⟨#[]⟩ : ByteArray), false⟩ : S38) [.int .i64 0, .int .i64 0, .string (⟨#[]⟩ : ByteArray), .bool false] from (k38_mkM _ _ _ (⟨0, 0, (⟨#[]⟩ : ByteArray), false⟩ : S38) )) (Reps.none _ _)))); intro v213 w26 ho27 hb hg_ hnew_; clear hg_ hnew_; (first | rw [← Ny212.out] at ho27 | (simp only [Int.reduceToNat] at ho27; rw [← Ny212.out] at ho27)); have n0_ := Aside0.mk (Kd.R_below (by (with_reducible repeat (first | apply Kd.R_alloc | apply Kd.R_drewN | apply Kd.R_drew)); exact (Kd.R_mono (Kd.R_far (p := ⟨gb211, 1, none⟩) (Kd.R_far (p := ⟨gb211, 0, none⟩) (Kd.R_types HO210.out BK211.out (by decide)) (fun _ hk => hk.2) (.string (⟨#[]⟩ : ByteArray))) (fun _ hk => hk.2) (.slice Ao23 y208.length co23)) (fun _ h_ => h_.1))) hb); have n1_ := Aside0.mk (Kd.R_lower ho27 (qbz (by repeat (first | (with_reducible first | exact HB.out | apply below_alloc | apply qbN | apply qb1 | refine qbs ?_ GE211.out) | exact HB.out)))); have n2_ := Aside0.mk (qkb (g := gb211) (o := .cells #[.string (⟨#[]⟩ : ByteArray), .slice Ao23 y208.length co23] 24 (0, 0)) (by (with_reducible repeat (first | refine qkN ?_ _ | refine qkd ?_ | refine qka ?_ _)); refine qkp (cs := #[.string (⟨#[]⟩ : ByteArray), .slice none 0 0]) ?_ 1 _ rfl; (with_reducible repeat (first | refine qkN ?_ _ | refine qkd ?_ | refine qka ?_ _)); refine qkp (cs := #[.string (⟨#[]⟩ : ByteArray), .slice none 0 0]) ?_ 0 _ rfl; (with_reducible repeat (first | refine qkN ?_ _ | refine qkd ?_ | refine qka ?_ _)); exact BK211.out) hb); have n3_ := Aside0.mk (below_step (by repeat (first | (with_reducible first | exact HB.out | apply below_alloc | apply qbN | apply qb1 | refine qbs ?_ GE211.out) | exact HB.out)) hb); clear HO210; clear BK211; clear HB; have HO210 := n0_; have HO214 := n1_; have BK211 := n2_; have HB := n3_; clear n0_ n1_ n2_ n3_; clear hb ho27; obtain ⟨Ao28, co28, eo28⟩ := Kd.R_slice HO214.out; subst eo28) | ((with_reducible refine qgc (f := 10) rfl ?_); refine goesL_ (some 13) rfl rfl Tryd.func10 (by kernel_rfl) rfl #[.agg #[.string (⟨#[]⟩ : ByteArray), .slice Ao23 y208.length co23], .slice Ao28 y212.length co28] rfl (by (try simp only [List.map_toArray, List.map_cons, List.map_nil]); first | done | rfl | (simp only [List.length_drop, List.length_take]; rfl)) ?_; (with_reducible refine (row_Encode.calls k (⟨#[]⟩ : ByteArray) _ _ y208 _ _ y212 t215 (some q219) _ ?side1 ?side2 ?side3 ?side4 A1.out).mono ?_); (case side1 => repeat (first | exact (Kd.R_reads' HO210.out).2.2 | (with_reducible refine Kd.C_alloc ?_ _) | (with_reducible refine Kd.C_drewN ?_ _) | (with_reducible refine Kd.C_drew ?_))); (case side2 => exact (Kd.R_reads' HO210.out).2.1); (case side3 => repeat (first | exact (Kd.R_reads' HO214.out).2.2 | (with_reducible refine Kd.C_alloc ?_ _) | (with_reducible refine Kd.C_drewN ?_ _) | (with_reducible refine Kd.C_drew ?_))); (case side4 => exact (Kd.R_reads' HO214.out).2.1); rintro e w29 ⟨v216, rfl, ho0, hb⟩; refine ⟨_, rfl, ?_⟩; have n0_ := Aside0.mk (Kd.R_below (by (with_reducible repeat (first | apply Kd.R_alloc | apply Kd.R_drewN | apply Kd.R_drew)); exact HO210.out) hb); have n1_ := Aside0.mk (Kd.R_below (by (with_reducible repeat (first | apply Kd.R_alloc | apply Kd.R_drewN | apply Kd.R_drew)); exact HO214.out) hb); have n2_ := Aside0.mk (Kd.R_lower ho0 (qbz (by repeat (first | (with_reducible first | exact HB.out | apply below_alloc | apply qbN | apply qb1 | refine qbs ?_ GE211.out) | exact HB.out)))); have n3_ := Aside0.mk (qkb (g := gb211) (o := .cells #[.string (⟨#[]⟩ : ByteArray), .slice Ao23 y208.length co23] 24 (0, 0)) (by (with_reducible repeat (first | refine qkN ?_ _ | refine qkd ?_ | refine qka ?_ _)); exact BK211.out) hb); have n4_ := Aside0.mk (below_step (by repeat (first | (with_reducible first | exact HB.out | apply below_alloc | apply qbN | apply qb1 | refine qbs ?_ GE211.out) | exact HB.out)) hb); clear HO210; clear HO214; clear BK211; clear HB; have HO210 := n0_; have HO214 := n1_; have HO217 := n2_; have BK211 := n3_; have HB := n4_; clear n0_ n1_ n2_ n3_ n4_; (try clear hb); (try clear hb2); (try clear hk); (try clear hi); (try clear ho0); (try simp only [eWn, eWs]); have hcv30 := own_string (P := Tryd.prog) Tryd.underlying26 Tryd.underlying5 Tryd.underlying9 (Kd.own_of_R HO217.out)))
   go_ret
   exact ⟨by first | rfl | (simp [eWn, eWs] <;> rfl) | (simp [*, eWn, eWs] <;> rfl), by repeat (first | (with_reducible first | exact HB.out | apply below_alloc | apply qbN | apply qb1 | refine qbs ?_ GE211.out) | exact HB.out)⟩
 ·rw [if_neg c2] at H
  have c2b0 : ((strOfNums t215).toList == ([1, 1, 0] : List UInt8)) = false := beq_eq_false_iff_ne.mpr c2
  have c2b1 : ((strOfNums t215).toList != ([1, 1, 0] : List UInt8)) = true := bne_iff_ne.mpr c2
  obtain rfl := Option.some.inj H
  go_enter Tryd.func13, Tryd.ntmps13
  go_wp2_with (first | ((with_reducible refine qgd (N := 6) rfl ?_); (try (refine gate_guard (by rfl) ?_; dsimp only)); refine Kd.R_lit k36 _ 36 ?hg (N := 6) ?hd (xs := ([(⟨(⟨#[107]⟩ : ByteArray), 1, true, false⟩ : S36), (⟨(⟨#[115]⟩ : ByteArray), 2, false, true⟩ : S36)] : List (S36))) (inner := [.string (⟨#[107]⟩ : ByteArray), .int .i64 1, .bool true, .bool false, .string (⟨#[115]⟩ : ByteArray), .int .i64 2, .bool false, .bool true]) (ok := fun _ => True) (okp := fun _ => True) ?hr ?hp (fun _ hk => hk) trivial (Below.refl _ _) (Nat.le_refl _) (by simp) ?_; (case hd => rfl); (case hg => rfl); (case hr => first | (go_simp; done) | (go_simp; rfl)); (case hp => exact (Reps.c4 (show Kd.M k36 _ _ _ (⟨(⟨#[107]⟩ : ByteArray), 1, true, false⟩ : S36) [.string (⟨#[107]⟩ : ByteArray), .int .i64 1, .bool true, .bool false] from (k36_mkM _ _ _ (⟨(⟨#[107]⟩ : ByteArray), 1, true, false⟩ : S36) )) (Reps.c4 (show Kd.M k36 _ _ _ (⟨(⟨#[115]⟩ : ByteArray), 2, false, true⟩ : S36) [.string (⟨#[115]⟩ : ByteArray), .int .i64 2, .bool false, .bool true] from (k36_mkM _ _ _ (⟨(⟨#[115]⟩ : ByteArray), 2, false, true⟩ : S36) )) (Reps.none _ _)))); intro v209 w31 ho32 hb hg_ hnew_; clear hg_ hnew_; (first | rw [← Ny208.out] at ho32 | (simp only [Int.reduceToNat] at ho32; rw [← Ny208.out] at ho32)); have n0_ := Aside0.mk (Kd.R_lower ho32 (qbz (by repeat (first | (with_reducible first | exact HB.out | apply below_alloc | apply qbN | apply qb1) | exact HB.out)))); have n1_ := Aside0.mk (below_step (by repeat (first | (with_reducible first | exact HB.out | apply below_alloc | apply qbN | apply qb1) | exact HB.out)) hb); clear HB; have HO210 := n0_; have HB := n1_; clear n0_ n1_; clear hb ho32; obtain ⟨Ao33, co33, eo33⟩ := Kd.R_slice HO210.out; subst eo33) | ((with_reducible refine qgd (N := 1) rfl ?_); (try (refine gate_guard (by rfl) ?_; dsimp only)); refine qbe ?hg (N := 1) ?hd (cs := #[.string (⟨#[]⟩ : ByteArray), .slice none 0 0]) (t := 24) ?hr ?_; (case hd => rfl); (case hg => rfl); (case hr => first | (go_simp; done) | (go_simp; rfl)); intro gb211 hg w34 hbox hb; have n0_ := Aside0.mk (Kd.R_below (by (with_reducible repeat (first | apply Kd.R_alloc | apply Kd.R_drewN | apply Kd.R_drew)); exact HO210.out) hb); have n1_ := Aside0.mk (below_step (by repeat (first | (with_reducible first | exact HB.out | apply below_alloc | apply qbN | apply qb1) | exact HB.out)) hb); have n2_ := Aside0.mk (hbox); have n3_ := Aside0.mk ((by rw [hg]; exact (qbz (by repeat (first | (with_reducible first | exact HB.out | apply below_alloc | apply qbN | apply qb1) | exact HB.out))) : w.heap.size ≤ gb211)); have n4_ := Aside0.mk ((by rw [hg]; exact (qbz (by repeat (first | (with_reducible first | exact HB.out | apply below_alloc | apply qbN | apply qb1) | exact HB.out))) : w.heap.size ≤ gb211)); clear HO210; clear HB; have HO210 := n0_; have HB := n1_; have BK211 := n2_; have GW211 := n3_; have GE211 := n4_; clear n0_ n1_ n2_ n3_ n4_; clear hb hbox hg; have hcz35_0 : w34.cell? ⟨gb211, 0, none⟩ = some (.string (⟨#[]⟩ : ByteArray)) := (qkc BK211.out 0).trans rfl; have hcz35_1 : w34.cell? ⟨gb211, 1, none⟩ = some (.slice none 0 0) := (qkc BK211.out 1).trans rfl; have hfz35_0 := qkf BK211.out 0; have hfz35_1 := qkf BK211.out 1) | ((with_reducible refine qgd (N := 12) rfl ?_); (try (refine gate_guard (by rfl) ?_; dsimp only)); refine Kd.R_lit k38 _ 38 ?hg (N := 12) ?hd (xs := ([(⟨1, (-1), (⟨#[]⟩ : ByteArray), false⟩ : S38), (⟨0, 0, (⟨#[]⟩ : ByteArray), false⟩ : S38)] : List (S38))) (inner := [.int .i64 1, .int .i64 (-1), .string (⟨#[]⟩ : ByteArray), .bool false, .int .i64 0, .int .i64 0, .string (⟨#[]⟩ : ByteArray), .bool false]) (ok := fun _ => True) (okp := fun _ => True) ?hr ?hp (fun _ hk => hk) trivial (Below.refl _ _) (Nat.le_refl _) (by simp) ?_; (case hd => rfl); (case hg => rfl); (case hr => first | (go_simp; done) | (go_simp; rfl)); (case hp => exact (Reps.c4 (show Kd.M k38 _ _ _ (⟨1, (-1), (⟨#[]⟩ : ByteArray), false⟩ : S38) [.int .i64 1, .int .i64 (-1), .string (⟨#[]⟩ : ByteArray), .bool false] from (k38_mkM _ _ _ (⟨1, (-1), (⟨#[]⟩ : ByteArray), false⟩ : S38) )) (Reps.c4 (show Kd.M k38 _ _ _ (⟨0, 0, (⟨#[]⟩ : ByteArray), false⟩ : S38) [.int .i64 0, .int .i64 0, .string (⟨#[]⟩ : ByteArray), .bool false] from (k38_mkM _ _ _ (⟨0, 0, (⟨#[]⟩ : ByteArray), false⟩ : S38) )) (Reps.none _ _)))); intro v213 w36 ho37 hb hg_ hnew_; clear hg_ hnew_; (first | rw [← Ny212.out] at ho37 | (simp only [Int.reduceToNat] at ho37; rw [← Ny212.out] at ho37)); have n0_ := Aside0.mk (Kd.R_below (by (with_reducible repeat (first | apply Kd.R_alloc | apply Kd.R_drewN | apply Kd.R_drew)); exact (Kd.R_mono (Kd.R_far (p := ⟨gb211, 1, none⟩) (Kd.R_far (p := ⟨gb211, 0, none⟩) (Kd.R_types HO210.out BK211.out (by decide)) (fun _ hk => hk.2) (.string (⟨#[]⟩ : ByteArray))) (fun _ hk => hk.2) (.slice Ao33 y208.length co33)) (fun _ h_ => h_.1))) hb); have n1_ := Aside0.mk (Kd.R_lower ho37 (qbz (by repeat (first | (with_reducible first | exact HB.out | apply below_alloc | apply qbN | apply qb1 | refine qbs ?_ GE211.out) | exact HB.out)))); have n2_ := Aside0.mk (qkb (g := gb211) (o := .cells #[.string (⟨#[]⟩ : ByteArray), .slice Ao33 y208.length co33] 24 (0, 0)) (by (with_reducible repeat (first | refine qkN ?_ _ | refine qkd ?_ | refine qka ?_ _)); refine qkp (cs := #[.string (⟨#[]⟩ : ByteArray), .slice none 0 0]) ?_ 1 _ rfl; (with_reducible repeat (first | refine qkN ?_ _ | refine qkd ?_ | refine qka ?_ _)); refine qkp (cs := #[.string (⟨#[]⟩ : ByteArray), .slice none 0 0]) ?_ 0 _ rfl; (with_reducible repeat (first | refine qkN ?_ _ | refine qkd ?_ | refine qka ?_ _)); exact BK211.out) hb); have n3_ := Aside0.mk (below_step (by repeat (first | (with_reducible first | exact HB.out | apply below_alloc | apply qbN | apply qb1 | refine qbs ?_ GE211.out) | exact HB.out)) hb); clear HO210; clear BK211; clear HB; have HO210 := n0_; have HO214 := n1_; have BK211 := n2_; have HB := n3_; clear n0_ n1_ n2_ n3_; clear hb ho37; obtain ⟨Ao38, co38, eo38⟩ := Kd.R_slice HO214.out; subst eo38) | ((with_reducible refine qgc (f := 10) rfl ?_); refine goesL_ (some 13) rfl rfl Tryd.func10 (by kernel_rfl) rfl #[.agg #[.string (⟨#[]⟩ : ByteArray), .slice Ao33 y208.length co33], .slice Ao38 y212.length co38] rfl (by (try simp only [List.map_toArray, List.map_cons, List.map_nil]); first | done | rfl | (simp only [List.length_drop, List.length_take]; rfl)) ?_; (with_reducible refine (row_Encode.calls k (⟨#[]⟩ : ByteArray) _ _ y208 _ _ y212 t215 t218 _ ?side1 ?side2 ?side3 ?side4 A1.out).mono ?_); (case side1 => repeat (first | exact (Kd.R_reads' HO210.out).2.2 | (with_reducible refine Kd.C_alloc ?_ _) | (with_reducible refine Kd.C_drewN ?_ _) | (with_reducible refine Kd.C_drew ?_))); (case side2 => exact (Kd.R_reads' HO210.out).2.1); (case side3 => repeat (first | exact (Kd.R_reads' HO214.out).2.2 | (with_reducible refine Kd.C_alloc ?_ _) | (with_reducible refine Kd.C_drewN ?_ _) | (with_reducible refine Kd.C_drew ?_))); (case side4 => exact (Kd.R_reads' HO214.out).2.1); rintro e w39 ⟨v216, rfl, ho0, hb⟩; refine ⟨_, rfl, ?_⟩; have n0_ := Aside0.mk (Kd.R_below (by (with_reducible repeat (first | apply Kd.R_alloc | apply Kd.R_drewN | apply Kd.R_drew)); exact HO210.out) hb); have n1_ := Aside0.mk (Kd.R_below (by (with_reducible repeat (first | apply Kd.R_alloc | apply Kd.R_drewN | apply Kd.R_drew)); exact HO214.out) hb); have n2_ := Aside0.mk (Kd.R_lower ho0 (qbz (by repeat (first | (with_reducible first | exact HB.out | apply below_alloc | apply qbN | apply qb1 | refine qbs ?_ GE211.out) | exact HB.out)))); have n3_ := Aside0.mk (qkb (g := gb211) (o := .cells #[.string (⟨#[]⟩ : ByteArray), .slice Ao33 y208.length co33] 24 (0, 0)) (by (with_reducible repeat (first | refine qkN ?_ _ | refine qkd ?_ | refine qka ?_ _)); exact BK211.out) hb); have n4_ := Aside0.mk (below_step (by repeat (first | (with_reducible first | exact HB.out | apply below_alloc | apply qbN | apply qb1 | refine qbs ?_ GE211.out) | exact HB.out)) hb); clear HO210; clear HO214; clear BK211; clear HB; have HO210 := n0_; have HO214 := n1_; have HO217 := n2_; have BK211 := n3_; have HB := n4_; clear n0_ n1_ n2_ n3_ n4_; (try clear hb); (try clear hb2); (try clear hk); (try clear hi); (try clear ho0); (try simp only [eWn, eWs]); have hcv40 := own_string (P := Tryd.prog) Tryd.underlying26 Tryd.underlying5 Tryd.underlying9 (Kd.own_of_R HO217.out)))
  go_ret
  exact ⟨by first | rfl | (simp [eWn, eWs] <;> rfl) | (simp [*, eWn, eWs] <;> rfl), by repeat (first | (with_reducible first | exact HB.out | apply below_alloc | apply qbN | apply qb1 | refine qbs ?_ GE211.out) | exact HB.out)⟩

end Go.Proofs.YtljadejgdbemoaaDoor.R
