import Derived.Test.YtljadejgdbemoaaDoorPyRx0
import Derived.Test.YtljadejgdbemoaaDoorPyRx10
import Derived.Test.YtljadejgdbemoaaDoorPyRx13
namespace Go.Proofs.YtljadejgdbemoaaDoor.R
open Go.RowKit Go.Proofs.YtljadejgdbemoaaDoorW.PrintWords Go.Proofs.YtljadejgdbemoaaDoorW.PrintLast Go.Proofs.YtljadejgdbemoaaDoorW.PrintMore Go.Proofs.YtljadejgdbemoaaDoorX
attribute [local go_sem] max2_int min2_int max_two min_two max_three min_three max_four min_four
set_option linter.unusedVariables false
set_option linter.unusedSimpArgs false

/-! ### barbicanref14_Decode: function 17 -/
mutual
def barbicanref14_Decode.l0 : Nat → List Int → List (S38) → Int → Int → ByteArray → List (S36) → Option ((List (S38)) × Int)
 | 0, _, _, _, _, _, _ => none
 | k + 1, x1, x6, x7, x8, x421000, x421001 => if x8 < (x421001.length : Int) then (barbicanref14_Decode.j1 k x1 x6 x7 x8 (decide (x7 < (x1.length : Int))) x421000 x421001) else (barbicanref14_Decode.j1 k x1 x6 x7 x8 false x421000 x421001)
def barbicanref14_Decode.j1 : Nat → List Int → List (S38) → Int → Int → Bool → ByteArray → List (S36) → Option ((List (S38)) × Int)
 | 0, _, _, _, _, _, _, _ => none
 | k + 1, x1, x6, x7, x8, x24, x421000, x421001 => if x24 = true then (if 0 ≤ x7 then (if x7 < (x1.length : Int) then (if (rd x1 x7) = 1 then (if 0 ≤ x8 then (if x8 < (x421001.length : Int) then (barbicanref14_Decode.j2 k x1 x6 (wrap64 (x7 + 1)) x8 x421000 x421001 ((rd_T36 x421001 x8).f1) 0 (⟨#[]⟩ : ByteArray) false) else (none)) else (none)) else (barbicanref14_Decode.j2 k x1 x6 (wrap64 (x7 + 1)) x8 x421000 x421001 0 0 (⟨#[]⟩ : ByteArray) false)) else (none)) else (none)) else ((barbicanref14_Encode.f k x421000 x421001 x6).bind fun bt421 => (if bt421.2 = 0 then (if (strOfNums bt421.1).toList = (strOfNums x1).toList then (some (x6, 0)) else (some (([] : List (S38)), 3))) else (some (([] : List (S38)), 3))))
def barbicanref14_Decode.j2 : Nat → List Int → List (S38) → Int → Int → ByteArray → List (S36) → Int → Int → ByteArray → Bool → Option ((List (S38)) × Int)
 | 0, _, _, _, _, _, _, _, _, _, _ => none
 | k + 1, x1, x6, x7, x8, x421000, x421001, x426000, x426001, x426002, x426003 => if x426000 = 1 then (if 0 ≤ x7 then (if x7 ≤ (x1.length : Int) then ((barbicanref03_Int.f k (x1.drop (x7 : Int).toNat)).bind fun bt429 => (if x6.length < 3518437208883 then (barbicanref14_Decode.l0 k x1 (x6 ++ [(⟨x426000, bt429.1, x426002, x426003⟩ : S38)]) (wrap64 (x7 + bt429.2.1)) (wrap64 (x8 + 1)) x421000 x421001) else (none))) else (none)) else (none)) else (if x426000 = 2 then (if 0 ≤ x7 then (if x7 ≤ (x1.length : Int) then ((barbicanref03_Text.f k (x1.drop (x7 : Int).toNat) 4096).bind fun bt436 => (if x6.length < 3518437208883 then (barbicanref14_Decode.l0 k x1 (x6 ++ [(⟨x426000, x426001, bt436.1, x426003⟩ : S38)]) (wrap64 (x7 + bt436.2.1)) (wrap64 (x8 + 1)) x421000 x421001) else (none))) else (none)) else (none)) else (if x426000 = 3 then (if x7 < (x1.length : Int) then (if 0 ≤ x7 then (if x6.length < 3518437208883 then (barbicanref14_Decode.l0 k x1 (x6 ++ [(⟨x426000, x426001, x426002, ((rd x1 x7) == 1)⟩ : S38)]) (wrap64 (x7 + 1)) (wrap64 (x8 + 1)) x421000 x421001) else (none)) else (none)) else (if x6.length < 3518437208883 then (barbicanref14_Decode.l0 k x1 (x6 ++ [(⟨x426000, x426001, x426002, false⟩ : S38)]) (wrap64 (x7 + 1)) (wrap64 (x8 + 1)) x421000 x421001) else (none))) else (if x6.length < 3518437208883 then (barbicanref14_Decode.l0 k x1 (x6 ++ [(⟨x426000, x426001, x426002, x426003⟩ : S38)]) (wrap64 (x7 + 0)) (wrap64 (x8 + 1)) x421000 x421001) else (none))))
end
def barbicanref14_Decode.f (k : Nat) (a0_0 : ByteArray) (l0_1 : List (S36)) (l1 : List Int) : Option ((List (S38)) × Int) := barbicanref14_Decode.l0 k l1 ([] : List (S38)) 0 0 a0_0 l0_1
set_option maxHeartbeats 8000000 in
set_option maxRecDepth 100000 in
theorem barbicanref14_Decode.calls (k : Nat) (a0_0 : ByteArray) (A0_1 : Option Addr) (c0_1 : Nat) (l0_1 : List (S36)) (A1 : Option Addr) (c1 : Nat) (l1 : List Int) (r1 : List (S38)) (r2 : Int) (w : World) (hr0_1 : Kd.C k36 w A0_1 l0_1.length l0_1) (hc0_1 : l0_1.length ≤ c0_1) (hr1 : Kd.C (Kd.int .u8) w A1 l1.length l1) (hc1 : l1.length ≤ c1) (h : barbicanref14_Decode.f k a0_0 l0_1 l1 = some (r1, r2)) :
  Calls Tryd.prog 17 #[.agg #[.string a0_0, .slice A0_1 l0_1.length c0_1], .slice A1 l1.length c1] w fun e w' => ∃ v0_ : Value, e = .returned (.tuple #[v0_, .int .i64 r2]) ∧ Kd.R k38 38 w' w.heap.size (fun _ => True) v0_ r1 ∧ Below w.heap.size w w' := by
 have hu24 := Tryd.underlying24
 have hu38 := Tryd.underlying38
 have HR0_1 := Aside0.mk hr0_1
 have HC0_1 := Aside0.mk hc0_1
 clear hr0_1 hc0_1
 have HR1 := Aside0.mk hr1
 have HC1 := Aside0.mk hc1
 clear hr1 hc1
 have HB := Aside0.mk (Below.refl w.heap.size w)
 have H : (barbicanref14_Decode.l0 k l1 ([] : List (S38)) 0 0 a0_0 l0_1) = some (r1, r2) := h
 clear h
 have H' := Aside0.mk H
 clear H
 go_enter Tryd.func17, Tryd.ntmps17
 go_wp2_with (first | ((with_reducible refine qgd (N := 2) rfl ?_); (try (refine gate_guard (by rfl) ?_; dsimp only)); refine qbe ?hg (N := 2) ?hd (cs := #[.string a0_0, .slice A0_1 l0_1.length c0_1]) (t := 24) ?hr ?_; (case hd => rfl); (case hg => rfl); (case hr => first | (go_simp; done) | (go_simp; rfl)); intro gb420 hg w3 hbox hb; have n0_ := Aside0.mk (below_step (by repeat (first | (with_reducible first | exact HB.out | apply below_alloc | apply qbN | apply qb1) | exact HB.out)) hb); have n1_ := Aside0.mk (hbox); have n2_ := Aside0.mk ((by rw [hg]; exact (qbz (by repeat (first | (with_reducible first | exact HB.out | apply below_alloc | apply qbN | apply qb1) | exact HB.out))) : w.heap.size ≤ gb420)); have n3_ := Aside0.mk ((by rw [hg]; exact (qbz (by repeat (first | (with_reducible first | exact HB.out | apply below_alloc | apply qbN | apply qb1) | exact HB.out))) : w.heap.size ≤ gb420)); clear HB; have HB := n0_; have BK420 := n1_; have GW420 := n2_; have GE420 := n3_; clear n0_ n1_ n2_ n3_; clear hb hbox hg))
 go_loopg [6, 7, 8] k (fun kq v6 v7 v8 w' => ∃ (x6_1 : List (S38)) (x7_1 : Int) (x8_1 : Int), v7 = .int .i64 x7_1 ∧ v8 = .int .i64 x8_1 ∧ Aside0 (barbicanref14_Decode.l0 kq l1 x6_1 x7_1 x8_1 a0_0 l0_1 = some (r1, r2)) ∧ Aside0 (kq ≤ k) ∧ Aside0 (Kd.R k38 38 w' w.heap.size (fun _ => True) v6 x6_1) ∧ Aside0 (w'.heap[gb420]? = some (.cells #[.string a0_0, (.slice A0_1 l0_1.length c0_1)] 24 (0, 0))) ∧ Aside0 (Below w.heap.size w w'))
 case atStart => exact ⟨(([] : List (S38))), (0), (0), (by first | rfl | (simp; done) | (simp [*]; done)), (by first | rfl | (simp; done) | (simp [*]; done)), H', ⟨Nat.le_refl _⟩, ⟨by first | exact Kd.R_nil _ _ _ _ _ | exact Kd.N_nil _ _ _ _ _ | exact Kd.V_nil _ _ _ _ _ | exact Kd.Q_nil _ _ _ _ _ | exact Kd.S_nil _ _ _ _ _⟩, ⟨by (with_reducible repeat (first | refine qkN ?_ _ | refine qkd ?_ | refine qka ?_ _)); exact BK420.out⟩, ⟨by repeat (first | (with_reducible first | exact HB.out | apply below_alloc | apply qbN | apply qb1 | refine qbs ?_ GE420.out) | exact HB.out)⟩⟩
 case round =>
  clear H'
  try clear c1
  try clear p2
  obtain ⟨x6_1, x7_1, x8_1, rfl, rfl, HA, HK1, HO_6, BK420, HB⟩ := hrel
  cases gk with
  | zero => exact absurd HA.out (by simp [barbicanref14_Decode.l0])
  | succ k1 =>
   have H := HA.out
   clear HA
   simp only [barbicanref14_Decode.l0] at H
   have HC4 := Aside0.mk H
   clear H
   go_upto_region 4 with (fail)
   go_cut [24] (fun v24 wc => ∃ (kq : Nat) (x24_3 : Bool), v24 = .bool x24_3 ∧ Aside0 (barbicanref14_Decode.j1 kq l1 x6_1 x7_1 x8_1 x24_3 a0_0 l0_1 = some (r1, r2)) ∧ Aside0 (kq ≤ k1) ∧ Aside0 (Kd.R k38 38 wc w.heap.size (fun _ => True) u6 x6_1) ∧ Aside0 (wc.heap[gb420]? = some (.cells #[.string a0_0, (.slice A0_1 l0_1.length c0_1)] 24 (0, 0))) ∧ Aside0 (Below w.heap.size w wc))
   case first =>
    have H := HC4.out
    clear HC4
    by_cases c5 : x8_1 < (l0_1.length : Int)
    ·rw [if_pos c5] at H
     have c5b0 : decide (x8_1 < (l0_1.length : Int)) = true := decide_eq_true c5
     clear c5
     (first | rw [c5b0] | (simp only [i64_w, i32_w]; rw [c5b0]) | skip)
     have H' := Aside0.mk H
     clear H
     have hcz6_0 : wr.cell? ⟨gb420, 0, none⟩ = some (.string a0_0) := (qkc BK420.out 0).trans rfl
     have hcz6_1 : wr.cell? ⟨gb420, 1, none⟩ = some (.slice A0_1 l0_1.length c0_1) := (qkc BK420.out 1).trans rfl
     have hfz6_0 := qkf BK420.out 0
     have hfz6_1 := qkf BK420.out 1
     go_wp2
     refine Met.intro ?_
     go_step
     (repeat apply Exists.intro)
     refine ⟨?rel, ?frm⟩
     case frm => first | rfl | (simp only [c5b0]; rfl) | (simp only [c5b0]; first | done | rfl)
     case rel => exact ⟨_, (decide (x7_1 < (l1.length : Int))), (by first | rfl | (simp; done) | (simp [*]; done)), H', ⟨by have := HK1.out; first | omega | exact Nat.le_refl _⟩, ⟨by (with_reducible repeat (first | apply Kd.R_alloc | apply Kd.R_drewN | apply Kd.R_drew)); exact HO_6.out⟩, ⟨by (with_reducible repeat (first | refine qkN ?_ _ | refine qkd ?_ | refine qka ?_ _)); exact BK420.out⟩, ⟨by repeat (first | (with_reducible first | exact HB.out | apply below_alloc | apply qbN | apply qb1 | refine qbs ?_ GE420.out) | exact HB.out)⟩⟩
    ·rw [if_neg c5] at H
     have c5b0 : decide (x8_1 < (l0_1.length : Int)) = false := decide_eq_false c5
     clear c5
     (first | rw [c5b0] | (simp only [i64_w, i32_w]; rw [c5b0]) | skip)
     have H' := Aside0.mk H
     clear H
     have hcz7_0 : wr.cell? ⟨gb420, 0, none⟩ = some (.string a0_0) := (qkc BK420.out 0).trans rfl
     have hcz7_1 : wr.cell? ⟨gb420, 1, none⟩ = some (.slice A0_1 l0_1.length c0_1) := (qkc BK420.out 1).trans rfl
     have hfz7_0 := qkf BK420.out 0
     have hfz7_1 := qkf BK420.out 1
     go_wp2
     refine Met.intro ?_
     go_step
     (repeat apply Exists.intro)
     refine ⟨?rel, ?frm⟩
     case frm => first | rfl | (simp only [c5b0]; rfl) | (simp only [c5b0]; first | done | rfl)
     case rel => exact ⟨_, (false), (by first | rfl | (simp; done) | (simp [*]; done)), H', ⟨by have := HK1.out; first | omega | exact Nat.le_refl _⟩, ⟨by (with_reducible repeat (first | apply Kd.R_alloc | apply Kd.R_drewN | apply Kd.R_drew)); exact HO_6.out⟩, ⟨by (with_reducible repeat (first | refine qkN ?_ _ | refine qkd ?_ | refine qka ?_ _)); exact BK420.out⟩, ⟨by repeat (first | (with_reducible first | exact HB.out | apply below_alloc | apply qbN | apply qb1 | refine qbs ?_ GE420.out) | exact HB.out)⟩⟩
   case rest =>
    clear HC4
    try clear c1
    try clear p2
    try clear c5
    try clear c5b0
    try clear hcz6_0
    try clear hcz6_1
    try clear hcz7_0
    try clear hcz7_1
    try clear hfz6_0
    try clear hfz6_1
    try clear hfz7_0
    try clear hfz7_1
    try clear p2
    obtain ⟨kq, x24_3, rfl, HA, HJ3, HO_6, BK420, HB⟩ := hcut
    cases kq with
    | zero => exact absurd HA.out (by simp [barbicanref14_Decode.j1])
    | succ kj3 =>
     have H := HA.out
     clear HA
     simp only [barbicanref14_Decode.j1] at H
     by_cases c8 : x24_3 = true
     ·subst c8
      have H1 : (if 0 ≤ x7_1 then (if x7_1 < (l1.length : Int) then (if (rd l1 x7_1) = 1 then (if 0 ≤ x8_1 then (if x8_1 < (l0_1.length : Int) then (barbicanref14_Decode.j2 kj3 l1 x6_1 (wrap64 (x7_1 + 1)) x8_1 a0_0 l0_1 ((rd_T36 l0_1 x8_1).f1) 0 (⟨#[]⟩ : ByteArray) false) else (none)) else (none)) else (barbicanref14_Decode.j2 kj3 l1 x6_1 (wrap64 (x7_1 + 1)) x8_1 a0_0 l0_1 0 0 (⟨#[]⟩ : ByteArray) false)) else (none)) else (none)) = some (r1, r2) := by rw [if_pos rfl] at H; exact H
      clear H
      have H := H1
      clear H1
      by_cases c9 : 0 ≤ x7_1
      ·rw [if_pos c9] at H
       have c9b0 : decide (0 ≤ x7_1) = true := decide_eq_true c9
       clear c9
       by_cases c10 : x7_1 < (l1.length : Int)
       ·rw [if_pos c10] at H
        have c10b0 : decide (x7_1 < (l1.length : Int)) = true := decide_eq_true c10
        clear c10
        have HC11 := Aside0.mk H
        clear H
        go_upto_if 35 with (first | ((with_reducible refine qgd (N := 9) rfl ?_); (try (refine gate_guard (by rfl) ?_; dsimp only)); refine qbe ?hg (N := 9) ?hd (cs := #[.int .i64 0, .int .i64 0, .string (⟨#[]⟩ : ByteArray), .bool false]) (t := 38) ?hr ?_; (case hd => rfl); (case hg => rfl); (case hr => first | (go_simp; done) | (go_simp; rfl)); intro gb425 hg w12 hbox hb; have n0_ := Aside0.mk (Kd.R_below (Kd.R_elderB (by (with_reducible repeat (first | apply Kd.R_alloc | apply Kd.R_drewN | apply Kd.R_drew)); exact HO_6.out) gb425 (Nat.le_of_eq hg.symm)) hb); have n1_ := Aside0.mk (qkb (g := gb420) (o := .cells #[.string a0_0, .slice A0_1 l0_1.length c0_1] 24 (0, 0)) (by (with_reducible repeat (first | refine qkN ?_ _ | refine qkd ?_ | refine qka ?_ _)); exact BK420.out) hb); have n2_ := Aside0.mk (below_step (by repeat (first | (with_reducible first | exact HB.out | apply below_alloc | apply qbN | apply qb1 | refine qbs ?_ GE420.out) | exact HB.out)) hb); have n3_ := Aside0.mk (hbox); have n4_ := Aside0.mk ((by rw [hg]; exact (qbz (by repeat (first | (with_reducible first | exact HB.out | apply below_alloc | apply qbN | apply qb1 | refine qbs ?_ GE420.out) | exact HB.out))) : w.heap.size ≤ gb425)); have n5_ := Aside0.mk ((by rw [hg]; exact (qbz (by repeat (first | (with_reducible first | exact HB.out | apply below_alloc | apply qbN | apply qb1 | refine qbs ?_ GE420.out) | exact HB.out))) : w.heap.size ≤ gb425)); have n6_ := Aside0.mk ((by rw [hg]; exact Nat.ne_of_lt (blk_lt (g := gb420) (o := .cells #[.string a0_0, .slice A0_1 l0_1.length c0_1] 24 (0, 0)) (by (with_reducible repeat (first | refine qkN ?_ _ | refine qkd ?_ | refine qka ?_ _)); exact BK420.out)) : gb420 ≠ gb425)); have n7_ := Aside0.mk ((by rw [hg]; exact Nat.ne_of_gt (blk_lt (g := gb420) (o := .cells #[.string a0_0, .slice A0_1 l0_1.length c0_1] 24 (0, 0)) (by (with_reducible repeat (first | refine qkN ?_ _ | refine qkd ?_ | refine qka ?_ _)); exact BK420.out)) : gb425 ≠ gb420)); clear HO_6; clear BK420; clear HB; have HO_6 := n0_; have BK420 := n1_; have HB := n2_; have BK425 := n3_; have GW425 := n4_; have GE425 := n5_; have NB420_425 := n6_; have NB425_420 := n7_; clear n0_ n1_ n2_ n3_ n4_ n5_ n6_ n7_; clear hb hbox hg; have hnb13 := NB425_420.out; have hnc13 := NB420_425.out; have hcz14_0 : w12.cell? ⟨gb425, 0, none⟩ = some (.int .i64 0) := (qkc BK425.out 0).trans rfl; have hcz14_1 : w12.cell? ⟨gb425, 1, none⟩ = some (.int .i64 0) := (qkc BK425.out 1).trans rfl; have hcz14_2 : w12.cell? ⟨gb425, 2, none⟩ = some (.string (⟨#[]⟩ : ByteArray)) := (qkc BK425.out 2).trans rfl; have hcz14_3 : w12.cell? ⟨gb425, 3, none⟩ = some (.bool false) := (qkc BK425.out 3).trans rfl; have hfz14_0 := qkf BK425.out 0; have hfz14_1 := qkf BK425.out 1; have hfz14_2 := qkf BK425.out 2; have hfz14_3 := qkf BK425.out 3; have p426 : 0 ≤ (x7_1 : Int) := ode_; have q426 : x7_1 < (l1.length : Int) := ode_; obtain ⟨ad426, e426, hx426_0⟩ := Kd.at_int HR1.out x7_1 p426 q426; cases e426; have hn426_0 : ad426.block ≠ gb425 := Nat.ne_of_lt (Nat.lt_of_lt_of_le (by have := World.block_lt_of_cell? _ _ hx426_0; first | rwa [qab] at this | exact this) GW425.out); have hn426_1 : ad426.block ≠ gb425 := Nat.ne_of_lt (Nat.lt_of_lt_of_le (by have := World.block_lt_of_cell? _ _ hx426_0; first | rwa [qab] at this | exact this) GW425.out); have hn426_2 : ad426.block ≠ gb425 := Nat.ne_of_lt (Nat.lt_of_lt_of_le (by have := World.block_lt_of_cell? _ _ hx426_0; first | rwa [qab] at this | exact this) GW425.out); have hn426_3 : ad426.block ≠ gb425 := Nat.ne_of_lt (Nat.lt_of_lt_of_le (by have := World.block_lt_of_cell? _ _ hx426_0; first | rwa [qab] at this | exact this) GW425.out); replace hx426_0 := (HB.out.cell (World.block_lt_of_cell? w _ hx426_0)).trans hx426_0; replace hx426_0 := (cell_far (p := ⟨gb425, 0, none⟩) (by first | (rw [qab]; exact hn426_0) | (show (Addr.add _ _).block ≠ _; rw [qab]; exact hn426_0) | exact hn426_0) (.int .i64 0)).trans hx426_0; replace hx426_0 := (cell_far (p := ⟨gb425, 1, none⟩) (by first | (rw [qab]; exact hn426_1) | (show (Addr.add _ _).block ≠ _; rw [qab]; exact hn426_1) | exact hn426_1) (.int .i64 0)).trans hx426_0; replace hx426_0 := (cell_far (p := ⟨gb425, 2, none⟩) (by first | (rw [qab]; exact hn426_2) | (show (Addr.add _ _).block ≠ _; rw [qab]; exact hn426_2) | exact hn426_2) (.string (⟨#[]⟩ : ByteArray))).trans hx426_0; replace hx426_0 := (cell_far (p := ⟨gb425, 3, none⟩) (by first | (rw [qab]; exact hn426_3) | (show (Addr.add _ _).block ≠ _; rw [qab]; exact hn426_3) | exact hn426_3) (.bool false)).trans hx426_0; clear hn426_0; clear hn426_1; clear hn426_2; clear hn426_3; replace p426 := eq_true p426; replace q426 := eq_true q426))
        (try simp only [Act.put, List.setIfInBounds_toArray, List.set_cons_zero, List.set_cons_succ])
        go_cut [] (fun wc => ∃ (kq : Nat) (x426000_10 : Int), Aside0 (barbicanref14_Decode.j2 kq l1 x6_1 (wrap64 (x7_1 + 1)) x8_1 a0_0 l0_1 x426000_10 0 (⟨#[]⟩ : ByteArray) false = some (r1, r2)) ∧ Aside0 (kq ≤ kj3) ∧ Aside0 (Kd.R k38 38 wc w.heap.size (fun k_ => k_ ≠ gb425) u6 x6_1) ∧ Aside0 (wc.heap[gb420]? = some (.cells #[.string a0_0, (.slice A0_1 l0_1.length c0_1)] 24 (0, 0))) ∧ Aside0 (wc.heap[gb425]? = some (.cells #[.int .i64 x426000_10, .int .i64 0, .string (⟨#[]⟩ : ByteArray), .bool false] 38 (0, 0))) ∧ Aside0 (Below w.heap.size w wc))
        case first =>
         have H := HC11.out
         clear HC11
         by_cases c15 : (rd l1 x7_1) = 1
         ·rw [if_pos c15] at H
          have c15b0 : ((rd l1 x7_1) == 1) = true := beq_iff_eq.mpr c15
          have c15b1 : ((rd l1 x7_1) != 1) = false := bne_eq_false_iff_eq.mpr c15
          clear c15
          (first | rw [c15b0] | (simp only [i64_w, i32_w]; rw [c15b0]) | skip)
          by_cases c16 : 0 ≤ x8_1
          ·rw [if_pos c16] at H
           have c16b0 : decide (0 ≤ x8_1) = true := decide_eq_true c16
           clear c16
           by_cases c17 : x8_1 < (l0_1.length : Int)
           ·rw [if_pos c17] at H
            have c17b0 : decide (x8_1 < (l0_1.length : Int)) = true := decide_eq_true c17
            clear c17
            have H' := Aside0.mk H
            clear H
            have hnb18 := NB420_425.out
            have hnc18 := NB425_420.out
            have hcz19_0 : w12.cell? ⟨gb420, 0, none⟩ = some (.string a0_0) := (qkc BK420.out 0).trans rfl
            have hcz19_1 : w12.cell? ⟨gb420, 1, none⟩ = some (.slice A0_1 l0_1.length c0_1) := (qkc BK420.out 1).trans rfl
            have hfz19_0 := qkf BK420.out 0
            have hfz19_1 := qkf BK420.out 1
            have p427 : 0 ≤ (x8_1 : Int) := ode_
            have q427 : x8_1 < (l0_1.length : Int) := ode_
            obtain ⟨ad427, e427, hx427_0, hx427_1, hx427_2, hx427_3⟩ := at_T36 HR0_1.out x8_1 p427 q427
            cases e427
            have hn427_0 : ad427.block ≠ gb425 := Nat.ne_of_lt (Nat.lt_of_lt_of_le (by have := World.block_lt_of_cell? _ _ hx427_0; first | rwa [qab] at this | exact this) GW425.out)
            have hn427_1 : ad427.block ≠ gb425 := Nat.ne_of_lt (Nat.lt_of_lt_of_le (by have := World.block_lt_of_cell? _ _ hx427_0; first | rwa [qab] at this | exact this) GW425.out)
            have hn427_2 : ad427.block ≠ gb425 := Nat.ne_of_lt (Nat.lt_of_lt_of_le (by have := World.block_lt_of_cell? _ _ hx427_0; first | rwa [qab] at this | exact this) GW425.out)
            have hn427_3 : ad427.block ≠ gb425 := Nat.ne_of_lt (Nat.lt_of_lt_of_le (by have := World.block_lt_of_cell? _ _ hx427_0; first | rwa [qab] at this | exact this) GW425.out)
            replace hx427_0 := (HB.out.cell (World.block_lt_of_cell? w _ hx427_0)).trans hx427_0
            replace hx427_1 := (HB.out.cell (World.block_lt_of_cell? w _ hx427_1)).trans hx427_1
            replace hx427_2 := (HB.out.cell (World.block_lt_of_cell? w _ hx427_2)).trans hx427_2
            replace hx427_3 := (HB.out.cell (World.block_lt_of_cell? w _ hx427_3)).trans hx427_3
            replace hx427_0 := (cell_far (p := ⟨gb425, 0, none⟩) (by first | (rw [qab]; exact hn427_0) | (show (Addr.add _ _).block ≠ _; rw [qab]; exact hn427_0) | exact hn427_0) (.int .i64 0)).trans hx427_0
            replace hx427_1 := (cell_far (p := ⟨gb425, 0, none⟩) (by first | (rw [qab]; exact hn427_0) | (show (Addr.add _ _).block ≠ _; rw [qab]; exact hn427_0) | exact hn427_0) (.int .i64 0)).trans hx427_1
            replace hx427_2 := (cell_far (p := ⟨gb425, 0, none⟩) (by first | (rw [qab]; exact hn427_0) | (show (Addr.add _ _).block ≠ _; rw [qab]; exact hn427_0) | exact hn427_0) (.int .i64 0)).trans hx427_2
            replace hx427_3 := (cell_far (p := ⟨gb425, 0, none⟩) (by first | (rw [qab]; exact hn427_0) | (show (Addr.add _ _).block ≠ _; rw [qab]; exact hn427_0) | exact hn427_0) (.int .i64 0)).trans hx427_3
            replace hx427_0 := (cell_far (p := ⟨gb425, 1, none⟩) (by first | (rw [qab]; exact hn427_1) | (show (Addr.add _ _).block ≠ _; rw [qab]; exact hn427_1) | exact hn427_1) (.int .i64 0)).trans hx427_0
            replace hx427_1 := (cell_far (p := ⟨gb425, 1, none⟩) (by first | (rw [qab]; exact hn427_1) | (show (Addr.add _ _).block ≠ _; rw [qab]; exact hn427_1) | exact hn427_1) (.int .i64 0)).trans hx427_1
            replace hx427_2 := (cell_far (p := ⟨gb425, 1, none⟩) (by first | (rw [qab]; exact hn427_1) | (show (Addr.add _ _).block ≠ _; rw [qab]; exact hn427_1) | exact hn427_1) (.int .i64 0)).trans hx427_2
            replace hx427_3 := (cell_far (p := ⟨gb425, 1, none⟩) (by first | (rw [qab]; exact hn427_1) | (show (Addr.add _ _).block ≠ _; rw [qab]; exact hn427_1) | exact hn427_1) (.int .i64 0)).trans hx427_3
            replace hx427_0 := (cell_far (p := ⟨gb425, 2, none⟩) (by first | (rw [qab]; exact hn427_2) | (show (Addr.add _ _).block ≠ _; rw [qab]; exact hn427_2) | exact hn427_2) (.string (⟨#[]⟩ : ByteArray))).trans hx427_0
            replace hx427_1 := (cell_far (p := ⟨gb425, 2, none⟩) (by first | (rw [qab]; exact hn427_2) | (show (Addr.add _ _).block ≠ _; rw [qab]; exact hn427_2) | exact hn427_2) (.string (⟨#[]⟩ : ByteArray))).trans hx427_1
            replace hx427_2 := (cell_far (p := ⟨gb425, 2, none⟩) (by first | (rw [qab]; exact hn427_2) | (show (Addr.add _ _).block ≠ _; rw [qab]; exact hn427_2) | exact hn427_2) (.string (⟨#[]⟩ : ByteArray))).trans hx427_2
            replace hx427_3 := (cell_far (p := ⟨gb425, 2, none⟩) (by first | (rw [qab]; exact hn427_2) | (show (Addr.add _ _).block ≠ _; rw [qab]; exact hn427_2) | exact hn427_2) (.string (⟨#[]⟩ : ByteArray))).trans hx427_3
            replace hx427_0 := (cell_far (p := ⟨gb425, 3, none⟩) (by first | (rw [qab]; exact hn427_3) | (show (Addr.add _ _).block ≠ _; rw [qab]; exact hn427_3) | exact hn427_3) (.bool false)).trans hx427_0
            replace hx427_1 := (cell_far (p := ⟨gb425, 3, none⟩) (by first | (rw [qab]; exact hn427_3) | (show (Addr.add _ _).block ≠ _; rw [qab]; exact hn427_3) | exact hn427_3) (.bool false)).trans hx427_1
            replace hx427_2 := (cell_far (p := ⟨gb425, 3, none⟩) (by first | (rw [qab]; exact hn427_3) | (show (Addr.add _ _).block ≠ _; rw [qab]; exact hn427_3) | exact hn427_3) (.bool false)).trans hx427_2
            replace hx427_3 := (cell_far (p := ⟨gb425, 3, none⟩) (by first | (rw [qab]; exact hn427_3) | (show (Addr.add _ _).block ≠ _; rw [qab]; exact hn427_3) | exact hn427_3) (.bool false)).trans hx427_3
            clear hn427_0
            clear hn427_1
            clear hn427_2
            clear hn427_3
            replace p427 := eq_true p427
            replace q427 := eq_true q427
            have hcz20_0 : w12.cell? ⟨gb425, 0, none⟩ = some (.int .i64 0) := (qkc BK425.out 0).trans rfl
            have hcz20_1 : w12.cell? ⟨gb425, 1, none⟩ = some (.int .i64 0) := (qkc BK425.out 1).trans rfl
            have hcz20_2 : w12.cell? ⟨gb425, 2, none⟩ = some (.string (⟨#[]⟩ : ByteArray)) := (qkc BK425.out 2).trans rfl
            have hcz20_3 : w12.cell? ⟨gb425, 3, none⟩ = some (.bool false) := (qkc BK425.out 3).trans rfl
            have hfz20_0 := qkf BK425.out 0
            have hfz20_1 := qkf BK425.out 1
            have hfz20_2 := qkf BK425.out 2
            have hfz20_3 := qkf BK425.out 3
            go_wp2
            refine Met.intro ?_
            go_step
            (repeat apply Exists.intro)
            refine ⟨?rel, ?frm⟩
            case frm => first | rfl | (simp only [c9b0, c10b0, c15b0, c15b1, c16b0, c17b0]; rfl) | (simp only [c9b0, c10b0, c15b0, c15b1, c16b0, c17b0]; first | done | rfl)
            case rel => exact ⟨_, ((rd_T36 l0_1 x8_1).f1), H', ⟨by have := HK1.out; have := HJ3.out; first | omega | exact Nat.le_refl _⟩, ⟨by (with_reducible repeat (first | apply Kd.R_alloc | apply Kd.R_drewN | apply Kd.R_drew)); exact Kd.R_mono (Kd.R_far (p := ⟨gb425, 0, none⟩) (Kd.R_far (p := ⟨gb425, 3, none⟩) (Kd.R_far (p := ⟨gb425, 2, none⟩) (Kd.R_far (p := ⟨gb425, 1, none⟩) (Kd.R_far (p := ⟨gb425, 0, none⟩) (Kd.R_mono HO_6.out (fun k_ hk => (⟨hk, hk.2⟩ : _ ∧ k_ ≠ gb425))) (fun _ hk => hk.2) (.int .i64 0)) (fun _ hk => hk.2) (.int .i64 0)) (fun _ hk => hk.2) (.string (⟨#[]⟩ : ByteArray))) (fun _ hk => hk.2) (.bool false)) (fun _ hk => hk.2) (.int .i64 ((rd_T36 l0_1 x8_1).f1))) (fun _ hk => hk.1.2)⟩, ⟨by (with_reducible repeat (first | refine qkN ?_ _ | refine qkd ?_ | refine qka ?_ _)); refine qkr ?_ NB420_425.out _; (with_reducible repeat (first | refine qkN ?_ _ | refine qkd ?_ | refine qka ?_ _)); refine qkr ?_ NB420_425.out _; (with_reducible repeat (first | refine qkN ?_ _ | refine qkd ?_ | refine qka ?_ _)); refine qkr ?_ NB420_425.out _; (with_reducible repeat (first | refine qkN ?_ _ | refine qkd ?_ | refine qka ?_ _)); refine qkr ?_ NB420_425.out _; (with_reducible repeat (first | refine qkN ?_ _ | refine qkd ?_ | refine qka ?_ _)); refine qkr ?_ NB420_425.out _; (with_reducible repeat (first | refine qkN ?_ _ | refine qkd ?_ | refine qka ?_ _)); exact BK420.out⟩, ⟨by (with_reducible repeat (first | refine qkN ?_ _ | refine qkd ?_ | refine qka ?_ _)); refine qkp (cs := #[.int .i64 0, .int .i64 0, .string (⟨#[]⟩ : ByteArray), .bool false]) ?_ 0 _ rfl; (with_reducible repeat (first | refine qkN ?_ _ | refine qkd ?_ | refine qka ?_ _)); refine qkp (cs := #[.int .i64 0, .int .i64 0, .string (⟨#[]⟩ : ByteArray), .bool false]) ?_ 3 _ rfl; (with_reducible repeat (first | refine qkN ?_ _ | refine qkd ?_ | refine qka ?_ _)); refine qkp (cs := #[.int .i64 0, .int .i64 0, .string (⟨#[]⟩ : ByteArray), .bool false]) ?_ 2 _ rfl; (with_reducible repeat (first | refine qkN ?_ _ | refine qkd ?_ | refine qka ?_ _)); refine qkp (cs := #[.int .i64 0, .int .i64 0, .string (⟨#[]⟩ : ByteArray), .bool false]) ?_ 1 _ rfl; (with_reducible repeat (first | refine qkN ?_ _ | refine qkd ?_ | refine qka ?_ _)); refine qkp (cs := #[.int .i64 0, .int .i64 0, .string (⟨#[]⟩ : ByteArray), .bool false]) ?_ 0 _ rfl; (with_reducible repeat (first | refine qkN ?_ _ | refine qkd ?_ | refine qka ?_ _)); exact BK425.out⟩, ⟨by repeat (first | (with_reducible first | exact HB.out | apply below_alloc | apply qbN | apply qb1 | refine qbs ?_ GE420.out | refine qbs ?_ GE425.out) | exact HB.out)⟩⟩
           ·rw [if_neg c17] at H
            exact absurd H (by simp)
          ·rw [if_neg c16] at H
           exact absurd H (by simp)
         ·rw [if_neg c15] at H
          have c15b0 : ((rd l1 x7_1) == 1) = false := beq_eq_false_iff_ne.mpr c15
          have c15b1 : ((rd l1 x7_1) != 1) = true := bne_iff_ne.mpr c15
          (first | rw [c15b0] | (simp only [i64_w, i32_w]; rw [c15b0]) | skip)
          have H' := Aside0.mk H
          clear H
          go_wp2
          refine Met.intro ?_
          go_step
          (repeat apply Exists.intro)
          refine ⟨?rel, ?frm⟩
          case frm => first | rfl | (simp only [c9b0, c10b0, c15b0, c15b1]; rfl) | (simp only [c9b0, c10b0, c15b0, c15b1]; first | done | rfl)
          case rel => exact ⟨_, (0), H', ⟨by have := HK1.out; have := HJ3.out; first | omega | exact Nat.le_refl _⟩, ⟨by (with_reducible repeat (first | apply Kd.R_alloc | apply Kd.R_drewN | apply Kd.R_drew)); exact Kd.R_mono (Kd.R_far (p := ⟨gb425, 3, none⟩) (Kd.R_far (p := ⟨gb425, 2, none⟩) (Kd.R_far (p := ⟨gb425, 1, none⟩) (Kd.R_far (p := ⟨gb425, 0, none⟩) (Kd.R_mono HO_6.out (fun k_ hk => (⟨hk, hk.2⟩ : _ ∧ k_ ≠ gb425))) (fun _ hk => hk.2) (.int .i64 0)) (fun _ hk => hk.2) (.int .i64 0)) (fun _ hk => hk.2) (.string (⟨#[]⟩ : ByteArray))) (fun _ hk => hk.2) (.bool false)) (fun _ hk => hk.1.2)⟩, ⟨by (with_reducible repeat (first | refine qkN ?_ _ | refine qkd ?_ | refine qka ?_ _)); refine qkr ?_ NB420_425.out _; (with_reducible repeat (first | refine qkN ?_ _ | refine qkd ?_ | refine qka ?_ _)); refine qkr ?_ NB420_425.out _; (with_reducible repeat (first | refine qkN ?_ _ | refine qkd ?_ | refine qka ?_ _)); refine qkr ?_ NB420_425.out _; (with_reducible repeat (first | refine qkN ?_ _ | refine qkd ?_ | refine qka ?_ _)); refine qkr ?_ NB420_425.out _; (with_reducible repeat (first | refine qkN ?_ _ | refine qkd ?_ | refine qka ?_ _)); exact BK420.out⟩, ⟨by (with_reducible repeat (first | refine qkN ?_ _ | refine qkd ?_ | refine qka ?_ _)); refine qkp (cs := #[.int .i64 0, .int .i64 0, .string (⟨#[]⟩ : ByteArray), .bool false]) ?_ 3 _ rfl; (with_reducible repeat (first | refine qkN ?_ _ | refine qkd ?_ | refine qka ?_ _)); refine qkp (cs := #[.int .i64 0, .int .i64 0, .string (⟨#[]⟩ : ByteArray), .bool false]) ?_ 2 _ rfl; (with_reducible repeat (first | refine qkN ?_ _ | refine qkd ?_ | refine qka ?_ _)); refine qkp (cs := #[.int .i64 0, .int .i64 0, .string (⟨#[]⟩ : ByteArray), .bool false]) ?_ 1 _ rfl; (with_reducible repeat (first | refine qkN ?_ _ | refine qkd ?_ | refine qka ?_ _)); refine qkp (cs := #[.int .i64 0, .int .i64 0, .string (⟨#[]⟩ : ByteArray), .bool false]) ?_ 0 _ rfl; (with_reducible repeat (first | refine qkN ?_ _ | refine qkd ?_ | refine qka ?_ _)); exact BK425.out⟩, ⟨by repeat (first | (with_reducible first | exact HB.out | apply below_alloc | apply qbN | apply qb1 | refine qbs ?_ GE420.out | refine qbs ?_ GE425.out) | exact HB.out)⟩⟩
        case rest =>
         clear HC11
         try clear c1
         try clear p2
         try clear p4
         try clear q4
         try clear hx4
         try clear c5
         try clear c5b0
         try clear p6
         try clear c8
         try clear c9
         try clear c9b0
         try clear c10
         try clear c10b0
         try clear c13
         try clear c15
         try clear c15b0
         try clear c15b1
         try clear c16
         try clear c16b0
         try clear c17
         try clear c17b0
         try clear c18
         try clear hcz14_0
         try clear hcz14_1
         try clear hcz14_2
         try clear hcz14_3
         try clear hcz19_0
         try clear hcz19_1
         try clear hcz20_0
         try clear hcz20_1
         try clear hcz20_2
         try clear hcz20_3
         try clear hcz6_0
         try clear hcz6_1
         try clear hcz7_0
         try clear hcz7_1
         try clear hfz14_0
         try clear hfz14_1
         try clear hfz14_2
         try clear hfz14_3
         try clear hfz19_0
         try clear hfz19_1
         try clear hfz20_0
         try clear hfz20_1
         try clear hfz20_2
         try clear hfz20_3
         try clear hfz6_0
         try clear hfz6_1
         try clear hfz7_0
         try clear hfz7_1
         try clear hx426_0
         try clear hx427_0
         try clear hx427_1
         try clear hx427_2
         try clear hx427_3
         try clear p2
         try clear p426
         try clear p427
         try clear q426
         try clear q427
         obtain ⟨kq, x426000_10, HA, HJ10, HO_6, BK420, BK425, HB⟩ := hcut
         cases kq with
         | zero => exact absurd HA.out (by simp [barbicanref14_Decode.j2])
         | succ kj10 =>
          have H := HA.out
          clear HA
          simp only [barbicanref14_Decode.j2] at H
          by_cases c21 : x426000_10 = 1
          ·rw [if_pos c21] at H
           have c21b0 : (x426000_10 == 1) = true := beq_iff_eq.mpr c21
           have c21b1 : (x426000_10 != 1) = false := bne_eq_false_iff_eq.mpr c21
           clear c21
           obtain ⟨ji22, hji22⟩ : ∃ j_ : Int, (wrap64 (x7_1 + 1)) = j_ := ⟨_, rfl⟩
           replace H : (if 0 ≤ (ji22) then (if (ji22) ≤ (l1.length : Int) then ((barbicanref03_Int.f kj10 (l1.drop ((ji22) : Int).toNat)).bind fun bt429 => (if x6_1.length < 3518437208883 then (barbicanref14_Decode.l0 kj10 l1 (x6_1 ++ [(⟨x426000_10, bt429.1, (⟨#[]⟩ : ByteArray), false⟩ : S38)]) (wrap64 ((ji22) + bt429.2.1)) (wrap64 (x8_1 + 1)) a0_0 l0_1) else (none))) else (none)) else (none)) = some (r1, r2) := by first | (rw [hji22] at H; exact H) | (simp only [hji22] at H ⊢; exact H)
           have hji22w : (IntKind.i64.wrap (x7_1 + 1)) = ji22 := (i64_w _).trans hji22
           by_cases c23 : 0 ≤ (ji22)
           ·rw [if_pos c23] at H
            have c23b0 := eq_true c23
            have c23b1 : decide (0 ≤ (ji22)) = true := decide_eq_true c23
            clear c23
            by_cases c24 : (ji22) ≤ (l1.length : Int)
            ·rw [if_pos c24] at H
             have c24b0 := eq_true c24
             have c24b1 : decide ((ji22) ≤ (l1.length : Int)) = true := decide_eq_true c24
             clear c24
             replace H := Option.bind_eq_some_iff.mp H
             obtain ⟨⟨t429, t430, t431⟩, A250, H⟩ := H
             replace H : (if x6_1.length < 3518437208883 then (barbicanref14_Decode.l0 kj10 l1 (x6_1 ++ [(⟨x426000_10, t429, (⟨#[]⟩ : ByteArray), false⟩ : S38)]) (wrap64 ((ji22) + t430)) (wrap64 (x8_1 + 1)) a0_0 l0_1) else (none)) = some (r1, r2) := H
             have A25 := Aside0.mk A250
             clear A250
             by_cases c26 : x6_1.length < 3518437208883
             ·rw [if_pos c26] at H
              have LMc26 := Aside0.mk c26
              clear c26
              obtain ⟨y432, hy432⟩ : ∃ y_ : List (S38), y_ = (x6_1 ++ [(⟨x426000_10, t429, (⟨#[]⟩ : ByteArray), false⟩ : S38)]) := ⟨_, rfl⟩
              replace H : (barbicanref14_Decode.l0 kj10 l1 y432 (wrap64 ((ji22) + t430)) (wrap64 (x8_1 + 1)) a0_0 l0_1) = some (r1, r2) := by first | (rw [hy432]; with_reducible exact H) | (have H2_ := (Option.bind_some _ _).symm.trans H; rw [hy432]; with_reducible exact H2_) | (have H2_ := (Option.bind_some _ _).symm.trans H; with_reducible exact H2_) | with_reducible exact H | (rw [hy432]; exact H) | exact H
              have Ny432 := Aside0.mk hy432
              clear hy432
              have H' := Aside0.mk H
              clear H
              have hnb27 := NB425_420.out
              have hnc27 := NB420_425.out
              have hcz28_0 : wc.cell? ⟨gb425, 0, none⟩ = some (.int .i64 x426000_10) := (qkc BK425.out 0).trans rfl
              have hcz28_1 : wc.cell? ⟨gb425, 1, none⟩ = some (.int .i64 0) := (qkc BK425.out 1).trans rfl
              have hcz28_2 : wc.cell? ⟨gb425, 2, none⟩ = some (.string (⟨#[]⟩ : ByteArray)) := (qkc BK425.out 2).trans rfl
              have hcz28_3 : wc.cell? ⟨gb425, 3, none⟩ = some (.bool false) := (qkc BK425.out 3).trans rfl
              have hfz28_0 := qkf BK425.out 0
              have hfz28_1 := qkf BK425.out 1
              have hfz28_2 := qkf BK425.out 2
              have hfz28_3 := qkf BK425.out 3
              obtain ⟨i029, hi029, _, hsz29, _⟩ := info_parts info5
              obtain ⟨A29, hcut29, hA29, hC29⟩ := print_drop_of (P := Tryd.prog) (Value.int .u8) 0 26 5 .i64 Tryd.underlying26 hi029 hsz29 (some ad426) c1 l1 (ji22) (ode_) (ode_) HC1.out
              have HR428 := Aside0.mk (Kd.C_of_reads (h1 := fun _ => rfl) (hA29 _ (Kd.reads_of_C HR1.out)))
              have HC428 := Aside0.mk hC29
              clear hA29 hC29 hi029 hsz29
              go_wp2_with (first | ((with_reducible refine qgc (f := 44) rfl ?_); refine goesL_ (some 51) rfl rfl Tryd.func44 (by kernel_rfl) rfl #[.slice A29 (l1.drop ((ji22) : Int).toNat).length (c1 - (ji22).toNat)] rfl (by (try simp only [List.map_toArray, List.map_cons, List.map_nil]); first | done | (rw [show (l1.drop ((ji22) : Int).toNat).length = (l1.length - (ji22).toNat) from List.length_drop] <;> rfl) | (simp only [hji22]; rfl) | rfl | (simp only [List.length_drop, List.length_take]; rfl)) ?_; (with_reducible refine (barbicanref03_Int.calls kj10 _ _ (l1.drop ((ji22) : Int).toNat) t429 t430 t431 _ ?side1 ?side2 A25.out).mono ?_); (case side1 => repeat (first | exact (Kd.C_below HR428.out HB.out) | (with_reducible refine Kd.C_alloc ?_ _) | (with_reducible refine Kd.C_drewN ?_ _) | (with_reducible refine Kd.C_drew ?_))); (case side2 => exact HC428.out); rintro e w' ⟨rfl, ⟨nd, rfl⟩⟩; refine ⟨_, rfl, ?_⟩; (try (rw [drewN_self wc]; generalize hq_ : World.drewN wc _ = wc; have n0_ : Aside0 (Kd.R k38 38 wc w.heap.size (fun k_ => k_ ≠ gb425) u6 x6_1) := ⟨by rw [← hq_]; exact (by (with_reducible repeat (first | apply Kd.R_alloc | apply Kd.R_drewN | apply Kd.R_drew)); exact HO_6.out)⟩; have n1_ : Aside0 (wc.heap[gb420]? = some (.cells #[.string a0_0, .slice A0_1 l0_1.length c0_1] 24 (0, 0))) := ⟨by rw [← hq_]; exact (by (with_reducible repeat (first | refine qkN ?_ _ | refine qkd ?_ | refine qka ?_ _)); exact BK420.out)⟩; have n2_ : Aside0 (wc.heap[gb425]? = some (.cells #[.int .i64 x426000_10, .int .i64 0, .string (⟨#[]⟩ : ByteArray), .bool false] 38 (0, 0))) := ⟨by rw [← hq_]; exact (by (with_reducible repeat (first | refine qkN ?_ _ | refine qkd ?_ | refine qka ?_ _)); exact BK425.out)⟩; have n3_ : Aside0 (Below w.heap.size w wc) := ⟨by rw [← hq_]; exact (by repeat (first | (with_reducible first | exact HB.out | apply below_alloc | apply qbN | apply qb1 | refine qbs ?_ GE420.out | refine qbs ?_ GE425.out) | exact HB.out))⟩; clear HO_6 BK420 BK425 HB hq_; have HO_6 := n0_; have BK420 := n1_; have BK425 := n2_; have HB := n3_; clear n0_ n1_ n2_ n3_)); (try have hcz28_0 : wc.cell? ⟨gb425, 0, none⟩ = some (.int .i64 x426000_10) := (qkc BK425.out 0).trans rfl); (try have hcz28_1 : wc.cell? ⟨gb425, 1, none⟩ = some (.int .i64 0) := (qkc BK425.out 1).trans rfl); (try have hcz28_2 : wc.cell? ⟨gb425, 2, none⟩ = some (.string (⟨#[]⟩ : ByteArray)) := (qkc BK425.out 2).trans rfl); (try have hcz28_3 : wc.cell? ⟨gb425, 3, none⟩ = some (.bool false) := (qkc BK425.out 3).trans rfl); (try have hfz28_0 := qkf BK425.out 0); (try have hfz28_1 := qkf BK425.out 1); (try have hfz28_2 := qkf BK425.out 2); (try have hfz28_3 := qkf BK425.out 3)) | ((with_reducible refine gate_builtin (b := .append) (xs := #[.tmp 84, .tmp 86]) rfl ?_); (try (refine gate_guard (by rfl) ?_; dsimp only)); at_builtin; refine Kd.R_append k38 (w0 := w) w.heap.size rfl (.tmp 84) (.tmp 86) 25 38 (.agg #[(.int .i64 0), (.int .i64 0), (.string ⟨#[]⟩), (.bool false)]) 40 rfl Tryd.underlying25 info38 rfl (by decide) (by omega) u6 x6_1 (⟨x426000_10, t429, (⟨#[]⟩ : ByteArray), false⟩ : S38) [.int .i64 x426000_10, .int .i64 t429, .string (⟨#[]⟩ : ByteArray), .bool false] (fun k_ => k_ ≠ gb425) (fun _ => False) rfl (by first | (go_simp; done) | (go_simp; rfl)) ?aP (fun _ hk => hk.elim) ?aF ?aO ?aB ?aS ?aL ?_; (case aP => exact k38_mkM _ _ _ (⟨x426000_10, t429, (⟨#[]⟩ : ByteArray), false⟩ : S38)); (case aB => exact (by repeat (first | (with_reducible first | exact HB.out | apply below_alloc | apply qbN | apply qb1 | refine qbs ?_ GE420.out | refine qbs ?_ GE425.out) | exact HB.out))); (case aF => exact (fun k_ hk => Kd.freshB (g := gb425) (o := .cells #[.int .i64 x426000_10, .int .i64 t429, .string (⟨#[]⟩ : ByteArray), .bool false] 38 (0, 0)) (by (with_reducible repeat (first | refine qkN ?_ _ | refine qkd ?_ | refine qka ?_ _)); refine qkp (cs := #[.int .i64 x426000_10, .int .i64 0, .string (⟨#[]⟩ : ByteArray), .bool false]) ?_ 1 _ rfl; (with_reducible repeat (first | refine qkN ?_ _ | refine qkd ?_ | refine qka ?_ _)); exact BK425.out) k_ hk)); (case aO => exact (by (with_reducible repeat (first | apply Kd.R_alloc | apply Kd.R_drewN | apply Kd.R_drew)); exact Kd.R_mono (Kd.R_far (p := ⟨gb425, 1, none⟩) (Kd.R_mono HO_6.out (fun k_ hk => (⟨hk, hk⟩ : _ ∧ k_ ≠ gb425))) (fun _ hk => hk.2) (.int .i64 t429)) (fun _ hk => hk.1))); (case aS => exact (qbz (by repeat (first | (with_reducible first | exact HB.out | apply below_alloc | apply qbN | apply qb1 | refine qbs ?_ GE420.out | refine qbs ?_ GE425.out) | exact HB.out)))); (case aL => have := LMc26.out; omega); intro v433 w30 ho hb hg hat; rw [← Ny432.out] at ho; have n0_ := Aside0.mk (blk_grown (g := gb420) (o := .cells #[.string a0_0, .slice A0_1 l0_1.length c0_1] 24 (0, 0)) (by (with_reducible repeat (first | refine qkN ?_ _ | refine qkd ?_ | refine qka ?_ _)); refine qkr ?_ NB420_425.out _; (with_reducible repeat (first | refine qkN ?_ _ | refine qkd ?_ | refine qka ?_ _)); exact BK420.out) hg (Kd.R_ne HO_6.out BK420.out (by decide))); have n1_ := Aside0.mk (blk_grown (g := gb425) (o := .cells #[.int .i64 x426000_10, .int .i64 t429, .string (⟨#[]⟩ : ByteArray), .bool false] 38 (0, 0)) (by (with_reducible repeat (first | refine qkN ?_ _ | refine qkd ?_ | refine qka ?_ _)); refine qkp (cs := #[.int .i64 x426000_10, .int .i64 0, .string (⟨#[]⟩ : ByteArray), .bool false]) ?_ 1 _ rfl; (with_reducible repeat (first | refine qkN ?_ _ | refine qkd ?_ | refine qka ?_ _)); exact BK425.out) hg (Kd.R_away HO_6.out (fun _ hk => hk))); have n2_ := Aside0.mk (hb); have n3_ := Aside0.mk (ho); clear BK420; clear BK425; clear HB; clear HO_6; have BK420 := n0_; have BK425 := n1_; have HB := n2_; have HO434 := n3_; clear n0_ n1_ n2_ n3_; clear ho hb hg hat))
              go_roundg kj10
              case measure => have := HK1.out; have := HJ3.out; have := HJ10.out; omega
              case rel => exact ⟨(y432), (wrap64 ((ji22) + t430)), (wrap64 (x8_1 + 1)), (by first | rfl | (simp; done) | (simp only [← hji22] <;> (first | rfl | simp)) | (simp [*]; done)), (by first | rfl | (simp; done) | (simp [*]; done)), H', ⟨by have := HK1.out; have := HJ3.out; have := HJ10.out; omega⟩, ⟨by (with_reducible repeat (first | apply Kd.R_alloc | apply Kd.R_drewN | apply Kd.R_drew)); exact Kd.R_mono HO434.out (fun _ hk => trivial)⟩, ⟨by (with_reducible repeat (first | refine qkN ?_ _ | refine qkd ?_ | refine qka ?_ _)); exact BK420.out⟩, ⟨by repeat (first | (with_reducible first | exact HB.out | apply below_alloc | apply qbN | apply qb1 | refine qbs ?_ GE420.out | refine qbs ?_ GE425.out) | exact HB.out)⟩⟩
             ·rw [if_neg c26] at H
              exact absurd H (by simp)
            ·rw [if_neg c24] at H
             exact absurd H (by simp)
           ·rw [if_neg c23] at H
            exact absurd H (by simp)
          ·rw [if_neg c21] at H
           have c21b0 : (x426000_10 == 1) = false := beq_eq_false_iff_ne.mpr c21
           have c21b1 : (x426000_10 != 1) = true := bne_iff_ne.mpr c21
           by_cases c31 : x426000_10 = 2
           ·rw [if_pos c31] at H
            have c31b0 : (x426000_10 == 2) = true := beq_iff_eq.mpr c31
            have c31b1 : (x426000_10 != 2) = false := bne_eq_false_iff_eq.mpr c31
            clear c31
            obtain ⟨ji32, hji32⟩ : ∃ j_ : Int, (wrap64 (x7_1 + 1)) = j_ := ⟨_, rfl⟩
            replace H : (if 0 ≤ (ji32) then (if (ji32) ≤ (l1.length : Int) then ((barbicanref03_Text.f kj10 (l1.drop ((ji32) : Int).toNat) 4096).bind fun bt436 => (if x6_1.length < 3518437208883 then (barbicanref14_Decode.l0 kj10 l1 (x6_1 ++ [(⟨x426000_10, 0, bt436.1, false⟩ : S38)]) (wrap64 ((ji32) + bt436.2.1)) (wrap64 (x8_1 + 1)) a0_0 l0_1) else (none))) else (none)) else (none)) = some (r1, r2) := by first | (rw [hji32] at H; exact H) | (simp only [hji32] at H ⊢; exact H)
            have hji32w : (IntKind.i64.wrap (x7_1 + 1)) = ji32 := (i64_w _).trans hji32
            by_cases c33 : 0 ≤ (ji32)
            ·rw [if_pos c33] at H
             have c33b0 := eq_true c33
             have c33b1 : decide (0 ≤ (ji32)) = true := decide_eq_true c33
             clear c33
             by_cases c34 : (ji32) ≤ (l1.length : Int)
             ·rw [if_pos c34] at H
              have c34b0 := eq_true c34
              have c34b1 : decide ((ji32) ≤ (l1.length : Int)) = true := decide_eq_true c34
              clear c34
              replace H := Option.bind_eq_some_iff.mp H
              obtain ⟨⟨t436, t437, t438⟩, A350, H⟩ := H
              replace H : (if x6_1.length < 3518437208883 then (barbicanref14_Decode.l0 kj10 l1 (x6_1 ++ [(⟨x426000_10, 0, t436, false⟩ : S38)]) (wrap64 ((ji32) + t437)) (wrap64 (x8_1 + 1)) a0_0 l0_1) else (none)) = some (r1, r2) := H
              have A35 := Aside0.mk A350
              clear A350
              by_cases c36 : x6_1.length < 3518437208883
              ·rw [if_pos c36] at H
               have LMc36 := Aside0.mk c36
               clear c36
               obtain ⟨y439, hy439⟩ : ∃ y_ : List (S38), y_ = (x6_1 ++ [(⟨x426000_10, 0, t436, false⟩ : S38)]) := ⟨_, rfl⟩
               replace H : (barbicanref14_Decode.l0 kj10 l1 y439 (wrap64 ((ji32) + t437)) (wrap64 (x8_1 + 1)) a0_0 l0_1) = some (r1, r2) := by first | (rw [hy439]; with_reducible exact H) | (have H2_ := (Option.bind_some _ _).symm.trans H; rw [hy439]; with_reducible exact H2_) | (have H2_ := (Option.bind_some _ _).symm.trans H; with_reducible exact H2_) | with_reducible exact H | (rw [hy439]; exact H) | exact H
               have Ny439 := Aside0.mk hy439
               clear hy439
               have H' := Aside0.mk H
               clear H
               have hnb37 := NB425_420.out
               have hnc37 := NB420_425.out
               have hcz38_0 : wc.cell? ⟨gb425, 0, none⟩ = some (.int .i64 x426000_10) := (qkc BK425.out 0).trans rfl
               have hcz38_1 : wc.cell? ⟨gb425, 1, none⟩ = some (.int .i64 0) := (qkc BK425.out 1).trans rfl
               have hcz38_2 : wc.cell? ⟨gb425, 2, none⟩ = some (.string (⟨#[]⟩ : ByteArray)) := (qkc BK425.out 2).trans rfl
               have hcz38_3 : wc.cell? ⟨gb425, 3, none⟩ = some (.bool false) := (qkc BK425.out 3).trans rfl
               have hfz38_0 := qkf BK425.out 0
               have hfz38_1 := qkf BK425.out 1
               have hfz38_2 := qkf BK425.out 2
               have hfz38_3 := qkf BK425.out 3
               obtain ⟨i039, hi039, _, hsz39, _⟩ := info_parts info5
               obtain ⟨A39, hcut39, hA39, hC39⟩ := print_drop_of (P := Tryd.prog) (Value.int .u8) 0 26 5 .i64 Tryd.underlying26 hi039 hsz39 (some ad426) c1 l1 (ji32) (ode_) (ode_) HC1.out
               have HR435 := Aside0.mk (Kd.C_of_reads (h1 := fun _ => rfl) (hA39 _ (Kd.reads_of_C HR1.out)))
               have HC435 := Aside0.mk hC39
               clear hA39 hC39 hi039 hsz39
               go_wp2_with (first | ((with_reducible refine qgc (f := 45) rfl ?_); refine goesL_ (some 62) rfl rfl Tryd.func45 (by kernel_rfl) rfl #[.slice A39 (l1.drop ((ji32) : Int).toNat).length (c1 - (ji32).toNat), .int .i64 4096] rfl (by (try simp only [List.map_toArray, List.map_cons, List.map_nil]); first | done | (rw [show (l1.drop ((ji32) : Int).toNat).length = (l1.length - (ji32).toNat) from List.length_drop] <;> rfl) | (simp only [hji32]; rfl) | rfl | (simp only [List.length_drop, List.length_take]; rfl)) ?_; (with_reducible refine (barbicanref03_Text.calls kj10 _ _ (l1.drop ((ji32) : Int).toNat) 4096 t436 t437 t438 _ ?side1 ?side2 A35.out).mono ?_); (case side1 => repeat (first | exact (Kd.C_below HR435.out HB.out) | (with_reducible refine Kd.C_alloc ?_ _) | (with_reducible refine Kd.C_drewN ?_ _) | (with_reducible refine Kd.C_drew ?_))); (case side2 => exact HC435.out); rintro e w' ⟨rfl, ⟨nd, rfl⟩⟩; refine ⟨_, rfl, ?_⟩; (try (rw [drewN_self wc]; generalize hq_ : World.drewN wc _ = wc; have n0_ : Aside0 (Kd.R k38 38 wc w.heap.size (fun k_ => k_ ≠ gb425) u6 x6_1) := ⟨by rw [← hq_]; exact (by (with_reducible repeat (first | apply Kd.R_alloc | apply Kd.R_drewN | apply Kd.R_drew)); exact HO_6.out)⟩; have n1_ : Aside0 (wc.heap[gb420]? = some (.cells #[.string a0_0, .slice A0_1 l0_1.length c0_1] 24 (0, 0))) := ⟨by rw [← hq_]; exact (by (with_reducible repeat (first | refine qkN ?_ _ | refine qkd ?_ | refine qka ?_ _)); exact BK420.out)⟩; have n2_ : Aside0 (wc.heap[gb425]? = some (.cells #[.int .i64 x426000_10, .int .i64 0, .string (⟨#[]⟩ : ByteArray), .bool false] 38 (0, 0))) := ⟨by rw [← hq_]; exact (by (with_reducible repeat (first | refine qkN ?_ _ | refine qkd ?_ | refine qka ?_ _)); exact BK425.out)⟩; have n3_ : Aside0 (Below w.heap.size w wc) := ⟨by rw [← hq_]; exact (by repeat (first | (with_reducible first | exact HB.out | apply below_alloc | apply qbN | apply qb1 | refine qbs ?_ GE420.out | refine qbs ?_ GE425.out) | exact HB.out))⟩; clear HO_6 BK420 BK425 HB hq_; have HO_6 := n0_; have BK420 := n1_; have BK425 := n2_; have HB := n3_; clear n0_ n1_ n2_ n3_)); (try have hcz38_0 : wc.cell? ⟨gb425, 0, none⟩ = some (.int .i64 x426000_10) := (qkc BK425.out 0).trans rfl); (try have hcz38_1 : wc.cell? ⟨gb425, 1, none⟩ = some (.int .i64 0) := (qkc BK425.out 1).trans rfl); (try have hcz38_2 : wc.cell? ⟨gb425, 2, none⟩ = some (.string (⟨#[]⟩ : ByteArray)) := (qkc BK425.out 2).trans rfl); (try have hcz38_3 : wc.cell? ⟨gb425, 3, none⟩ = some (.bool false) := (qkc BK425.out 3).trans rfl); (try have hfz38_0 := qkf BK425.out 0); (try have hfz38_1 := qkf BK425.out 1); (try have hfz38_2 := qkf BK425.out 2); (try have hfz38_3 := qkf BK425.out 3)) | ((with_reducible refine gate_builtin (b := .append) (xs := #[.tmp 84, .tmp 86]) rfl ?_); (try (refine gate_guard (by rfl) ?_; dsimp only)); at_builtin; refine Kd.R_append k38 (w0 := w) w.heap.size rfl (.tmp 84) (.tmp 86) 25 38 (.agg #[(.int .i64 0), (.int .i64 0), (.string ⟨#[]⟩), (.bool false)]) 40 rfl Tryd.underlying25 info38 rfl (by decide) (by omega) u6 x6_1 (⟨x426000_10, 0, t436, false⟩ : S38) [.int .i64 x426000_10, .int .i64 0, .string t436, .bool false] (fun k_ => k_ ≠ gb425) (fun _ => False) rfl (by first | (go_simp; done) | (go_simp; rfl)) ?aP (fun _ hk => hk.elim) ?aF ?aO ?aB ?aS ?aL ?_; (case aP => exact k38_mkM _ _ _ (⟨x426000_10, 0, t436, false⟩ : S38)); (case aB => exact (by repeat (first | (with_reducible first | exact HB.out | apply below_alloc | apply qbN | apply qb1 | refine qbs ?_ GE420.out | refine qbs ?_ GE425.out) | exact HB.out))); (case aF => exact (fun k_ hk => Kd.freshB (g := gb425) (o := .cells #[.int .i64 x426000_10, .int .i64 0, .string t436, .bool false] 38 (0, 0)) (by (with_reducible repeat (first | refine qkN ?_ _ | refine qkd ?_ | refine qka ?_ _)); refine qkp (cs := #[.int .i64 x426000_10, .int .i64 0, .string (⟨#[]⟩ : ByteArray), .bool false]) ?_ 2 _ rfl; (with_reducible repeat (first | refine qkN ?_ _ | refine qkd ?_ | refine qka ?_ _)); exact BK425.out) k_ hk)); (case aO => exact (by (with_reducible repeat (first | apply Kd.R_alloc | apply Kd.R_drewN | apply Kd.R_drew)); exact Kd.R_mono (Kd.R_far (p := ⟨gb425, 2, none⟩) (Kd.R_mono HO_6.out (fun k_ hk => (⟨hk, hk⟩ : _ ∧ k_ ≠ gb425))) (fun _ hk => hk.2) (.string t436)) (fun _ hk => hk.1))); (case aS => exact (qbz (by repeat (first | (with_reducible first | exact HB.out | apply below_alloc | apply qbN | apply qb1 | refine qbs ?_ GE420.out | refine qbs ?_ GE425.out) | exact HB.out)))); (case aL => have := LMc36.out; omega); intro v440 w40 ho hb hg hat; rw [← Ny439.out] at ho; have n0_ := Aside0.mk (blk_grown (g := gb420) (o := .cells #[.string a0_0, .slice A0_1 l0_1.length c0_1] 24 (0, 0)) (by (with_reducible repeat (first | refine qkN ?_ _ | refine qkd ?_ | refine qka ?_ _)); refine qkr ?_ NB420_425.out _; (with_reducible repeat (first | refine qkN ?_ _ | refine qkd ?_ | refine qka ?_ _)); exact BK420.out) hg (Kd.R_ne HO_6.out BK420.out (by decide))); have n1_ := Aside0.mk (blk_grown (g := gb425) (o := .cells #[.int .i64 x426000_10, .int .i64 0, .string t436, .bool false] 38 (0, 0)) (by (with_reducible repeat (first | refine qkN ?_ _ | refine qkd ?_ | refine qka ?_ _)); refine qkp (cs := #[.int .i64 x426000_10, .int .i64 0, .string (⟨#[]⟩ : ByteArray), .bool false]) ?_ 2 _ rfl; (with_reducible repeat (first | refine qkN ?_ _ | refine qkd ?_ | refine qka ?_ _)); exact BK425.out) hg (Kd.R_away HO_6.out (fun _ hk => hk))); have n2_ := Aside0.mk (hb); have n3_ := Aside0.mk (ho); clear BK420; clear BK425; clear HB; clear HO_6; have BK420 := n0_; have BK425 := n1_; have HB := n2_; have HO441 := n3_; clear n0_ n1_ n2_ n3_; clear ho hb hg hat))
               go_roundg kj10
               case measure => have := HK1.out; have := HJ3.out; have := HJ10.out; omega
               case rel => exact ⟨(y439), (wrap64 ((ji32) + t437)), (wrap64 (x8_1 + 1)), (by first | rfl | (simp; done) | (simp only [← hji32] <;> (first | rfl | simp)) | (simp [*]; done)), (by first | rfl | (simp; done) | (simp [*]; done)), H', ⟨by have := HK1.out; have := HJ3.out; have := HJ10.out; omega⟩, ⟨by (with_reducible repeat (first | apply Kd.R_alloc | apply Kd.R_drewN | apply Kd.R_drew)); exact Kd.R_mono HO441.out (fun _ hk => trivial)⟩, ⟨by (with_reducible repeat (first | refine qkN ?_ _ | refine qkd ?_ | refine qka ?_ _)); exact BK420.out⟩, ⟨by repeat (first | (with_reducible first | exact HB.out | apply below_alloc | apply qbN | apply qb1 | refine qbs ?_ GE420.out | refine qbs ?_ GE425.out) | exact HB.out)⟩⟩
              ·rw [if_neg c36] at H
               exact absurd H (by simp)
             ·rw [if_neg c34] at H
              exact absurd H (by simp)
            ·rw [if_neg c33] at H
             exact absurd H (by simp)
           ·rw [if_neg c31] at H
            have c31b0 : (x426000_10 == 2) = false := beq_eq_false_iff_ne.mpr c31
            have c31b1 : (x426000_10 != 2) = true := bne_iff_ne.mpr c31
            by_cases c41 : x426000_10 = 3
            ·rw [if_pos c41] at H
             have c41b0 : (x426000_10 == 3) = true := beq_iff_eq.mpr c41
             have c41b1 : (x426000_10 != 3) = false := bne_eq_false_iff_eq.mpr c41
             clear c41
             by_cases c42 : (wrap64 (x7_1 + 1)) < (l1.length : Int)
             ·rw [if_pos c42] at H
              have c42b0 : decide ((wrap64 (x7_1 + 1)) < (l1.length : Int)) = true := decide_eq_true c42
              clear c42
              obtain ⟨ji43, hji43⟩ : ∃ j_ : Int, (wrap64 (x7_1 + 1)) = j_ := ⟨_, rfl⟩
              replace H : (if 0 ≤ (ji43) then (if x6_1.length < 3518437208883 then (barbicanref14_Decode.l0 kj10 l1 (x6_1 ++ [(⟨x426000_10, 0, (⟨#[]⟩ : ByteArray), ((rd l1 (ji43)) == 1)⟩ : S38)]) (wrap64 ((ji43) + 1)) (wrap64 (x8_1 + 1)) a0_0 l0_1) else (none)) else (none)) = some (r1, r2) := by first | (rw [hji43] at H; exact H) | (simp only [hji43] at H ⊢; exact H)
              (try rw [hji43] at c42b0)
              have hji43w : (IntKind.i64.wrap (x7_1 + 1)) = ji43 := (i64_w _).trans hji43
              by_cases c44 : 0 ≤ (ji43)
              ·rw [if_pos c44] at H
               have c44b0 : decide (0 ≤ (ji43)) = true := decide_eq_true c44
               clear c44
               by_cases c45 : x6_1.length < 3518437208883
               ·rw [if_pos c45] at H
                have LMc45 := Aside0.mk c45
                clear c45
                obtain ⟨y443, hy443⟩ : ∃ y_ : List (S38), y_ = (x6_1 ++ [(⟨x426000_10, 0, (⟨#[]⟩ : ByteArray), ((rd l1 (ji43)) == 1)⟩ : S38)]) := ⟨_, rfl⟩
                replace H : (barbicanref14_Decode.l0 kj10 l1 y443 (wrap64 ((ji43) + 1)) (wrap64 (x8_1 + 1)) a0_0 l0_1) = some (r1, r2) := by first | (rw [hy443]; with_reducible exact H) | (have H2_ := (Option.bind_some _ _).symm.trans H; rw [hy443]; with_reducible exact H2_) | (have H2_ := (Option.bind_some _ _).symm.trans H; with_reducible exact H2_) | with_reducible exact H | (rw [hy443]; exact H) | exact H
                have Ny443 := Aside0.mk hy443
                clear hy443
                have H' := Aside0.mk H
                clear H
                have hnb46 := NB425_420.out
                have hnc46 := NB420_425.out
                have hcz47_0 : wc.cell? ⟨gb425, 0, none⟩ = some (.int .i64 x426000_10) := (qkc BK425.out 0).trans rfl
                have hcz47_1 : wc.cell? ⟨gb425, 1, none⟩ = some (.int .i64 0) := (qkc BK425.out 1).trans rfl
                have hcz47_2 : wc.cell? ⟨gb425, 2, none⟩ = some (.string (⟨#[]⟩ : ByteArray)) := (qkc BK425.out 2).trans rfl
                have hcz47_3 : wc.cell? ⟨gb425, 3, none⟩ = some (.bool false) := (qkc BK425.out 3).trans rfl
                have hfz47_0 := qkf BK425.out 0
                have hfz47_1 := qkf BK425.out 1
                have hfz47_2 := qkf BK425.out 2
                have hfz47_3 := qkf BK425.out 3
                have p442 : 0 ≤ ((ji43) : Int) := ode_
                have q442 : (ji43) < (l1.length : Int) := ode_
                obtain ⟨ad442, e442, hx442_0⟩ := Kd.at_int HR1.out (ji43) p442 q442
                obtain rfl : ad426 = ad442 := (by injection e442)
                replace hx442_0 := (HB.out.cell (World.block_lt_of_cell? w _ hx442_0)).trans hx442_0
                replace p442 := eq_true p442
                replace q442 := eq_true q442
                go_wp2_with (first | ((with_reducible refine gate_builtin (b := .append) (xs := #[.tmp 84, .tmp 86]) rfl ?_); (try (refine gate_guard (by rfl) ?_; dsimp only)); at_builtin; refine Kd.R_append k38 (w0 := w) w.heap.size rfl (.tmp 84) (.tmp 86) 25 38 (.agg #[(.int .i64 0), (.int .i64 0), (.string ⟨#[]⟩), (.bool false)]) 40 rfl Tryd.underlying25 info38 rfl (by decide) (by omega) u6 x6_1 (⟨x426000_10, 0, (⟨#[]⟩ : ByteArray), ((rd l1 (ji43)) == 1)⟩ : S38) [.int .i64 x426000_10, .int .i64 0, .string (⟨#[]⟩ : ByteArray), .bool ((rd l1 (ji43)) == 1)] (fun k_ => k_ ≠ gb425) (fun _ => False) rfl (by first | (go_simp; done) | (go_simp; rfl)) ?aP (fun _ hk => hk.elim) ?aF ?aO ?aB ?aS ?aL ?_; (case aP => exact k38_mkM _ _ _ (⟨x426000_10, 0, (⟨#[]⟩ : ByteArray), ((rd l1 (ji43)) == 1)⟩ : S38)); (case aB => exact (by repeat (first | (with_reducible first | exact HB.out | apply below_alloc | apply qbN | apply qb1 | refine qbs ?_ GE420.out | refine qbs ?_ GE425.out) | exact HB.out))); (case aF => exact (fun k_ hk => Kd.freshB (g := gb425) (o := .cells #[.int .i64 x426000_10, .int .i64 0, .string (⟨#[]⟩ : ByteArray), .bool ((rd l1 (ji43)) == 1)] 38 (0, 0)) (by (with_reducible repeat (first | refine qkN ?_ _ | refine qkd ?_ | refine qka ?_ _)); refine qkp (cs := #[.int .i64 x426000_10, .int .i64 0, .string (⟨#[]⟩ : ByteArray), .bool false]) ?_ 3 _ rfl; (with_reducible repeat (first | refine qkN ?_ _ | refine qkd ?_ | refine qka ?_ _)); exact BK425.out) k_ hk)); (case aO => exact (by (with_reducible repeat (first | apply Kd.R_alloc | apply Kd.R_drewN | apply Kd.R_drew)); exact Kd.R_mono (Kd.R_far (p := ⟨gb425, 3, none⟩) (Kd.R_mono HO_6.out (fun k_ hk => (⟨hk, hk⟩ : _ ∧ k_ ≠ gb425))) (fun _ hk => hk.2) (.bool ((rd l1 (ji43)) == 1))) (fun _ hk => hk.1))); (case aS => exact (qbz (by repeat (first | (with_reducible first | exact HB.out | apply below_alloc | apply qbN | apply qb1 | refine qbs ?_ GE420.out | refine qbs ?_ GE425.out) | exact HB.out)))); (case aL => have := LMc45.out; omega); intro v444 w48 ho hb hg hat; rw [← Ny443.out] at ho; have n0_ := Aside0.mk (blk_grown (g := gb420) (o := .cells #[.string a0_0, .slice A0_1 l0_1.length c0_1] 24 (0, 0)) (by (with_reducible repeat (first | refine qkN ?_ _ | refine qkd ?_ | refine qka ?_ _)); refine qkr ?_ NB420_425.out _; (with_reducible repeat (first | refine qkN ?_ _ | refine qkd ?_ | refine qka ?_ _)); exact BK420.out) hg (Kd.R_ne HO_6.out BK420.out (by decide))); have n1_ := Aside0.mk (blk_grown (g := gb425) (o := .cells #[.int .i64 x426000_10, .int .i64 0, .string (⟨#[]⟩ : ByteArray), .bool ((rd l1 (ji43)) == 1)] 38 (0, 0)) (by (with_reducible repeat (first | refine qkN ?_ _ | refine qkd ?_ | refine qka ?_ _)); refine qkp (cs := #[.int .i64 x426000_10, .int .i64 0, .string (⟨#[]⟩ : ByteArray), .bool false]) ?_ 3 _ rfl; (with_reducible repeat (first | refine qkN ?_ _ | refine qkd ?_ | refine qka ?_ _)); exact BK425.out) hg (Kd.R_away HO_6.out (fun _ hk => hk))); have n2_ := Aside0.mk (hb); have n3_ := Aside0.mk (ho); clear BK420; clear BK425; clear HB; clear HO_6; have BK420 := n0_; have BK425 := n1_; have HB := n2_; have HO445 := n3_; clear n0_ n1_ n2_ n3_; clear ho hb hg hat))
                go_roundg kj10
                case measure => have := HK1.out; have := HJ3.out; have := HJ10.out; omega
                case rel => exact ⟨(y443), (wrap64 ((ji43) + 1)), (wrap64 (x8_1 + 1)), (by first | rfl | (simp; done) | (simp only [← hji43] <;> (first | rfl | simp)) | (simp [*]; done)), (by first | rfl | (simp; done) | (simp [*]; done)), H', ⟨by have := HK1.out; have := HJ3.out; have := HJ10.out; omega⟩, ⟨by (with_reducible repeat (first | apply Kd.R_alloc | apply Kd.R_drewN | apply Kd.R_drew)); exact Kd.R_mono HO445.out (fun _ hk => trivial)⟩, ⟨by (with_reducible repeat (first | refine qkN ?_ _ | refine qkd ?_ | refine qka ?_ _)); exact BK420.out⟩, ⟨by repeat (first | (with_reducible first | exact HB.out | apply below_alloc | apply qbN | apply qb1 | refine qbs ?_ GE420.out | refine qbs ?_ GE425.out) | exact HB.out)⟩⟩
               ·rw [if_neg c45] at H
                exact absurd H (by simp)
              ·rw [if_neg c44] at H
               exact absurd H (by simp)
             ·rw [if_neg c42] at H
              have c42b0 : decide ((wrap64 (x7_1 + 1)) < (l1.length : Int)) = false := decide_eq_false c42
              clear c42
              by_cases c49 : x6_1.length < 3518437208883
              ·rw [if_pos c49] at H
               have LMc49 := Aside0.mk c49
               clear c49
               obtain ⟨y446, hy446⟩ : ∃ y_ : List (S38), y_ = (x6_1 ++ [(⟨x426000_10, 0, (⟨#[]⟩ : ByteArray), false⟩ : S38)]) := ⟨_, rfl⟩
               replace H : (barbicanref14_Decode.l0 kj10 l1 y446 (wrap64 ((wrap64 (x7_1 + 1)) + 1)) (wrap64 (x8_1 + 1)) a0_0 l0_1) = some (r1, r2) := by first | (rw [hy446]; with_reducible exact H) | (have H2_ := (Option.bind_some _ _).symm.trans H; rw [hy446]; with_reducible exact H2_) | (have H2_ := (Option.bind_some _ _).symm.trans H; with_reducible exact H2_) | with_reducible exact H | (rw [hy446]; exact H) | exact H
               have Ny446 := Aside0.mk hy446
               clear hy446
               have H' := Aside0.mk H
               clear H
               have hnb50 := NB425_420.out
               have hnc50 := NB420_425.out
               have hcz51_0 : wc.cell? ⟨gb425, 0, none⟩ = some (.int .i64 x426000_10) := (qkc BK425.out 0).trans rfl
               have hcz51_1 : wc.cell? ⟨gb425, 1, none⟩ = some (.int .i64 0) := (qkc BK425.out 1).trans rfl
               have hcz51_2 : wc.cell? ⟨gb425, 2, none⟩ = some (.string (⟨#[]⟩ : ByteArray)) := (qkc BK425.out 2).trans rfl
               have hcz51_3 : wc.cell? ⟨gb425, 3, none⟩ = some (.bool false) := (qkc BK425.out 3).trans rfl
               have hfz51_0 := qkf BK425.out 0
               have hfz51_1 := qkf BK425.out 1
               have hfz51_2 := qkf BK425.out 2
               have hfz51_3 := qkf BK425.out 3
               go_wp2_with (first | ((with_reducible refine gate_builtin (b := .append) (xs := #[.tmp 84, .tmp 86]) rfl ?_); (try (refine gate_guard (by rfl) ?_; dsimp only)); at_builtin; refine Kd.R_append k38 (w0 := w) w.heap.size rfl (.tmp 84) (.tmp 86) 25 38 (.agg #[(.int .i64 0), (.int .i64 0), (.string ⟨#[]⟩), (.bool false)]) 40 rfl Tryd.underlying25 info38 rfl (by decide) (by omega) u6 x6_1 (⟨x426000_10, 0, (⟨#[]⟩ : ByteArray), false⟩ : S38) [.int .i64 x426000_10, .int .i64 0, .string (⟨#[]⟩ : ByteArray), .bool false] (fun k_ => k_ ≠ gb425) (fun _ => False) rfl (by first | (go_simp; done) | (go_simp; rfl)) ?aP (fun _ hk => hk.elim) ?aF ?aO ?aB ?aS ?aL ?_; (case aP => exact k38_mkM _ _ _ (⟨x426000_10, 0, (⟨#[]⟩ : ByteArray), false⟩ : S38)); (case aB => exact (by repeat (first | (with_reducible first | exact HB.out | apply below_alloc | apply qbN | apply qb1 | refine qbs ?_ GE420.out | refine qbs ?_ GE425.out) | exact HB.out))); (case aF => exact (fun k_ hk => Kd.freshB (g := gb425) (o := .cells #[.int .i64 x426000_10, .int .i64 0, .string (⟨#[]⟩ : ByteArray), .bool false] 38 (0, 0)) (by (with_reducible repeat (first | refine qkN ?_ _ | refine qkd ?_ | refine qka ?_ _)); refine qkp (cs := #[.int .i64 x426000_10, .int .i64 0, .string (⟨#[]⟩ : ByteArray), .bool false]) ?_ 3 _ rfl; (with_reducible repeat (first | refine qkN ?_ _ | refine qkd ?_ | refine qka ?_ _)); exact BK425.out) k_ hk)); (case aO => exact (by (with_reducible repeat (first | apply Kd.R_alloc | apply Kd.R_drewN | apply Kd.R_drew)); exact Kd.R_mono (Kd.R_far (p := ⟨gb425, 3, none⟩) (Kd.R_mono HO_6.out (fun k_ hk => (⟨hk, hk⟩ : _ ∧ k_ ≠ gb425))) (fun _ hk => hk.2) (.bool false)) (fun _ hk => hk.1))); (case aS => exact (qbz (by repeat (first | (with_reducible first | exact HB.out | apply below_alloc | apply qbN | apply qb1 | refine qbs ?_ GE420.out | refine qbs ?_ GE425.out) | exact HB.out)))); (case aL => have := LMc49.out; omega); intro v447 w52 ho hb hg hat; rw [← Ny446.out] at ho; have n0_ := Aside0.mk (blk_grown (g := gb420) (o := .cells #[.string a0_0, .slice A0_1 l0_1.length c0_1] 24 (0, 0)) (by (with_reducible repeat (first | refine qkN ?_ _ | refine qkd ?_ | refine qka ?_ _)); refine qkr ?_ NB420_425.out _; (with_reducible repeat (first | refine qkN ?_ _ | refine qkd ?_ | refine qka ?_ _)); exact BK420.out) hg (Kd.R_ne HO_6.out BK420.out (by decide))); have n1_ := Aside0.mk (blk_grown (g := gb425) (o := .cells #[.int .i64 x426000_10, .int .i64 0, .string (⟨#[]⟩ : ByteArray), .bool false] 38 (0, 0)) (by (with_reducible repeat (first | refine qkN ?_ _ | refine qkd ?_ | refine qka ?_ _)); refine qkp (cs := #[.int .i64 x426000_10, .int .i64 0, .string (⟨#[]⟩ : ByteArray), .bool false]) ?_ 3 _ rfl; (with_reducible repeat (first | refine qkN ?_ _ | refine qkd ?_ | refine qka ?_ _)); exact BK425.out) hg (Kd.R_away HO_6.out (fun _ hk => hk))); have n2_ := Aside0.mk (hb); have n3_ := Aside0.mk (ho); clear BK420; clear BK425; clear HB; clear HO_6; have BK420 := n0_; have BK425 := n1_; have HB := n2_; have HO448 := n3_; clear n0_ n1_ n2_ n3_; clear ho hb hg hat))
               go_roundg kj10
               case measure => have := HK1.out; have := HJ3.out; have := HJ10.out; omega
               case rel => exact ⟨(y446), (wrap64 ((wrap64 (x7_1 + 1)) + 1)), (wrap64 (x8_1 + 1)), (by first | rfl | (simp; done) | (simp [*]; done)), (by first | rfl | (simp; done) | (simp [*]; done)), H', ⟨by have := HK1.out; have := HJ3.out; have := HJ10.out; omega⟩, ⟨by (with_reducible repeat (first | apply Kd.R_alloc | apply Kd.R_drewN | apply Kd.R_drew)); exact Kd.R_mono HO448.out (fun _ hk => trivial)⟩, ⟨by (with_reducible repeat (first | refine qkN ?_ _ | refine qkd ?_ | refine qka ?_ _)); exact BK420.out⟩, ⟨by repeat (first | (with_reducible first | exact HB.out | apply below_alloc | apply qbN | apply qb1 | refine qbs ?_ GE420.out | refine qbs ?_ GE425.out) | exact HB.out)⟩⟩
              ·rw [if_neg c49] at H
               exact absurd H (by simp)
            ·rw [if_neg c41] at H
             have c41b0 : (x426000_10 == 3) = false := beq_eq_false_iff_ne.mpr c41
             have c41b1 : (x426000_10 != 3) = true := bne_iff_ne.mpr c41
             by_cases c53 : x6_1.length < 3518437208883
             ·rw [if_pos c53] at H
              have LMc53 := Aside0.mk c53
              clear c53
              obtain ⟨y449, hy449⟩ : ∃ y_ : List (S38), y_ = (x6_1 ++ [(⟨x426000_10, 0, (⟨#[]⟩ : ByteArray), false⟩ : S38)]) := ⟨_, rfl⟩
              replace H : (barbicanref14_Decode.l0 kj10 l1 y449 (wrap64 ((wrap64 (x7_1 + 1)) + 0)) (wrap64 (x8_1 + 1)) a0_0 l0_1) = some (r1, r2) := by first | (rw [hy449]; with_reducible exact H) | (have H2_ := (Option.bind_some _ _).symm.trans H; rw [hy449]; with_reducible exact H2_) | (have H2_ := (Option.bind_some _ _).symm.trans H; with_reducible exact H2_) | with_reducible exact H | (rw [hy449]; exact H) | exact H
              have Ny449 := Aside0.mk hy449
              clear hy449
              have H' := Aside0.mk H
              clear H
              have hnb54 := NB425_420.out
              have hnc54 := NB420_425.out
              have hcz55_0 : wc.cell? ⟨gb425, 0, none⟩ = some (.int .i64 x426000_10) := (qkc BK425.out 0).trans rfl
              have hcz55_1 : wc.cell? ⟨gb425, 1, none⟩ = some (.int .i64 0) := (qkc BK425.out 1).trans rfl
              have hcz55_2 : wc.cell? ⟨gb425, 2, none⟩ = some (.string (⟨#[]⟩ : ByteArray)) := (qkc BK425.out 2).trans rfl
              have hcz55_3 : wc.cell? ⟨gb425, 3, none⟩ = some (.bool false) := (qkc BK425.out 3).trans rfl
              have hfz55_0 := qkf BK425.out 0
              have hfz55_1 := qkf BK425.out 1
              have hfz55_2 := qkf BK425.out 2
              have hfz55_3 := qkf BK425.out 3
              go_wp2_with (first | ((with_reducible refine gate_builtin (b := .append) (xs := #[.tmp 84, .tmp 86]) rfl ?_); (try (refine gate_guard (by rfl) ?_; dsimp only)); at_builtin; refine Kd.R_append k38 (w0 := w) w.heap.size rfl (.tmp 84) (.tmp 86) 25 38 (.agg #[(.int .i64 0), (.int .i64 0), (.string ⟨#[]⟩), (.bool false)]) 40 rfl Tryd.underlying25 info38 rfl (by decide) (by omega) u6 x6_1 (⟨x426000_10, 0, (⟨#[]⟩ : ByteArray), false⟩ : S38) [.int .i64 x426000_10, .int .i64 0, .string (⟨#[]⟩ : ByteArray), .bool false] (fun k_ => k_ ≠ gb425) (fun _ => False) rfl rfl ?aP (fun _ hk => hk.elim) ?aF ?aO ?aB ?aS ?aL ?_; (case aP => exact k38_mkM _ _ _ (⟨x426000_10, 0, (⟨#[]⟩ : ByteArray), false⟩ : S38)); (case aB => exact (by repeat (first | (with_reducible first | exact HB.out | apply below_alloc | apply qbN | apply qb1 | refine qbs ?_ GE420.out | refine qbs ?_ GE425.out) | exact HB.out))); (case aF => exact (fun k_ hk => Kd.freshB (g := gb425) (o := .cells #[.int .i64 x426000_10, .int .i64 0, .string (⟨#[]⟩ : ByteArray), .bool false] 38 (0, 0)) (by (with_reducible repeat (first | refine qkN ?_ _ | refine qkd ?_ | refine qka ?_ _)); exact BK425.out) k_ hk)); (case aO => exact (by (with_reducible repeat (first | apply Kd.R_alloc | apply Kd.R_drewN | apply Kd.R_drew)); exact HO_6.out)); (case aS => exact (qbz (by repeat (first | (with_reducible first | exact HB.out | apply below_alloc | apply qbN | apply qb1 | refine qbs ?_ GE420.out | refine qbs ?_ GE425.out) | exact HB.out)))); (case aL => have := LMc53.out; omega); intro v450 w56 ho hb hg hat; rw [← Ny449.out] at ho; have n0_ := Aside0.mk (blk_grown (g := gb420) (o := .cells #[.string a0_0, .slice A0_1 l0_1.length c0_1] 24 (0, 0)) (by (with_reducible repeat (first | refine qkN ?_ _ | refine qkd ?_ | refine qka ?_ _)); exact BK420.out) hg (Kd.R_ne HO_6.out BK420.out (by decide))); have n1_ := Aside0.mk (blk_grown (g := gb425) (o := .cells #[.int .i64 x426000_10, .int .i64 0, .string (⟨#[]⟩ : ByteArray), .bool false] 38 (0, 0)) (by (with_reducible repeat (first | refine qkN ?_ _ | refine qkd ?_ | refine qka ?_ _)); exact BK425.out) hg (Kd.R_away HO_6.out (fun _ hk => hk))); have n2_ := Aside0.mk (hb); have n3_ := Aside0.mk (ho); clear BK420; clear BK425; clear HB; clear HO_6; have BK420 := n0_; have BK425 := n1_; have HB := n2_; have HO451 := n3_; clear n0_ n1_ n2_ n3_; clear ho hb hg hat))
              go_roundg kj10
              case measure => have := HK1.out; have := HJ3.out; have := HJ10.out; omega
              case rel => exact ⟨(y449), (wrap64 ((wrap64 (x7_1 + 1)) + 0)), (wrap64 (x8_1 + 1)), (by first | rfl | (simp; done) | (simp [*]; done)), (by first | rfl | (simp; done) | (simp [*]; done)), H', ⟨by have := HK1.out; have := HJ3.out; have := HJ10.out; omega⟩, ⟨by (with_reducible repeat (first | apply Kd.R_alloc | apply Kd.R_drewN | apply Kd.R_drew)); exact Kd.R_mono HO451.out (fun _ hk => trivial)⟩, ⟨by (with_reducible repeat (first | refine qkN ?_ _ | refine qkd ?_ | refine qka ?_ _)); exact BK420.out⟩, ⟨by repeat (first | (with_reducible first | exact HB.out | apply below_alloc | apply qbN | apply qb1 | refine qbs ?_ GE420.out | refine qbs ?_ GE425.out) | exact HB.out)⟩⟩
             ·rw [if_neg c53] at H
              exact absurd H (by simp)
       ·rw [if_neg c10] at H
        exact absurd H (by simp)
      ·rw [if_neg c9] at H
       exact absurd H (by simp)
     ·replace c8 := Bool.eq_false_iff.mpr c8
      subst c8
      have H1 : ((barbicanref14_Encode.f kj3 a0_0 l0_1 x6_1).bind fun bt421 => (if bt421.2 = 0 then (if (strOfNums bt421.1).toList = (strOfNums l1).toList then (some (x6_1, 0)) else (some (([] : List (S38)), 3))) else (some (([] : List (S38)), 3)))) = some (r1, r2) := by rw [if_neg (show ¬ (false = true) by decide)] at H; exact H
      clear H
      have H := H1
      clear H1
      replace H := Option.bind_eq_some_iff.mp H
      obtain ⟨⟨t421, t424⟩, A570, H⟩ := H
      replace H : (if t424 = 0 then (if (strOfNums t421).toList = (strOfNums l1).toList then (some (x6_1, 0)) else (some (([] : List (S38)), 3))) else (some (([] : List (S38)), 3))) = some (r1, r2) := H
      have A57 := Aside0.mk A570
      clear A570
      by_cases c58 : t424 = 0
      ·rw [if_pos c58] at H
       have c58b0 : (t424 == 0) = true := beq_iff_eq.mpr c58
       have c58b1 : (t424 != 0) = false := bne_eq_false_iff_eq.mpr c58
       clear c58
       by_cases c59 : (strOfNums t421).toList = (strOfNums l1).toList
       ·rw [if_pos c59] at H
        have c59b0 : ((strOfNums t421).toList == (strOfNums l1).toList) = true := beq_iff_eq.mpr c59
        have c59b1 : ((strOfNums t421).toList != (strOfNums l1).toList) = false := bne_eq_false_iff_eq.mpr c59
        clear c59
        simp only [Option.some.injEq, Prod.mk.injEq] at H
        obtain ⟨rfl, rfl⟩ := H
        have hcz60_0 : wc.cell? ⟨gb420, 0, none⟩ = some (.string a0_0) := (qkc BK420.out 0).trans rfl
        have hcz60_1 : wc.cell? ⟨gb420, 1, none⟩ = some (.slice A0_1 l0_1.length c0_1) := (qkc BK420.out 1).trans rfl
        have hfz60_0 := qkf BK420.out 0
        have hfz60_1 := qkf BK420.out 1
        obtain ⟨Ao61, co61, eo61⟩ := Kd.R_slice HO_6.out
        subst eo61
        go_wp2_with (first | ((with_reducible refine qgc (f := 15) rfl ?_); refine goesL_ (some 91) rfl rfl Tryd.func15 (by kernel_rfl) rfl #[.agg #[.string a0_0, .slice A0_1 l0_1.length c0_1], .slice Ao61 x6_1.length co61] rfl (by (try simp only [List.map_toArray, List.map_cons, List.map_nil]); first | done | rfl | (simp only [List.length_drop, List.length_take]; rfl)) ?_; (with_reducible refine (barbicanref14_Encode.calls kj3 a0_0 _ _ l0_1 _ _ x6_1 t421 t424 _ ?side1 ?side2 ?side3 ?side4 A57.out).mono ?_); (case side1 => repeat (first | exact (Kd.C_below HR0_1.out HB.out) | (with_reducible refine Kd.C_alloc ?_ _) | (with_reducible refine Kd.C_drewN ?_ _) | (with_reducible refine Kd.C_drew ?_))); (case side2 => exact HC0_1.out); (case side3 => repeat (first | exact (Kd.R_reads' HO_6.out).2.2 | (with_reducible refine Kd.C_alloc ?_ _) | (with_reducible refine Kd.C_drewN ?_ _) | (with_reducible refine Kd.C_drew ?_))); (case side4 => exact (Kd.R_reads' HO_6.out).2.1); rintro e w62 ⟨v422, rfl, ho0, hb⟩; refine ⟨_, rfl, ?_⟩; have n0_ := Aside0.mk (Kd.R_below (by (with_reducible repeat (first | apply Kd.R_alloc | apply Kd.R_drewN | apply Kd.R_drew)); exact HO_6.out) hb); have n1_ := Aside0.mk (Kd.R_lower ho0 (qbz (by repeat (first | (with_reducible first | exact HB.out | apply below_alloc | apply qbN | apply qb1 | refine qbs ?_ GE420.out) | exact HB.out)))); have n2_ := Aside0.mk (qkb (g := gb420) (o := .cells #[.string a0_0, .slice A0_1 l0_1.length c0_1] 24 (0, 0)) (by (with_reducible repeat (first | refine qkN ?_ _ | refine qkd ?_ | refine qka ?_ _)); exact BK420.out) hb); have n3_ := Aside0.mk (below_step (by repeat (first | (with_reducible first | exact HB.out | apply below_alloc | apply qbN | apply qb1 | refine qbs ?_ GE420.out) | exact HB.out)) hb); clear HO_6; clear BK420; clear HB; have HO_6 := n0_; have HO423 := n1_; have BK420 := n2_; have HB := n3_; clear n0_ n1_ n2_ n3_; (try clear hb); (try clear hb2); (try clear hk); (try clear hi); (try clear ho0); have hcv63 := own_string (P := Tryd.prog) Tryd.underlying26 Tryd.underlying5 Tryd.underlying9 (Kd.own_of_R HO423.out); have hcv64 := Kd.C_string (P := Tryd.prog) (A := A1) (c := c1) Tryd.underlying26 Tryd.underlying5 Tryd.underlying9 (Kd.C_below HR1.out HB.out); have hcd64 := fun n_ : Nat => Kd.C_string (P := Tryd.prog) (A := A1) (c := c1) Tryd.underlying26 Tryd.underlying5 Tryd.underlying9 (Kd.C_drewN (Kd.C_below HR1.out HB.out) n_)))
        go_ret2
        exact ⟨_, by first | rfl | (simp [eWn, eWs] <;> rfl) | (simp [*, eWn, eWs] <;> rfl), by (with_reducible repeat (first | apply Kd.R_alloc | apply Kd.R_drewN | apply Kd.R_drew)); exact HO_6.out, by repeat (first | (with_reducible first | exact HB.out | apply below_alloc | apply qbN | apply qb1 | refine qbs ?_ GE420.out) | exact HB.out)⟩
       ·rw [if_neg c59] at H
        have c59b0 : ((strOfNums t421).toList == (strOfNums l1).toList) = false := beq_eq_false_iff_ne.mpr c59
        have c59b1 : ((strOfNums t421).toList != (strOfNums l1).toList) = true := bne_iff_ne.mpr c59
        simp only [Option.some.injEq, Prod.mk.injEq] at H
        obtain ⟨rfl, rfl⟩ := H
        have hcz65_0 : wc.cell? ⟨gb420, 0, none⟩ = some (.string a0_0) := (qkc BK420.out 0).trans rfl
        have hcz65_1 : wc.cell? ⟨gb420, 1, none⟩ = some (.slice A0_1 l0_1.length c0_1) := (qkc BK420.out 1).trans rfl
        have hfz65_0 := qkf BK420.out 0
        have hfz65_1 := qkf BK420.out 1
        obtain ⟨Ao66, co66, eo66⟩ := Kd.R_slice HO_6.out
        subst eo66
        go_wp2_with (first | ((with_reducible refine qgc (f := 15) rfl ?_); refine goesL_ (some 91) rfl rfl Tryd.func15 (by kernel_rfl) rfl #[.agg #[.string a0_0, .slice A0_1 l0_1.length c0_1], .slice Ao66 x6_1.length co66] rfl (by (try simp only [List.map_toArray, List.map_cons, List.map_nil]); first | done | rfl | (simp only [List.length_drop, List.length_take]; rfl)) ?_; (with_reducible refine (barbicanref14_Encode.calls kj3 a0_0 _ _ l0_1 _ _ x6_1 t421 t424 _ ?side1 ?side2 ?side3 ?side4 A57.out).mono ?_); (case side1 => repeat (first | exact (Kd.C_below HR0_1.out HB.out) | (with_reducible refine Kd.C_alloc ?_ _) | (with_reducible refine Kd.C_drewN ?_ _) | (with_reducible refine Kd.C_drew ?_))); (case side2 => exact HC0_1.out); (case side3 => repeat (first | exact (Kd.R_reads' HO_6.out).2.2 | (with_reducible refine Kd.C_alloc ?_ _) | (with_reducible refine Kd.C_drewN ?_ _) | (with_reducible refine Kd.C_drew ?_))); (case side4 => exact (Kd.R_reads' HO_6.out).2.1); rintro e w67 ⟨v422, rfl, ho0, hb⟩; refine ⟨_, rfl, ?_⟩; have n0_ := Aside0.mk (Kd.R_below (by (with_reducible repeat (first | apply Kd.R_alloc | apply Kd.R_drewN | apply Kd.R_drew)); exact HO_6.out) hb); have n1_ := Aside0.mk (Kd.R_lower ho0 (qbz (by repeat (first | (with_reducible first | exact HB.out | apply below_alloc | apply qbN | apply qb1 | refine qbs ?_ GE420.out) | exact HB.out)))); have n2_ := Aside0.mk (qkb (g := gb420) (o := .cells #[.string a0_0, .slice A0_1 l0_1.length c0_1] 24 (0, 0)) (by (with_reducible repeat (first | refine qkN ?_ _ | refine qkd ?_ | refine qka ?_ _)); exact BK420.out) hb); have n3_ := Aside0.mk (below_step (by repeat (first | (with_reducible first | exact HB.out | apply below_alloc | apply qbN | apply qb1 | refine qbs ?_ GE420.out) | exact HB.out)) hb); clear HO_6; clear BK420; clear HB; have HO_6 := n0_; have HO423 := n1_; have BK420 := n2_; have HB := n3_; clear n0_ n1_ n2_ n3_; (try clear hb); (try clear hb2); (try clear hk); (try clear hi); (try clear ho0); have hcv68 := own_string (P := Tryd.prog) Tryd.underlying26 Tryd.underlying5 Tryd.underlying9 (Kd.own_of_R HO423.out); have hcv69 := Kd.C_string (P := Tryd.prog) (A := A1) (c := c1) Tryd.underlying26 Tryd.underlying5 Tryd.underlying9 (Kd.C_below HR1.out HB.out); have hcd69 := fun n_ : Nat => Kd.C_string (P := Tryd.prog) (A := A1) (c := c1) Tryd.underlying26 Tryd.underlying5 Tryd.underlying9 (Kd.C_drewN (Kd.C_below HR1.out HB.out) n_)))
        go_ret2
        exact ⟨_, by first | rfl | (simp [eWn, eWs] <;> rfl) | (simp [*, eWn, eWs] <;> rfl), by first | exact Kd.R_nil _ _ _ _ _ | exact Kd.N_nil _ _ _ _ _ | exact Kd.V_nil _ _ _ _ _ | exact Kd.Q_nil _ _ _ _ _ | exact Kd.S_nil _ _ _ _ _, by repeat (first | (with_reducible first | exact HB.out | apply below_alloc | apply qbN | apply qb1 | refine qbs ?_ GE420.out) | exact HB.out)⟩
      ·rw [if_neg c58] at H
       have c58b0 : (t424 == 0) = false := beq_eq_false_iff_ne.mpr c58
       have c58b1 : (t424 != 0) = true := bne_iff_ne.mpr c58
       simp only [Option.some.injEq, Prod.mk.injEq] at H
       obtain ⟨rfl, rfl⟩ := H
       have hcz70_0 : wc.cell? ⟨gb420, 0, none⟩ = some (.string a0_0) := (qkc BK420.out 0).trans rfl
       have hcz70_1 : wc.cell? ⟨gb420, 1, none⟩ = some (.slice A0_1 l0_1.length c0_1) := (qkc BK420.out 1).trans rfl
       have hfz70_0 := qkf BK420.out 0
       have hfz70_1 := qkf BK420.out 1
       obtain ⟨Ao71, co71, eo71⟩ := Kd.R_slice HO_6.out
       subst eo71
       go_wp2_with (first | ((with_reducible refine qgc (f := 15) rfl ?_); refine goesL_ (some 91) rfl rfl Tryd.func15 (by kernel_rfl) rfl #[.agg #[.string a0_0, .slice A0_1 l0_1.length c0_1], .slice Ao71 x6_1.length co71] rfl (by (try simp only [List.map_toArray, List.map_cons, List.map_nil]); first | done | rfl | (simp only [List.length_drop, List.length_take]; rfl)) ?_; (with_reducible refine (barbicanref14_Encode.calls kj3 a0_0 _ _ l0_1 _ _ x6_1 t421 t424 _ ?side1 ?side2 ?side3 ?side4 A57.out).mono ?_); (case side1 => repeat (first | exact (Kd.C_below HR0_1.out HB.out) | (with_reducible refine Kd.C_alloc ?_ _) | (with_reducible refine Kd.C_drewN ?_ _) | (with_reducible refine Kd.C_drew ?_))); (case side2 => exact HC0_1.out); (case side3 => repeat (first | exact (Kd.R_reads' HO_6.out).2.2 | (with_reducible refine Kd.C_alloc ?_ _) | (with_reducible refine Kd.C_drewN ?_ _) | (with_reducible refine Kd.C_drew ?_))); (case side4 => exact (Kd.R_reads' HO_6.out).2.1); rintro e w72 ⟨v422, rfl, ho0, hb⟩; refine ⟨_, rfl, ?_⟩; have n0_ := Aside0.mk (Kd.R_below (by (with_reducible repeat (first | apply Kd.R_alloc | apply Kd.R_drewN | apply Kd.R_drew)); exact HO_6.out) hb); have n1_ := Aside0.mk (Kd.R_lower ho0 (qbz (by repeat (first | (with_reducible first | exact HB.out | apply below_alloc | apply qbN | apply qb1 | refine qbs ?_ GE420.out) | exact HB.out)))); have n2_ := Aside0.mk (qkb (g := gb420) (o := .cells #[.string a0_0, .slice A0_1 l0_1.length c0_1] 24 (0, 0)) (by (with_reducible repeat (first | refine qkN ?_ _ | refine qkd ?_ | refine qka ?_ _)); exact BK420.out) hb); have n3_ := Aside0.mk (below_step (by repeat (first | (with_reducible first | exact HB.out | apply below_alloc | apply qbN | apply qb1 | refine qbs ?_ GE420.out) | exact HB.out)) hb); clear HO_6; clear BK420; clear HB; have HO_6 := n0_; have HO423 := n1_; have BK420 := n2_; have HB := n3_; clear n0_ n1_ n2_ n3_; (try clear hb); (try clear hb2); (try clear hk); (try clear hi); (try clear ho0)))
       go_ret2
       exact ⟨_, by first | rfl | (simp [eWn, eWs] <;> rfl) | (simp [*, eWn, eWs] <;> rfl), by first | exact Kd.R_nil _ _ _ _ _ | exact Kd.N_nil _ _ _ _ _ | exact Kd.V_nil _ _ _ _ _ | exact Kd.Q_nil _ _ _ _ _ | exact Kd.S_nil _ _ _ _ _, by repeat (first | (with_reducible first | exact HB.out | apply below_alloc | apply qbN | apply qb1 | refine qbs ?_ GE420.out) | exact HB.out)⟩

end Go.Proofs.YtljadejgdbemoaaDoor.R
