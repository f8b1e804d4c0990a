-- Written by wip/xprint.py of this session's own repo (a patched run of the kit's printer). Not trusted: Lean checks it.
import Derived.Test.YtljadejgdbemoaaDoorPdBx0
import Derived.Test.YtljadejgdbemoaaDoorPdBx2
import Derived.Test.YtljadejgdbemoaaDoorPdBx4
namespace Go.Proofs.YtljadejgdbemoaaDoor.B
open Go.RowKit Go.Proofs.YtljadejgdbemoaaDoorW.PrintWords Go.Proofs.YtljadejgdbemoaaDoorW.PrintLast Go.Proofs.YtljadejgdbemoaaDoorW.PrintMore Go.Proofs.YtljadejgdbemoaaDoorX
attribute [local go_sem] max2_int min2_int max_two min_two max_three min_three max_four min_four
set_option linter.unusedVariables false
set_option linter.unusedSimpArgs false

/-! ### value_compared_of_Less_1: function 55 -/

/-! ### value_Less: function 25 -/

/-! ### value_Int: function 28 -/
def value_Int.f (a0 : Int) : Option (Int × Int × ByteArray × Bool) := some (1, a0, (⟨#[]⟩ : ByteArray), false)
set_option maxHeartbeats 8000000 in
set_option maxRecDepth 100000 in
theorem value_Int.calls (a0 : Int) (r1 : Int) (r2 : Int) (r3 : ByteArray) (r4 : Bool) (w : World) (h : value_Int.f a0 = some (r1, r2, r3, r4)) :
    Calls Tryd.prog 28 #[.int .i64 a0] w fun e w' => e = .returned (.agg #[.int .i64 r1, .int .i64 r2, .string r3, .bool r4]) ∧ Below w.heap.size w w' := by
  have hu38 := Tryd.underlying38
  have HB := Aside0.mk (Below.refl w.heap.size w)
  have H : (some (1, a0, (⟨#[]⟩ : ByteArray), false)) = some (r1, r2, r3, r4) := h
  clear h
  simp only [Option.some.injEq, Prod.mk.injEq] at H
  obtain ⟨rfl, rfl, rfl, rfl⟩ := H
  go_enter Tryd.func28, Tryd.ntmps28
  go_wp2_with (first | ((with_reducible refine gate_dst (N := 2) rfl ?_); refine box_event ?hg (N := 2) ?hd (cs := #[.int .i64 0, .int .i64 0, .string (⟨#[]⟩ : ByteArray), .bool false]) (t := 38) ?hr ?_; (case hd => rfl); (case hg => rfl); (case hr => first | (go_simp; done) | (go_simp; rfl)); intro gb265 hg w2 hbox hb; have n0_ := Aside0.mk (below_step (by repeat (first | (with_reducible first | exact HB.out | apply below_alloc | apply pw_below_drewN | apply below_drew1) | exact HB.out)) hb); have n1_ := Aside0.mk (hbox); have n2_ := Aside0.mk ((by rw [hg]; exact (below_size (by repeat (first | (with_reducible first | exact HB.out | apply below_alloc | apply pw_below_drewN | apply below_drew1) | exact HB.out))) : w.heap.size ≤ gb265)); have n3_ := Aside0.mk ((by rw [hg]; exact (below_size (by repeat (first | (with_reducible first | exact HB.out | apply below_alloc | apply pw_below_drewN | apply below_drew1) | exact HB.out))) : w.heap.size ≤ gb265)); clear HB; have HB := n0_; have BK265 := n1_; have GW265 := n2_; have GE265 := n3_; clear n0_ n1_ n2_ n3_; clear hb hbox hg; have hcz3_0 : w2.cell? ⟨gb265, 0, none⟩ = some (.int .i64 0) := (blk_cell BK265.out 0).trans rfl; have hcz3_1 : w2.cell? ⟨gb265, 1, none⟩ = some (.int .i64 0) := (blk_cell BK265.out 1).trans rfl; have hcz3_2 : w2.cell? ⟨gb265, 2, none⟩ = some (.string (⟨#[]⟩ : ByteArray)) := (blk_cell BK265.out 2).trans rfl; have hcz3_3 : w2.cell? ⟨gb265, 3, none⟩ = some (.bool false) := (blk_cell BK265.out 3).trans rfl; have hfz3_0 := blk_frozen BK265.out 0; have hfz3_1 := blk_frozen BK265.out 1; have hfz3_2 := blk_frozen BK265.out 2; have hfz3_3 := blk_frozen BK265.out 3))
  refine bodyPost_ret (results_cell_row rfl _ _ gb265 38 #[.int .i64 1, .int .i64 a0, .string (⟨#[]⟩ : ByteArray), .bool false] (0, 0) _ rfl (by (with_reducible repeat (first | refine blk_drewN ?_ _ | refine blk_drew ?_ | refine blk_alloc ?_ _)); refine blk_put (cs := #[.int .i64 1, .int .i64 a0, .string (⟨#[]⟩ : ByteArray), .bool false]) ?_ 3 _ rfl; (with_reducible repeat (first | refine blk_drewN ?_ _ | refine blk_drew ?_ | refine blk_alloc ?_ _)); refine blk_put (cs := #[.int .i64 1, .int .i64 a0, .string (⟨#[]⟩ : ByteArray), .bool false]) ?_ 2 _ rfl; (with_reducible repeat (first | refine blk_drewN ?_ _ | refine blk_drew ?_ | refine blk_alloc ?_ _)); refine blk_put (cs := #[.int .i64 1, .int .i64 0, .string (⟨#[]⟩ : ByteArray), .bool false]) ?_ 1 _ rfl; (with_reducible repeat (first | refine blk_drewN ?_ _ | refine blk_drew ?_ | refine blk_alloc ?_ _)); refine blk_put (cs := #[.int .i64 0, .int .i64 0, .string (⟨#[]⟩ : ByteArray), .bool false]) ?_ 0 _ rfl; (with_reducible repeat (first | refine blk_drewN ?_ _ | refine blk_drew ?_ | refine blk_alloc ?_ _)); exact BK265.out) Tryd.underlying38 rfl (by kernel_rfl)) rfl ?_
  exact ⟨by first | rfl | (simp [errW_none, errW_some] <;> rfl) | (simp [*, errW_none, errW_some] <;> rfl), by repeat (first | (with_reducible first | exact HB.out | apply below_alloc | apply pw_below_drewN | apply below_drew1 | refine below_set ?_ GE265.out) | exact HB.out)⟩

/-! ### EXT strings_IndexByte: function 58 -/
def strings_IndexByte.f (a0 : ByteArray) (a1 : Int) : Option Int := some (Lib.indexByte a0.data.toList a1.toNat.toUInt8)
theorem strings_IndexByte.calls (a0 : ByteArray) (a1 : Int) (r : Int) (w : World) (h : strings_IndexByte.f a0 a1 = some r) :
    Calls Tryd.prog 58 #[.string a0, .int .u8 a1] w fun e w' => e = .returned (.int .i64 r) ∧ Below w.heap.size w w' := by
  obtain rfl := Option.some.inj h
  refine (Tryd.strings_IndexByte a0 a1 w).mono ?_
  rintro e w' ⟨rfl, rfl⟩
  exact ⟨rfl, Below.refl _ _⟩

/-! ### bits_Mul64: function 102 -/
def bits_Mul64.f (a0 : Int) (a1 : Int) : Option (Int × Int) := some (IntKind.u64.wrap ((IntKind.u64.wrap ((IntKind.u64.wrap ((a0 / 4294967296) * (a1 / 4294967296))) + ((IntKind.u64.wrap ((IntKind.u64.wrap ((a0 / 4294967296) * (Go.bits .and .u64 a1 4294967295))) + ((IntKind.u64.wrap ((Go.bits .and .u64 a0 4294967295) * (Go.bits .and .u64 a1 4294967295))) / 4294967296))) / 4294967296))) + ((IntKind.u64.wrap ((Go.bits .and .u64 (IntKind.u64.wrap ((IntKind.u64.wrap ((a0 / 4294967296) * (Go.bits .and .u64 a1 4294967295))) + ((IntKind.u64.wrap ((Go.bits .and .u64 a0 4294967295) * (Go.bits .and .u64 a1 4294967295))) / 4294967296))) 4294967295) + (IntKind.u64.wrap ((Go.bits .and .u64 a0 4294967295) * (a1 / 4294967296))))) / 4294967296)), IntKind.u64.wrap (a0 * a1))
set_option maxHeartbeats 8000000 in
set_option maxRecDepth 100000 in
theorem bits_Mul64.calls (a0 : Int) (a1 : Int) (r1 : Int) (r2 : Int) (w : World) (h : bits_Mul64.f a0 a1 = some (r1, r2)) :
    Calls Tryd.prog 102 #[.int .u64 a0, .int .u64 a1] w fun e w' => e = .returned (.tuple #[.int .u64 r1, .int .u64 r2]) ∧ Drawn0 w w' := by
  have H : (some (IntKind.u64.wrap ((IntKind.u64.wrap ((IntKind.u64.wrap ((a0 / 4294967296) * (a1 / 4294967296))) + ((IntKind.u64.wrap ((IntKind.u64.wrap ((a0 / 4294967296) * (Go.bits .and .u64 a1 4294967295))) + ((IntKind.u64.wrap ((Go.bits .and .u64 a0 4294967295) * (Go.bits .and .u64 a1 4294967295))) / 4294967296))) / 4294967296))) + ((IntKind.u64.wrap ((Go.bits .and .u64 (IntKind.u64.wrap ((IntKind.u64.wrap ((a0 / 4294967296) * (Go.bits .and .u64 a1 4294967295))) + ((IntKind.u64.wrap ((Go.bits .and .u64 a0 4294967295) * (Go.bits .and .u64 a1 4294967295))) / 4294967296))) 4294967295) + (IntKind.u64.wrap ((Go.bits .and .u64 a0 4294967295) * (a1 / 4294967296))))) / 4294967296)), IntKind.u64.wrap (a0 * a1))) = some (r1, r2) := h
  clear h
  simp only [Option.some.injEq, Prod.mk.injEq] at H
  obtain ⟨rfl, rfl⟩ := H
  go_enter Tryd.func102, Tryd.ntmps102
  go_wp2
  go_ret2
  exact ⟨by first | rfl | (simp; done) | (simp [*]; done) | (simp [bne]; done), by repeat (first | exact Drawn0.refl _ | apply Drawn0.step)⟩

/-! ### value_size: function 103 -/
def value_size.f (a0 : Int) : Option (Int) := if a0 < 0 then (some (IntKind.u64.wrap (-(IntKind.u64.wrap (a0))))) else (some (IntKind.u64.wrap (a0)))
set_option maxHeartbeats 8000000 in
set_option maxRecDepth 100000 in
theorem value_size.calls (a0 : Int) (r : Int) (w : World) (h : value_size.f a0 = some r) :
    Calls Tryd.prog 103 #[.int .i64 a0] w fun e w' => e = .returned (.int .u64 r) ∧ Drawn0 w w' := by
  have H : (if a0 < 0 then (some (IntKind.u64.wrap (-(IntKind.u64.wrap (a0))))) else (some (IntKind.u64.wrap (a0)))) = some r := h
  clear h
  by_cases c2 : a0 < 0
  · rw [if_pos c2] at H
    have c2b0 : decide (a0 < 0) = true := decide_eq_true c2
    clear c2
    obtain rfl := Option.some.inj H
    go_enter Tryd.func103, Tryd.ntmps103
    go_wp2
    go_ret
    exact ⟨by first | rfl | (simp; done) | (simp [*]; done) | (simp [bne]; done), by repeat (first | exact Drawn0.refl _ | apply Drawn0.step)⟩
  · rw [if_neg c2] at H
    have c2b0 : decide (a0 < 0) = false := decide_eq_false c2
    clear c2
    obtain rfl := Option.some.inj H
    go_enter Tryd.func103, Tryd.ntmps103
    go_wp2
    go_ret
    exact ⟨by first | rfl | (simp; done) | (simp [*]; done) | (simp [bne]; done), by repeat (first | exact Drawn0.refl _ | apply Drawn0.step)⟩

/-! ### value_product: function 85 -/
def value_product.j0 : Nat → Bool → Int → Bool → Option (Int × Option Int)
  | 0, _, _, _ => none
  | k + 1, x6, x8, x22 => if x22 = true then (some (0, some 5)) else (if x6 = true then (some (wrap64 (IntKind.u64.wrap (-x8)), none)) else (some (wrap64 (x8), none)))
def value_product.f (k : Nat) (a0 : Int) (a1 : Int) : Option (Int × Option Int) := (value_size.f a0).bind fun t266 => ((value_size.f a1).bind fun t267 => ((bits_Mul64.f t266 t267).bind fun bt268 => (if bt268.1 = 0 then (if bt268.2 > 9223372036854775808 then (value_product.j0 k ((decide (a0 < 0)) != (decide (a1 < 0))) bt268.2 true) else (if bt268.2 = 9223372036854775808 then (value_product.j0 k ((decide (a0 < 0)) != (decide (a1 < 0))) bt268.2 (!((decide (a0 < 0)) != (decide (a1 < 0))))) else (value_product.j0 k ((decide (a0 < 0)) != (decide (a1 < 0))) bt268.2 false))) else (value_product.j0 k ((decide (a0 < 0)) != (decide (a1 < 0))) bt268.2 true))))
set_option maxHeartbeats 8000000 in
set_option maxRecDepth 100000 in
theorem value_product.calls (k : Nat) (a0 : Int) (a1 : Int) (r1 : Int) (r2 : Option Int) (w : World) (h : value_product.f k a0 a1 = some (r1, r2)) :
    Calls Tryd.prog 85 #[.int .i64 a0, .int .i64 a1] w fun e w' => e = .returned (.tuple #[.int .i64 r1, errW r2]) ∧ Drawn0 w w' := by
  have hu28 := Tryd.underlying28
  have hu72 := Tryd.underlying72
  have H : ((value_size.f a0).bind fun t266 => ((value_size.f a1).bind fun t267 => ((bits_Mul64.f t266 t267).bind fun bt268 => (if bt268.1 = 0 then (if bt268.2 > 9223372036854775808 then (value_product.j0 k ((decide (a0 < 0)) != (decide (a1 < 0))) bt268.2 true) else (if bt268.2 = 9223372036854775808 then (value_product.j0 k ((decide (a0 < 0)) != (decide (a1 < 0))) bt268.2 (!((decide (a0 < 0)) != (decide (a1 < 0))))) else (value_product.j0 k ((decide (a0 < 0)) != (decide (a1 < 0))) bt268.2 false))) else (value_product.j0 k ((decide (a0 < 0)) != (decide (a1 < 0))) bt268.2 true))))) = some (r1, r2) := h
  clear h
  replace H := Option.bind_eq_some_iff.mp H
  obtain ⟨t266, A30, H⟩ := H
  replace H : ((value_size.f a1).bind fun t267 => ((bits_Mul64.f t266 t267).bind fun bt268 => (if bt268.1 = 0 then (if bt268.2 > 9223372036854775808 then (value_product.j0 k ((decide (a0 < 0)) != (decide (a1 < 0))) bt268.2 true) else (if bt268.2 = 9223372036854775808 then (value_product.j0 k ((decide (a0 < 0)) != (decide (a1 < 0))) bt268.2 (!((decide (a0 < 0)) != (decide (a1 < 0))))) else (value_product.j0 k ((decide (a0 < 0)) != (decide (a1 < 0))) bt268.2 false))) else (value_product.j0 k ((decide (a0 < 0)) != (decide (a1 < 0))) bt268.2 true)))) = some (r1, r2) := H
  have A3 := Aside0.mk A30
  clear A30
  replace H := Option.bind_eq_some_iff.mp H
  obtain ⟨t267, A40, H⟩ := H
  replace H : ((bits_Mul64.f t266 t267).bind fun bt268 => (if bt268.1 = 0 then (if bt268.2 > 9223372036854775808 then (value_product.j0 k ((decide (a0 < 0)) != (decide (a1 < 0))) bt268.2 true) else (if bt268.2 = 9223372036854775808 then (value_product.j0 k ((decide (a0 < 0)) != (decide (a1 < 0))) bt268.2 (!((decide (a0 < 0)) != (decide (a1 < 0))))) else (value_product.j0 k ((decide (a0 < 0)) != (decide (a1 < 0))) bt268.2 false))) else (value_product.j0 k ((decide (a0 < 0)) != (decide (a1 < 0))) bt268.2 true))) = some (r1, r2) := H
  have A4 := Aside0.mk A40
  clear A40
  replace H := Option.bind_eq_some_iff.mp H
  obtain ⟨⟨t268, t269⟩, A50, H⟩ := H
  replace H : (if t268 = 0 then (if t269 > 9223372036854775808 then (value_product.j0 k ((decide (a0 < 0)) != (decide (a1 < 0))) t269 true) else (if t269 = 9223372036854775808 then (value_product.j0 k ((decide (a0 < 0)) != (decide (a1 < 0))) t269 (!((decide (a0 < 0)) != (decide (a1 < 0))))) else (value_product.j0 k ((decide (a0 < 0)) != (decide (a1 < 0))) t269 false))) else (value_product.j0 k ((decide (a0 < 0)) != (decide (a1 < 0))) t269 true)) = some (r1, r2) := H
  have A5 := Aside0.mk A50
  clear A50
  have HC6 := Aside0.mk H
  clear H
  go_enter Tryd.func85, Tryd.ntmps85
  go_upto_region 3 with (first | ((with_reducible refine gate_callee (f := 103) rfl ?_); refine goesL_ (some 16) rfl rfl Tryd.func103 (by kernel_rfl) rfl #[.int .i64 a0] rfl (by (try simp only [List.map_toArray, List.map_cons, List.map_nil]); first | done | rfl | (simp only [List.length_drop, List.length_take]; rfl)) ?_; (with_reducible refine (value_size.calls a0 t266 _ A3.out).mono ?_); rintro e w' ⟨rfl, ⟨nd, rfl⟩⟩; refine ⟨_, rfl, ?_⟩) | ((with_reducible refine gate_callee (f := 103) rfl ?_); refine goesL_ (some 18) rfl rfl Tryd.func103 (by kernel_rfl) rfl #[.int .i64 a1] rfl (by (try simp only [List.map_toArray, List.map_cons, List.map_nil]); first | done | rfl | (simp only [List.length_drop, List.length_take]; rfl)) ?_; (with_reducible refine (value_size.calls a1 t267 _ A4.out).mono ?_); rintro e w' ⟨rfl, ⟨nd, rfl⟩⟩; refine ⟨_, rfl, ?_⟩) | ((with_reducible refine gate_callee (f := 102) rfl ?_); refine goesL_ (some 19) rfl rfl Tryd.func102 (by kernel_rfl) rfl #[.int .u64 t266, .int .u64 t267] rfl (by (try simp only [List.map_toArray, List.map_cons, List.map_nil]); first | done | rfl | (simp only [List.length_drop, List.length_take]; rfl)) ?_; (with_reducible refine (bits_Mul64.calls t266 t267 t268 t269 _ A5.out).mono ?_); rintro e w' ⟨rfl, ⟨nd, rfl⟩⟩; refine ⟨_, rfl, ?_⟩))
  (try simp only [Act.put, List.setIfInBounds_toArray, List.set_cons_zero, List.set_cons_succ])
  go_cut [22] (fun v22 wc => ∃ (kq : Nat) (x22_5 : Bool), v22 = .bool x22_5 ∧ Aside0 (value_product.j0 kq ((decide (a0 < 0)) != (decide (a1 < 0))) t269 x22_5 = some (r1, r2)) ∧ Aside0 (kq ≤ k) ∧ Drawn0 w wc)
  case first =>
    have H := HC6.out
    clear HC6
    by_cases c7 : t268 = 0
    · rw [if_pos c7] at H
      have c7b0 : (t268 == 0) = true := beq_iff_eq.mpr c7
      have c7b1 : (t268 != 0) = false := bne_eq_false_iff_eq.mpr c7
      clear c7
      (first | rw [c7b0] | (simp only [i64_w, i32_w]; rw [c7b0]) | skip)
      by_cases c8 : t269 > 9223372036854775808
      · rw [if_pos c8] at H
        have c8b0 : decide (9223372036854775808 < t269) = true := decide_eq_true c8
        clear c8
        have H' := Aside0.mk H
        clear H
        go_wp2
        refine Met.intro ?_
        go_step
        (repeat apply Exists.intro)
        refine ⟨?rel, ?frm⟩
        case frm => first | rfl | (simp only [c7b0, c7b1, c8b0]; rfl) | (simp only [c7b0, c7b1, c8b0]; first | done | rfl)
        case rel => exact ⟨_, (true), (by first | rfl | (simp; done) | (simp [*]; done) | (simp [bne]; done)), H', ⟨by first | omega | exact Nat.le_refl _⟩, by repeat (first | exact Drawn0.refl _ | apply Drawn0.step)⟩
      · rw [if_neg c8] at H
        have c8b0 : decide (9223372036854775808 < t269) = false := decide_eq_false c8
        clear c8
        by_cases c9 : t269 = 9223372036854775808
        · rw [if_pos c9] at H
          have c9b0 : (t269 == 9223372036854775808) = true := beq_iff_eq.mpr c9
          have c9b1 : (t269 != 9223372036854775808) = false := bne_eq_false_iff_eq.mpr c9
          clear c9
          have H' := Aside0.mk H
          clear H
          go_wp2
          refine Met.intro ?_
          go_step
          (repeat apply Exists.intro)
          refine ⟨?rel, ?frm⟩
          case frm => first | rfl | (simp only [c7b0, c7b1, c8b0, c9b0, c9b1]; rfl) | (simp only [c7b0, c7b1, c8b0, c9b0, c9b1]; first | done | rfl)
          case rel => exact ⟨_, (!((decide (a0 < 0)) != (decide (a1 < 0)))), (by first | rfl | (simp; done) | (simp [*]; done) | (simp [bne]; done)), H', ⟨by first | omega | exact Nat.le_refl _⟩, by repeat (first | exact Drawn0.refl _ | apply Drawn0.step)⟩
        · rw [if_neg c9] at H
          have c9b0 : (t269 == 9223372036854775808) = false := beq_eq_false_iff_ne.mpr c9
          have c9b1 : (t269 != 9223372036854775808) = true := bne_iff_ne.mpr c9
          have H' := Aside0.mk H
          clear H
          go_wp2
          refine Met.intro ?_
          go_step
          (repeat apply Exists.intro)
          refine ⟨?rel, ?frm⟩
          case frm => first | rfl | (simp only [c7b0, c7b1, c8b0, c9b0, c9b1]; rfl) | (simp only [c7b0, c7b1, c8b0, c9b0, c9b1]; first | done | rfl)
          case rel => exact ⟨_, (false), (by first | rfl | (simp; done) | (simp [*]; done) | (simp [bne]; done)), H', ⟨by first | omega | exact Nat.le_refl _⟩, by repeat (first | exact Drawn0.refl _ | apply Drawn0.step)⟩
    · rw [if_neg c7] at H
      have c7b0 : (t268 == 0) = false := beq_eq_false_iff_ne.mpr c7
      have c7b1 : (t268 != 0) = true := bne_iff_ne.mpr c7
      (first | rw [c7b0] | (simp only [i64_w, i32_w]; rw [c7b0]) | skip)
      have H' := Aside0.mk H
      clear H
      go_wp2
      refine Met.intro ?_
      go_step
      (repeat apply Exists.intro)
      refine ⟨?rel, ?frm⟩
      case frm => first | rfl | (simp only [c7b0, c7b1]; rfl) | (simp only [c7b0, c7b1]; first | done | rfl)
      case rel => exact ⟨_, (true), (by first | rfl | (simp; done) | (simp [*]; done) | (simp [bne]; done)), H', ⟨by first | omega | exact Nat.le_refl _⟩, by repeat (first | exact Drawn0.refl _ | apply Drawn0.step)⟩
  case rest =>
    clear HC6
    try clear c1
    try clear p2
    try clear c7
    try clear c7b0
    try clear c7b1
    try clear c8
    try clear c8b0
    try clear c9
    try clear c9b0
    try clear c9b1
    obtain ⟨kq, x22_5, rfl, HA, HJ5, ⟨mc5, rfl⟩⟩ := hcut
    cases kq with
    | zero => exact absurd HA.out (by simp [value_product.j0])
    | succ kj5 =>
      have H := HA.out
      clear HA
      simp only [value_product.j0] at H
      by_cases c10 : x22_5 = true
      · subst c10
        have H1 : (some (0, some 5)) = some (r1, r2) := by rw [if_pos rfl] at H; exact H
        clear H
        have H := H1
        clear H1
        simp only [Option.some.injEq, Prod.mk.injEq] at H
        obtain ⟨rfl, rfl⟩ := H
        go_wp2
        go_ret2
        exact ⟨by first | rfl | (simp; done) | (simp [*]; done) | (simp [bne]; done), by repeat (first | exact Drawn0.refl _ | apply Drawn0.step)⟩
      · replace c10 := Bool.eq_false_iff.mpr c10
        subst c10
        have H1 : (if ((decide (a0 < 0)) != (decide (a1 < 0))) = true then (some (wrap64 (IntKind.u64.wrap (-t269)), none)) else (some (wrap64 (t269), none))) = some (r1, r2) := by rw [if_neg (show ¬ (false = true) by decide)] at H; exact H
        clear H
        have H := H1
        clear H1
        by_cases c11 : ((decide (a0 < 0)) != (decide (a1 < 0))) = true
        · rw [if_pos c11] at H
          have c11b0 : ((decide (a0 < 0)) != (decide (a1 < 0))) = true := c11
          (try (have c11b1 : decide ((decide (a0 < 0)) = (decide (a1 < 0))) = false := by simpa using c11))
          (try (have c11b2 : ((decide (a0 < 0)) == (decide (a1 < 0))) = false := by simpa using c11))
          (try (have c11b3 : ¬ ((decide (a0 < 0)) = (decide (a1 < 0))) := by simpa using c11))
          (try (have c11b4 : (!((decide (a0 < 0)) == (decide (a1 < 0)))) = true := by first | simpa using c11 | (have h_ := c11; revert h_; cases (decide (a0 < 0)) <;> cases (decide (a1 < 0)) <;> simp)))
          (try rw [c11b4])
          (try (have c11b5 : ((!(decide (a0 < 0))) == (decide (a1 < 0))) = true := by first | (have h_ := c11; revert h_; cases (decide (a0 < 0)) <;> cases (decide (a1 < 0)) <;> simp; done) | simpa using c11))
          clear c11
          simp only [Option.some.injEq, Prod.mk.injEq] at H
          obtain ⟨rfl, rfl⟩ := H
          go_wp2
          go_ret2
          exact ⟨by first | rfl | (simp; done) | (simp [*]; done) | (simp [bne]; done), by repeat (first | exact Drawn0.refl _ | apply Drawn0.step)⟩
        · rw [if_neg c11] at H
          have c11b0 : ((decide (a0 < 0)) != (decide (a1 < 0))) = false := by simpa using c11
          (try (have c11b1 : decide ((decide (a0 < 0)) = (decide (a1 < 0))) = true := by simpa using c11))
          (try (have c11b2 : ((decide (a0 < 0)) == (decide (a1 < 0))) = true := by simpa using c11))
          (try (have c11b3 : (!((decide (a0 < 0)) == (decide (a1 < 0)))) = false := by first | simpa using c11 | (have h_ := c11; revert h_; cases (decide (a0 < 0)) <;> cases (decide (a1 < 0)) <;> simp)))
          (try rw [c11b3])
          (try (have c11b4 : ((!(decide (a0 < 0))) == (decide (a1 < 0))) = false := by first | (have h_ := c11; revert h_; cases (decide (a0 < 0)) <;> cases (decide (a1 < 0)) <;> simp; done) | simpa using c11))
          clear c11
          simp only [Option.some.injEq, Prod.mk.injEq] at H
          obtain ⟨rfl, rfl⟩ := H
          go_wp2
          go_ret2
          exact ⟨by first | rfl | (simp; done) | (simp [*]; done) | (simp [bne]; done), by repeat (first | exact Drawn0.refl _ | apply Drawn0.step)⟩

/-! ### value_number: function 61 -/
mutual
def value_number.j0 : Nat → Int → Int → Int → Bool → Option (Int × Option Int)
  | 0, _, _, _, _ => none
  | k + 1, x0, x1, x2, x46 => if x46 = true then (some (0, none)) else (if x2 = (-1) then (value_number.j1 k x0 x1 x2 (x1 == (-9223372036854775808))) else (value_number.j1 k x0 x1 x2 false))
def value_number.j1 : Nat → Int → Int → Int → Bool → Option (Int × Option Int)
  | 0, _, _, _, _ => none
  | k + 1, x0, x1, x2, x53 => if x53 = true then (some (0, some 5)) else (if x0 = 47 then (if x2 = 0 then (none) else (some (wrap64 (Int.tdiv x1 x2), none))) else (if x2 = 0 then (none) else (some (Int.tmod x1 x2, none))))
end
def value_number.f (k : Nat) (a0 : Int) (a1 : Int) (a2 : Int) : Option (Int × Option Int) := if a0 = 45 then (if a2 = (-9223372036854775808) then (if a1 ≥ 0 then (some (0, some 5)) else (some (wrap64 (a1 - a2), none))) else (if ((decide ((wrap64 (a1 + (wrap64 (-a2)))) > a1)) != (decide ((wrap64 (-a2)) > 0))) = true then (some (0, some 5)) else (some (wrap64 (a1 + (wrap64 (-a2))), none)))) else (if a0 = 43 then (if ((decide ((wrap64 (a1 + a2)) > a1)) != (decide (a2 > 0))) = true then (some (0, some 5)) else (some (wrap64 (a1 + a2), none))) else (if a0 = 42 then ((value_product.f k a1 a2).bind fun bt270 => (some (bt270.1, bt270.2))) else (if a2 = 0 then (some (0, some 6)) else (if a2 = (-1) then (value_number.j0 k a0 a1 a2 (a0 == 37)) else (value_number.j0 k a0 a1 a2 false)))))
set_option maxHeartbeats 8000000 in
set_option maxRecDepth 100000 in
theorem value_number.calls (k : Nat) (a0 : Int) (a1 : Int) (a2 : Int) (r1 : Int) (r2 : Option Int) (w : World) (h : value_number.f k a0 a1 a2 = some (r1, r2)) :
    Calls Tryd.prog 61 #[.int .u8 a0, .int .i64 a1, .int .i64 a2] w fun e w' => e = .returned (.tuple #[.int .i64 r1, errW r2]) ∧ Drawn0 w w' := by
  have hu28 := Tryd.underlying28
  have hu72 := Tryd.underlying72
  have H : (if a0 = 45 then (if a2 = (-9223372036854775808) then (if a1 ≥ 0 then (some (0, some 5)) else (some (wrap64 (a1 - a2), none))) else (if ((decide ((wrap64 (a1 + (wrap64 (-a2)))) > a1)) != (decide ((wrap64 (-a2)) > 0))) = true then (some (0, some 5)) else (some (wrap64 (a1 + (wrap64 (-a2))), none)))) else (if a0 = 43 then (if ((decide ((wrap64 (a1 + a2)) > a1)) != (decide (a2 > 0))) = true then (some (0, some 5)) else (some (wrap64 (a1 + a2), none))) else (if a0 = 42 then ((value_product.f k a1 a2).bind fun bt270 => (some (bt270.1, bt270.2))) else (if a2 = 0 then (some (0, some 6)) else (if a2 = (-1) then (value_number.j0 k a0 a1 a2 (a0 == 37)) else (value_number.j0 k a0 a1 a2 false)))))) = some (r1, r2) := h
  clear h
  by_cases c4 : a0 = 45
  · rw [if_pos c4] at H
    have c4b0 : (a0 == 45) = true := beq_iff_eq.mpr c4
    have c4b1 : (a0 != 45) = false := bne_eq_false_iff_eq.mpr c4
    clear c4
    by_cases c5 : a2 = (-9223372036854775808)
    · rw [if_pos c5] at H
      have c5b0 : (a2 == (-9223372036854775808)) = true := beq_iff_eq.mpr c5
      have c5b1 : (a2 != (-9223372036854775808)) = false := bne_eq_false_iff_eq.mpr c5
      clear c5
      by_cases c6 : a1 ≥ 0
      · rw [if_pos c6] at H
        have c6b0 : decide (0 ≤ a1) = true := decide_eq_true c6
        clear c6
        simp only [Option.some.injEq, Prod.mk.injEq] at H
        obtain ⟨rfl, rfl⟩ := H
        go_enter Tryd.func61, Tryd.ntmps61
        go_wp2
        go_ret2
        exact ⟨by first | rfl | (simp; done) | (simp [*]; done) | (simp [bne]; done), by repeat (first | exact Drawn0.refl _ | apply Drawn0.step)⟩
      · rw [if_neg c6] at H
        have c6b0 : decide (0 ≤ a1) = false := decide_eq_false c6
        clear c6
        simp only [Option.some.injEq, Prod.mk.injEq] at H
        obtain ⟨rfl, rfl⟩ := H
        go_enter Tryd.func61, Tryd.ntmps61
        go_wp2
        go_ret2
        exact ⟨by first | rfl | (simp; done) | (simp [*]; done) | (simp [bne]; done), by repeat (first | exact Drawn0.refl _ | apply Drawn0.step)⟩
    · rw [if_neg c5] at H
      have c5b0 : (a2 == (-9223372036854775808)) = false := beq_eq_false_iff_ne.mpr c5
      have c5b1 : (a2 != (-9223372036854775808)) = true := bne_iff_ne.mpr c5
      by_cases c7 : ((decide ((wrap64 (a1 + (wrap64 (-a2)))) > a1)) != (decide ((wrap64 (-a2)) > 0))) = true
      · rw [if_pos c7] at H
        have c7b0 : ((decide ((wrap64 (a1 + (wrap64 (-a2)))) > a1)) != (decide ((wrap64 (-a2)) > 0))) = true := c7
        (try (have c7b1 : decide ((decide ((wrap64 (a1 + (wrap64 (-a2)))) > a1)) = (decide ((wrap64 (-a2)) > 0))) = false := by simpa using c7))
        (try (have c7b2 : ((decide ((wrap64 (a1 + (wrap64 (-a2)))) > a1)) == (decide ((wrap64 (-a2)) > 0))) = false := by simpa using c7))
        (try (have c7b3 : ¬ ((decide ((wrap64 (a1 + (wrap64 (-a2)))) > a1)) = (decide ((wrap64 (-a2)) > 0))) := by simpa using c7))
        (try (have c7b4 : (!((decide ((wrap64 (a1 + (wrap64 (-a2)))) > a1)) == (decide ((wrap64 (-a2)) > 0)))) = true := by first | simpa using c7 | (have h_ := c7; revert h_; cases (decide ((wrap64 (a1 + (wrap64 (-a2)))) > a1)) <;> cases (decide ((wrap64 (-a2)) > 0)) <;> simp)))
        (try rw [c7b4])
        (try (have c7b5 : ((!(decide ((wrap64 (a1 + (wrap64 (-a2)))) > a1))) == (decide ((wrap64 (-a2)) > 0))) = true := by first | (have h_ := c7; revert h_; cases (decide ((wrap64 (a1 + (wrap64 (-a2)))) > a1)) <;> cases (decide ((wrap64 (-a2)) > 0)) <;> simp; done) | simpa using c7))
        clear c7
        simp only [Option.some.injEq, Prod.mk.injEq] at H
        obtain ⟨rfl, rfl⟩ := H
        go_enter Tryd.func61, Tryd.ntmps61
        go_wp2
        go_ret2
        exact ⟨by first | rfl | (simp; done) | (simp [*]; done) | (simp [bne]; done), by repeat (first | exact Drawn0.refl _ | apply Drawn0.step)⟩
      · rw [if_neg c7] at H
        have c7b0 : ((decide ((wrap64 (a1 + (wrap64 (-a2)))) > a1)) != (decide ((wrap64 (-a2)) > 0))) = false := by simpa using c7
        (try (have c7b1 : decide ((decide ((wrap64 (a1 + (wrap64 (-a2)))) > a1)) = (decide ((wrap64 (-a2)) > 0))) = true := by simpa using c7))
        (try (have c7b2 : ((decide ((wrap64 (a1 + (wrap64 (-a2)))) > a1)) == (decide ((wrap64 (-a2)) > 0))) = true := by simpa using c7))
        (try (have c7b3 : (!((decide ((wrap64 (a1 + (wrap64 (-a2)))) > a1)) == (decide ((wrap64 (-a2)) > 0)))) = false := by first | simpa using c7 | (have h_ := c7; revert h_; cases (decide ((wrap64 (a1 + (wrap64 (-a2)))) > a1)) <;> cases (decide ((wrap64 (-a2)) > 0)) <;> simp)))
        (try rw [c7b3])
        (try (have c7b4 : ((!(decide ((wrap64 (a1 + (wrap64 (-a2)))) > a1))) == (decide ((wrap64 (-a2)) > 0))) = false := by first | (have h_ := c7; revert h_; cases (decide ((wrap64 (a1 + (wrap64 (-a2)))) > a1)) <;> cases (decide ((wrap64 (-a2)) > 0)) <;> simp; done) | simpa using c7))
        clear c7
        simp only [Option.some.injEq, Prod.mk.injEq] at H
        obtain ⟨rfl, rfl⟩ := H
        go_enter Tryd.func61, Tryd.ntmps61
        go_wp2
        go_ret2
        exact ⟨by first | rfl | (simp; done) | (simp [*]; done) | (simp [bne]; done), by repeat (first | exact Drawn0.refl _ | apply Drawn0.step)⟩
  · rw [if_neg c4] at H
    have c4b0 : (a0 == 45) = false := beq_eq_false_iff_ne.mpr c4
    have c4b1 : (a0 != 45) = true := bne_iff_ne.mpr c4
    by_cases c8 : a0 = 43
    · rw [if_pos c8] at H
      have c8b0 : (a0 == 43) = true := beq_iff_eq.mpr c8
      have c8b1 : (a0 != 43) = false := bne_eq_false_iff_eq.mpr c8
      clear c8
      by_cases c9 : ((decide ((wrap64 (a1 + a2)) > a1)) != (decide (a2 > 0))) = true
      · rw [if_pos c9] at H
        have c9b0 : ((decide ((wrap64 (a1 + a2)) > a1)) != (decide (a2 > 0))) = true := c9
        (try (have c9b1 : decide ((decide ((wrap64 (a1 + a2)) > a1)) = (decide (a2 > 0))) = false := by simpa using c9))
        (try (have c9b2 : ((decide ((wrap64 (a1 + a2)) > a1)) == (decide (a2 > 0))) = false := by simpa using c9))
        (try (have c9b3 : ¬ ((decide ((wrap64 (a1 + a2)) > a1)) = (decide (a2 > 0))) := by simpa using c9))
        (try (have c9b4 : (!((decide ((wrap64 (a1 + a2)) > a1)) == (decide (a2 > 0)))) = true := by first | simpa using c9 | (have h_ := c9; revert h_; cases (decide ((wrap64 (a1 + a2)) > a1)) <;> cases (decide (a2 > 0)) <;> simp)))
        (try rw [c9b4])
        (try (have c9b5 : ((!(decide ((wrap64 (a1 + a2)) > a1))) == (decide (a2 > 0))) = true := by first | (have h_ := c9; revert h_; cases (decide ((wrap64 (a1 + a2)) > a1)) <;> cases (decide (a2 > 0)) <;> simp; done) | simpa using c9))
        clear c9
        simp only [Option.some.injEq, Prod.mk.injEq] at H
        obtain ⟨rfl, rfl⟩ := H
        go_enter Tryd.func61, Tryd.ntmps61
        go_wp2
        go_ret2
        exact ⟨by first | rfl | (simp; done) | (simp [*]; done) | (simp [bne]; done), by repeat (first | exact Drawn0.refl _ | apply Drawn0.step)⟩
      · rw [if_neg c9] at H
        have c9b0 : ((decide ((wrap64 (a1 + a2)) > a1)) != (decide (a2 > 0))) = false := by simpa using c9
        (try (have c9b1 : decide ((decide ((wrap64 (a1 + a2)) > a1)) = (decide (a2 > 0))) = true := by simpa using c9))
        (try (have c9b2 : ((decide ((wrap64 (a1 + a2)) > a1)) == (decide (a2 > 0))) = true := by simpa using c9))
        (try (have c9b3 : (!((decide ((wrap64 (a1 + a2)) > a1)) == (decide (a2 > 0)))) = false := by first | simpa using c9 | (have h_ := c9; revert h_; cases (decide ((wrap64 (a1 + a2)) > a1)) <;> cases (decide (a2 > 0)) <;> simp)))
        (try rw [c9b3])
        (try (have c9b4 : ((!(decide ((wrap64 (a1 + a2)) > a1))) == (decide (a2 > 0))) = false := by first | (have h_ := c9; revert h_; cases (decide ((wrap64 (a1 + a2)) > a1)) <;> cases (decide (a2 > 0)) <;> simp; done) | simpa using c9))
        clear c9
        simp only [Option.some.injEq, Prod.mk.injEq] at H
        obtain ⟨rfl, rfl⟩ := H
        go_enter Tryd.func61, Tryd.ntmps61
        go_wp2
        go_ret2
        exact ⟨by first | rfl | (simp; done) | (simp [*]; done) | (simp [bne]; done), by repeat (first | exact Drawn0.refl _ | apply Drawn0.step)⟩
    · rw [if_neg c8] at H
      have c8b0 : (a0 == 43) = false := beq_eq_false_iff_ne.mpr c8
      have c8b1 : (a0 != 43) = true := bne_iff_ne.mpr c8
      by_cases c10 : a0 = 42
      · rw [if_pos c10] at H
        have c10b0 : (a0 == 42) = true := beq_iff_eq.mpr c10
        have c10b1 : (a0 != 42) = false := bne_eq_false_iff_eq.mpr c10
        clear c10
        replace H := Option.bind_eq_some_iff.mp H
        obtain ⟨⟨t270, t271⟩, A110, H⟩ := H
        replace H : (some (t270, t271)) = some (r1, r2) := H
        have A11 := Aside0.mk A110
        clear A110
        simp only [Option.some.injEq, Prod.mk.injEq] at H
        obtain ⟨rfl, rfl⟩ := H
        go_enter Tryd.func61, Tryd.ntmps61
        go_wp2_with (first | ((with_reducible refine gate_callee (f := 85) rfl ?_); refine goesL_ (some 39) rfl rfl Tryd.func85 (by kernel_rfl) rfl #[.int .i64 a1, .int .i64 a2] rfl (by (try simp only [List.map_toArray, List.map_cons, List.map_nil]); first | done | rfl | (simp only [List.length_drop, List.length_take]; rfl)) ?_; (with_reducible refine (value_product.calls k a1 a2 t270 t271 _ A11.out).mono ?_); rintro e w' ⟨rfl, ⟨nd, rfl⟩⟩; refine ⟨_, rfl, ?_⟩; (try simp only [errW_none, errW_some])))
        go_ret2
        exact ⟨by first | rfl | (simp; done) | (simp [*]; done) | (simp [bne]; done), by repeat (first | exact Drawn0.refl _ | apply Drawn0.step)⟩
      · rw [if_neg c10] at H
        have c10b0 : (a0 == 42) = false := beq_eq_false_iff_ne.mpr c10
        have c10b1 : (a0 != 42) = true := bne_iff_ne.mpr c10
        by_cases c12 : a2 = 0
        · rw [if_pos c12] at H
          have c12b0 : (a2 == 0) = true := beq_iff_eq.mpr c12
          have c12b1 : (a2 != 0) = false := bne_eq_false_iff_eq.mpr c12
          clear c12
          simp only [Option.some.injEq, Prod.mk.injEq] at H
          obtain ⟨rfl, rfl⟩ := H
          go_enter Tryd.func61, Tryd.ntmps61
          go_wp2
          go_ret2
          exact ⟨by first | rfl | (simp; done) | (simp [*]; done) | (simp [bne]; done), by repeat (first | exact Drawn0.refl _ | apply Drawn0.step)⟩
        · rw [if_neg c12] at H
          have c12b0 : (a2 == 0) = false := beq_eq_false_iff_ne.mpr c12
          have c12b1 : (a2 != 0) = true := bne_iff_ne.mpr c12
          have HC13 := Aside0.mk H
          clear H
          go_enter Tryd.func61, Tryd.ntmps61
          go_upto_region 17 with (fail)
          go_cut [46] (fun v46 wc => ∃ (kq : Nat) (x46_12 : Bool), v46 = .bool x46_12 ∧ Aside0 (value_number.j0 kq a0 a1 a2 x46_12 = some (r1, r2)) ∧ Aside0 (kq ≤ k) ∧ Drawn0 w wc)
          case first =>
            have H := HC13.out
            clear HC13
            by_cases c14 : a2 = (-1)
            · rw [if_pos c14] at H
              have c14b0 : (a2 == (-1)) = true := beq_iff_eq.mpr c14
              have c14b1 : (a2 != (-1)) = false := bne_eq_false_iff_eq.mpr c14
              clear c14
              (first | rw [c14b0] | (simp only [i64_w, i32_w]; rw [c14b0]) | skip)
              have H' := Aside0.mk H
              clear H
              go_wp2
              refine Met.intro ?_
              go_step
              (repeat apply Exists.intro)
              refine ⟨?rel, ?frm⟩
              case frm => first | rfl | (simp only [c4b0, c4b1, c8b0, c8b1, c10b0, c10b1, c12b0, c12b1, c14b0, c14b1]; rfl) | (simp only [c4b0, c4b1, c8b0, c8b1, c10b0, c10b1, c12b0, c12b1, c14b0, c14b1]; first | done | rfl)
              case rel => exact ⟨_, ((a0 == 37)), (by first | rfl | (simp; done) | (simp [*]; done) | (simp [bne]; done)), H', ⟨by first | omega | exact Nat.le_refl _⟩, by repeat (first | exact Drawn0.refl _ | apply Drawn0.step)⟩
            · rw [if_neg c14] at H
              have c14b0 : (a2 == (-1)) = false := beq_eq_false_iff_ne.mpr c14
              have c14b1 : (a2 != (-1)) = true := bne_iff_ne.mpr c14
              (first | rw [c14b0] | (simp only [i64_w, i32_w]; rw [c14b0]) | skip)
              have H' := Aside0.mk H
              clear H
              go_wp2
              refine Met.intro ?_
              go_step
              (repeat apply Exists.intro)
              refine ⟨?rel, ?frm⟩
              case frm => first | rfl | (simp only [c4b0, c4b1, c8b0, c8b1, c10b0, c10b1, c12b0, c12b1, c14b0, c14b1]; rfl) | (simp only [c4b0, c4b1, c8b0, c8b1, c10b0, c10b1, c12b0, c12b1, c14b0, c14b1]; first | done | rfl)
              case rel => exact ⟨_, (false), (by first | rfl | (simp; done) | (simp [*]; done) | (simp [bne]; done)), H', ⟨by first | omega | exact Nat.le_refl _⟩, by repeat (first | exact Drawn0.refl _ | apply Drawn0.step)⟩
          case rest =>
            clear HC13
            try clear c1
            try clear p2
            try clear c4
            try clear c4b0
            try clear c4b1
            try clear c5
            try clear c5b0
            try clear c5b1
            try clear c6
            try clear c6b0
            try clear p6
            try clear c7
            try clear c7b0
            try clear c7b1
            try clear c7b2
            try clear c8
            try clear c8b0
            try clear c8b1
            try clear c9
            try clear c9b0
            try clear c9b1
            try clear c9b2
            try clear c10
            try clear c10b0
            try clear c10b1
            try clear c12
            try clear c12b0
            try clear c12b1
            try clear c14
            try clear c14b0
            try clear c14b1
            obtain ⟨kq, x46_12, rfl, HA, HJ12, ⟨mc12, rfl⟩⟩ := hcut
            cases kq with
            | zero => exact absurd HA.out (by simp [value_number.j0])
            | succ kj12 =>
              have H := HA.out
              clear HA
              simp only [value_number.j0] at H
              by_cases c15 : x46_12 = true
              · subst c15
                have H1 : (some (0, none)) = some (r1, r2) := by rw [if_pos rfl] at H; exact H
                clear H
                have H := H1
                clear H1
                simp only [Option.some.injEq, Prod.mk.injEq] at H
                obtain ⟨rfl, rfl⟩ := H
                go_wp2
                go_ret2
                exact ⟨by first | rfl | (simp; done) | (simp [*]; done) | (simp [bne]; done), by repeat (first | exact Drawn0.refl _ | apply Drawn0.step)⟩
              · replace c15 := Bool.eq_false_iff.mpr c15
                subst c15
                have H1 : (if a2 = (-1) then (value_number.j1 kj12 a0 a1 a2 (a1 == (-9223372036854775808))) else (value_number.j1 kj12 a0 a1 a2 false)) = some (r1, r2) := by rw [if_neg (show ¬ (false = true) by decide)] at H; exact H
                clear H
                have H := H1
                clear H1
                have HC16 := Aside0.mk H
                clear H
                go_upto_region 19 with (fail)
                go_cut [53] (fun v53 wc => ∃ (kq : Nat) (x53_15 : Bool), v53 = .bool x53_15 ∧ Aside0 (value_number.j1 kq a0 a1 a2 x53_15 = some (r1, r2)) ∧ Aside0 (kq ≤ kj12) ∧ Drawn0 w wc)
                case first =>
                  have H := HC16.out
                  clear HC16
                  by_cases c17 : a2 = (-1)
                  · rw [if_pos c17] at H
                    have c17b0 : (a2 == (-1)) = true := beq_iff_eq.mpr c17
                    have c17b1 : (a2 != (-1)) = false := bne_eq_false_iff_eq.mpr c17
                    clear c17
                    (first | rw [c17b0] | (simp only [i64_w, i32_w]; rw [c17b0]) | skip)
                    have H' := Aside0.mk H
                    clear H
                    go_wp2
                    refine Met.intro ?_
                    go_step
                    (repeat apply Exists.intro)
                    refine ⟨?rel, ?frm⟩
                    case frm => first | rfl | (simp only [c4b0, c4b1, c8b0, c8b1, c10b0, c10b1, c12b0, c12b1, c17b0, c17b1]; rfl) | (simp only [c4b0, c4b1, c8b0, c8b1, c10b0, c10b1, c12b0, c12b1, c17b0, c17b1]; first | done | rfl)
                    case rel => exact ⟨_, ((a1 == (-9223372036854775808))), (by first | rfl | (simp; done) | (simp [*]; done) | (simp [bne]; done)), H', ⟨by have := HJ12.out; first | omega | exact Nat.le_refl _⟩, by repeat (first | exact Drawn0.refl _ | apply Drawn0.step)⟩
                  · rw [if_neg c17] at H
                    have c17b0 : (a2 == (-1)) = false := beq_eq_false_iff_ne.mpr c17
                    have c17b1 : (a2 != (-1)) = true := bne_iff_ne.mpr c17
                    (first | rw [c17b0] | (simp only [i64_w, i32_w]; rw [c17b0]) | skip)
                    have H' := Aside0.mk H
                    clear H
                    go_wp2
                    refine Met.intro ?_
                    go_step
                    (repeat apply Exists.intro)
                    refine ⟨?rel, ?frm⟩
                    case frm => first | rfl | (simp only [c4b0, c4b1, c8b0, c8b1, c10b0, c10b1, c12b0, c12b1, c17b0, c17b1]; rfl) | (simp only [c4b0, c4b1, c8b0, c8b1, c10b0, c10b1, c12b0, c12b1, c17b0, c17b1]; first | done | rfl)
                    case rel => exact ⟨_, (false), (by first | rfl | (simp; done) | (simp [*]; done) | (simp [bne]; done)), H', ⟨by have := HJ12.out; first | omega | exact Nat.le_refl _⟩, by repeat (first | exact Drawn0.refl _ | apply Drawn0.step)⟩
                case rest =>
                  clear HC16
                  try clear c1
                  try clear p2
                  try clear c4
                  try clear c4b0
                  try clear c4b1
                  try clear c5
                  try clear c5b0
                  try clear c5b1
                  try clear c6
                  try clear c6b0
                  try clear p6
                  try clear c7
                  try clear c7b0
                  try clear c7b1
                  try clear c7b2
                  try clear c8
                  try clear c8b0
                  try clear c8b1
                  try clear c9
                  try clear c9b0
                  try clear c9b1
                  try clear c9b2
                  try clear c10
                  try clear c10b0
                  try clear c10b1
                  try clear c12
                  try clear c12b0
                  try clear c12b1
                  try clear c14
                  try clear c14b0
                  try clear c14b1
                  try clear c15
                  try clear c17
                  try clear c17b0
                  try clear c17b1
                  try clear p2
                  try clear p6
                  obtain ⟨kq, x53_15, rfl, HA, HJ15, ⟨mc15, rfl⟩⟩ := hcut
                  cases kq with
                  | zero => exact absurd HA.out (by simp [value_number.j1])
                  | succ kj15 =>
                    have H := HA.out
                    clear HA
                    simp only [value_number.j1] at H
                    by_cases c18 : x53_15 = true
                    · subst c18
                      have H1 : (some (0, some 5)) = some (r1, r2) := by rw [if_pos rfl] at H; exact H
                      clear H
                      have H := H1
                      clear H1
                      simp only [Option.some.injEq, Prod.mk.injEq] at H
                      obtain ⟨rfl, rfl⟩ := H
                      go_wp2
                      go_ret2
                      exact ⟨by first | rfl | (simp; done) | (simp [*]; done) | (simp [bne]; done), by repeat (first | exact Drawn0.refl _ | apply Drawn0.step)⟩
                    · replace c18 := Bool.eq_false_iff.mpr c18
                      subst c18
                      have H1 : (if a0 = 47 then (if a2 = 0 then (none) else (some (wrap64 (Int.tdiv a1 a2), none))) else (if a2 = 0 then (none) else (some (Int.tmod a1 a2, none)))) = some (r1, r2) := by rw [if_neg (show ¬ (false = true) by decide)] at H; exact H
                      clear H
                      have H := H1
                      clear H1
                      by_cases c19 : a0 = 47
                      · rw [if_pos c19] at H
                        have c19b0 : (a0 == 47) = true := beq_iff_eq.mpr c19
                        have c19b1 : (a0 != 47) = false := bne_eq_false_iff_eq.mpr c19
                        clear c19
                        by_cases c20 : a2 = 0
                        · rw [if_pos c20] at H
                          exact absurd H (by simp)
                        · rw [if_neg c20] at H
                          have c20b0 : (a2 == 0) = false := beq_eq_false_iff_ne.mpr c20
                          have c20b1 : (a2 != 0) = true := bne_iff_ne.mpr c20
                          simp only [Option.some.injEq, Prod.mk.injEq] at H
                          obtain ⟨rfl, rfl⟩ := H
                          go_wp2
                          go_ret2
                          exact ⟨by first | rfl | (simp; done) | (simp [*]; done) | (simp [bne]; done), by repeat (first | exact Drawn0.refl _ | apply Drawn0.step)⟩
                      · rw [if_neg c19] at H
                        have c19b0 : (a0 == 47) = false := beq_eq_false_iff_ne.mpr c19
                        have c19b1 : (a0 != 47) = true := bne_iff_ne.mpr c19
                        by_cases c21 : a2 = 0
                        · rw [if_pos c21] at H
                          exact absurd H (by simp)
                        · rw [if_neg c21] at H
                          have c21b0 : (a2 == 0) = false := beq_eq_false_iff_ne.mpr c21
                          have c21b1 : (a2 != 0) = true := bne_iff_ne.mpr c21
                          simp only [Option.some.injEq, Prod.mk.injEq] at H
                          obtain ⟨rfl, rfl⟩ := H
                          go_wp2
                          go_ret2
                          exact ⟨by first | rfl | (simp; done) | (simp [*]; done) | (simp [bne]; done), by repeat (first | exact Drawn0.refl _ | apply Drawn0.step)⟩

end Go.Proofs.YtljadejgdbemoaaDoor.B
