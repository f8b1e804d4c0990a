import Derived.Test.YtddkbhglbkfelaaPnPx0
namespace Go.Proofs.Ytddkbhglbkfelaa.P
open Go.RowKit Go.Proofs.YtddkbhglbkfelaaW.PrintWords Go.Proofs.YtddkbhglbkfelaaW.PrintLast Go.Proofs.YtddkbhglbkfelaaW.PrintMore Go.Proofs.YtddkbhglbkfelaaX
attribute [local go_sem] max2_int min2_int max_two min_two max_three min_three max_four min_four
set_option linter.unusedVariables false
set_option linter.unusedSimpArgs false

/-! ### cmp_isNaN_string: function 30 -/
def cmp_isNaN_string.f (a0 : ByteArray) : Option (Bool) := some (a0.toList != a0.toList)
set_option maxHeartbeats 8000000 in
set_option maxRecDepth 100000 in
theorem cmp_isNaN_string.calls (a0 : ByteArray) (r : Bool) (w : World) (h : cmp_isNaN_string.f a0 = some r) :
    Calls Try.prog 30 #[.string a0] w fun e w' => e = .returned (.bool r) ∧ Drawn0 w w' := by
  have H : (some (a0.toList != a0.toList)) = some r := h
  clear h
  obtain rfl := Option.some.inj H
  go_enter Try.func30, Try.ntmps30
  go_wp2
  go_ret
  exact ⟨by first | rfl | (simp; done) | (simp [*]; done) | (simp [bne]; done), by repeat (first | exact Drawn0.refl _ | apply Drawn0.step)⟩

/-! ### cmp_Compare_string: function 25 -/
def cmp_Compare_string.f (a0 : ByteArray) (a1 : ByteArray) : Option (Int) := (cmp_isNaN_string.f a0).bind fun t187 => ((cmp_isNaN_string.f a1).bind fun t188 => (if t187 = true then (if t188 = true then (some 0) else (some (-1))) else (if t188 = true then (some 1) else (if (Op.bytesLess a0.toList a1.toList) = true then (some (-1)) else (if (Op.bytesLess a1.toList a0.toList) = true then (some 1) else (some 0))))))
set_option maxHeartbeats 8000000 in
set_option maxRecDepth 100000 in
theorem cmp_Compare_string.calls (a0 : ByteArray) (a1 : ByteArray) (r : Int) (w : World) (h : cmp_Compare_string.f a0 a1 = some r) :
    Calls Try.prog 25 #[.string a0, .string a1] w fun e w' => e = .returned (.int .i64 r) ∧ Drawn0 w w' := by
  have H : ((cmp_isNaN_string.f a0).bind fun t187 => ((cmp_isNaN_string.f a1).bind fun t188 => (if t187 = true then (if t188 = true then (some 0) else (some (-1))) else (if t188 = true then (some 1) else (if (Op.bytesLess a0.toList a1.toList) = true then (some (-1)) else (if (Op.bytesLess a1.toList a0.toList) = true then (some 1) else (some 0))))))) = some r := h
  clear h
  replace H := Option.bind_eq_some_iff.mp H
  obtain ⟨t187, A30, H⟩ := H
  (try dsimp only at H)
  have A3 := Aside0.mk A30
  clear A30
  replace H := Option.bind_eq_some_iff.mp H
  obtain ⟨t188, A40, H⟩ := H
  (try dsimp only at H)
  have A4 := Aside0.mk A40
  clear A40
  by_cases c5 : t187 = true
  · subst c5
    rw [if_pos rfl] at H
    by_cases c6 : t188 = true
    · subst c6
      rw [if_pos rfl] at H
      obtain rfl := Option.some.inj H
      go_enter Try.func25, Try.ntmps25
      go_wp2_with (first | ((with_reducible refine gate_callee (f := 30) rfl ?_); refine goesL_ (some 8) rfl rfl Try.func30 (by kernel_rfl) rfl #[.string a0] rfl (by (try simp only [List.map_toArray, List.map_cons, List.map_nil]); first | done | rfl | (simp only [List.length_drop, List.length_take]; rfl)) ?_; (with_reducible refine (cmp_isNaN_string.calls a0 true _ A3.out).mono ?_); rintro e w' ⟨rfl, ⟨nd, rfl⟩⟩; refine ⟨_, rfl, ?_⟩) | ((with_reducible refine gate_callee (f := 30) rfl ?_); refine goesL_ (some 10) rfl rfl Try.func30 (by kernel_rfl) rfl #[.string a1] rfl (by (try simp only [List.map_toArray, List.map_cons, List.map_nil]); first | done | rfl | (simp only [List.length_drop, List.length_take]; rfl)) ?_; (with_reducible refine (cmp_isNaN_string.calls a1 true _ A4.out).mono ?_); rintro e w' ⟨rfl, ⟨nd, rfl⟩⟩; refine ⟨_, rfl, ?_⟩))
      go_ret
      exact ⟨by first | rfl | (simp; done) | (simp [*]; done) | (simp [bne]; done), by repeat (first | exact Drawn0.refl _ | apply Drawn0.step)⟩
    replace c6 := Bool.eq_false_iff.mpr c6
    subst c6
    rw [if_neg (show ¬ (false = true) by decide)] at H
    obtain rfl := Option.some.inj H
    go_enter Try.func25, Try.ntmps25
    go_wp2_with (first | ((with_reducible refine gate_callee (f := 30) rfl ?_); refine goesL_ (some 8) rfl rfl Try.func30 (by kernel_rfl) rfl #[.string a0] rfl (by (try simp only [List.map_toArray, List.map_cons, List.map_nil]); first | done | rfl | (simp only [List.length_drop, List.length_take]; rfl)) ?_; (with_reducible refine (cmp_isNaN_string.calls a0 true _ A3.out).mono ?_); rintro e w' ⟨rfl, ⟨nd, rfl⟩⟩; refine ⟨_, rfl, ?_⟩) | ((with_reducible refine gate_callee (f := 30) rfl ?_); refine goesL_ (some 10) rfl rfl Try.func30 (by kernel_rfl) rfl #[.string a1] rfl (by (try simp only [List.map_toArray, List.map_cons, List.map_nil]); first | done | rfl | (simp only [List.length_drop, List.length_take]; rfl)) ?_; (with_reducible refine (cmp_isNaN_string.calls a1 false _ A4.out).mono ?_); rintro e w' ⟨rfl, ⟨nd, rfl⟩⟩; refine ⟨_, rfl, ?_⟩))
    go_ret
    exact ⟨by first | rfl | (simp; done) | (simp [*]; done) | (simp [bne]; done), by repeat (first | exact Drawn0.refl _ | apply Drawn0.step)⟩
  replace c5 := Bool.eq_false_iff.mpr c5
  subst c5
  rw [if_neg (show ¬ (false = true) by decide)] at H
  by_cases c7 : t188 = true
  · subst c7
    rw [if_pos rfl] at H
    obtain rfl := Option.some.inj H
    go_enter Try.func25, Try.ntmps25
    go_wp2_with (first | ((with_reducible refine gate_callee (f := 30) rfl ?_); refine goesL_ (some 8) rfl rfl Try.func30 (by kernel_rfl) rfl #[.string a0] rfl (by (try simp only [List.map_toArray, List.map_cons, List.map_nil]); first | done | rfl | (simp only [List.length_drop, List.length_take]; rfl)) ?_; (with_reducible refine (cmp_isNaN_string.calls a0 false _ A3.out).mono ?_); rintro e w' ⟨rfl, ⟨nd, rfl⟩⟩; refine ⟨_, rfl, ?_⟩) | ((with_reducible refine gate_callee (f := 30) rfl ?_); refine goesL_ (some 10) rfl rfl Try.func30 (by kernel_rfl) rfl #[.string a1] rfl (by (try simp only [List.map_toArray, List.map_cons, List.map_nil]); first | done | rfl | (simp only [List.length_drop, List.length_take]; rfl)) ?_; (with_reducible refine (cmp_isNaN_string.calls a1 true _ A4.out).mono ?_); rintro e w' ⟨rfl, ⟨nd, rfl⟩⟩; refine ⟨_, rfl, ?_⟩))
    go_ret
    exact ⟨by first | rfl | (simp; done) | (simp [*]; done) | (simp [bne]; done), by repeat (first | exact Drawn0.refl _ | apply Drawn0.step)⟩
  replace c7 := Bool.eq_false_iff.mpr c7
  subst c7
  rw [if_neg (show ¬ (false = true) by decide)] at H
  by_cases c8 : (Op.bytesLess a0.toList a1.toList) = true
  · rw [if_pos c8] at H
    have c8b0 : (Op.bytesLess a0.toList a1.toList) = true := c8
    clear c8
    obtain rfl := Option.some.inj H
    go_enter Try.func25, Try.ntmps25
    go_wp2_with (first | ((with_reducible refine gate_callee (f := 30) rfl ?_); refine goesL_ (some 8) rfl rfl Try.func30 (by kernel_rfl) rfl #[.string a0] rfl (by (try simp only [List.map_toArray, List.map_cons, List.map_nil]); first | done | rfl | (simp only [List.length_drop, List.length_take]; rfl)) ?_; (with_reducible refine (cmp_isNaN_string.calls a0 false _ A3.out).mono ?_); rintro e w' ⟨rfl, ⟨nd, rfl⟩⟩; refine ⟨_, rfl, ?_⟩) | ((with_reducible refine gate_callee (f := 30) rfl ?_); refine goesL_ (some 10) rfl rfl Try.func30 (by kernel_rfl) rfl #[.string a1] rfl (by (try simp only [List.map_toArray, List.map_cons, List.map_nil]); first | done | rfl | (simp only [List.length_drop, List.length_take]; rfl)) ?_; (with_reducible refine (cmp_isNaN_string.calls a1 false _ A4.out).mono ?_); rintro e w' ⟨rfl, ⟨nd, rfl⟩⟩; refine ⟨_, rfl, ?_⟩))
    go_ret
    exact ⟨by first | rfl | (simp; done) | (simp [*]; done) | (simp [bne]; done), by repeat (first | exact Drawn0.refl _ | apply Drawn0.step)⟩
  rw [if_neg c8] at H
  have c8b0 : (Op.bytesLess a0.toList a1.toList) = false := by simpa using c8
  clear c8
  by_cases c9 : (Op.bytesLess a1.toList a0.toList) = true
  · rw [if_pos c9] at H
    have c9b0 : (Op.bytesLess a1.toList a0.toList) = true := c9
    clear c9
    obtain rfl := Option.some.inj H
    go_enter Try.func25, Try.ntmps25
    go_wp2_with (first | ((with_reducible refine gate_callee (f := 30) rfl ?_); refine goesL_ (some 8) rfl rfl Try.func30 (by kernel_rfl) rfl #[.string a0] rfl (by (try simp only [List.map_toArray, List.map_cons, List.map_nil]); first | done | rfl | (simp only [List.length_drop, List.length_take]; rfl)) ?_; (with_reducible refine (cmp_isNaN_string.calls a0 false _ A3.out).mono ?_); rintro e w' ⟨rfl, ⟨nd, rfl⟩⟩; refine ⟨_, rfl, ?_⟩) | ((with_reducible refine gate_callee (f := 30) rfl ?_); refine goesL_ (some 10) rfl rfl Try.func30 (by kernel_rfl) rfl #[.string a1] rfl (by (try simp only [List.map_toArray, List.map_cons, List.map_nil]); first | done | rfl | (simp only [List.length_drop, List.length_take]; rfl)) ?_; (with_reducible refine (cmp_isNaN_string.calls a1 false _ A4.out).mono ?_); rintro e w' ⟨rfl, ⟨nd, rfl⟩⟩; refine ⟨_, rfl, ?_⟩))
    go_ret
    exact ⟨by first | rfl | (simp; done) | (simp [*]; done) | (simp [bne]; done), by repeat (first | exact Drawn0.refl _ | apply Drawn0.step)⟩
  rw [if_neg c9] at H
  have c9b0 : (Op.bytesLess a1.toList a0.toList) = false := by simpa using c9
  clear c9
  obtain rfl := Option.some.inj H
  go_enter Try.func25, Try.ntmps25
  go_wp2_with (first | ((with_reducible refine gate_callee (f := 30) rfl ?_); refine goesL_ (some 8) rfl rfl Try.func30 (by kernel_rfl) rfl #[.string a0] rfl (by (try simp only [List.map_toArray, List.map_cons, List.map_nil]); first | done | rfl | (simp only [List.length_drop, List.length_take]; rfl)) ?_; (with_reducible refine (cmp_isNaN_string.calls a0 false _ A3.out).mono ?_); rintro e w' ⟨rfl, ⟨nd, rfl⟩⟩; refine ⟨_, rfl, ?_⟩) | ((with_reducible refine gate_callee (f := 30) rfl ?_); refine goesL_ (some 10) rfl rfl Try.func30 (by kernel_rfl) rfl #[.string a1] rfl (by (try simp only [List.map_toArray, List.map_cons, List.map_nil]); first | done | rfl | (simp only [List.length_drop, List.length_take]; rfl)) ?_; (with_reducible refine (cmp_isNaN_string.calls a1 false _ A4.out).mono ?_); rintro e w' ⟨rfl, ⟨nd, rfl⟩⟩; refine ⟨_, rfl, ?_⟩))
  go_ret
  exact ⟨by first | rfl | (simp; done) | (simp [*]; done) | (simp [bne]; done), by repeat (first | exact Drawn0.refl _ | apply Drawn0.step)⟩

/-! ### cursor_end_narrower: function 20 -/
def cursor_end_narrower.j0 : Nat → Int → Bool → ByteArray → Bool → Bool → ByteArray → Bool → Bool → Option (ByteArray × Bool × Bool)
  | 0, _, _, _, _, _, _, _, _ => none
  | k + 1, x2, x8, x190000, x190001, x190002, x191000, x191001, x191002 => if x8 = true then (some ((⟨#[]⟩ : ByteArray), false, false)) else (if x190001 = true then (if x191001 = true then ((cmp_Compare_string.f x190000 x191000).bind fun t192 => (if (wrap64 (t192 * x2)) > 0 then (some (x190000, x190001, x190002)) else (if (wrap64 (t192 * x2)) < 0 then (some (x191000, x191001, x191002)) else (if x190002 = true then (some (x190000, x190001, true)) else (some (x190000, x190001, x191002)))))) else (some (x190000, x190001, x190002))) else (some (x191000, x191001, x191002)))
def cursor_end_narrower.f (k : Nat) (a0_0 : ByteArray) (a0_1 : Bool) (a0_2 : Bool) (a1_0 : ByteArray) (a1_1 : Bool) (a1_2 : Bool) (a2 : Int) : Option (ByteArray × Bool × Bool) := if a0_1 = true then (cursor_end_narrower.j0 k a2 false a0_0 a0_1 a0_2 a1_0 a1_1 a1_2) else (cursor_end_narrower.j0 k a2 (!a1_1) a0_0 a0_1 a0_2 a1_0 a1_1 a1_2)
theorem cursor_end_narrower.mono_l : ∀ k, (∀ y0 y1 y2 y3 y4 y5 y6 y7, LeO (cursor_end_narrower.j0 k y0 y1 y2 y3 y4 y5 y6 y7) (cursor_end_narrower.j0 (k + 1) y0 y1 y2 y3 y4 y5 y6 y7))
  | 0 => fun _ _ _ _ _ _ _ _ r h => by simp [cursor_end_narrower.j0] at h
  | k + 1 => by
    have ih0 := cursor_end_narrower.mono_l k
    · intro y0 y1 y2 y3 y4 y5 y6 y7
      unfold cursor_end_narrower.j0
      repeat' first
      | (with_reducible exact ih0 _ _ _ _ _ _ _ _)
      | (with_reducible exact LeO.refl _)
      | (with_reducible exact LeO.none _)
      | (with_reducible refine LeO.ite ?_ ?_)
      | (with_reducible refine LeO.bind ?_ (fun _ => ?_))
      | exact ih0 _ _ _ _ _ _ _ _
      | exact LeO.none _
      | refine LeO.ite ?_ ?_
      | refine LeO.bind ?_ (fun _ => ?_)
theorem cursor_end_narrower.mono : ∀ a0 a1 a2 a3 a4 a5 a6 k, LeO (cursor_end_narrower.f k a0 a1 a2 a3 a4 a5 a6) (cursor_end_narrower.f (k + 1) a0 a1 a2 a3 a4 a5 a6) := by
  intro a0 a1 a2 a3 a4 a5 a6 k
  have ih0 := cursor_end_narrower.mono_l k
  unfold cursor_end_narrower.f
  repeat' first
      | (with_reducible exact ih0 _ _ _ _ _ _ _ _)
      | (with_reducible exact LeO.refl _)
      | (with_reducible exact LeO.none _)
      | (with_reducible refine LeO.ite ?_ ?_)
      | (with_reducible refine LeO.bind ?_ (fun _ => ?_))
      | exact ih0 _ _ _ _ _ _ _ _
      | exact LeO.none _
      | refine LeO.ite ?_ ?_
      | refine LeO.bind ?_ (fun _ => ?_)
set_option maxHeartbeats 8000000 in
set_option maxRecDepth 100000 in
theorem cursor_end_narrower.calls (k : Nat) (a0_0 : ByteArray) (a0_1 : Bool) (a0_2 : Bool) (a1_0 : ByteArray) (a1_1 : Bool) (a1_2 : Bool) (a2 : Int) (r1 : ByteArray) (r2 : Bool) (r3 : Bool) (w : World) (h : cursor_end_narrower.f k a0_0 a0_1 a0_2 a1_0 a1_1 a1_2 a2 = some (r1, r2, r3)) :
    Calls Try.prog 20 #[.agg #[.string a0_0, .bool a0_1, .bool a0_2], .agg #[.string a1_0, .bool a1_1, .bool a1_2], .int .i64 a2] w fun e w' => e = .returned (.agg #[.string r1, .bool r2, .bool r3]) ∧ Below w.heap.size w w' := by
  have hu61 := Try.underlying61
  have HB := Aside0.mk (Below.refl w.heap.size w)
  have H : (if a0_1 = true then (cursor_end_narrower.j0 k a2 false a0_0 a0_1 a0_2 a1_0 a1_1 a1_2) else (cursor_end_narrower.j0 k a2 (!a1_1) a0_0 a0_1 a0_2 a1_0 a1_1 a1_2)) = some (r1, r2, r3) := h
  clear h
  have HC4 := Aside0.mk H
  clear H
  go_enter Try.func20, Try.ntmps20
  go_upto_region 1 with (first | ((with_reducible refine gate_dst (N := 3) rfl ?_); refine box_event ?hg (N := 3) ?hd (cs := #[.string a0_0, .bool a0_1, .bool a0_2]) (t := 61) ?hr ?_; (case hd => rfl); (case hg => rfl); (case hr => first | (go_simp; done) | (go_simp; rfl)); intro gb189 hg w5 hbox hb; have n0_ := Aside0.mk (below_step (bw_ HB.out) hb); have n1_ := Aside0.mk (hbox); have n2_ := Aside0.mk ((by rw [hg]; exact (below_size (bw_ HB.out)) : w.heap.size ≤ gb189)); have n3_ := Aside0.mk ((by rw [hg]; exact (below_size (bw_ HB.out)) : w.heap.size ≤ gb189)); clear HB; have HB := n0_; have BK189 := n1_; have GW189 := n2_; have GE189 := n3_; clear n0_ n1_ n2_ n3_; clear hb hbox hg) | ((with_reducible refine gate_dst (N := 4) rfl ?_); refine box_event ?hg (N := 4) ?hd (cs := #[.string a1_0, .bool a1_1, .bool a1_2]) (t := 61) ?hr ?_; (case hd => rfl); (case hg => rfl); (case hr => first | (go_simp; done) | (go_simp; rfl)); intro gb190 hg w6 hbox hb; have n0_ := Aside0.mk (blk_below (g := gb189) (o := .cells #[.string a0_0, .bool a0_1, .bool a0_2] 61 (0, 0)) (bl_ BK189.out) hb); have n1_ := Aside0.mk (below_step (bw_ HB.out) hb); have n2_ := Aside0.mk (hbox); have n3_ := Aside0.mk ((by rw [hg]; exact (below_size (bw_ HB.out)) : w.heap.size ≤ gb190)); have n4_ := Aside0.mk ((by rw [hg]; exact (below_size (bw_ HB.out)) : w.heap.size ≤ gb190)); have n5_ := Aside0.mk ((by rw [hg]; exact Nat.ne_of_lt (blk_lt (g := gb189) (o := .cells #[.string a0_0, .bool a0_1, .bool a0_2] 61 (0, 0)) (bl_ BK189.out)) : gb189 ≠ gb190)); have n6_ := Aside0.mk ((by rw [hg]; exact Nat.ne_of_gt (blk_lt (g := gb189) (o := .cells #[.string a0_0, .bool a0_1, .bool a0_2] 61 (0, 0)) (bl_ BK189.out)) : gb190 ≠ gb189)); clear BK189; clear HB; have BK189 := n0_; have HB := n1_; have BK190 := n2_; have GW190 := n3_; have GE190 := n4_; have NB189_190 := n5_; have NB190_189 := n6_; clear n0_ n1_ n2_ n3_ n4_ n5_ n6_; clear hb hbox hg) | ((with_reducible refine gate_dst (N := 6) rfl ?_); refine box_event ?hg (N := 6) ?hd (cs := #[.string (⟨#[]⟩ : ByteArray), .bool false, .bool false]) (t := 61) ?hr ?_; (case hd => rfl); (case hg => rfl); (case hr => first | (go_simp; done) | (go_simp; rfl)); intro gb191 hg w7 hbox hb; have n0_ := Aside0.mk (blk_below (g := gb189) (o := .cells #[.string a0_0, .bool a0_1, .bool a0_2] 61 (0, 0)) (bl_ BK189.out) hb); have n1_ := Aside0.mk (blk_below (g := gb190) (o := .cells #[.string a1_0, .bool a1_1, .bool a1_2] 61 (0, 0)) (bl_ BK190.out) hb); have n2_ := Aside0.mk (below_step (bw_ HB.out) hb); have n3_ := Aside0.mk (hbox); have n4_ := Aside0.mk ((by rw [hg]; exact (below_size (bw_ HB.out)) : w.heap.size ≤ gb191)); have n5_ := Aside0.mk ((by rw [hg]; exact (below_size (bw_ HB.out)) : w.heap.size ≤ gb191)); have n6_ := Aside0.mk ((by rw [hg]; exact Nat.ne_of_lt (blk_lt (g := gb189) (o := .cells #[.string a0_0, .bool a0_1, .bool a0_2] 61 (0, 0)) (bl_ BK189.out)) : gb189 ≠ gb191)); have n7_ := Aside0.mk ((by rw [hg]; exact Nat.ne_of_gt (blk_lt (g := gb189) (o := .cells #[.string a0_0, .bool a0_1, .bool a0_2] 61 (0, 0)) (bl_ BK189.out)) : gb191 ≠ gb189)); have n8_ := Aside0.mk ((by rw [hg]; exact Nat.ne_of_lt (blk_lt (g := gb190) (o := .cells #[.string a1_0, .bool a1_1, .bool a1_2] 61 (0, 0)) (bl_ BK190.out)) : gb190 ≠ gb191)); have n9_ := Aside0.mk ((by rw [hg]; exact Nat.ne_of_gt (blk_lt (g := gb190) (o := .cells #[.string a1_0, .bool a1_1, .bool a1_2] 61 (0, 0)) (bl_ BK190.out)) : gb191 ≠ gb190)); clear BK189; clear BK190; clear HB; have BK189 := n0_; have BK190 := n1_; have HB := n2_; have BK191 := n3_; have GW191 := n4_; have GE191 := n5_; have NB189_191 := n6_; have NB191_189 := n7_; have NB190_191 := n8_; have NB191_190 := n9_; clear n0_ n1_ n2_ n3_ n4_ n5_ n6_ n7_ n8_ n9_; clear hb hbox hg))
  (try simp only [Act.put, List.setIfInBounds_toArray, List.set_cons_zero, List.set_cons_succ])
  go_cut [8] (fun v8 wc => ∃ (kq : Nat) (x8_3 : Bool), v8 = .bool x8_3 ∧ Aside0 (cursor_end_narrower.j0 kq a2 x8_3 a0_0 a0_1 a0_2 a1_0 a1_1 a1_2 = some (r1, r2, r3)) ∧ Aside0 (kq ≤ k) ∧ Aside0 (wc.heap[gb189]? = some (.cells #[.string a0_0, .bool a0_1, .bool a0_2] 61 (0, 0))) ∧ Aside0 (wc.heap[gb190]? = some (.cells #[.string a1_0, .bool a1_1, .bool a1_2] 61 (0, 0))) ∧ Aside0 (wc.heap[gb191]? = some (.cells #[.string (⟨#[]⟩ : ByteArray), .bool false, .bool false] 61 (0, 0))) ∧ Aside0 (Below w.heap.size w wc))
  case first =>
    have H := HC4.out
    clear HC4
    by_cases c8 : a0_1 = true
    · subst c8
      rw [if_pos rfl] at H
      have H' := Aside0.mk H
      clear H
      have hnb9 := NB189_190.out
      have hnc9 := NB190_189.out
      have hnb10 := NB189_191.out
      have hnc10 := NB191_189.out
      have hcz11_0 : w7.cell? ⟨gb189, 0, none⟩ = some (.string a0_0) := (blk_cell BK189.out 0).trans rfl
      have hcz11_1 : w7.cell? ⟨gb189, 1, none⟩ = some (.bool true) := (blk_cell BK189.out 1).trans rfl
      have hcz11_2 : w7.cell? ⟨gb189, 2, none⟩ = some (.bool a0_2) := (blk_cell BK189.out 2).trans rfl
      have hfz11_0 := blk_frozen BK189.out 0
      have hfz11_1 := blk_frozen BK189.out 1
      have hfz11_2 := blk_frozen BK189.out 2
      go_wp2
      go_meet
      case rel => exact ⟨_, (false), (by first | rfl | (simp; done) | (simp [*]; done) | (simp [bne]; done)), H', ⟨by first | omega | exact Nat.le_refl _⟩, ⟨by (with_reducible repeat (first | refine blk_drewN ?_ _ | refine blk_drew ?_ | refine blk_alloc ?_ _)); exact BK189.out⟩, ⟨by (with_reducible repeat (first | refine blk_drewN ?_ _ | refine blk_drew ?_ | refine blk_alloc ?_ _)); exact BK190.out⟩, ⟨by (with_reducible repeat (first | refine blk_drewN ?_ _ | refine blk_drew ?_ | refine blk_alloc ?_ _)); exact BK191.out⟩, ⟨bw_ HB.out⟩⟩
    replace c8 := Bool.eq_false_iff.mpr c8
    subst c8
    rw [if_neg (show ¬ (false = true) by decide)] at H
    have H' := Aside0.mk H
    clear H
    have hnb12 := NB189_190.out
    have hnc12 := NB190_189.out
    have hnb13 := NB189_191.out
    have hnc13 := NB191_189.out
    have hcz14_0 : w7.cell? ⟨gb189, 0, none⟩ = some (.string a0_0) := (blk_cell BK189.out 0).trans rfl
    have hcz14_1 : w7.cell? ⟨gb189, 1, none⟩ = some (.bool false) := (blk_cell BK189.out 1).trans rfl
    have hcz14_2 : w7.cell? ⟨gb189, 2, none⟩ = some (.bool a0_2) := (blk_cell BK189.out 2).trans rfl
    have hfz14_0 := blk_frozen BK189.out 0
    have hfz14_1 := blk_frozen BK189.out 1
    have hfz14_2 := blk_frozen BK189.out 2
    have hnb15 := NB190_191.out
    have hnc15 := NB191_190.out
    have hcz16_0 : w7.cell? ⟨gb190, 0, none⟩ = some (.string a1_0) := (blk_cell BK190.out 0).trans rfl
    have hcz16_1 : w7.cell? ⟨gb190, 1, none⟩ = some (.bool a1_1) := (blk_cell BK190.out 1).trans rfl
    have hcz16_2 : w7.cell? ⟨gb190, 2, none⟩ = some (.bool a1_2) := (blk_cell BK190.out 2).trans rfl
    have hfz16_0 := blk_frozen BK190.out 0
    have hfz16_1 := blk_frozen BK190.out 1
    have hfz16_2 := blk_frozen BK190.out 2
    go_wp2
    go_meet
    case rel => exact ⟨_, (!a1_1), (by first | rfl | (simp; done) | (simp [*]; done) | (simp [bne]; done)), H', ⟨by first | omega | exact Nat.le_refl _⟩, ⟨by (with_reducible repeat (first | refine blk_drewN ?_ _ | refine blk_drew ?_ | refine blk_alloc ?_ _)); exact BK189.out⟩, ⟨by (with_reducible repeat (first | refine blk_drewN ?_ _ | refine blk_drew ?_ | refine blk_alloc ?_ _)); exact BK190.out⟩, ⟨by (with_reducible repeat (first | refine blk_drewN ?_ _ | refine blk_drew ?_ | refine blk_alloc ?_ _)); exact BK191.out⟩, ⟨bw_ HB.out⟩⟩
  clear HC4
  (try clear c1); (try clear c2); (try clear p2); (try clear c8); (try clear c9); (try clear c10); (try clear c12); (try clear c13); (try clear c15); (try clear hcz11_0); (try clear hcz11_1); (try clear hcz11_2)
  (try clear hcz14_0); (try clear hcz14_1); (try clear hcz14_2); (try clear hcz16_0); (try clear hcz16_1); (try clear hcz16_2); (try clear hfz11_0); (try clear hfz11_1); (try clear hfz11_2); (try clear hfz14_0); (try clear hfz14_1); (try clear hfz14_2)
  (try clear hfz16_0); (try clear hfz16_1); (try clear hfz16_2)
  obtain ⟨kq, x8_3, rfl, HA, HJ3, BK189, BK190, BK191, HB⟩ := hcut
  cases kq with
  | zero => exact absurd HA.out (by simp [cursor_end_narrower.j0])
  | succ kj3 =>
    have H := HA.out
    clear HA
    simp only [cursor_end_narrower.j0] at H
    by_cases c17 : x8_3 = true
    · subst c17
      rw [if_pos rfl] at H
      simp only [Option.some.injEq, Prod.mk.injEq] at H
      obtain ⟨rfl, rfl, rfl⟩ := H
      have hnb18 := NB191_189.out
      have hnc18 := NB189_191.out
      have hnb19 := NB191_190.out
      have hnc19 := NB190_191.out
      have hcz20_0 : wc.cell? ⟨gb191, 0, none⟩ = some (.string (⟨#[]⟩ : ByteArray)) := (blk_cell BK191.out 0).trans rfl
      have hcz20_1 : wc.cell? ⟨gb191, 1, none⟩ = some (.bool false) := (blk_cell BK191.out 1).trans rfl
      have hcz20_2 : wc.cell? ⟨gb191, 2, none⟩ = some (.bool false) := (blk_cell BK191.out 2).trans rfl
      have hfz20_0 := blk_frozen BK191.out 0
      have hfz20_1 := blk_frozen BK191.out 1
      have hfz20_2 := blk_frozen BK191.out 2
      go_wp2
      refine bodyPost_ret (results_cell_row rfl _ _ gb191 61 #[.string (⟨#[]⟩ : ByteArray), .bool false, .bool false] (0, 0) _ rfl (by (with_reducible repeat (first | refine blk_drewN ?_ _ | refine blk_drew ?_ | refine blk_alloc ?_ _)); refine blk_put (cs := #[.string (⟨#[]⟩ : ByteArray), .bool false, .bool false]) ?_ 2 _ rfl; (with_reducible repeat (first | refine blk_drewN ?_ _ | refine blk_drew ?_ | refine blk_alloc ?_ _)); refine blk_put (cs := #[.string (⟨#[]⟩ : ByteArray), .bool false, .bool false]) ?_ 1 _ rfl; (with_reducible repeat (first | refine blk_drewN ?_ _ | refine blk_drew ?_ | refine blk_alloc ?_ _)); refine blk_put (cs := #[.string (⟨#[]⟩ : ByteArray), .bool false, .bool false]) ?_ 0 _ rfl; (with_reducible repeat (first | refine blk_drewN ?_ _ | refine blk_drew ?_ | refine blk_alloc ?_ _)); exact BK191.out) Try.underlying61 rfl (by kernel_rfl)) rfl ?_
      exact ⟨by first | rfl | (simp [errW_none, errW_some] <;> rfl) | (simp [*, errW_none, errW_some] <;> rfl), bw_ HB.out⟩
    replace c17 := Bool.eq_false_iff.mpr c17
    subst c17
    rw [if_neg (show ¬ (false = true) by decide)] at H
    by_cases c21 : a0_1 = true
    · subst c21
      rw [if_pos rfl] at H
      by_cases c22 : a1_1 = true
      · subst c22
        rw [if_pos rfl] at H
        replace H := Option.bind_eq_some_iff.mp H
        obtain ⟨t192, A230, H⟩ := H
        (try dsimp only at H)
        have A23 := Aside0.mk A230
        clear A230
        by_cases c24 : (wrap64 (t192 * a2)) > 0
        · rw [if_pos c24] at H
          have c24b0 : decide (0 < (wrap64 (t192 * a2))) = true := decide_eq_true c24
          clear c24
          simp only [Option.some.injEq, Prod.mk.injEq] at H
          obtain ⟨rfl, rfl, rfl⟩ := H
          have hnb25 := NB189_190.out
          have hnc25 := NB190_189.out
          have hnb26 := NB189_191.out
          have hnc26 := NB191_189.out
          have hcz27_0 : wc.cell? ⟨gb189, 0, none⟩ = some (.string a0_0) := (blk_cell BK189.out 0).trans rfl
          have hcz27_1 : wc.cell? ⟨gb189, 1, none⟩ = some (.bool true) := (blk_cell BK189.out 1).trans rfl
          have hcz27_2 : wc.cell? ⟨gb189, 2, none⟩ = some (.bool a0_2) := (blk_cell BK189.out 2).trans rfl
          have hfz27_0 := blk_frozen BK189.out 0
          have hfz27_1 := blk_frozen BK189.out 1
          have hfz27_2 := blk_frozen BK189.out 2
          have hnb28 := NB190_191.out
          have hnc28 := NB191_190.out
          have hcz29_0 : wc.cell? ⟨gb190, 0, none⟩ = some (.string a1_0) := (blk_cell BK190.out 0).trans rfl
          have hcz29_1 : wc.cell? ⟨gb190, 1, none⟩ = some (.bool true) := (blk_cell BK190.out 1).trans rfl
          have hcz29_2 : wc.cell? ⟨gb190, 2, none⟩ = some (.bool a1_2) := (blk_cell BK190.out 2).trans rfl
          have hfz29_0 := blk_frozen BK190.out 0
          have hfz29_1 := blk_frozen BK190.out 1
          have hfz29_2 := blk_frozen BK190.out 2
          go_wp2_with (first | ((with_reducible refine gate_callee (f := 25) rfl ?_); refine goesL_ (some 32) rfl rfl Try.func25 (by kernel_rfl) rfl #[.string a0_0, .string a1_0] rfl (by (try simp only [List.map_toArray, List.map_cons, List.map_nil]); first | done | rfl | (simp only [List.length_drop, List.length_take]; rfl)) ?_; (with_reducible refine (cmp_Compare_string.calls a0_0 a1_0 t192 _ A23.out).mono ?_); rintro e w' ⟨rfl, ⟨nd, rfl⟩⟩; refine ⟨_, rfl, ?_⟩; (try (rw [drewN_self wc]; generalize hq_ : World.drewN wc _ = wc; have n0_ : Aside0 (wc.heap[gb189]? = some (.cells #[.string a0_0, .bool true, .bool a0_2] 61 (0, 0))) := ⟨by rw [← hq_]; exact (bl_ BK189.out)⟩; have n1_ : Aside0 (wc.heap[gb190]? = some (.cells #[.string a1_0, .bool true, .bool a1_2] 61 (0, 0))) := ⟨by rw [← hq_]; exact (bl_ BK190.out)⟩; have n2_ : Aside0 (wc.heap[gb191]? = some (.cells #[.string (⟨#[]⟩ : ByteArray), .bool false, .bool false] 61 (0, 0))) := ⟨by rw [← hq_]; exact (bl_ BK191.out)⟩; have n3_ : Aside0 (Below w.heap.size w wc) := ⟨by rw [← hq_]; exact (bw_ HB.out)⟩; clear BK189 BK190 BK191 HB hq_; have BK189 := n0_; have BK190 := n1_; have BK191 := n2_; have HB := n3_; clear n0_ n1_ n2_ n3_)); (try have hcz27_0 : wc.cell? ⟨gb189, 0, none⟩ = some (.string a0_0) := (blk_cell BK189.out 0).trans rfl); (try have hcz27_1 : wc.cell? ⟨gb189, 1, none⟩ = some (.bool true) := (blk_cell BK189.out 1).trans rfl); (try have hcz27_2 : wc.cell? ⟨gb189, 2, none⟩ = some (.bool a0_2) := (blk_cell BK189.out 2).trans rfl); (try have hfz27_0 := blk_frozen BK189.out 0); (try have hfz27_1 := blk_frozen BK189.out 1); (try have hfz27_2 := blk_frozen BK189.out 2); (try have hcz29_0 : wc.cell? ⟨gb190, 0, none⟩ = some (.string a1_0) := (blk_cell BK190.out 0).trans rfl); (try have hcz29_1 : wc.cell? ⟨gb190, 1, none⟩ = some (.bool true) := (blk_cell BK190.out 1).trans rfl); (try have hcz29_2 : wc.cell? ⟨gb190, 2, none⟩ = some (.bool a1_2) := (blk_cell BK190.out 2).trans rfl); (try have hfz29_0 := blk_frozen BK190.out 0); (try have hfz29_1 := blk_frozen BK190.out 1); (try have hfz29_2 := blk_frozen BK190.out 2); have hcz30_0 : wc.cell? ⟨gb191, 0, none⟩ = some (.string (⟨#[]⟩ : ByteArray)) := (blk_cell BK191.out 0).trans rfl; have hcz30_1 : wc.cell? ⟨gb191, 1, none⟩ = some (.bool false) := (blk_cell BK191.out 1).trans rfl; have hcz30_2 : wc.cell? ⟨gb191, 2, none⟩ = some (.bool false) := (blk_cell BK191.out 2).trans rfl; have hfz30_0 := blk_frozen BK191.out 0; have hfz30_1 := blk_frozen BK191.out 1; have hfz30_2 := blk_frozen BK191.out 2))
          refine bodyPost_ret (results_cell_row rfl _ _ gb191 61 #[.string a0_0, .bool true, .bool a0_2] (0, 0) _ rfl (by (with_reducible repeat (first | refine blk_drewN ?_ _ | refine blk_drew ?_ | refine blk_alloc ?_ _)); refine blk_put (cs := #[.string a0_0, .bool true, .bool false]) ?_ 2 _ rfl; (with_reducible repeat (first | refine blk_drewN ?_ _ | refine blk_drew ?_ | refine blk_alloc ?_ _)); refine blk_put (cs := #[.string a0_0, .bool false, .bool false]) ?_ 1 _ rfl; (with_reducible repeat (first | refine blk_drewN ?_ _ | refine blk_drew ?_ | refine blk_alloc ?_ _)); refine blk_put (cs := #[.string (⟨#[]⟩ : ByteArray), .bool false, .bool false]) ?_ 0 _ rfl; (with_reducible repeat (first | refine blk_drewN ?_ _ | refine blk_drew ?_ | refine blk_alloc ?_ _)); exact BK191.out) Try.underlying61 rfl (by kernel_rfl)) rfl ?_
          exact ⟨by first | rfl | (simp [errW_none, errW_some] <;> rfl) | (simp [*, errW_none, errW_some] <;> rfl), bw_ HB.out⟩
        rw [if_neg c24] at H
        have c24b0 : decide (0 < (wrap64 (t192 * a2))) = false := decide_eq_false c24
        clear c24
        by_cases c31 : (wrap64 (t192 * a2)) < 0
        · rw [if_pos c31] at H
          have c31b0 : decide ((wrap64 (t192 * a2)) < 0) = true := decide_eq_true c31
          clear c31
          simp only [Option.some.injEq, Prod.mk.injEq] at H
          obtain ⟨rfl, rfl, rfl⟩ := H
          have hnb32 := NB189_190.out
          have hnc32 := NB190_189.out
          have hnb33 := NB189_191.out
          have hnc33 := NB191_189.out
          have hcz34_0 : wc.cell? ⟨gb189, 0, none⟩ = some (.string a0_0) := (blk_cell BK189.out 0).trans rfl
          have hcz34_1 : wc.cell? ⟨gb189, 1, none⟩ = some (.bool true) := (blk_cell BK189.out 1).trans rfl
          have hcz34_2 : wc.cell? ⟨gb189, 2, none⟩ = some (.bool a0_2) := (blk_cell BK189.out 2).trans rfl
          have hfz34_0 := blk_frozen BK189.out 0
          have hfz34_1 := blk_frozen BK189.out 1
          have hfz34_2 := blk_frozen BK189.out 2
          have hnb35 := NB190_191.out
          have hnc35 := NB191_190.out
          have hcz36_0 : wc.cell? ⟨gb190, 0, none⟩ = some (.string a1_0) := (blk_cell BK190.out 0).trans rfl
          have hcz36_1 : wc.cell? ⟨gb190, 1, none⟩ = some (.bool true) := (blk_cell BK190.out 1).trans rfl
          have hcz36_2 : wc.cell? ⟨gb190, 2, none⟩ = some (.bool a1_2) := (blk_cell BK190.out 2).trans rfl
          have hfz36_0 := blk_frozen BK190.out 0
          have hfz36_1 := blk_frozen BK190.out 1
          have hfz36_2 := blk_frozen BK190.out 2
          go_wp2_with (first | ((with_reducible refine gate_callee (f := 25) rfl ?_); refine goesL_ (some 32) rfl rfl Try.func25 (by kernel_rfl) rfl #[.string a0_0, .string a1_0] rfl (by (try simp only [List.map_toArray, List.map_cons, List.map_nil]); first | done | rfl | (simp only [List.length_drop, List.length_take]; rfl)) ?_; (with_reducible refine (cmp_Compare_string.calls a0_0 a1_0 t192 _ A23.out).mono ?_); rintro e w' ⟨rfl, ⟨nd, rfl⟩⟩; refine ⟨_, rfl, ?_⟩; (try (rw [drewN_self wc]; generalize hq_ : World.drewN wc _ = wc; have n0_ : Aside0 (wc.heap[gb189]? = some (.cells #[.string a0_0, .bool true, .bool a0_2] 61 (0, 0))) := ⟨by rw [← hq_]; exact (bl_ BK189.out)⟩; have n1_ : Aside0 (wc.heap[gb190]? = some (.cells #[.string a1_0, .bool true, .bool a1_2] 61 (0, 0))) := ⟨by rw [← hq_]; exact (bl_ BK190.out)⟩; have n2_ : Aside0 (wc.heap[gb191]? = some (.cells #[.string (⟨#[]⟩ : ByteArray), .bool false, .bool false] 61 (0, 0))) := ⟨by rw [← hq_]; exact (bl_ BK191.out)⟩; have n3_ : Aside0 (Below w.heap.size w wc) := ⟨by rw [← hq_]; exact (bw_ HB.out)⟩; clear BK189 BK190 BK191 HB hq_; have BK189 := n0_; have BK190 := n1_; have BK191 := n2_; have HB := n3_; clear n0_ n1_ n2_ n3_)); (try have hcz34_0 : wc.cell? ⟨gb189, 0, none⟩ = some (.string a0_0) := (blk_cell BK189.out 0).trans rfl); (try have hcz34_1 : wc.cell? ⟨gb189, 1, none⟩ = some (.bool true) := (blk_cell BK189.out 1).trans rfl); (try have hcz34_2 : wc.cell? ⟨gb189, 2, none⟩ = some (.bool a0_2) := (blk_cell BK189.out 2).trans rfl); (try have hfz34_0 := blk_frozen BK189.out 0); (try have hfz34_1 := blk_frozen BK189.out 1); (try have hfz34_2 := blk_frozen BK189.out 2); (try have hcz36_0 : wc.cell? ⟨gb190, 0, none⟩ = some (.string a1_0) := (blk_cell BK190.out 0).trans rfl); (try have hcz36_1 : wc.cell? ⟨gb190, 1, none⟩ = some (.bool true) := (blk_cell BK190.out 1).trans rfl); (try have hcz36_2 : wc.cell? ⟨gb190, 2, none⟩ = some (.bool a1_2) := (blk_cell BK190.out 2).trans rfl); (try have hfz36_0 := blk_frozen BK190.out 0); (try have hfz36_1 := blk_frozen BK190.out 1); (try have hfz36_2 := blk_frozen BK190.out 2); have hcz37_0 : wc.cell? ⟨gb191, 0, none⟩ = some (.string (⟨#[]⟩ : ByteArray)) := (blk_cell BK191.out 0).trans rfl; have hcz37_1 : wc.cell? ⟨gb191, 1, none⟩ = some (.bool false) := (blk_cell BK191.out 1).trans rfl; have hcz37_2 : wc.cell? ⟨gb191, 2, none⟩ = some (.bool false) := (blk_cell BK191.out 2).trans rfl; have hfz37_0 := blk_frozen BK191.out 0; have hfz37_1 := blk_frozen BK191.out 1; have hfz37_2 := blk_frozen BK191.out 2))
          refine bodyPost_ret (results_cell_row rfl _ _ gb191 61 #[.string a1_0, .bool true, .bool a1_2] (0, 0) _ rfl (by (with_reducible repeat (first | refine blk_drewN ?_ _ | refine blk_drew ?_ | refine blk_alloc ?_ _)); refine blk_put (cs := #[.string a1_0, .bool true, .bool false]) ?_ 2 _ rfl; (with_reducible repeat (first | refine blk_drewN ?_ _ | refine blk_drew ?_ | refine blk_alloc ?_ _)); refine blk_put (cs := #[.string a1_0, .bool false, .bool false]) ?_ 1 _ rfl; (with_reducible repeat (first | refine blk_drewN ?_ _ | refine blk_drew ?_ | refine blk_alloc ?_ _)); refine blk_put (cs := #[.string (⟨#[]⟩ : ByteArray), .bool false, .bool false]) ?_ 0 _ rfl; (with_reducible repeat (first | refine blk_drewN ?_ _ | refine blk_drew ?_ | refine blk_alloc ?_ _)); exact BK191.out) Try.underlying61 rfl (by kernel_rfl)) rfl ?_
          exact ⟨by first | rfl | (simp [errW_none, errW_some] <;> rfl) | (simp [*, errW_none, errW_some] <;> rfl), bw_ HB.out⟩
        rw [if_neg c31] at H
        have c31b0 : decide ((wrap64 (t192 * a2)) < 0) = false := decide_eq_false c31
        clear c31
        by_cases c38 : a0_2 = true
        · subst c38
          rw [if_pos rfl] at H
          simp only [Option.some.injEq, Prod.mk.injEq] at H
          obtain ⟨rfl, rfl, rfl⟩ := H
          have hnb39 := NB189_190.out
          have hnc39 := NB190_189.out
          have hnb40 := NB189_191.out
          have hnc40 := NB191_189.out
          have hcz41_0 : wc.cell? ⟨gb189, 0, none⟩ = some (.string a0_0) := (blk_cell BK189.out 0).trans rfl
          have hcz41_1 : wc.cell? ⟨gb189, 1, none⟩ = some (.bool true) := (blk_cell BK189.out 1).trans rfl
          have hcz41_2 : wc.cell? ⟨gb189, 2, none⟩ = some (.bool true) := (blk_cell BK189.out 2).trans rfl
          have hfz41_0 := blk_frozen BK189.out 0
          have hfz41_1 := blk_frozen BK189.out 1
          have hfz41_2 := blk_frozen BK189.out 2
          have hnb42 := NB190_191.out
          have hnc42 := NB191_190.out
          have hcz43_0 : wc.cell? ⟨gb190, 0, none⟩ = some (.string a1_0) := (blk_cell BK190.out 0).trans rfl
          have hcz43_1 : wc.cell? ⟨gb190, 1, none⟩ = some (.bool true) := (blk_cell BK190.out 1).trans rfl
          have hcz43_2 : wc.cell? ⟨gb190, 2, none⟩ = some (.bool a1_2) := (blk_cell BK190.out 2).trans rfl
          have hfz43_0 := blk_frozen BK190.out 0
          have hfz43_1 := blk_frozen BK190.out 1
          have hfz43_2 := blk_frozen BK190.out 2
          go_wp2_with (first | ((with_reducible refine gate_callee (f := 25) rfl ?_); refine goesL_ (some 32) rfl rfl Try.func25 (by kernel_rfl) rfl #[.string a0_0, .string a1_0] rfl (by (try simp only [List.map_toArray, List.map_cons, List.map_nil]); first | done | rfl | (simp only [List.length_drop, List.length_take]; rfl)) ?_; (with_reducible refine (cmp_Compare_string.calls a0_0 a1_0 t192 _ A23.out).mono ?_); rintro e w' ⟨rfl, ⟨nd, rfl⟩⟩; refine ⟨_, rfl, ?_⟩; (try (rw [drewN_self wc]; generalize hq_ : World.drewN wc _ = wc; have n0_ : Aside0 (wc.heap[gb189]? = some (.cells #[.string a0_0, .bool true, .bool true] 61 (0, 0))) := ⟨by rw [← hq_]; exact (bl_ BK189.out)⟩; have n1_ : Aside0 (wc.heap[gb190]? = some (.cells #[.string a1_0, .bool true, .bool a1_2] 61 (0, 0))) := ⟨by rw [← hq_]; exact (bl_ BK190.out)⟩; have n2_ : Aside0 (wc.heap[gb191]? = some (.cells #[.string (⟨#[]⟩ : ByteArray), .bool false, .bool false] 61 (0, 0))) := ⟨by rw [← hq_]; exact (bl_ BK191.out)⟩; have n3_ : Aside0 (Below w.heap.size w wc) := ⟨by rw [← hq_]; exact (bw_ HB.out)⟩; clear BK189 BK190 BK191 HB hq_; have BK189 := n0_; have BK190 := n1_; have BK191 := n2_; have HB := n3_; clear n0_ n1_ n2_ n3_)); (try have hcz41_0 : wc.cell? ⟨gb189, 0, none⟩ = some (.string a0_0) := (blk_cell BK189.out 0).trans rfl); (try have hcz41_1 : wc.cell? ⟨gb189, 1, none⟩ = some (.bool true) := (blk_cell BK189.out 1).trans rfl); (try have hcz41_2 : wc.cell? ⟨gb189, 2, none⟩ = some (.bool true) := (blk_cell BK189.out 2).trans rfl); (try have hfz41_0 := blk_frozen BK189.out 0); (try have hfz41_1 := blk_frozen BK189.out 1); (try have hfz41_2 := blk_frozen BK189.out 2); (try have hcz43_0 : wc.cell? ⟨gb190, 0, none⟩ = some (.string a1_0) := (blk_cell BK190.out 0).trans rfl); (try have hcz43_1 : wc.cell? ⟨gb190, 1, none⟩ = some (.bool true) := (blk_cell BK190.out 1).trans rfl); (try have hcz43_2 : wc.cell? ⟨gb190, 2, none⟩ = some (.bool a1_2) := (blk_cell BK190.out 2).trans rfl); (try have hfz43_0 := blk_frozen BK190.out 0); (try have hfz43_1 := blk_frozen BK190.out 1); (try have hfz43_2 := blk_frozen BK190.out 2); have hcz44_0 : wc.cell? ⟨gb191, 0, none⟩ = some (.string (⟨#[]⟩ : ByteArray)) := (blk_cell BK191.out 0).trans rfl; have hcz44_1 : wc.cell? ⟨gb191, 1, none⟩ = some (.bool false) := (blk_cell BK191.out 1).trans rfl; have hcz44_2 : wc.cell? ⟨gb191, 2, none⟩ = some (.bool false) := (blk_cell BK191.out 2).trans rfl; have hfz44_0 := blk_frozen BK191.out 0; have hfz44_1 := blk_frozen BK191.out 1; have hfz44_2 := blk_frozen BK191.out 2))
          refine bodyPost_ret (results_cell_row rfl _ _ gb191 61 #[.string a0_0, .bool true, .bool true] (0, 0) _ rfl (by (with_reducible repeat (first | refine blk_drewN ?_ _ | refine blk_drew ?_ | refine blk_alloc ?_ _)); refine blk_put (cs := #[.string a0_0, .bool true, .bool false]) ?_ 2 _ rfl; (with_reducible repeat (first | refine blk_drewN ?_ _ | refine blk_drew ?_ | refine blk_alloc ?_ _)); refine blk_put (cs := #[.string a0_0, .bool false, .bool false]) ?_ 1 _ rfl; (with_reducible repeat (first | refine blk_drewN ?_ _ | refine blk_drew ?_ | refine blk_alloc ?_ _)); refine blk_put (cs := #[.string (⟨#[]⟩ : ByteArray), .bool false, .bool false]) ?_ 0 _ rfl; (with_reducible repeat (first | refine blk_drewN ?_ _ | refine blk_drew ?_ | refine blk_alloc ?_ _)); refine blk_far ?_ NB191_189.out _; (with_reducible repeat (first | refine blk_drewN ?_ _ | refine blk_drew ?_ | refine blk_alloc ?_ _)); exact BK191.out) Try.underlying61 rfl (by kernel_rfl)) rfl ?_
          exact ⟨by first | rfl | (simp [errW_none, errW_some] <;> rfl) | (simp [*, errW_none, errW_some] <;> rfl), bw_ HB.out⟩
        replace c38 := Bool.eq_false_iff.mpr c38
        subst c38
        rw [if_neg (show ¬ (false = true) by decide)] at H
        simp only [Option.some.injEq, Prod.mk.injEq] at H
        obtain ⟨rfl, rfl, rfl⟩ := H
        have hnb45 := NB189_190.out
        have hnc45 := NB190_189.out
        have hnb46 := NB189_191.out
        have hnc46 := NB191_189.out
        have hcz47_0 : wc.cell? ⟨gb189, 0, none⟩ = some (.string a0_0) := (blk_cell BK189.out 0).trans rfl
        have hcz47_1 : wc.cell? ⟨gb189, 1, none⟩ = some (.bool true) := (blk_cell BK189.out 1).trans rfl
        have hcz47_2 : wc.cell? ⟨gb189, 2, none⟩ = some (.bool false) := (blk_cell BK189.out 2).trans rfl
        have hfz47_0 := blk_frozen BK189.out 0
        have hfz47_1 := blk_frozen BK189.out 1
        have hfz47_2 := blk_frozen BK189.out 2
        have hnb48 := NB190_191.out
        have hnc48 := NB191_190.out
        have hcz49_0 : wc.cell? ⟨gb190, 0, none⟩ = some (.string a1_0) := (blk_cell BK190.out 0).trans rfl
        have hcz49_1 : wc.cell? ⟨gb190, 1, none⟩ = some (.bool true) := (blk_cell BK190.out 1).trans rfl
        have hcz49_2 : wc.cell? ⟨gb190, 2, none⟩ = some (.bool a1_2) := (blk_cell BK190.out 2).trans rfl
        have hfz49_0 := blk_frozen BK190.out 0
        have hfz49_1 := blk_frozen BK190.out 1
        have hfz49_2 := blk_frozen BK190.out 2
        go_wp2_with (first | ((with_reducible refine gate_callee (f := 25) rfl ?_); refine goesL_ (some 32) rfl rfl Try.func25 (by kernel_rfl) rfl #[.string a0_0, .string a1_0] rfl (by (try simp only [List.map_toArray, List.map_cons, List.map_nil]); first | done | rfl | (simp only [List.length_drop, List.length_take]; rfl)) ?_; (with_reducible refine (cmp_Compare_string.calls a0_0 a1_0 t192 _ A23.out).mono ?_); rintro e w' ⟨rfl, ⟨nd, rfl⟩⟩; refine ⟨_, rfl, ?_⟩; (try (rw [drewN_self wc]; generalize hq_ : World.drewN wc _ = wc; have n0_ : Aside0 (wc.heap[gb189]? = some (.cells #[.string a0_0, .bool true, .bool false] 61 (0, 0))) := ⟨by rw [← hq_]; exact (bl_ BK189.out)⟩; have n1_ : Aside0 (wc.heap[gb190]? = some (.cells #[.string a1_0, .bool true, .bool a1_2] 61 (0, 0))) := ⟨by rw [← hq_]; exact (bl_ BK190.out)⟩; have n2_ : Aside0 (wc.heap[gb191]? = some (.cells #[.string (⟨#[]⟩ : ByteArray), .bool false, .bool false] 61 (0, 0))) := ⟨by rw [← hq_]; exact (bl_ BK191.out)⟩; have n3_ : Aside0 (Below w.heap.size w wc) := ⟨by rw [← hq_]; exact (bw_ HB.out)⟩; clear BK189 BK190 BK191 HB hq_; have BK189 := n0_; have BK190 := n1_; have BK191 := n2_; have HB := n3_; clear n0_ n1_ n2_ n3_)); (try have hcz47_0 : wc.cell? ⟨gb189, 0, none⟩ = some (.string a0_0) := (blk_cell BK189.out 0).trans rfl); (try have hcz47_1 : wc.cell? ⟨gb189, 1, none⟩ = some (.bool true) := (blk_cell BK189.out 1).trans rfl); (try have hcz47_2 : wc.cell? ⟨gb189, 2, none⟩ = some (.bool false) := (blk_cell BK189.out 2).trans rfl); (try have hfz47_0 := blk_frozen BK189.out 0); (try have hfz47_1 := blk_frozen BK189.out 1); (try have hfz47_2 := blk_frozen BK189.out 2); (try have hcz49_0 : wc.cell? ⟨gb190, 0, none⟩ = some (.string a1_0) := (blk_cell BK190.out 0).trans rfl); (try have hcz49_1 : wc.cell? ⟨gb190, 1, none⟩ = some (.bool true) := (blk_cell BK190.out 1).trans rfl); (try have hcz49_2 : wc.cell? ⟨gb190, 2, none⟩ = some (.bool a1_2) := (blk_cell BK190.out 2).trans rfl); (try have hfz49_0 := blk_frozen BK190.out 0); (try have hfz49_1 := blk_frozen BK190.out 1); (try have hfz49_2 := blk_frozen BK190.out 2); have hcz50_0 : wc.cell? ⟨gb191, 0, none⟩ = some (.string (⟨#[]⟩ : ByteArray)) := (blk_cell BK191.out 0).trans rfl; have hcz50_1 : wc.cell? ⟨gb191, 1, none⟩ = some (.bool false) := (blk_cell BK191.out 1).trans rfl; have hcz50_2 : wc.cell? ⟨gb191, 2, none⟩ = some (.bool false) := (blk_cell BK191.out 2).trans rfl; have hfz50_0 := blk_frozen BK191.out 0; have hfz50_1 := blk_frozen BK191.out 1; have hfz50_2 := blk_frozen BK191.out 2))
        refine bodyPost_ret (results_cell_row rfl _ _ gb191 61 #[.string a0_0, .bool true, .bool a1_2] (0, 0) _ rfl (by (with_reducible repeat (first | refine blk_drewN ?_ _ | refine blk_drew ?_ | refine blk_alloc ?_ _)); refine blk_put (cs := #[.string a0_0, .bool true, .bool false]) ?_ 2 _ rfl; (with_reducible repeat (first | refine blk_drewN ?_ _ | refine blk_drew ?_ | refine blk_alloc ?_ _)); refine blk_put (cs := #[.string a0_0, .bool false, .bool false]) ?_ 1 _ rfl; (with_reducible repeat (first | refine blk_drewN ?_ _ | refine blk_drew ?_ | refine blk_alloc ?_ _)); refine blk_put (cs := #[.string (⟨#[]⟩ : ByteArray), .bool false, .bool false]) ?_ 0 _ rfl; (with_reducible repeat (first | refine blk_drewN ?_ _ | refine blk_drew ?_ | refine blk_alloc ?_ _)); refine blk_far ?_ NB191_189.out _; (with_reducible repeat (first | refine blk_drewN ?_ _ | refine blk_drew ?_ | refine blk_alloc ?_ _)); exact BK191.out) Try.underlying61 rfl (by kernel_rfl)) rfl ?_
        exact ⟨by first | rfl | (simp [errW_none, errW_some] <;> rfl) | (simp [*, errW_none, errW_some] <;> rfl), bw_ HB.out⟩
      replace c22 := Bool.eq_false_iff.mpr c22
      subst c22
      rw [if_neg (show ¬ (false = true) by decide)] at H
      simp only [Option.some.injEq, Prod.mk.injEq] at H
      obtain ⟨rfl, rfl, rfl⟩ := H
      have hnb51 := NB189_190.out
      have hnc51 := NB190_189.out
      have hnb52 := NB189_191.out
      have hnc52 := NB191_189.out
      have hcz53_0 : wc.cell? ⟨gb189, 0, none⟩ = some (.string a0_0) := (blk_cell BK189.out 0).trans rfl
      have hcz53_1 : wc.cell? ⟨gb189, 1, none⟩ = some (.bool true) := (blk_cell BK189.out 1).trans rfl
      have hcz53_2 : wc.cell? ⟨gb189, 2, none⟩ = some (.bool a0_2) := (blk_cell BK189.out 2).trans rfl
      have hfz53_0 := blk_frozen BK189.out 0
      have hfz53_1 := blk_frozen BK189.out 1
      have hfz53_2 := blk_frozen BK189.out 2
      have hnb54 := NB190_191.out
      have hnc54 := NB191_190.out
      have hcz55_0 : wc.cell? ⟨gb190, 0, none⟩ = some (.string a1_0) := (blk_cell BK190.out 0).trans rfl
      have hcz55_1 : wc.cell? ⟨gb190, 1, none⟩ = some (.bool false) := (blk_cell BK190.out 1).trans rfl
      have hcz55_2 : wc.cell? ⟨gb190, 2, none⟩ = some (.bool a1_2) := (blk_cell BK190.out 2).trans rfl
      have hfz55_0 := blk_frozen BK190.out 0
      have hfz55_1 := blk_frozen BK190.out 1
      have hfz55_2 := blk_frozen BK190.out 2
      have hcz56_0 : wc.cell? ⟨gb191, 0, none⟩ = some (.string (⟨#[]⟩ : ByteArray)) := (blk_cell BK191.out 0).trans rfl
      have hcz56_1 : wc.cell? ⟨gb191, 1, none⟩ = some (.bool false) := (blk_cell BK191.out 1).trans rfl
      have hcz56_2 : wc.cell? ⟨gb191, 2, none⟩ = some (.bool false) := (blk_cell BK191.out 2).trans rfl
      have hfz56_0 := blk_frozen BK191.out 0
      have hfz56_1 := blk_frozen BK191.out 1
      have hfz56_2 := blk_frozen BK191.out 2
      go_wp2
      refine bodyPost_ret (results_cell_row rfl _ _ gb191 61 #[.string a0_0, .bool true, .bool a0_2] (0, 0) _ rfl (by (with_reducible repeat (first | refine blk_drewN ?_ _ | refine blk_drew ?_ | refine blk_alloc ?_ _)); refine blk_put (cs := #[.string a0_0, .bool true, .bool false]) ?_ 2 _ rfl; (with_reducible repeat (first | refine blk_drewN ?_ _ | refine blk_drew ?_ | refine blk_alloc ?_ _)); refine blk_put (cs := #[.string a0_0, .bool false, .bool false]) ?_ 1 _ rfl; (with_reducible repeat (first | refine blk_drewN ?_ _ | refine blk_drew ?_ | refine blk_alloc ?_ _)); refine blk_put (cs := #[.string (⟨#[]⟩ : ByteArray), .bool false, .bool false]) ?_ 0 _ rfl; (with_reducible repeat (first | refine blk_drewN ?_ _ | refine blk_drew ?_ | refine blk_alloc ?_ _)); exact BK191.out) Try.underlying61 rfl (by kernel_rfl)) rfl ?_
      exact ⟨by first | rfl | (simp [errW_none, errW_some] <;> rfl) | (simp [*, errW_none, errW_some] <;> rfl), bw_ HB.out⟩
    replace c21 := Bool.eq_false_iff.mpr c21
    subst c21
    rw [if_neg (show ¬ (false = true) by decide)] at H
    simp only [Option.some.injEq, Prod.mk.injEq] at H
    obtain ⟨rfl, rfl, rfl⟩ := H
    have hnb57 := NB189_190.out
    have hnc57 := NB190_189.out
    have hnb58 := NB189_191.out
    have hnc58 := NB191_189.out
    have hcz59_0 : wc.cell? ⟨gb189, 0, none⟩ = some (.string a0_0) := (blk_cell BK189.out 0).trans rfl
    have hcz59_1 : wc.cell? ⟨gb189, 1, none⟩ = some (.bool false) := (blk_cell BK189.out 1).trans rfl
    have hcz59_2 : wc.cell? ⟨gb189, 2, none⟩ = some (.bool a0_2) := (blk_cell BK189.out 2).trans rfl
    have hfz59_0 := blk_frozen BK189.out 0
    have hfz59_1 := blk_frozen BK189.out 1
    have hfz59_2 := blk_frozen BK189.out 2
    have hnb60 := NB190_191.out
    have hnc60 := NB191_190.out
    have hcz61_0 : wc.cell? ⟨gb190, 0, none⟩ = some (.string a1_0) := (blk_cell BK190.out 0).trans rfl
    have hcz61_1 : wc.cell? ⟨gb190, 1, none⟩ = some (.bool a1_1) := (blk_cell BK190.out 1).trans rfl
    have hcz61_2 : wc.cell? ⟨gb190, 2, none⟩ = some (.bool a1_2) := (blk_cell BK190.out 2).trans rfl
    have hfz61_0 := blk_frozen BK190.out 0
    have hfz61_1 := blk_frozen BK190.out 1
    have hfz61_2 := blk_frozen BK190.out 2
    have hcz62_0 : wc.cell? ⟨gb191, 0, none⟩ = some (.string (⟨#[]⟩ : ByteArray)) := (blk_cell BK191.out 0).trans rfl
    have hcz62_1 : wc.cell? ⟨gb191, 1, none⟩ = some (.bool false) := (blk_cell BK191.out 1).trans rfl
    have hcz62_2 : wc.cell? ⟨gb191, 2, none⟩ = some (.bool false) := (blk_cell BK191.out 2).trans rfl
    have hfz62_0 := blk_frozen BK191.out 0
    have hfz62_1 := blk_frozen BK191.out 1
    have hfz62_2 := blk_frozen BK191.out 2
    go_wp2
    refine bodyPost_ret (results_cell_row rfl _ _ gb191 61 #[.string a1_0, .bool a1_1, .bool a1_2] (0, 0) _ rfl (by (with_reducible repeat (first | refine blk_drewN ?_ _ | refine blk_drew ?_ | refine blk_alloc ?_ _)); refine blk_put (cs := #[.string a1_0, .bool a1_1, .bool false]) ?_ 2 _ rfl; (with_reducible repeat (first | refine blk_drewN ?_ _ | refine blk_drew ?_ | refine blk_alloc ?_ _)); refine blk_put (cs := #[.string a1_0, .bool false, .bool false]) ?_ 1 _ rfl; (with_reducible repeat (first | refine blk_drewN ?_ _ | refine blk_drew ?_ | refine blk_alloc ?_ _)); refine blk_put (cs := #[.string (⟨#[]⟩ : ByteArray), .bool false, .bool false]) ?_ 0 _ rfl; (with_reducible repeat (first | refine blk_drewN ?_ _ | refine blk_drew ?_ | refine blk_alloc ?_ _)); exact BK191.out) Try.underlying61 rfl (by kernel_rfl)) rfl ?_
    exact ⟨by first | rfl | (simp [errW_none, errW_some] <;> rfl) | (simp [*, errW_none, errW_some] <;> rfl), bw_ HB.out⟩

/-! ### cursor_Meet: function 13 -/
def cursor_Meet.f (k : Nat) (a0_0 : ByteArray) (a0_1 : ByteArray) (a0_2 : Bool) (a0_3 : Bool) (a0_4 : Bool) (a0_5 : Bool) (a1_0 : ByteArray) (a1_1 : ByteArray) (a1_2 : Bool) (a1_3 : Bool) (a1_4 : Bool) (a1_5 : Bool) : Option (ByteArray × ByteArray × Bool × Bool × Bool × Bool) := (cursor_end_narrower.f k a0_0 a0_2 a0_4 a1_0 a1_2 a1_4 1).bind fun bt196 => ((cursor_end_narrower.f k a0_1 a0_3 a0_5 a1_1 a1_3 a1_5 (-1)).bind fun bt200 => (some (bt196.1, bt200.1, bt196.2.1, bt200.2.1, bt196.2.2, bt200.2.2)))
theorem cursor_Meet.mono : ∀ a0 a1 a2 a3 a4 a5 a6 a7 a8 a9 a10 a11 k, LeO (cursor_Meet.f k a0 a1 a2 a3 a4 a5 a6 a7 a8 a9 a10 a11) (cursor_Meet.f (k + 1) a0 a1 a2 a3 a4 a5 a6 a7 a8 a9 a10 a11) := by
  intro a0 a1 a2 a3 a4 a5 a6 a7 a8 a9 a10 a11 k
  unfold cursor_Meet.f
  repeat' first
      | (with_reducible exact cursor_end_narrower.mono _ _ _ _ _ _ _ _)
      | (with_reducible exact LeO.refl _)
      | (with_reducible exact LeO.none _)
      | (with_reducible refine LeO.ite ?_ ?_)
      | (with_reducible refine LeO.bind ?_ (fun _ => ?_))
      | exact cursor_end_narrower.mono _ _ _ _ _ _ _ _
      | exact LeO.none _
      | refine LeO.ite ?_ ?_
      | refine LeO.bind ?_ (fun _ => ?_)
set_option maxHeartbeats 8000000 in
set_option maxRecDepth 100000 in
theorem cursor_Meet.calls (k : Nat) (a0_0 : ByteArray) (a0_1 : ByteArray) (a0_2 : Bool) (a0_3 : Bool) (a0_4 : Bool) (a0_5 : Bool) (a1_0 : ByteArray) (a1_1 : ByteArray) (a1_2 : Bool) (a1_3 : Bool) (a1_4 : Bool) (a1_5 : Bool) (r1 : ByteArray) (r2 : ByteArray) (r3 : Bool) (r4 : Bool) (r5 : Bool) (r6 : Bool) (w : World) (h : cursor_Meet.f k a0_0 a0_1 a0_2 a0_3 a0_4 a0_5 a1_0 a1_1 a1_2 a1_3 a1_4 a1_5 = some (r1, r2, r3, r4, r5, r6)) :
    Calls Try.prog 13 #[.agg #[.string a0_0, .string a0_1, .bool a0_2, .bool a0_3, .bool a0_4, .bool a0_5], .agg #[.string a1_0, .string a1_1, .bool a1_2, .bool a1_3, .bool a1_4, .bool a1_5]] w fun e w' => e = .returned (.agg #[.string r1, .string r2, .bool r3, .bool r4, .bool r5, .bool r6]) ∧ Below w.heap.size w w' := by
  have hu35 := Try.underlying35
  have hu61 := Try.underlying61
  have HB := Aside0.mk (Below.refl w.heap.size w)
  have H : ((cursor_end_narrower.f k a0_0 a0_2 a0_4 a1_0 a1_2 a1_4 1).bind fun bt196 => ((cursor_end_narrower.f k a0_1 a0_3 a0_5 a1_1 a1_3 a1_5 (-1)).bind fun bt200 => (some (bt196.1, bt200.1, bt196.2.1, bt200.2.1, bt196.2.2, bt200.2.2)))) = some (r1, r2, r3, r4, r5, r6) := h
  clear h
  replace H := Option.bind_eq_some_iff.mp H
  obtain ⟨⟨t196, t197, t198⟩, A30, H⟩ := H
  (try dsimp only at H)
  have A3 := Aside0.mk A30
  clear A30
  replace H := Option.bind_eq_some_iff.mp H
  obtain ⟨⟨t200, t201, t202⟩, A40, H⟩ := H
  (try dsimp only at H)
  have A4 := Aside0.mk A40
  clear A40
  simp only [Option.some.injEq, Prod.mk.injEq] at H
  obtain ⟨rfl, rfl, rfl, rfl, rfl, rfl⟩ := H
  go_enter Try.func13, Try.ntmps13
  go_wp2_with (first | ((with_reducible refine gate_dst (N := 2) rfl ?_); refine box_event ?hg (N := 2) ?hd (cs := #[.string a0_0, .string a0_1, .bool a0_2, .bool a0_3, .bool a0_4, .bool a0_5]) (t := 35) ?hr ?_; (case hd => rfl); (case hg => rfl); (case hr => first | (go_simp; done) | (go_simp; rfl)); intro gb193 hg w5 hbox hb; have n0_ := Aside0.mk (below_step (bw_ HB.out) hb); have n1_ := Aside0.mk (hbox); have n2_ := Aside0.mk ((by rw [hg]; exact (below_size (bw_ HB.out)) : w.heap.size ≤ gb193)); have n3_ := Aside0.mk ((by rw [hg]; exact (below_size (bw_ HB.out)) : w.heap.size ≤ gb193)); clear HB; have HB := n0_; have BK193 := n1_; have GW193 := n2_; have GE193 := n3_; clear n0_ n1_ n2_ n3_; clear hb hbox hg) | ((with_reducible refine gate_dst (N := 3) rfl ?_); refine box_event ?hg (N := 3) ?hd (cs := #[.string a1_0, .string a1_1, .bool a1_2, .bool a1_3, .bool a1_4, .bool a1_5]) (t := 35) ?hr ?_; (case hd => rfl); (case hg => rfl); (case hr => first | (go_simp; done) | (go_simp; rfl)); intro gb194 hg w6 hbox hb; have n0_ := Aside0.mk (blk_below (g := gb193) (o := .cells #[.string a0_0, .string a0_1, .bool a0_2, .bool a0_3, .bool a0_4, .bool a0_5] 35 (0, 0)) (bl_ BK193.out) hb); have n1_ := Aside0.mk (below_step (bw_ HB.out) hb); have n2_ := Aside0.mk (hbox); have n3_ := Aside0.mk ((by rw [hg]; exact (below_size (bw_ HB.out)) : w.heap.size ≤ gb194)); have n4_ := Aside0.mk ((by rw [hg]; exact (below_size (bw_ HB.out)) : w.heap.size ≤ gb194)); have n5_ := Aside0.mk ((by rw [hg]; exact Nat.ne_of_lt (blk_lt (g := gb193) (o := .cells #[.string a0_0, .string a0_1, .bool a0_2, .bool a0_3, .bool a0_4, .bool a0_5] 35 (0, 0)) (bl_ BK193.out)) : gb193 ≠ gb194)); have n6_ := Aside0.mk ((by rw [hg]; exact Nat.ne_of_gt (blk_lt (g := gb193) (o := .cells #[.string a0_0, .string a0_1, .bool a0_2, .bool a0_3, .bool a0_4, .bool a0_5] 35 (0, 0)) (bl_ BK193.out)) : gb194 ≠ gb193)); clear BK193; clear HB; have BK193 := n0_; have HB := n1_; have BK194 := n2_; have GW194 := n3_; have GE194 := n4_; have NB193_194 := n5_; have NB194_193 := n6_; clear n0_ n1_ n2_ n3_ n4_ n5_ n6_; clear hb hbox hg) | ((with_reducible refine gate_dst (N := 4) rfl ?_); refine box_event ?hg (N := 4) ?hd (cs := #[.string (⟨#[]⟩ : ByteArray), .string (⟨#[]⟩ : ByteArray), .bool false, .bool false, .bool false, .bool false]) (t := 35) ?hr ?_; (case hd => rfl); (case hg => rfl); (case hr => first | (go_simp; done) | (go_simp; rfl)); intro gb195 hg w7 hbox hb; have n0_ := Aside0.mk (blk_below (g := gb193) (o := .cells #[.string a0_0, .string a0_1, .bool a0_2, .bool a0_3, .bool a0_4, .bool a0_5] 35 (0, 0)) (bl_ BK193.out) hb); have n1_ := Aside0.mk (blk_below (g := gb194) (o := .cells #[.string a1_0, .string a1_1, .bool a1_2, .bool a1_3, .bool a1_4, .bool a1_5] 35 (0, 0)) (bl_ BK194.out) hb); have n2_ := Aside0.mk (below_step (bw_ HB.out) hb); have n3_ := Aside0.mk (hbox); have n4_ := Aside0.mk ((by rw [hg]; exact (below_size (bw_ HB.out)) : w.heap.size ≤ gb195)); have n5_ := Aside0.mk ((by rw [hg]; exact (below_size (bw_ HB.out)) : w.heap.size ≤ gb195)); have n6_ := Aside0.mk ((by rw [hg]; exact Nat.ne_of_lt (blk_lt (g := gb193) (o := .cells #[.string a0_0, .string a0_1, .bool a0_2, .bool a0_3, .bool a0_4, .bool a0_5] 35 (0, 0)) (bl_ BK193.out)) : gb193 ≠ gb195)); have n7_ := Aside0.mk ((by rw [hg]; exact Nat.ne_of_gt (blk_lt (g := gb193) (o := .cells #[.string a0_0, .string a0_1, .bool a0_2, .bool a0_3, .bool a0_4, .bool a0_5] 35 (0, 0)) (bl_ BK193.out)) : gb195 ≠ gb193)); have n8_ := Aside0.mk ((by rw [hg]; exact Nat.ne_of_lt (blk_lt (g := gb194) (o := .cells #[.string a1_0, .string a1_1, .bool a1_2, .bool a1_3, .bool a1_4, .bool a1_5] 35 (0, 0)) (bl_ BK194.out)) : gb194 ≠ gb195)); have n9_ := Aside0.mk ((by rw [hg]; exact Nat.ne_of_gt (blk_lt (g := gb194) (o := .cells #[.string a1_0, .string a1_1, .bool a1_2, .bool a1_3, .bool a1_4, .bool a1_5] 35 (0, 0)) (bl_ BK194.out)) : gb195 ≠ gb194)); clear BK193; clear BK194; clear HB; have BK193 := n0_; have BK194 := n1_; have HB := n2_; have BK195 := n3_; have GW195 := n4_; have GE195 := n5_; have NB193_195 := n6_; have NB195_193 := n7_; have NB194_195 := n8_; have NB195_194 := n9_; clear n0_ n1_ n2_ n3_ n4_ n5_ n6_ n7_ n8_ n9_; clear hb hbox hg; have hnb8 := NB193_194.out; have hnc8 := NB194_193.out; have hnb9 := NB193_195.out; have hnc9 := NB195_193.out; have hcz10_0 : w7.cell? ⟨gb193, 0, none⟩ = some (.string a0_0) := (blk_cell BK193.out 0).trans rfl; have hcz10_1 : w7.cell? ⟨gb193, 1, none⟩ = some (.string a0_1) := (blk_cell BK193.out 1).trans rfl; have hcz10_2 : w7.cell? ⟨gb193, 2, none⟩ = some (.bool a0_2) := (blk_cell BK193.out 2).trans rfl; have hcz10_3 : w7.cell? ⟨gb193, 3, none⟩ = some (.bool a0_3) := (blk_cell BK193.out 3).trans rfl; have hcz10_4 : w7.cell? ⟨gb193, 4, none⟩ = some (.bool a0_4) := (blk_cell BK193.out 4).trans rfl; have hcz10_5 : w7.cell? ⟨gb193, 5, none⟩ = some (.bool a0_5) := (blk_cell BK193.out 5).trans rfl; have hfz10_0 := blk_frozen BK193.out 0; have hfz10_1 := blk_frozen BK193.out 1; have hfz10_2 := blk_frozen BK193.out 2; have hfz10_3 := blk_frozen BK193.out 3; have hfz10_4 := blk_frozen BK193.out 4; have hfz10_5 := blk_frozen BK193.out 5; have hnb11 := NB194_195.out; have hnc11 := NB195_194.out; have hcz12_0 : w7.cell? ⟨gb194, 0, none⟩ = some (.string a1_0) := (blk_cell BK194.out 0).trans rfl; have hcz12_1 : w7.cell? ⟨gb194, 1, none⟩ = some (.string a1_1) := (blk_cell BK194.out 1).trans rfl; have hcz12_2 : w7.cell? ⟨gb194, 2, none⟩ = some (.bool a1_2) := (blk_cell BK194.out 2).trans rfl; have hcz12_3 : w7.cell? ⟨gb194, 3, none⟩ = some (.bool a1_3) := (blk_cell BK194.out 3).trans rfl; have hcz12_4 : w7.cell? ⟨gb194, 4, none⟩ = some (.bool a1_4) := (blk_cell BK194.out 4).trans rfl; have hcz12_5 : w7.cell? ⟨gb194, 5, none⟩ = some (.bool a1_5) := (blk_cell BK194.out 5).trans rfl; have hfz12_0 := blk_frozen BK194.out 0; have hfz12_1 := blk_frozen BK194.out 1; have hfz12_2 := blk_frozen BK194.out 2; have hfz12_3 := blk_frozen BK194.out 3; have hfz12_4 := blk_frozen BK194.out 4; have hfz12_5 := blk_frozen BK194.out 5) | ((with_reducible refine gate_callee (f := 20) rfl ?_); refine goesL_ (some 21) rfl rfl Try.func20 (by kernel_rfl) rfl #[.agg #[.string a0_0, .bool a0_2, .bool a0_4], .agg #[.string a1_0, .bool a1_2, .bool a1_4], .int .i64 1] rfl (by (try simp only [List.map_toArray, List.map_cons, List.map_nil]); first | done | rfl | (simp only [List.length_drop, List.length_take]; rfl)) ?_; (with_reducible refine (cursor_end_narrower.calls k a0_0 a0_2 a0_4 a1_0 a1_2 a1_4 1 t196 t197 t198 _ A3.out).mono ?_); rintro e w13 ⟨rfl, hb⟩; refine ⟨_, rfl, ?_⟩; have n0_ := Aside0.mk (blk_below (g := gb193) (o := .cells #[.string a0_0, .string a0_1, .bool a0_2, .bool a0_3, .bool a0_4, .bool a0_5] 35 (0, 0)) (bl_ BK193.out) hb); have n1_ := Aside0.mk (blk_below (g := gb194) (o := .cells #[.string a1_0, .string a1_1, .bool a1_2, .bool a1_3, .bool a1_4, .bool a1_5] 35 (0, 0)) (bl_ BK194.out) hb); have n2_ := Aside0.mk (blk_below (g := gb195) (o := .cells #[.string (⟨#[]⟩ : ByteArray), .string (⟨#[]⟩ : ByteArray), .bool false, .bool false, .bool false, .bool false] 35 (0, 0)) (bl_ BK195.out) hb); have n3_ := Aside0.mk (below_step (bw_ HB.out) hb); clear BK193; clear BK194; clear BK195; clear HB; have BK193 := n0_; have BK194 := n1_; have BK195 := n2_; have HB := n3_; clear n0_ n1_ n2_ n3_; (try clear hb); (try clear hb2); (try clear hk); (try clear hi)) | ((with_reducible refine gate_dst (N := 5) rfl ?_); refine box_event ?hg (N := 5) ?hd (cs := #[.string (⟨#[]⟩ : ByteArray), .bool false, .bool false]) (t := 61) ?hr ?_; (case hd => rfl); (case hg => rfl); (case hr => first | (go_simp; done) | (go_simp; rfl)); intro gb199 hg w14 hbox hb; have n0_ := Aside0.mk (blk_below (g := gb193) (o := .cells #[.string a0_0, .string a0_1, .bool a0_2, .bool a0_3, .bool a0_4, .bool a0_5] 35 (0, 0)) (bl_ BK193.out) hb); have n1_ := Aside0.mk (blk_below (g := gb194) (o := .cells #[.string a1_0, .string a1_1, .bool a1_2, .bool a1_3, .bool a1_4, .bool a1_5] 35 (0, 0)) (bl_ BK194.out) hb); have n2_ := Aside0.mk (blk_below (g := gb195) (o := .cells #[.string (⟨#[]⟩ : ByteArray), .string (⟨#[]⟩ : ByteArray), .bool false, .bool false, .bool false, .bool false] 35 (0, 0)) (bl_ BK195.out) hb); have n3_ := Aside0.mk (below_step (bw_ HB.out) hb); have n4_ := Aside0.mk (hbox); have n5_ := Aside0.mk ((by rw [hg]; exact (below_size (bw_ HB.out)) : w.heap.size ≤ gb199)); have n6_ := Aside0.mk ((by rw [hg]; exact (below_size (bw_ HB.out)) : w.heap.size ≤ gb199)); have n7_ := Aside0.mk ((by rw [hg]; exact Nat.ne_of_lt (blk_lt (g := gb193) (o := .cells #[.string a0_0, .string a0_1, .bool a0_2, .bool a0_3, .bool a0_4, .bool a0_5] 35 (0, 0)) (bl_ BK193.out)) : gb193 ≠ gb199)); have n8_ := Aside0.mk ((by rw [hg]; exact Nat.ne_of_gt (blk_lt (g := gb193) (o := .cells #[.string a0_0, .string a0_1, .bool a0_2, .bool a0_3, .bool a0_4, .bool a0_5] 35 (0, 0)) (bl_ BK193.out)) : gb199 ≠ gb193)); have n9_ := Aside0.mk ((by rw [hg]; exact Nat.ne_of_lt (blk_lt (g := gb194) (o := .cells #[.string a1_0, .string a1_1, .bool a1_2, .bool a1_3, .bool a1_4, .bool a1_5] 35 (0, 0)) (bl_ BK194.out)) : gb194 ≠ gb199)); have n10_ := Aside0.mk ((by rw [hg]; exact Nat.ne_of_gt (blk_lt (g := gb194) (o := .cells #[.string a1_0, .string a1_1, .bool a1_2, .bool a1_3, .bool a1_4, .bool a1_5] 35 (0, 0)) (bl_ BK194.out)) : gb199 ≠ gb194)); have n11_ := Aside0.mk ((by rw [hg]; exact Nat.ne_of_lt (blk_lt (g := gb195) (o := .cells #[.string (⟨#[]⟩ : ByteArray), .string (⟨#[]⟩ : ByteArray), .bool false, .bool false, .bool false, .bool false] 35 (0, 0)) (bl_ BK195.out)) : gb195 ≠ gb199)); have n12_ := Aside0.mk ((by rw [hg]; exact Nat.ne_of_gt (blk_lt (g := gb195) (o := .cells #[.string (⟨#[]⟩ : ByteArray), .string (⟨#[]⟩ : ByteArray), .bool false, .bool false, .bool false, .bool false] 35 (0, 0)) (bl_ BK195.out)) : gb199 ≠ gb195)); clear BK193; clear BK194; clear BK195; clear HB; have BK193 := n0_; have BK194 := n1_; have BK195 := n2_; have HB := n3_; have BK199 := n4_; have GW199 := n5_; have GE199 := n6_; have NB193_199 := n7_; have NB199_193 := n8_; have NB194_199 := n9_; have NB199_194 := n10_; have NB195_199 := n11_; have NB199_195 := n12_; clear n0_ n1_ n2_ n3_ n4_ n5_ n6_ n7_ n8_ n9_ n10_ n11_ n12_; clear hb hbox hg; have hnb15 := NB199_193.out; have hnc15 := NB193_199.out; have hnb16 := NB199_194.out; have hnc16 := NB194_199.out; have hnb17 := NB199_195.out; have hnc17 := NB195_199.out; have hcz18_0 : w14.cell? ⟨gb199, 0, none⟩ = some (.string (⟨#[]⟩ : ByteArray)) := (blk_cell BK199.out 0).trans rfl; have hcz18_1 : w14.cell? ⟨gb199, 1, none⟩ = some (.bool false) := (blk_cell BK199.out 1).trans rfl; have hcz18_2 : w14.cell? ⟨gb199, 2, none⟩ = some (.bool false) := (blk_cell BK199.out 2).trans rfl; have hfz18_0 := blk_frozen BK199.out 0; have hfz18_1 := blk_frozen BK199.out 1; have hfz18_2 := blk_frozen BK199.out 2; have hcz19_0 : w14.cell? ⟨gb193, 0, none⟩ = some (.string a0_0) := (blk_cell BK193.out 0).trans rfl; have hcz19_1 : w14.cell? ⟨gb193, 1, none⟩ = some (.string a0_1) := (blk_cell BK193.out 1).trans rfl; have hcz19_2 : w14.cell? ⟨gb193, 2, none⟩ = some (.bool a0_2) := (blk_cell BK193.out 2).trans rfl; have hcz19_3 : w14.cell? ⟨gb193, 3, none⟩ = some (.bool a0_3) := (blk_cell BK193.out 3).trans rfl; have hcz19_4 : w14.cell? ⟨gb193, 4, none⟩ = some (.bool a0_4) := (blk_cell BK193.out 4).trans rfl; have hcz19_5 : w14.cell? ⟨gb193, 5, none⟩ = some (.bool a0_5) := (blk_cell BK193.out 5).trans rfl; have hfz19_0 := blk_frozen BK193.out 0; have hfz19_1 := blk_frozen BK193.out 1; have hfz19_2 := blk_frozen BK193.out 2; have hfz19_3 := blk_frozen BK193.out 3; have hfz19_4 := blk_frozen BK193.out 4; have hfz19_5 := blk_frozen BK193.out 5; have hcz20_0 : w14.cell? ⟨gb194, 0, none⟩ = some (.string a1_0) := (blk_cell BK194.out 0).trans rfl; have hcz20_1 : w14.cell? ⟨gb194, 1, none⟩ = some (.string a1_1) := (blk_cell BK194.out 1).trans rfl; have hcz20_2 : w14.cell? ⟨gb194, 2, none⟩ = some (.bool a1_2) := (blk_cell BK194.out 2).trans rfl; have hcz20_3 : w14.cell? ⟨gb194, 3, none⟩ = some (.bool a1_3) := (blk_cell BK194.out 3).trans rfl; have hcz20_4 : w14.cell? ⟨gb194, 4, none⟩ = some (.bool a1_4) := (blk_cell BK194.out 4).trans rfl; have hcz20_5 : w14.cell? ⟨gb194, 5, none⟩ = some (.bool a1_5) := (blk_cell BK194.out 5).trans rfl; have hfz20_0 := blk_frozen BK194.out 0; have hfz20_1 := blk_frozen BK194.out 1; have hfz20_2 := blk_frozen BK194.out 2; have hfz20_3 := blk_frozen BK194.out 3; have hfz20_4 := blk_frozen BK194.out 4; have hfz20_5 := blk_frozen BK194.out 5) | ((with_reducible refine gate_callee (f := 20) rfl ?_); refine goesL_ (some 36) rfl rfl Try.func20 (by kernel_rfl) rfl #[.agg #[.string a0_1, .bool a0_3, .bool a0_5], .agg #[.string a1_1, .bool a1_3, .bool a1_5], .int .i64 (-1)] rfl (by (try simp only [List.map_toArray, List.map_cons, List.map_nil]); first | done | rfl | (simp only [List.length_drop, List.length_take]; rfl)) ?_; (with_reducible refine (cursor_end_narrower.calls k a0_1 a0_3 a0_5 a1_1 a1_3 a1_5 (-1) t200 t201 t202 _ A4.out).mono ?_); rintro e w21 ⟨rfl, hb⟩; refine ⟨_, rfl, ?_⟩; have n0_ := Aside0.mk (blk_below (g := gb193) (o := .cells #[.string a0_0, .string a0_1, .bool a0_2, .bool a0_3, .bool a0_4, .bool a0_5] 35 (0, 0)) (by (with_reducible repeat (first | refine blk_drewN ?_ _ | refine blk_drew ?_ | refine blk_alloc ?_ _)); refine blk_far ?_ NB193_199.out _; (with_reducible repeat (first | refine blk_drewN ?_ _ | refine blk_drew ?_ | refine blk_alloc ?_ _)); refine blk_far ?_ NB193_199.out _; (with_reducible repeat (first | refine blk_drewN ?_ _ | refine blk_drew ?_ | refine blk_alloc ?_ _)); refine blk_far ?_ NB193_199.out _; (with_reducible repeat (first | refine blk_drewN ?_ _ | refine blk_drew ?_ | refine blk_alloc ?_ _)); exact BK193.out) hb); have n1_ := Aside0.mk (blk_below (g := gb194) (o := .cells #[.string a1_0, .string a1_1, .bool a1_2, .bool a1_3, .bool a1_4, .bool a1_5] 35 (0, 0)) (by (with_reducible repeat (first | refine blk_drewN ?_ _ | refine blk_drew ?_ | refine blk_alloc ?_ _)); refine blk_far ?_ NB194_199.out _; (with_reducible repeat (first | refine blk_drewN ?_ _ | refine blk_drew ?_ | refine blk_alloc ?_ _)); refine blk_far ?_ NB194_199.out _; (with_reducible repeat (first | refine blk_drewN ?_ _ | refine blk_drew ?_ | refine blk_alloc ?_ _)); refine blk_far ?_ NB194_199.out _; (with_reducible repeat (first | refine blk_drewN ?_ _ | refine blk_drew ?_ | refine blk_alloc ?_ _)); exact BK194.out) hb); have n2_ := Aside0.mk (blk_below (g := gb195) (o := .cells #[.string (⟨#[]⟩ : ByteArray), .string (⟨#[]⟩ : ByteArray), .bool false, .bool false, .bool false, .bool false] 35 (0, 0)) (by (with_reducible repeat (first | refine blk_drewN ?_ _ | refine blk_drew ?_ | refine blk_alloc ?_ _)); refine blk_far ?_ NB195_199.out _; (with_reducible repeat (first | refine blk_drewN ?_ _ | refine blk_drew ?_ | refine blk_alloc ?_ _)); refine blk_far ?_ NB195_199.out _; (with_reducible repeat (first | refine blk_drewN ?_ _ | refine blk_drew ?_ | refine blk_alloc ?_ _)); refine blk_far ?_ NB195_199.out _; (with_reducible repeat (first | refine blk_drewN ?_ _ | refine blk_drew ?_ | refine blk_alloc ?_ _)); exact BK195.out) hb); have n3_ := Aside0.mk (blk_below (g := gb199) (o := .cells #[.string t196, .bool t197, .bool t198] 61 (0, 0)) (by (with_reducible repeat (first | refine blk_drewN ?_ _ | refine blk_drew ?_ | refine blk_alloc ?_ _)); refine blk_put (cs := #[.string t196, .bool t197, .bool false]) ?_ 2 _ rfl; (with_reducible repeat (first | refine blk_drewN ?_ _ | refine blk_drew ?_ | refine blk_alloc ?_ _)); refine blk_put (cs := #[.string t196, .bool false, .bool false]) ?_ 1 _ rfl; (with_reducible repeat (first | refine blk_drewN ?_ _ | refine blk_drew ?_ | refine blk_alloc ?_ _)); refine blk_put (cs := #[.string (⟨#[]⟩ : ByteArray), .bool false, .bool false]) ?_ 0 _ rfl; (with_reducible repeat (first | refine blk_drewN ?_ _ | refine blk_drew ?_ | refine blk_alloc ?_ _)); exact BK199.out) hb); have n4_ := Aside0.mk (below_step (bw_ HB.out) hb); clear BK193; clear BK194; clear BK195; clear BK199; clear HB; have BK193 := n0_; have BK194 := n1_; have BK195 := n2_; have BK199 := n3_; have HB := n4_; clear n0_ n1_ n2_ n3_ n4_; (try clear hb); (try clear hb2); (try clear hk); (try clear hi)) | ((with_reducible refine gate_dst (N := 6) rfl ?_); refine box_event ?hg (N := 6) ?hd (cs := #[.string (⟨#[]⟩ : ByteArray), .bool false, .bool false]) (t := 61) ?hr ?_; (case hd => rfl); (case hg => rfl); (case hr => first | (go_simp; done) | (go_simp; rfl)); intro gb203 hg w22 hbox hb; have n0_ := Aside0.mk (blk_below (g := gb193) (o := .cells #[.string a0_0, .string a0_1, .bool a0_2, .bool a0_3, .bool a0_4, .bool a0_5] 35 (0, 0)) (bl_ BK193.out) hb); have n1_ := Aside0.mk (blk_below (g := gb194) (o := .cells #[.string a1_0, .string a1_1, .bool a1_2, .bool a1_3, .bool a1_4, .bool a1_5] 35 (0, 0)) (bl_ BK194.out) hb); have n2_ := Aside0.mk (blk_below (g := gb195) (o := .cells #[.string (⟨#[]⟩ : ByteArray), .string (⟨#[]⟩ : ByteArray), .bool false, .bool false, .bool false, .bool false] 35 (0, 0)) (bl_ BK195.out) hb); have n3_ := Aside0.mk (blk_below (g := gb199) (o := .cells #[.string t196, .bool t197, .bool t198] 61 (0, 0)) (bl_ BK199.out) hb); have n4_ := Aside0.mk (below_step (bw_ HB.out) hb); have n5_ := Aside0.mk (hbox); have n6_ := Aside0.mk ((by rw [hg]; exact (below_size (bw_ HB.out)) : w.heap.size ≤ gb203)); have n7_ := Aside0.mk ((by rw [hg]; exact (below_size (bw_ HB.out)) : w.heap.size ≤ gb203)); have n8_ := Aside0.mk ((by rw [hg]; exact Nat.ne_of_lt (blk_lt (g := gb193) (o := .cells #[.string a0_0, .string a0_1, .bool a0_2, .bool a0_3, .bool a0_4, .bool a0_5] 35 (0, 0)) (bl_ BK193.out)) : gb193 ≠ gb203)); have n9_ := Aside0.mk ((by rw [hg]; exact Nat.ne_of_gt (blk_lt (g := gb193) (o := .cells #[.string a0_0, .string a0_1, .bool a0_2, .bool a0_3, .bool a0_4, .bool a0_5] 35 (0, 0)) (bl_ BK193.out)) : gb203 ≠ gb193)); have n10_ := Aside0.mk ((by rw [hg]; exact Nat.ne_of_lt (blk_lt (g := gb194) (o := .cells #[.string a1_0, .string a1_1, .bool a1_2, .bool a1_3, .bool a1_4, .bool a1_5] 35 (0, 0)) (bl_ BK194.out)) : gb194 ≠ gb203)); have n11_ := Aside0.mk ((by rw [hg]; exact Nat.ne_of_gt (blk_lt (g := gb194) (o := .cells #[.string a1_0, .string a1_1, .bool a1_2, .bool a1_3, .bool a1_4, .bool a1_5] 35 (0, 0)) (bl_ BK194.out)) : gb203 ≠ gb194)); have n12_ := Aside0.mk ((by rw [hg]; exact Nat.ne_of_lt (blk_lt (g := gb195) (o := .cells #[.string (⟨#[]⟩ : ByteArray), .string (⟨#[]⟩ : ByteArray), .bool false, .bool false, .bool false, .bool false] 35 (0, 0)) (bl_ BK195.out)) : gb195 ≠ gb203)); have n13_ := Aside0.mk ((by rw [hg]; exact Nat.ne_of_gt (blk_lt (g := gb195) (o := .cells #[.string (⟨#[]⟩ : ByteArray), .string (⟨#[]⟩ : ByteArray), .bool false, .bool false, .bool false, .bool false] 35 (0, 0)) (bl_ BK195.out)) : gb203 ≠ gb195)); have n14_ := Aside0.mk ((by rw [hg]; exact Nat.ne_of_lt (blk_lt (g := gb199) (o := .cells #[.string t196, .bool t197, .bool t198] 61 (0, 0)) (bl_ BK199.out)) : gb199 ≠ gb203)); have n15_ := Aside0.mk ((by rw [hg]; exact Nat.ne_of_gt (blk_lt (g := gb199) (o := .cells #[.string t196, .bool t197, .bool t198] 61 (0, 0)) (bl_ BK199.out)) : gb203 ≠ gb199)); clear BK193; clear BK194; clear BK195; clear BK199; clear HB; have BK193 := n0_; have BK194 := n1_; have BK195 := n2_; have BK199 := n3_; have HB := n4_; have BK203 := n5_; have GW203 := n6_; have GE203 := n7_; have NB193_203 := n8_; have NB203_193 := n9_; have NB194_203 := n10_; have NB203_194 := n11_; have NB195_203 := n12_; have NB203_195 := n13_; have NB199_203 := n14_; have NB203_199 := n15_; clear n0_ n1_ n2_ n3_ n4_ n5_ n6_ n7_ n8_ n9_ n10_ n11_ n12_ n13_ n14_ n15_; clear hb hbox hg; have hnb23 := NB203_193.out; have hnc23 := NB193_203.out; have hnb24 := NB203_194.out; have hnc24 := NB194_203.out; have hnb25 := NB203_195.out; have hnc25 := NB195_203.out; have hnb26 := NB203_199.out; have hnc26 := NB199_203.out; have hcz27_0 : w22.cell? ⟨gb203, 0, none⟩ = some (.string (⟨#[]⟩ : ByteArray)) := (blk_cell BK203.out 0).trans rfl; have hcz27_1 : w22.cell? ⟨gb203, 1, none⟩ = some (.bool false) := (blk_cell BK203.out 1).trans rfl; have hcz27_2 : w22.cell? ⟨gb203, 2, none⟩ = some (.bool false) := (blk_cell BK203.out 2).trans rfl; have hfz27_0 := blk_frozen BK203.out 0; have hfz27_1 := blk_frozen BK203.out 1; have hfz27_2 := blk_frozen BK203.out 2; have hcz28_0 : w22.cell? ⟨gb199, 0, none⟩ = some (.string t196) := (blk_cell BK199.out 0).trans rfl; have hcz28_1 : w22.cell? ⟨gb199, 1, none⟩ = some (.bool t197) := (blk_cell BK199.out 1).trans rfl; have hcz28_2 : w22.cell? ⟨gb199, 2, none⟩ = some (.bool t198) := (blk_cell BK199.out 2).trans rfl; have hfz28_0 := blk_frozen BK199.out 0; have hfz28_1 := blk_frozen BK199.out 1; have hfz28_2 := blk_frozen BK199.out 2; have hcz29_0 : w22.cell? ⟨gb195, 0, none⟩ = some (.string (⟨#[]⟩ : ByteArray)) := (blk_cell BK195.out 0).trans rfl; have hcz29_1 : w22.cell? ⟨gb195, 1, none⟩ = some (.string (⟨#[]⟩ : ByteArray)) := (blk_cell BK195.out 1).trans rfl; have hcz29_2 : w22.cell? ⟨gb195, 2, none⟩ = some (.bool false) := (blk_cell BK195.out 2).trans rfl; have hcz29_3 : w22.cell? ⟨gb195, 3, none⟩ = some (.bool false) := (blk_cell BK195.out 3).trans rfl; have hcz29_4 : w22.cell? ⟨gb195, 4, none⟩ = some (.bool false) := (blk_cell BK195.out 4).trans rfl; have hcz29_5 : w22.cell? ⟨gb195, 5, none⟩ = some (.bool false) := (blk_cell BK195.out 5).trans rfl; have hfz29_0 := blk_frozen BK195.out 0; have hfz29_1 := blk_frozen BK195.out 1; have hfz29_2 := blk_frozen BK195.out 2; have hfz29_3 := blk_frozen BK195.out 3; have hfz29_4 := blk_frozen BK195.out 4; have hfz29_5 := blk_frozen BK195.out 5))
  refine bodyPost_ret (results_cell_row rfl _ _ gb195 35 #[.string t196, .string t200, .bool t197, .bool t201, .bool t198, .bool t202] (0, 0) _ rfl (by (with_reducible repeat (first | refine blk_drewN ?_ _ | refine blk_drew ?_ | refine blk_alloc ?_ _)); refine blk_put (cs := #[.string t196, .string t200, .bool t197, .bool t201, .bool t198, .bool false]) ?_ 5 _ rfl; (with_reducible repeat (first | refine blk_drewN ?_ _ | refine blk_drew ?_ | refine blk_alloc ?_ _)); refine blk_put (cs := #[.string t196, .string t200, .bool t197, .bool t201, .bool false, .bool false]) ?_ 4 _ rfl; (with_reducible repeat (first | refine blk_drewN ?_ _ | refine blk_drew ?_ | refine blk_alloc ?_ _)); refine blk_put (cs := #[.string t196, .string t200, .bool t197, .bool false, .bool false, .bool false]) ?_ 3 _ rfl; (with_reducible repeat (first | refine blk_drewN ?_ _ | refine blk_drew ?_ | refine blk_alloc ?_ _)); refine blk_put (cs := #[.string t196, .string t200, .bool false, .bool false, .bool false, .bool false]) ?_ 2 _ rfl; (with_reducible repeat (first | refine blk_drewN ?_ _ | refine blk_drew ?_ | refine blk_alloc ?_ _)); refine blk_put (cs := #[.string t196, .string (⟨#[]⟩ : ByteArray), .bool false, .bool false, .bool false, .bool false]) ?_ 1 _ rfl; (with_reducible repeat (first | refine blk_drewN ?_ _ | refine blk_drew ?_ | refine blk_alloc ?_ _)); refine blk_put (cs := #[.string (⟨#[]⟩ : ByteArray), .string (⟨#[]⟩ : ByteArray), .bool false, .bool false, .bool false, .bool false]) ?_ 0 _ rfl; (with_reducible repeat (first | refine blk_drewN ?_ _ | refine blk_drew ?_ | refine blk_alloc ?_ _)); refine blk_far ?_ NB195_203.out _; (with_reducible repeat (first | refine blk_drewN ?_ _ | refine blk_drew ?_ | refine blk_alloc ?_ _)); refine blk_far ?_ NB195_203.out _; (with_reducible repeat (first | refine blk_drewN ?_ _ | refine blk_drew ?_ | refine blk_alloc ?_ _)); refine blk_far ?_ NB195_203.out _; (with_reducible repeat (first | refine blk_drewN ?_ _ | refine blk_drew ?_ | refine blk_alloc ?_ _)); exact BK195.out) Try.underlying35 rfl (by kernel_rfl)) rfl ?_
  exact ⟨by first | rfl | (simp [errW_none, errW_some] <;> rfl) | (simp [*, errW_none, errW_some] <;> rfl), bw_ HB.out⟩

end Go.Proofs.Ytddkbhglbkfelaa.P
