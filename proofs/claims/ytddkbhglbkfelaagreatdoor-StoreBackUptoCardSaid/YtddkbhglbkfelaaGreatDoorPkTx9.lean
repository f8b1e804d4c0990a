import Derived.Test.YtddkbhglbkfelaaGreatDoorPkTx0
import Derived.Test.YtddkbhglbkfelaaGreatDoorPkTx5
namespace Go.Proofs.YtddkbhglbkfelaaGreatDoor.T
open Go.RowKit Go.Proofs.YtddkbhglbkfelaaGreatDoorW.PrintWords Go.Proofs.YtddkbhglbkfelaaGreatDoorW.PrintLast Go.Proofs.YtddkbhglbkfelaaGreatDoorW.PrintMore Go.Proofs.YtddkbhglbkfelaaGreatDoorX
attribute [local go_sem] max2_int min2_int max_two min_two max_three min_three max_four min_four
set_option linter.unusedVariables false
set_option linter.unusedSimpArgs false

/-! ### pack_AppendUint: function 45 -/
def pack_AppendUint.l0 : Nat → Int → List Int → Option (List Int)
 | 0, _, _ => none
 | k + 1, x1, x5 => if x1 ≥ 128 then (if x5.length < 140737488355328 then (pack_AppendUint.l0 k (x1 / 128) (x5 ++ [Go.bits .or .u8 ((x1) % 256) 128])) else (none)) else (if x5.length < 140737488355328 then (some (x5 ++ [(x1) % 256])) else (none))
def pack_AppendUint.f (k : Nat) (l0 : List Int) (a1 : Int) : Option (List Int) := if 0 ≤ (wrap64 ((l0.length : Int) + 10)) then (if (wrap64 ((l0.length : Int) + 10) : Int).toNat ≤ 281474976710656 then ((some (([] : List Int) : List Int)).bind fun y187 => (if y187.length + l0.length < 140737488355328 then (pack_AppendUint.l0 k a1 (y187 ++ l0)) else (none))) else (none)) else (none)
theorem pack_AppendUint.mono_l : ∀ k, (∀ y0 y1, LeO (pack_AppendUint.l0 k y0 y1) (pack_AppendUint.l0 (k + 1) y0 y1))
 | 0 => fun _ _ r h => by simp [pack_AppendUint.l0] at h
 | k + 1 => by
  have ih0 := pack_AppendUint.mono_l k
  ·intro y0 y1
   unfold pack_AppendUint.l0
   repeat' first
   | (with_reducible exact ih0 _ _)
   | (with_reducible exact LeO.refl _)
   | (with_reducible exact LeO.none _)
   | (with_reducible refine LeO.ite ?_ ?_)
   | (with_reducible refine LeO.bind ?_ (fun _ => ?_))
   | exact ih0 _ _
   | exact LeO.none _
   | refine LeO.ite ?_ ?_
   | refine LeO.bind ?_ (fun _ => ?_)
theorem pack_AppendUint.mono : ∀ a0 a1 k, LeO (pack_AppendUint.f k a0 a1) (pack_AppendUint.f (k + 1) a0 a1) := by
 intro a0 a1 k
 have ih0 := pack_AppendUint.mono_l k
 unfold pack_AppendUint.f
 repeat' first
   | (with_reducible exact ih0 _ _)
   | (with_reducible exact LeO.refl _)
   | (with_reducible exact LeO.none _)
   | (with_reducible refine LeO.ite ?_ ?_)
   | (with_reducible refine LeO.bind ?_ (fun _ => ?_))
   | exact ih0 _ _
   | exact LeO.none _
   | refine LeO.ite ?_ ?_
   | refine LeO.bind ?_ (fun _ => ?_)
set_option maxHeartbeats 8000000 in
set_option maxRecDepth 100000 in
theorem pack_AppendUint.calls (k : Nat) (A0 : Option Addr) (c0 : Nat) (l0 : List Int) (a1 : Int) (r : List Int) (w : World) (hr0 : Kd.C (Kd.int .u8) w A0 l0.length l0) (hc0 : l0.length ≤ c0) (h : pack_AppendUint.f k l0 a1 = some r) :
  Calls Tryz.prog 45 #[.slice A0 l0.length c0, .int .u64 a1] w fun e w' => ∃ v0_ : Value, e = .returned (v0_) ∧ Kd.R (Kd.int .u8) 5 w' w.heap.size (fun _ => True) v0_ r ∧ Below w.heap.size w w' := by
 have HR0 := Aside0.mk hr0
 have HC0 := Aside0.mk hc0
 clear hr0 hc0
 have HB := Aside0.mk (Below.refl w.heap.size w)
 have H : (if 0 ≤ (wrap64 ((l0.length : Int) + 10)) then (if (wrap64 ((l0.length : Int) + 10) : Int).toNat ≤ 281474976710656 then ((some (([] : List Int) : List Int)).bind fun y187 => (if y187.length + l0.length < 140737488355328 then (pack_AppendUint.l0 k a1 (y187 ++ l0)) else (none))) else (none)) else (none)) = some r := h
 clear h
 obtain ⟨ji3, hji3⟩ : ∃ j_ : Int, (wrap64 ((l0.length : Int) + 10)) = j_ := ⟨_, rfl⟩
 replace H : (if 0 ≤ (ji3) then (if (ji3 : Int).toNat ≤ 281474976710656 then ((some (([] : List Int) : List Int)).bind fun y187 => (if y187.length + l0.length < 140737488355328 then (pack_AppendUint.l0 k a1 (y187 ++ l0)) else (none))) else (none)) else (none)) = some r := by first | (rw [hji3] at H; exact H) | (simp only [hji3] at H ⊢; exact H)
 have hji3w : (IntKind.i64.wrap ((l0.length : Int) + 10)) = ji3 := (i64_w _).trans hji3
 have c4 : 0 ≤ (ji3) := Classical.byContradiction fun c4 => by rw [if_neg c4] at H; exact absurd H (by simp)
 rw [if_pos c4] at H
 have c4b0 := eq_true c4
 have c4b1 : decide (0 ≤ (ji3)) = true := decide_eq_true c4
 clear c4
 have c5 : (ji3 : Int).toNat ≤ 281474976710656 := Classical.byContradiction fun c5 => by rw [if_neg c5] at H; exact absurd H (by simp)
 rw [if_pos c5] at H
 have c5b0 := eq_true c5
 have c5b1 : decide ((ji3 : Int).toNat ≤ 281474976710656) = true := decide_eq_true c5
 clear c5
 first | (revert H; with_reducible refine nm_ fun y187 hy187 H => ?_) | (generalize hy187 : (([] : List Int) : List Int) = y187 at H; replace hy187 := hy187.symm)
 have Ny187 := Aside0.mk hy187; clear hy187
 have c6 : y187.length + l0.length < 140737488355328 := Classical.byContradiction fun c6 => by rw [if_neg c6] at H; exact absurd H (by simp)
 rw [if_pos c6] at H
 have LMc6 := Aside0.mk c6
 clear c6
 first | (revert H; with_reducible refine nm_ fun y190 hy190 H => ?_) | (generalize hy190 : (y187 ++ l0 : List Int) = y190 at H; replace hy190 := hy190.symm)
 have Ny190 := Aside0.mk hy190; clear hy190
 have H' := Aside0.mk H
 clear H
 go_enter Tryz.func45, Tryz.ntmps45
 go_wp2_with (first | ((with_reducible refine qgd (N := 9) rfl ?_); refine Kd.R_make0 (Kd.int .u8) _ 5 rfl (N := 9) rfl 27 _ _ rfl ji3 rfl rfl Tryz.underlying27 (.int .u8 0) 1 info5 rfl (by decide) (by omega) (ok := fun _ => True) trivial (ode_) (Nat.le_trans (Nat.mul_le_mul_right _ (ode_ : ji3.toNat ≤ 281474976710656)) (by omega)) (Below.refl _ _) (Nat.le_refl _) ?_; intro v188 w7 ho8 hb hg_ hnew_; clear hg_ hnew_; (first | rw [← Ny187.out] at ho8 | (simp only [Int.reduceToNat] at ho8; rw [← Ny187.out] at ho8)); have HO189 := Rl_ ho8 HB; replace HB := bS_ HB hb; clear hb ho8) | ((with_reducible refine gate_builtin (b := .append) (xs := #[.tmp 9, .tmp 10]) rfl ?_); at_builtin; refine Kd.R_append_rows (Kd.int .u8) (w0 := w) w.heap.size rfl (.tmp 9) (.tmp 10) 27 5 (.int .u8 0) 1 rfl Tryz.underlying27 info5 rfl (by decide) (by omega) v188 y187 l0 _ _ _ (fun _ => True) (fun _ => False) rfl rfl ?aO ?aR (fun _ _ h => h) (fun _ h => h.elim) (fun _ _ => trivial) (bw_ HB.out) (qbz (bw_ HB.out)) (by have := LMc6.out; omega) ?_; (case aR => exact kC_ (Kd.C_below HR0.out HB.out)); (case aO => exact (kR_ HO189.out)); intro v191 w9 ho hb hg hat; rw [← Ny190.out] at ho; replace HB := Aside0.mk (hb); have HO192 := Aside0.mk (ho); clear HO189 ho hb hg hat))
 go_loopg [1, 5] k (fun kq v1 v5 w' => ∃ (x1_1 : Int) (x5_1 : List Int), v1 = .int .u64 x1_1 ∧ Aside0 (pack_AppendUint.l0 kq x1_1 x5_1 = some r) ∧ Aside0 (kq ≤ k) ∧ Aside0 (Kd.R (Kd.int .u8) 5 w' w.heap.size (fun _ => True) v5 x5_1) ∧ Aside0 (Below w.heap.size w w'))
 case atStart => exact ⟨(a1), (y190), fe_, H', ⟨Nat.le_refl _⟩, ⟨by (with_reducible repeat (first | apply Kd.R_alloc | apply Kd.R_drewN | apply Kd.R_drew)); exact HO192.out⟩, ⟨bw_ HB.out⟩⟩
 case round =>
  clear H'
  (try clear c4); (try clear c4b0); (try clear c4b1); (try clear c5); (try clear c5b0); (try clear c5b1); (try clear c6)
  obtain ⟨x1_1, x5_1, rfl, HA, HK1, HO_5, HB⟩ := hrel
  cases gk with
  | zero => exact absurd HA.out (by simp [pack_AppendUint.l0])
  | succ k1 =>
   have H := HA.out
   clear HA
   simp only [pack_AppendUint.l0] at H
   by_cases c10 : x1_1 ≥ 128
   ·rw [if_pos c10] at H
    have c10b0 : decide (128 ≤ x1_1) = true := decide_eq_true c10
    clear c10
    have c11 : x5_1.length < 140737488355328 := Classical.byContradiction fun c11 => by rw [if_neg c11] at H; exact absurd H (by simp)
    rw [if_pos c11] at H
    have LMc11 := Aside0.mk c11
    clear c11
    first | (revert H; with_reducible refine nm_ fun y193 hy193 H => ?_) | (generalize hy193 : (x5_1 ++ [Go.bits .or .u8 ((x1_1) % 256) 128] : List Int) = y193 at H; replace hy193 := hy193.symm)
    have Ny193 := Aside0.mk hy193; clear hy193
    have H' := Aside0.mk H
    clear H
    go_wp2_with (first | ((with_reducible refine gate_builtin (b := .append) (xs := #[.tmp 16, .tmp 20]) rfl ?_); at_builtin; refine Kd.R_append (Kd.int .u8) (w0 := w) w.heap.size rfl (.tmp 16) (.tmp 20) 27 5 (.int .u8 0) 1 rfl Tryz.underlying27 info5 rfl (by decide) (by omega) u5 x5_1 (Go.bits .or .u8 ((x1_1) % 256) 128) [.int .u8 (Go.bits .or .u8 ((x1_1) % 256) 128)] (fun _ => True) (fun _ => False) rfl rfl ?aP (fun _ hk => hk.elim) (fun _ _ => trivial) ?aO (bw_ HB.out) (qbz (bw_ HB.out)) (by have := LMc11.out; omega) ?_; (case aP => exact rfl); (case aO => exact (kR_ HO_5.out)); intro v194 w12 ho hb hg hat; rw [← Ny193.out] at ho; replace HB := Aside0.mk (hb); have HO195 := Aside0.mk (ho); clear HO_5 ho hb hg hat))
    go_roundg k1
    case measure => have := HK1.out; omega
    case rel => exact ⟨(x1_1 / 128), (y193), fe_, H', ⟨by have := HK1.out; omega⟩, ⟨by (with_reducible repeat (first | apply Kd.R_alloc | apply Kd.R_drewN | apply Kd.R_drew)); exact HO195.out⟩, ⟨bw_ HB.out⟩⟩
   rw [if_neg c10] at H
   have c10b0 : decide (128 ≤ x1_1) = false := decide_eq_false c10
   clear c10
   have c13 : x5_1.length < 140737488355328 := Classical.byContradiction fun c13 => by rw [if_neg c13] at H; exact absurd H (by simp)
   rw [if_pos c13] at H
   have LMc13 := Aside0.mk c13
   clear c13
   first | (revert H; with_reducible refine nm_ fun y196 hy196 H => ?_) | (generalize hy196 : (x5_1 ++ [(x1_1) % 256] : List Int) = y196 at H; replace hy196 := hy196.symm)
   have Ny196 := Aside0.mk hy196; clear hy196
   obtain rfl := Option.some.inj H
   go_wp2_with (first | ((with_reducible refine gate_builtin (b := .append) (xs := #[.tmp 22, .tmp 25]) rfl ?_); at_builtin; refine Kd.R_append (Kd.int .u8) (w0 := w) w.heap.size rfl (.tmp 22) (.tmp 25) 27 5 (.int .u8 0) 1 rfl Tryz.underlying27 info5 rfl (by decide) (by omega) u5 x5_1 ((x1_1) % 256) [.int .u8 ((x1_1) % 256)] (fun _ => True) (fun _ => False) rfl rfl ?aP (fun _ hk => hk.elim) (fun _ _ => trivial) ?aO (bw_ HB.out) (qbz (bw_ HB.out)) (by have := LMc13.out; omega) ?_; (case aP => exact rfl); (case aO => exact (kR_ HO_5.out)); intro v197 w14 ho hb hg hat; rw [← Ny196.out] at ho; replace HB := Aside0.mk (hb); have HO198 := Aside0.mk (ho); clear HO_5 ho hb hg hat))
   go_ret
   exact ⟨_, by first | rfl | (simp [errW_none, errW_some] <;> rfl) | (simp only [← hji3]; first | rfl | (simp [errW_none, errW_some] <;> rfl)) | (simp [*, errW_none, errW_some] <;> rfl), by (with_reducible repeat (first | apply Kd.R_alloc | apply Kd.R_drewN | apply Kd.R_drew)); exact HO198.out, bw_ HB.out⟩

/-! ### store_count: function 20 -/
def store_count.f (k : Nat) (l0 : List Int) (a1 : Int) : Option (List Int) := (pack_AppendUint.f k l0 (IntKind.u64.wrap (a1))).bind fun t199 => (some t199)
theorem store_count.mono : ∀ a0 a1 k, LeO (store_count.f k a0 a1) (store_count.f (k + 1) a0 a1) := by
 intro a0 a1 k
 unfold store_count.f
 repeat' first
   | (with_reducible exact pack_AppendUint.mono _ _ _)
   | (with_reducible exact LeO.refl _)
   | (with_reducible exact LeO.none _)
   | (with_reducible refine LeO.ite ?_ ?_)
   | (with_reducible refine LeO.bind ?_ (fun _ => ?_))
   | exact pack_AppendUint.mono _ _ _
   | exact LeO.none _
   | refine LeO.ite ?_ ?_
   | refine LeO.bind ?_ (fun _ => ?_)
set_option maxHeartbeats 8000000 in
set_option maxRecDepth 100000 in
theorem store_count.calls (k : Nat) (A0 : Option Addr) (c0 : Nat) (l0 : List Int) (a1 : Int) (r : List Int) (w : World) (hr0 : Kd.C (Kd.int .u8) w A0 l0.length l0) (hc0 : l0.length ≤ c0) (h : store_count.f k l0 a1 = some r) :
  Calls Tryz.prog 20 #[.slice A0 l0.length c0, .int .i64 a1] w fun e w' => ∃ v0_ : Value, e = .returned (v0_) ∧ Kd.R (Kd.int .u8) 5 w' w.heap.size (fun _ => True) v0_ r ∧ Below w.heap.size w w' := by
 have HR0 := Aside0.mk hr0
 have HC0 := Aside0.mk hc0
 clear hr0 hc0
 have HB := Aside0.mk (Below.refl w.heap.size w)
 have H : ((pack_AppendUint.f k l0 (IntKind.u64.wrap (a1))).bind fun t199 => (some t199)) = some r := h
 clear h
 obtain ⟨t199, A3, H⟩ := bn_ H; (try dsimp only at H)
 obtain rfl := Option.some.inj H
 go_enter Tryz.func20, Tryz.ntmps20
 go_wp2_with (first | ((with_reducible refine qgc (f := 45) rfl ?_); refine gL_ (some 8) Tryz.func45 #[.slice A0 l0.length c0, .int .u64 (IntKind.u64.wrap (a1))] ?_; (with_reducible refine (pack_AppendUint.calls k _ _ l0 (IntKind.u64.wrap (a1)) t199 _ ?side1 ?side2 A3.out).mono ?_); (case side1 => exact kC_ HR0.out); (case side2 => exact HC0.out); rintro e w4 ⟨v200, rfl, ho0, hb⟩; refine ⟨_, rfl, ?_⟩; have HO201 := Rl_ ho0 HB; replace HB := bS_ HB hb; clear hb; (try clear ho0)))
 go_ret
 exact ⟨_, fr_, by (with_reducible repeat (first | apply Kd.R_alloc | apply Kd.R_drewN | apply Kd.R_drew)); exact HO201.out, bw_ HB.out⟩

/-! ### pack_AppendText: function 41 -/
def pack_AppendText.f (k : Nat) (l0 : List Int) (a1 : ByteArray) : Option (List Int) := (pack_AppendUint.f k l0 (IntKind.u64.wrap ((a1.size : Int)))).bind fun t202 => (if t202.length + a1.size < 140737488355328 then (some (t202 ++ bytesOf a1)) else (none))
theorem pack_AppendText.mono : ∀ a0 a1 k, LeO (pack_AppendText.f k a0 a1) (pack_AppendText.f (k + 1) a0 a1) := by
 intro a0 a1 k
 unfold pack_AppendText.f
 repeat' first
   | (with_reducible exact pack_AppendUint.mono _ _ _)
   | (with_reducible exact LeO.refl _)
   | (with_reducible exact LeO.none _)
   | (with_reducible refine LeO.ite ?_ ?_)
   | (with_reducible refine LeO.bind ?_ (fun _ => ?_))
   | exact pack_AppendUint.mono _ _ _
   | exact LeO.none _
   | refine LeO.ite ?_ ?_
   | refine LeO.bind ?_ (fun _ => ?_)
set_option maxHeartbeats 8000000 in
set_option maxRecDepth 100000 in
theorem pack_AppendText.calls (k : Nat) (A0 : Option Addr) (c0 : Nat) (l0 : List Int) (a1 : ByteArray) (r : List Int) (w : World) (hr0 : Kd.C (Kd.int .u8) w A0 l0.length l0) (hc0 : l0.length ≤ c0) (h : pack_AppendText.f k l0 a1 = some r) :
  Calls Tryz.prog 41 #[.slice A0 l0.length c0, .string a1] w fun e w' => ∃ v0_ : Value, e = .returned (v0_) ∧ Kd.R (Kd.int .u8) 5 w' w.heap.size (fun _ => True) v0_ r ∧ Below w.heap.size w w' := by
 have HR0 := Aside0.mk hr0
 have HC0 := Aside0.mk hc0
 clear hr0 hc0
 have HB := Aside0.mk (Below.refl w.heap.size w)
 have H : ((pack_AppendUint.f k l0 (IntKind.u64.wrap ((a1.size : Int)))).bind fun t202 => (if t202.length + a1.size < 140737488355328 then (some (t202 ++ bytesOf a1)) else (none))) = some r := h
 clear h
 obtain ⟨t202, A3, H⟩ := bn_ H; (try dsimp only at H)
 have c4 : t202.length + a1.size < 140737488355328 := Classical.byContradiction fun c4 => by rw [if_neg c4] at H; exact absurd H (by simp)
 rw [if_pos c4] at H
 have LMc4 := Aside0.mk c4
 clear c4
 first | (revert H; with_reducible refine nm_ fun y205 hy205 H => ?_) | (generalize hy205 : (t202 ++ bytesOf a1 : List Int) = y205 at H; replace hy205 := hy205.symm)
 have Ny205 := Aside0.mk hy205; clear hy205
 obtain rfl := Option.some.inj H
 go_enter Tryz.func41, Tryz.ntmps41
 go_wp2_with (first | ((with_reducible refine qgc (f := 45) rfl ?_); refine gL_ (some 9) Tryz.func45 #[.slice A0 l0.length c0, .int .u64 (IntKind.u64.wrap ((a1.size : Int)))] ?_; (with_reducible refine (pack_AppendUint.calls k _ _ l0 (IntKind.u64.wrap ((a1.size : Int))) t202 _ ?side1 ?side2 A3.out).mono ?_); (case side1 => exact kC_ HR0.out); (case side2 => exact HC0.out); rintro e w5 ⟨v203, rfl, ho0, hb⟩; refine ⟨_, rfl, ?_⟩; have HO204 := Rl_ ho0 HB; replace HB := bS_ HB hb; clear hb; (try clear ho0)) | (at_builtin; refine print_append_str (w0 := w) w.heap.size rfl (.tmp 9) _ 27 9 5 rfl Tryz.underlying27 Tryz.underlying9 info5 v203 t202 a1 rfl rfl ?aO (bw_ HB.out) (qbz (bw_ HB.out)) (by have := LMc4.out; omega) ?_; (case aO => exact (Kd.own_of_R (kR_ HO204.out))); intro v206 w6 ho0 hb hg; have ho := Kd.R_of_own (h1 := fun _ => rfl) (ok := fun _ => True) ho0 (fun _ _ => trivial); clear ho0; have hat := True.intro; rw [← Ny205.out] at ho; change Kd.R (Kd.int .u8) 5 w6 w.heap.size (fun _ => True) v206 y205 at ho; replace HB := Aside0.mk (hb); have HO207 := Aside0.mk (ho); clear HO204 ho hb hg hat))
 go_ret
 exact ⟨_, fr_, by (with_reducible repeat (first | apply Kd.R_alloc | apply Kd.R_drewN | apply Kd.R_drew)); exact HO207.out, bw_ HB.out⟩

/-! ### order_word: function 69 -/
def order_word.l0 : Nat → List Int → Int → Int → Option (List Int)
 | 0, _, _, _ => none
 | k + 1, x0, x1, x5 => if x5 ≥ 0 then (if 0 ≤ (IntKind.u64.wrap (x5)) then (if x0.length < 140737488355328 then (order_word.l0 k (x0 ++ [(shr .u64 x1 (IntKind.u64.wrap (x5))) % 256]) x1 (wrap64 (x5 - 8))) else (none)) else (none)) else (some x0)
def order_word.f (k : Nat) (l0 : List Int) (a1 : Int) : Option (List Int) := order_word.l0 k l0 a1 56
theorem order_word.mono_l : ∀ k, (∀ y0 y1 y2, LeO (order_word.l0 k y0 y1 y2) (order_word.l0 (k + 1) y0 y1 y2))
 | 0 => fun _ _ _ r h => by simp [order_word.l0] at h
 | k + 1 => by
  have ih0 := order_word.mono_l k
  ·intro y0 y1 y2
   unfold order_word.l0
   repeat' first
   | (with_reducible exact ih0 _ _ _)
   | (with_reducible exact LeO.refl _)
   | (with_reducible exact LeO.none _)
   | (with_reducible refine LeO.ite ?_ ?_)
   | (with_reducible refine LeO.bind ?_ (fun _ => ?_))
   | exact ih0 _ _ _
   | exact LeO.none _
   | refine LeO.ite ?_ ?_
   | refine LeO.bind ?_ (fun _ => ?_)
theorem order_word.mono : ∀ a0 a1 k, LeO (order_word.f k a0 a1) (order_word.f (k + 1) a0 a1) := by
 intro a0 a1 k
 have ih0 := order_word.mono_l k
 unfold order_word.f
 repeat' first
   | (with_reducible exact ih0 _ _ _)
   | (with_reducible exact LeO.refl _)
   | (with_reducible exact LeO.none _)
   | (with_reducible refine LeO.ite ?_ ?_)
   | (with_reducible refine LeO.bind ?_ (fun _ => ?_))
   | exact ih0 _ _ _
   | exact LeO.none _
   | refine LeO.ite ?_ ?_
   | refine LeO.bind ?_ (fun _ => ?_)
set_option maxHeartbeats 8000000 in
set_option maxRecDepth 100000 in
theorem order_word.calls (k : Nat) (P0_ : Nat → Prop) (u9000_ : Value) (l0 : List Int) (a1 : Int) (r : List Int) (w0 w : World) (hB : Below w0.heap.size w0 w) (ho0 : Kd.R (Kd.int .u8) 5 w w0.heap.size P0_ u9000_ l0) (h : order_word.f k l0 a1 = some r) :
  Calls Tryz.prog 69 #[u9000_, .int .u64 a1] w fun e w' => ∃ v0_ : Value, e = .returned (v0_) ∧ Kd.R (Kd.int .u8) 5 w' w0.heap.size (fun k_ => (P0_ k_ ∨ w.heap.size ≤ k_)) v0_ r ∧ Below w0.heap.size w0 w' ∧ Kept w w' (fun k_ => P0_ k_) := by
 have HO0 := Aside0.mk (show Kd.R (Kd.int .u8) 5 w w0.heap.size (fun k_ => (P0_ k_ ∨ w.heap.size ≤ k_)) u9000_ l0 from Kd.R_mono ho0 (fun k_ hk => (.inl hk)))
 have HK := Aside0.mk (Kept.refl w (fun k_ => P0_ k_))
 have HW0 := Aside0.mk hB.size
 have HB := Aside0.mk hB
 clear hB
 have H : (order_word.l0 k l0 a1 56) = some r := h
 clear h
 have H' := Aside0.mk H
 clear H
 go_enter Tryz.func69, Tryz.ntmps69
 go_wp2
 go_loopg [0, 5] k (fun kq v0 v5 w' => ∃ (x0_1 : List Int) (x5_1 : Int), v5 = .int .i64 x5_1 ∧ Aside0 (order_word.l0 kq x0_1 a1 x5_1 = some r) ∧ Aside0 (kq ≤ k) ∧ Aside0 (Kd.R (Kd.int .u8) 5 w' w0.heap.size (fun k_ => (P0_ k_ ∨ w.heap.size ≤ k_)) v0 x0_1) ∧ Aside0 (Kept w w' (fun k_ => P0_ k_)) ∧ Aside0 (Below w0.heap.size w0 w'))
 case atStart => exact ⟨(l0), (56), fe_, H', ⟨Nat.le_refl _⟩, ⟨by (with_reducible repeat (first | apply Kd.R_alloc | apply Kd.R_drewN | apply Kd.R_drew)); exact HO0.out⟩, ⟨by repeat (first | (with_reducible first | exact HK.out | apply Kept.alloc | apply Kept.drewN | apply Kept.drew) | exact HK.out)⟩, ⟨bw_ HB.out⟩⟩
 case round =>
  clear H'
  obtain ⟨x0_1, x5_1, rfl, HA, HK1, HO_0, HK, HB⟩ := hrel
  cases gk with
  | zero => exact absurd HA.out (by simp [order_word.l0])
  | succ k1 =>
   have H := HA.out
   clear HA
   simp only [order_word.l0] at H
   by_cases c3 : x5_1 ≥ 0
   ·rw [if_pos c3] at H
    have c3b0 : decide (0 ≤ x5_1) = true := decide_eq_true c3
    clear c3
    obtain ⟨ji4, hji4⟩ : ∃ j_ : Int, (IntKind.u64.wrap (x5_1)) = j_ := ⟨_, rfl⟩
    replace H : (if 0 ≤ (ji4) then (if x0_1.length < 140737488355328 then (order_word.l0 k1 (x0_1 ++ [(shr .u64 a1 (ji4)) % 256]) a1 (wrap64 (x5_1 - 8))) else (none)) else (none)) = some r := by first | (rw [hji4] at H; exact H) | (simp only [hji4] at H ⊢; exact H)
    have c5 : 0 ≤ (ji4) := Classical.byContradiction fun c5 => by rw [if_neg c5] at H; exact absurd H (by simp)
    rw [if_pos c5] at H
    have c5b0 := eq_true c5
    have c5b1 : decide (0 ≤ (ji4)) = true := decide_eq_true c5
    clear c5
    obtain ⟨ji6, hji6⟩ : ∃ j_ : Int, (shr .u64 a1 (ji4)) = j_ := ⟨_, rfl⟩
    replace H : (if x0_1.length < 140737488355328 then (order_word.l0 k1 (x0_1 ++ [(ji6) % 256]) a1 (wrap64 (x5_1 - 8))) else (none)) = some r := by first | (rw [hji6] at H; exact H) | (simp only [hji6] at H ⊢; exact H)
    have hji6_ : (a1 / 2 ^ min (ji4).toNat 64) = ji6 := hji6
    have hji6z : (ji4) ≤ 64 → (a1 / 2 ^ (ji4).toNat) = ji6 := shr_small hji6
    have c7 : x0_1.length < 140737488355328 := Classical.byContradiction fun c7 => by rw [if_neg c7] at H; exact absurd H (by simp)
    rw [if_pos c7] at H
    have LMc7 := Aside0.mk c7
    clear c7
    first | (revert H; with_reducible refine nm_ fun y208 hy208 H => ?_) | (generalize hy208 : (x0_1 ++ [(ji6) % 256] : List Int) = y208 at H; replace hy208 := hy208.symm)
    have Ny208 := Aside0.mk hy208; clear hy208
    have H' := Aside0.mk H
    clear H
    go_wp2_with (first | ((with_reducible refine gate_builtin (b := .append) (xs := #[.tmp 10, .tmp 16]) rfl ?_); at_builtin; refine Kd.R_append (Kd.int .u8) (w0 := w0) w0.heap.size rfl (.tmp 10) (.tmp 16) 27 5 (.int .u8 0) 1 rfl Tryz.underlying27 info5 rfl (by decide) (by omega) u0 x0_1 ((ji6) % 256) [.int .u8 ((ji6) % 256)] (fun k_ => (P0_ k_ ∨ w.heap.size ≤ k_)) (fun _ => False) rfl rfl ?aP (fun _ hk => hk.elim) ?aF ?aO (bw_ HB.out) (qbz (bw_ HB.out)) (by have := LMc7.out; omega) ?_; (case aP => exact rfl); (case aF => exact (fun k_ hk => (.inr (Nat.le_trans (by first | exact HK.out.1 | exact (show Kept w _ (fun k_ => P0_ k_) from by repeat (first | (with_reducible first | exact HK.out | apply Kept.alloc | apply Kept.drewN | apply Kept.drew) | exact HK.out)).1) hk)))); (case aO => exact (kR_ HO_0.out)); intro v209 w8 ho hb hg hat; rw [← Ny208.out] at ho; replace HB := Aside0.mk (hb); replace HK := Aside0.mk (Kept.of_grown (S := (fun k_ => P0_ k_)) hg (by repeat (first | (with_reducible first | exact HK.out | apply Kept.alloc | apply Kept.drewN | apply Kept.drew) | exact HK.out)) (fun k_ e_ => (HO_0.out.1 k_ e_))); have HO210 := Aside0.mk (ho); clear HO_0 ho hb hg hat))
    go_roundg k1
    case measure => have := HK1.out; omega
    case rel => exact ⟨(y208), (wrap64 (x5_1 - 8)), fe_, H', ⟨by have := HK1.out; omega⟩, ⟨by (with_reducible repeat (first | apply Kd.R_alloc | apply Kd.R_drewN | apply Kd.R_drew)); exact HO210.out⟩, ⟨by repeat (first | (with_reducible first | exact HK.out | apply Kept.alloc | apply Kept.drewN | apply Kept.drew) | exact HK.out)⟩, ⟨bw_ HB.out⟩⟩
   rw [if_neg c3] at H
   have c3b0 : decide (0 ≤ x5_1) = false := decide_eq_false c3
   clear c3
   obtain rfl := Option.some.inj H
   go_wp2
   go_ret
   exact ⟨_, fr_, by (with_reducible repeat (first | apply Kd.R_alloc | apply Kd.R_drewN | apply Kd.R_drew)); exact HO_0.out, bw_ HB.out, by repeat (first | (with_reducible first | exact HK.out | apply Kept.alloc | apply Kept.drewN | apply Kept.drew) | exact HK.out)⟩

/-! ### order_Encode: function 42 -/
mutual
def order_Encode.l0 : Nat → List (S63) → List (S63) → Int → Int → Option (ByteArray × Option Int)
 | 0, _, _, _, _ => none
 | k + 1, x0, x11, x12, x13 => if x13 < x12 then (if 0 ≤ x13 then (if x13 < (x11.length : Int) then ((value_Valid.f k ((rd_T63 x11 x13).f0) ((rd_T63 x11 x13).f1) ((rd_T63 x11 x13).f2) ((rd_T63 x11 x13).f3)).bind fun t213 => (if t213.isNone = true then (order_Encode.l0 k x0 x11 x12 (wrap64 (x13 + 1))) else (some ((⟨#[]⟩ : ByteArray), some (t213.getD 0))))) else (none)) else (none)) else (if (x0.length : Int) > 16 then (some ((⟨#[]⟩ : ByteArray), some 2)) else (order_Encode.l1 k ([] : List Int) x0 (x0.length : Int) 0))
def order_Encode.l1 : Nat → List Int → List (S63) → Int → Int → Option (ByteArray × Option Int)
 | 0, _, _, _, _ => none
 | k + 1, x7, x27, x28, x29 => if x29 < x28 then (if 0 ≤ x29 then (if x29 < (x27.length : Int) then (if x7.length < 140737488355328 then ((some (x7 ++ [(((rd_T63 x27 x29).f0) + 1) % 256] : List Int)).bind fun y217 => (if ((rd_T63 x27 x29).f0) = 1 then ((order_word.f k y217 (Go.bits .xor .u64 (IntKind.u64.wrap ((rd_T63 x27 x29).f1)) 9223372036854775808)).bind fun t220 => (order_Encode.l1 k t220 x27 x28 (wrap64 (x29 + 1)))) else (if ((rd_T63 x27 x29).f0) = 2 then (if y217.length + ((rd_T63 x27 x29).f2).size < 140737488355328 then ((some (y217 ++ bytesOf ((rd_T63 x27 x29).f2) : List Int)).bind fun y223 => (if y223.length < 140737488355328 then (order_Encode.l1 k (y223 ++ [0]) x27 x28 (wrap64 (x29 + 1))) else (none))) else (none)) else (if ((rd_T63 x27 x29).f0) = 3 then (if (rd_T63 x27 x29).f3 = true then (if y217.length < 140737488355328 then (order_Encode.l1 k (y217 ++ [1]) x27 x28 (wrap64 (x29 + 1))) else (none)) else (if y217.length < 140737488355328 then (order_Encode.l1 k (y217 ++ [0]) x27 x28 (wrap64 (x29 + 1))) else (none))) else (order_Encode.l1 k y217 x27 x28 (wrap64 (x29 + 1))))))) else (none)) else (none)) else (none)) else (some (strOfNums x7, none))
end
def order_Encode.f (k : Nat) (l0 : List (S63)) : Option (ByteArray × Option Int) := order_Encode.l0 k l0 l0 (l0.length : Int) 0
theorem order_Encode.mono_l : ∀ k, (∀ y0 y1 y2 y3, LeO (order_Encode.l0 k y0 y1 y2 y3) (order_Encode.l0 (k + 1) y0 y1 y2 y3)) ∧ (∀ y0 y1 y2 y3, LeO (order_Encode.l1 k y0 y1 y2 y3) (order_Encode.l1 (k + 1) y0 y1 y2 y3))
 | 0 => ⟨fun _ _ _ _ r h => by simp [order_Encode.l0] at h, fun _ _ _ _ r h => by simp [order_Encode.l1] at h⟩
 | k + 1 => by
  obtain ⟨ih0, ih1⟩ := order_Encode.mono_l k
  refine ⟨?_, ?_⟩
  ·intro y0 y1 y2 y3
   unfold order_Encode.l0
   repeat' first
   | (with_reducible exact ih0 _ _ _ _)
   | (with_reducible exact ih1 _ _ _ _)
   | (with_reducible exact order_word.mono _ _ _)
   | (with_reducible exact value_Valid.mono _ _ _ _ _)
   | (with_reducible exact LeO.refl _)
   | (with_reducible exact LeO.none _)
   | (with_reducible refine LeO.ite ?_ ?_)
   | (with_reducible refine LeO.bind ?_ (fun _ => ?_))
   | exact ih0 _ _ _ _
   | exact ih1 _ _ _ _
   | exact order_word.mono _ _ _
   | exact value_Valid.mono _ _ _ _ _
   | exact LeO.none _
   | refine LeO.ite ?_ ?_
   | refine LeO.bind ?_ (fun _ => ?_)
  intro y0 y1 y2 y3
  unfold order_Encode.l1
  repeat' first
  | (with_reducible exact ih0 _ _ _ _)
  | (with_reducible exact ih1 _ _ _ _)
  | (with_reducible exact order_word.mono _ _ _)
  | (with_reducible exact value_Valid.mono _ _ _ _ _)
  | (with_reducible exact LeO.refl _)
  | (with_reducible exact LeO.none _)
  | (with_reducible refine LeO.ite ?_ ?_)
  | (with_reducible refine LeO.bind ?_ (fun _ => ?_))
  | exact ih0 _ _ _ _
  | exact ih1 _ _ _ _
  | exact order_word.mono _ _ _
  | exact value_Valid.mono _ _ _ _ _
  | exact LeO.none _
  | refine LeO.ite ?_ ?_
  | refine LeO.bind ?_ (fun _ => ?_)
theorem order_Encode.mono : ∀ a0 k, LeO (order_Encode.f k a0) (order_Encode.f (k + 1) a0) := by
 intro a0 k
 obtain ⟨ih0, ih1⟩ := order_Encode.mono_l k
 unfold order_Encode.f
 repeat' first
   | (with_reducible exact ih0 _ _ _ _)
   | (with_reducible exact ih1 _ _ _ _)
   | (with_reducible exact order_word.mono _ _ _)
   | (with_reducible exact value_Valid.mono _ _ _ _ _)
   | (with_reducible exact LeO.refl _)
   | (with_reducible exact LeO.none _)
   | (with_reducible refine LeO.ite ?_ ?_)
   | (with_reducible refine LeO.bind ?_ (fun _ => ?_))
   | exact ih0 _ _ _ _
   | exact ih1 _ _ _ _
   | exact order_word.mono _ _ _
   | exact value_Valid.mono _ _ _ _ _
   | exact LeO.none _
   | refine LeO.ite ?_ ?_
   | refine LeO.bind ?_ (fun _ => ?_)
set_option maxHeartbeats 8000000 in
set_option maxRecDepth 100000 in
theorem order_Encode.calls (k : Nat) (A0 : Option Addr) (c0 : Nat) (l0 : List (S63)) (r1 : ByteArray) (r2 : Option Int) (w : World) (hr0 : Kd.C k63 w A0 l0.length l0) (hc0 : l0.length ≤ c0) (h : order_Encode.f k l0 = some (r1, r2)) :
  Calls Tryz.prog 42 #[.slice A0 l0.length c0] w fun e w' => e = .returned (.tuple #[.string r1, errW r2]) ∧ Below w.heap.size w w' := by
 have hu63 := Tryz.underlying63
 have hu32 := Tryz.underlying32
 have hu65 := Tryz.underlying65
 have HR0 := Aside0.mk hr0
 have HC0 := Aside0.mk hc0
 clear hr0 hc0
 have HB := Aside0.mk (Below.refl w.heap.size w)
 have H : (order_Encode.l0 k l0 l0 (l0.length : Int) 0) = some (r1, r2) := h
 clear h
 have H' := Aside0.mk H
 clear H
 go_enter Tryz.func42, Tryz.ntmps42
 go_wp2
 go_loopg [13] k (fun kq v13 w' => ∃ (x13_1 : Int), v13 = .int .i64 x13_1 ∧ Aside0 (order_Encode.l0 kq l0 l0 (l0.length : Int) x13_1 = some (r1, r2)) ∧ Aside0 (kq ≤ k) ∧ Aside0 (Below w.heap.size w w'))
 case atStart => exact ⟨(0), fe_, H', ⟨Nat.le_refl _⟩, ⟨bw_ HB.out⟩⟩
 case round =>
  clear H'
  obtain ⟨x13_1, rfl, HA, HK1, HB⟩ := hrel
  cases gk with
  | zero => exact absurd HA.out (by simp [order_Encode.l0])
  | succ k1 =>
   have H := HA.out
   clear HA
   simp only [order_Encode.l0] at H
   by_cases c2 : x13_1 < (l0.length : Int)
   ·rw [if_pos c2] at H
    have c2b0 := dcT c2
    clear c2
    have c3 : 0 ≤ x13_1 := Classical.byContradiction fun c3 => by rw [if_neg c3] at H; exact absurd H (by simp)
    rw [if_pos c3] at H
    have c3b0 := dcT c3
    clear c3
    have c4 : x13_1 < (l0.length : Int) := Classical.byContradiction fun c4 => by rw [if_neg c4] at H; exact absurd H (by simp)
    rw [if_pos c4] at H
    have c4b0 := dcT c4
    clear c4
    obtain ⟨t213, A5, H⟩ := bn_ H; (try dsimp only at H)
    rcases t213 with _ | q214
    ·have H1 : (order_Encode.l0 k1 l0 l0 (l0.length : Int) (wrap64 (x13_1 + 1))) = some (r1, r2) := by rw [if_pos (show (none : Option Int).isNone = true by rfl)] at H; exact H
     clear H
     have H := H1
     clear H1
     try simp only [errW_none, errW_some]
     have H' := Aside0.mk H
     clear H
     have p211 : 0 ≤ (x13_1 : Int) := ode_
     have q211 : x13_1 < (l0.length : Int) := ode_
     obtain ⟨ad211, e211, hx211_0, hx211_1, hx211_2, hx211_3⟩ := at_T63 HR0.out x13_1 p211 q211
     cases e211
     replace hx211_0 := hc_ HB hx211_0
     replace hx211_1 := hc_ HB hx211_1
     replace hx211_2 := hc_ HB hx211_2
     replace hx211_3 := hc_ HB hx211_3
     replace p211 := eq_true p211
     replace q211 := eq_true q211
     go_wp2_with (first | ((with_reducible refine qgd (N := 5) rfl ?_); refine qB_ 5 #[.int .i64 0, .int .i64 0, .string (⟨#[]⟩ : ByteArray), .bool false] 63 ?_; intro gb212 hg w6 hbox hb; have BK212 := Aside0.mk (hbox); have GW212 := gE_ hg HB; have GE212 := gE_ hg HB; replace HB := bS_ HB hb; clear hb hbox hg; obtain ⟨hcz7_0, hcz7_1, hcz7_2, hcz7_3, hfz7_0, hfz7_1, hfz7_2, hfz7_3⟩ := zf4_ BK212) | ((with_reducible refine qgc (f := 68) rfl ?_); refine gL_ (some 18) Tryz.func68 #[.agg #[.int .i64 ((rd_T63 l0 x13_1).f0), .int .i64 ((rd_T63 l0 x13_1).f1), .string ((rd_T63 l0 x13_1).f2), .bool ((rd_T63 l0 x13_1).f3)]] ?_; (with_reducible refine (value_Valid.calls k1 ((rd_T63 l0 x13_1).f0) ((rd_T63 l0 x13_1).f1) ((rd_T63 l0 x13_1).f2) ((rd_T63 l0 x13_1).f3) none _ A5.out).mono ?_); rintro e w8 ⟨rfl, hb⟩; refine ⟨_, rfl, ?_⟩; replace BK212 := Aside0.mk (qkb (g := gb212) (o := .cells #[.int .i64 ((rd_T63 l0 x13_1).f0), .int .i64 ((rd_T63 l0 x13_1).f1), .string ((rd_T63 l0 x13_1).f2), .bool ((rd_T63 l0 x13_1).f3)] 63 (0, 0)) (bp_ BK212) hb); replace HB := bS_ HB hb; clear hb; (try simp only [errW_none, errW_some])))
     go_roundg k1
     case measure => have := HK1.out; omega
     case rel => exact ⟨(wrap64 (x13_1 + 1)), fe_, H', ⟨by have := HK1.out; omega⟩, ⟨bw_ HB.out⟩⟩
    have H1 : (some ((⟨#[]⟩ : ByteArray), some q214)) = some (r1, r2) := by rw [if_neg (show ¬ (some q214).isNone = true by simp)] at H; exact H
    clear H
    have H := H1
    clear H1
    try simp only [errW_none, errW_some]
    obtain ⟨rfl, rfl⟩ := so2 H
    have p211 : 0 ≤ (x13_1 : Int) := ode_
    have q211 : x13_1 < (l0.length : Int) := ode_
    obtain ⟨ad211, e211, hx211_0, hx211_1, hx211_2, hx211_3⟩ := at_T63 HR0.out x13_1 p211 q211
    cases e211
    replace hx211_0 := hc_ HB hx211_0
    replace hx211_1 := hc_ HB hx211_1
    replace hx211_2 := hc_ HB hx211_2
    replace hx211_3 := hc_ HB hx211_3
    replace p211 := eq_true p211
    replace q211 := eq_true q211
    go_wp2_with (first | ((with_reducible refine qgd (N := 5) rfl ?_); refine qB_ 5 #[.int .i64 0, .int .i64 0, .string (⟨#[]⟩ : ByteArray), .bool false] 63 ?_; intro gb212 hg w9 hbox hb; have BK212 := Aside0.mk (hbox); have GW212 := gE_ hg HB; have GE212 := gE_ hg HB; replace HB := bS_ HB hb; clear hb hbox hg; obtain ⟨hcz10_0, hcz10_1, hcz10_2, hcz10_3, hfz10_0, hfz10_1, hfz10_2, hfz10_3⟩ := zf4_ BK212) | ((with_reducible refine qgc (f := 68) rfl ?_); refine gL_ (some 18) Tryz.func68 #[.agg #[.int .i64 ((rd_T63 l0 x13_1).f0), .int .i64 ((rd_T63 l0 x13_1).f1), .string ((rd_T63 l0 x13_1).f2), .bool ((rd_T63 l0 x13_1).f3)]] ?_; (with_reducible refine (value_Valid.calls k1 ((rd_T63 l0 x13_1).f0) ((rd_T63 l0 x13_1).f1) ((rd_T63 l0 x13_1).f2) ((rd_T63 l0 x13_1).f3) (some q214) _ A5.out).mono ?_); rintro e w11 ⟨rfl, hb⟩; refine ⟨_, rfl, ?_⟩; replace BK212 := Aside0.mk (qkb (g := gb212) (o := .cells #[.int .i64 ((rd_T63 l0 x13_1).f0), .int .i64 ((rd_T63 l0 x13_1).f1), .string ((rd_T63 l0 x13_1).f2), .bool ((rd_T63 l0 x13_1).f3)] 63 (0, 0)) (bp_ BK212) hb); replace HB := bS_ HB hb; clear hb; (try simp only [errW_none, errW_some])))
    go_ret2
    exact ⟨fr_, bw_ HB.out⟩
   rw [if_neg c2] at H
   have c2b0 := dcF c2
   clear c2
   by_cases c12 : (l0.length : Int) > 16
   ·rw [if_pos c12] at H
    have c12b0 : decide (16 < (l0.length : Int)) = true := decide_eq_true c12
    have c12b1 : decide (16 < l0.length) = true := decide_eq_true (by omega)
    clear c12
    obtain ⟨rfl, rfl⟩ := so2 H
    go_wp2
    go_ret2
    exact ⟨fr_, bw_ HB.out⟩
   rw [if_neg c12] at H
   have c12b0 : decide (16 < (l0.length : Int)) = false := decide_eq_false c12
   have c12b1 : decide (16 < l0.length) = false := decide_eq_false (by omega)
   clear c12
   have H' := Aside0.mk H
   clear H
   go_wp2
   go_loopg [7, 29] k1 (fun kq v7 v29 w' => ∃ (x7_2 : List Int) (x29_2 : Int), v29 = .int .i64 x29_2 ∧ Aside0 (order_Encode.l1 kq x7_2 l0 (l0.length : Int) x29_2 = some (r1, r2)) ∧ Aside0 (kq ≤ k1) ∧ Aside0 (Kd.R (Kd.int .u8) 5 w' w.heap.size (fun _ => True) v7 x7_2) ∧ Aside0 (Below w.heap.size w w'))
   case atStart => exact ⟨(([] : List Int)), (0), fe_, H', ⟨Nat.le_refl _⟩, ⟨by first | exact Kd.R_nil _ _ _ _ _ | exact Kd.N_nil _ _ _ _ _ | exact Kd.V_nil _ _ _ _ _ | exact Kd.Q_nil _ _ _ _ _ | exact Kd.S_nil _ _ _ _ _⟩, ⟨bw_ HB.out⟩⟩
   case round =>
    clear H'
    (try clear c2); (try clear c2b0); (try clear c3); (try clear c3b0); (try clear c4); (try clear c4b0)
    (try clear c12); (try clear c12b0); (try clear c12b1); (try clear hcz10_0); (try clear hcz10_1); (try clear hcz10_2); (try clear hcz10_3); (try clear hcz7_0); (try clear hcz7_1); (try clear hcz7_2); (try clear hcz7_3); (try clear hfz10_0)
    (try clear hfz10_1); (try clear hfz10_2); (try clear hfz10_3); (try clear hfz7_0); (try clear hfz7_1); (try clear hfz7_2); (try clear hfz7_3); (try clear hx211_0); (try clear hx211_1); (try clear hx211_2); (try clear hx211_3); (try clear p211)
    (try clear q211); (try clear q214)
    obtain ⟨x7_2, x29_2, rfl, HA, HK2, HO_7, HB⟩ := hrel
    cases gk with
    | zero => exact absurd HA.out (by simp [order_Encode.l1])
    | succ k2 =>
     have H := HA.out
     clear HA
     simp only [order_Encode.l1] at H
     by_cases c13 : x29_2 < (l0.length : Int)
     ·rw [if_pos c13] at H
      have c13b0 := dcT c13
      clear c13
      have c14 : 0 ≤ x29_2 := Classical.byContradiction fun c14 => by rw [if_neg c14] at H; exact absurd H (by simp)
      rw [if_pos c14] at H
      have c14b0 := dcT c14
      clear c14
      have c15 : x29_2 < (l0.length : Int) := Classical.byContradiction fun c15 => by rw [if_neg c15] at H; exact absurd H (by simp)
      rw [if_pos c15] at H
      have c15b0 := dcT c15
      clear c15
      have c16 : x7_2.length < 140737488355328 := Classical.byContradiction fun c16 => by rw [if_neg c16] at H; exact absurd H (by simp)
      rw [if_pos c16] at H
      have LMc16 := Aside0.mk c16
      clear c16
      first | (revert H; with_reducible refine nm_ fun y217 hy217 H => ?_) | (generalize hy217 : (x7_2 ++ [(((rd_T63 l0 x29_2).f0) + 1) % 256] : List Int) = y217 at H; replace hy217 := hy217.symm)
      have Ny217 := Aside0.mk hy217; clear hy217
      by_cases c17 : ((rd_T63 l0 x29_2).f0) = 1
      ·rw [if_pos c17] at H
       have ⟨c17b0, c17b1⟩ := eqT c17
       clear c17
       obtain ⟨t220, A18, H⟩ := bn_ H; (try dsimp only at H)
       have H' := Aside0.mk H
       clear H
       have p215 : 0 ≤ (x29_2 : Int) := ode_
       have q215 : x29_2 < (l0.length : Int) := ode_
       obtain ⟨ad215, e215, hx215_0, hx215_1, hx215_2, hx215_3⟩ := at_T63 HR0.out x29_2 p215 q215
       cases e215
       replace hx215_0 := hc_ HB hx215_0
       replace hx215_1 := hc_ HB hx215_1
       replace hx215_2 := hc_ HB hx215_2
       replace hx215_3 := hc_ HB hx215_3
       replace p215 := eq_true p215
       replace q215 := eq_true q215
       go_wp2_with (first | ((with_reducible refine qgd (N := 9) rfl ?_); refine qB_ 9 #[.int .i64 0, .int .i64 0, .string (⟨#[]⟩ : ByteArray), .bool false] 63 ?_; intro gb216 hg w19 hbox hb; replace HO_7 := RB_ HO_7 hb; have BK216 := Aside0.mk (hbox); have GW216 := gE_ hg HB; have GE216 := gE_ hg HB; replace HB := bS_ HB hb; clear hb hbox hg; obtain ⟨hcz20_0, hcz20_1, hcz20_2, hcz20_3, hfz20_0, hfz20_1, hfz20_2, hfz20_3⟩ := zf4_ BK216) | ((with_reducible refine gate_builtin (b := .append) (xs := #[.tmp 33, .tmp 38]) rfl ?_); at_builtin; refine Kd.R_append (Kd.int .u8) (w0 := w) w.heap.size rfl (.tmp 33) (.tmp 38) 27 5 (.int .u8 0) 1 rfl Tryz.underlying27 info5 rfl (by decide) (by omega) u7 x7_2 ((((rd_T63 l0 x29_2).f0) + 1) % 256) [.int .u8 ((((rd_T63 l0 x29_2).f0) + 1) % 256)] (fun _ => True) (fun _ => False) rfl (by first | (go_simp; done) | (go_simp; rfl)) ?aP (fun _ hk => hk.elim) (fun _ _ => trivial) ?aO (bw_ HB.out) (qbz (bw_ HB.out)) (by have := LMc16.out; omega) ?_; (case aP => exact rfl); (case aO => exact (by (with_reducible repeat (first | apply Kd.R_alloc | apply Kd.R_drewN | apply Kd.R_drew)); exact Kd.R_mono (Kd.R_far (p := ⟨gb216, 3, none⟩) (Kd.R_far (p := ⟨gb216, 2, none⟩) (Kd.R_far (p := ⟨gb216, 1, none⟩) (Kd.R_far (p := ⟨gb216, 0, none⟩) (Kd.R_types HO_7.out BK216.out (by decide)) (fun _ hk => hk.2) (.int .i64 ((rd_T63 l0 x29_2).f0))) (fun _ hk => hk.2) (.int .i64 ((rd_T63 l0 x29_2).f1))) (fun _ hk => hk.2) (.string ((rd_T63 l0 x29_2).f2))) (fun _ hk => hk.2) (.bool ((rd_T63 l0 x29_2).f3))) (fun _ hk => trivial))); intro v218 w21 ho hb hg hat; rw [← Ny217.out] at ho; replace BK216 := Aside0.mk (blk_grown (g := gb216) (o := .cells #[.int .i64 ((rd_T63 l0 x29_2).f0), .int .i64 ((rd_T63 l0 x29_2).f1), .string ((rd_T63 l0 x29_2).f2), .bool ((rd_T63 l0 x29_2).f3)] 63 (0, 0)) (bp_ BK216) hg (Kd.R_ne HO_7.out BK216.out (by decide))); replace HB := Aside0.mk (hb); have HO219 := Aside0.mk (ho); clear HO_7 ho hb hg hat; obtain ⟨hcz22_0, hcz22_1, hcz22_2, hcz22_3, hfz22_0, hfz22_1, hfz22_2, hfz22_3⟩ := zf4_ BK216; obtain ⟨Ao23, co23, eo23⟩ := Kd.R_slice HO219.out; subst eo23) | ((with_reducible refine qgc (f := 69) rfl ?_); refine gL_ (some 49) Tryz.func69 #[.slice Ao23 y217.length co23, .int .u64 (Go.bits .xor .u64 (IntKind.u64.wrap ((rd_T63 l0 x29_2).f1)) 9223372036854775808)] ?_; (with_reducible refine (order_word.calls k2 (fun k_ => some k_ = (.slice Ao23 y217.length co23 : Value).ownBlock) (.slice Ao23 y217.length co23) y217 (Go.bits .xor .u64 (IntKind.u64.wrap ((rd_T63 l0 x29_2).f1)) 9223372036854775808) t220 w _ ?side1 ?side2 A18.out).mono ?_); (case side1 => repeat (first | (with_reducible first | exact HB.out | apply below_alloc | apply qbN | apply qb1 | refine qbs ?_ GE216.out) | exact HB.out)); (case side2 => exact Kd.R_tight rfl HO219.out); rintro e w24 ⟨v221, rfl, ho0, hb, hkp⟩; refine ⟨_, rfl, ?_⟩; replace BK216 := Aside0.mk (blk_kept (bl_ BK216.out) hkp (fun hs_ => (fun e_ => (Kd.R_ne HO219.out BK216.out (by decide)) e_) hs_)); have HO222 := Aside0.mk (Kd.R_mono (ok' := fun k_ => True) ho0 (fun k_ hk_ => trivial)); replace HB := Aside0.mk (hb); clear HO219 hb; (try clear hkp); (try clear ho0)))
       go_roundg k2
       case measure => have := HK1.out; have := HK2.out; omega
       case rel => exact ⟨(t220), (wrap64 (x29_2 + 1)), fe_, H', ⟨by have := HK1.out; have := HK2.out; omega⟩, ⟨by (with_reducible repeat (first | apply Kd.R_alloc | apply Kd.R_drewN | apply Kd.R_drew)); exact HO222.out⟩, ⟨bw_ HB.out⟩⟩
      rw [if_neg c17] at H
      have ⟨c17b0, c17b1⟩ := eqF c17
      by_cases c25 : ((rd_T63 l0 x29_2).f0) = 2
      ·rw [if_pos c25] at H
       have ⟨c25b0, c25b1⟩ := eqT c25
       clear c25
       have c26 : y217.length + ((rd_T63 l0 x29_2).f2).size < 140737488355328 := Classical.byContradiction fun c26 => by rw [if_neg c26] at H; exact absurd H (by simp)
       rw [if_pos c26] at H
       have LMc26 := Aside0.mk c26
       clear c26
       first | (revert H; with_reducible refine nm_ fun y223 hy223 H => ?_) | (generalize hy223 : (y217 ++ bytesOf ((rd_T63 l0 x29_2).f2) : List Int) = y223 at H; replace hy223 := hy223.symm)
       have Ny223 := Aside0.mk hy223; clear hy223
       have c27 : y223.length < 140737488355328 := Classical.byContradiction fun c27 => by rw [if_neg c27] at H; exact absurd H (by simp)
       rw [if_pos c27] at H
       have LMc27 := Aside0.mk c27
       clear c27
       first | (revert H; with_reducible refine nm_ fun y226 hy226 H => ?_) | (generalize hy226 : (y223 ++ [0] : List Int) = y226 at H; replace hy226 := hy226.symm)
       have Ny226 := Aside0.mk hy226; clear hy226
       have H' := Aside0.mk H
       clear H
       have p215 : 0 ≤ (x29_2 : Int) := ode_
       have q215 : x29_2 < (l0.length : Int) := ode_
       obtain ⟨ad215, e215, hx215_0, hx215_1, hx215_2, hx215_3⟩ := at_T63 HR0.out x29_2 p215 q215
       cases e215
       replace hx215_0 := hc_ HB hx215_0
       replace hx215_1 := hc_ HB hx215_1
       replace hx215_2 := hc_ HB hx215_2
       replace hx215_3 := hc_ HB hx215_3
       replace p215 := eq_true p215
       replace q215 := eq_true q215
       go_wp2_with (first | ((with_reducible refine qgd (N := 9) rfl ?_); refine qB_ 9 #[.int .i64 0, .int .i64 0, .string (⟨#[]⟩ : ByteArray), .bool false] 63 ?_; intro gb216 hg w28 hbox hb; replace HO_7 := RB_ HO_7 hb; have BK216 := Aside0.mk (hbox); have GW216 := gE_ hg HB; have GE216 := gE_ hg HB; replace HB := bS_ HB hb; clear hb hbox hg; obtain ⟨hcz29_0, hcz29_1, hcz29_2, hcz29_3, hfz29_0, hfz29_1, hfz29_2, hfz29_3⟩ := zf4_ BK216) | ((with_reducible refine gate_builtin (b := .append) (xs := #[.tmp 33, .tmp 38]) rfl ?_); at_builtin; refine Kd.R_append (Kd.int .u8) (w0 := w) w.heap.size rfl (.tmp 33) (.tmp 38) 27 5 (.int .u8 0) 1 rfl Tryz.underlying27 info5 rfl (by decide) (by omega) u7 x7_2 ((((rd_T63 l0 x29_2).f0) + 1) % 256) [.int .u8 ((((rd_T63 l0 x29_2).f0) + 1) % 256)] (fun _ => True) (fun _ => False) rfl (by first | (go_simp; done) | (go_simp; rfl)) ?aP (fun _ hk => hk.elim) (fun _ _ => trivial) ?aO (bw_ HB.out) (qbz (bw_ HB.out)) (by have := LMc16.out; omega) ?_; (case aP => exact rfl); (case aO => exact (by (with_reducible repeat (first | apply Kd.R_alloc | apply Kd.R_drewN | apply Kd.R_drew)); exact Kd.R_mono (Kd.R_far (p := ⟨gb216, 3, none⟩) (Kd.R_far (p := ⟨gb216, 2, none⟩) (Kd.R_far (p := ⟨gb216, 1, none⟩) (Kd.R_far (p := ⟨gb216, 0, none⟩) (Kd.R_types HO_7.out BK216.out (by decide)) (fun _ hk => hk.2) (.int .i64 ((rd_T63 l0 x29_2).f0))) (fun _ hk => hk.2) (.int .i64 ((rd_T63 l0 x29_2).f1))) (fun _ hk => hk.2) (.string ((rd_T63 l0 x29_2).f2))) (fun _ hk => hk.2) (.bool ((rd_T63 l0 x29_2).f3))) (fun _ hk => trivial))); intro v218 w30 ho hb hg hat; rw [← Ny217.out] at ho; replace BK216 := Aside0.mk (blk_grown (g := gb216) (o := .cells #[.int .i64 ((rd_T63 l0 x29_2).f0), .int .i64 ((rd_T63 l0 x29_2).f1), .string ((rd_T63 l0 x29_2).f2), .bool ((rd_T63 l0 x29_2).f3)] 63 (0, 0)) (bp_ BK216) hg (Kd.R_ne HO_7.out BK216.out (by decide))); replace HB := Aside0.mk (hb); have HO219 := Aside0.mk (ho); clear HO_7 ho hb hg hat; obtain ⟨hcz31_0, hcz31_1, hcz31_2, hcz31_3, hfz31_0, hfz31_1, hfz31_2, hfz31_3⟩ := zf4_ BK216) | (at_builtin; refine print_append_str (w0 := w) w.heap.size rfl (.tmp 52) _ 27 9 5 rfl Tryz.underlying27 Tryz.underlying9 info5 v218 y217 ((rd_T63 l0 x29_2).f2) rfl rfl ?aO (bw_ HB.out) (qbz (bw_ HB.out)) (by have := LMc26.out; omega) ?_; (case aO => exact (Kd.own_of_R (kR_ HO219.out))); intro v224 w32 ho0 hb hg; have ho := Kd.R_of_own (h1 := fun _ => rfl) (ok := fun _ => True) ho0 (fun _ _ => trivial); clear ho0; have hat := True.intro; rw [← Ny223.out] at ho; change Kd.R (Kd.int .u8) 5 w32 w.heap.size (fun _ => True) v224 y223 at ho; replace BK216 := gR_ BK216 hg (Kd.R_ne HO219.out BK216.out (by decide)); replace HB := Aside0.mk (hb); have HO225 := Aside0.mk (ho); clear HO219 ho hb hg hat) | ((with_reducible refine gate_builtin (b := .append) (xs := #[.tmp 55, .tmp 56]) rfl ?_); at_builtin; refine Kd.R_append (Kd.int .u8) (w0 := w) w.heap.size rfl (.tmp 55) (.tmp 56) 27 5 (.int .u8 0) 1 rfl Tryz.underlying27 info5 rfl (by decide) (by omega) v224 y223 0 [.int .u8 0] (fun _ => True) (fun _ => False) rfl rfl ?aP (fun _ hk => hk.elim) (fun _ _ => trivial) ?aO (bw_ HB.out) (qbz (bw_ HB.out)) (by have := LMc27.out; omega) ?_; (case aP => exact rfl); (case aO => exact (kR_ HO225.out)); intro v227 w33 ho hb hg hat; rw [← Ny226.out] at ho; replace BK216 := gR_ BK216 hg (Kd.R_ne HO225.out BK216.out (by decide)); replace HB := Aside0.mk (hb); have HO228 := Aside0.mk (ho); clear HO225 ho hb hg hat))
       go_roundg k2
       case measure => have := HK1.out; have := HK2.out; omega
       case rel => exact ⟨(y226), (wrap64 (x29_2 + 1)), fe_, H', ⟨by have := HK1.out; have := HK2.out; omega⟩, ⟨by (with_reducible repeat (first | apply Kd.R_alloc | apply Kd.R_drewN | apply Kd.R_drew)); exact HO228.out⟩, ⟨bw_ HB.out⟩⟩
      rw [if_neg c25] at H
      have ⟨c25b0, c25b1⟩ := eqF c25
      by_cases c34 : ((rd_T63 l0 x29_2).f0) = 3
      ·rw [if_pos c34] at H
       have ⟨c34b0, c34b1⟩ := eqT c34
       clear c34
       obtain ⟨bq35, hbq35⟩ : ∃ b_ : Bool, b_ = ((rd_T63 l0 x29_2).f3) := ⟨_, rfl⟩
       replace H : (if bq35 = true then (if y217.length < 140737488355328 then (order_Encode.l1 k2 (y217 ++ [1]) l0 (l0.length : Int) (wrap64 (x29_2 + 1))) else (none)) else (if y217.length < 140737488355328 then (order_Encode.l1 k2 (y217 ++ [0]) l0 (l0.length : Int) (wrap64 (x29_2 + 1))) else (none))) = some (r1, r2) := by rw [← hbq35] at H; exact H
       have Nbq35 := Aside0.mk hbq35
       clear hbq35
       by_cases c36 : bq35 = true
       ·subst c36
        rw [if_pos rfl] at H
        have c37 : y217.length < 140737488355328 := Classical.byContradiction fun c37 => by rw [if_neg c37] at H; exact absurd H (by simp)
        rw [if_pos c37] at H
        have LMc37 := Aside0.mk c37
        clear c37
        first | (revert H; with_reducible refine nm_ fun y229 hy229 H => ?_) | (generalize hy229 : (y217 ++ [1] : List Int) = y229 at H; replace hy229 := hy229.symm)
        have Ny229 := Aside0.mk hy229; clear hy229
        have H' := Aside0.mk H
        clear H
        have p215 : 0 ≤ (x29_2 : Int) := ode_
        have q215 : x29_2 < (l0.length : Int) := ode_
        obtain ⟨ad215, e215, hx215_0, hx215_1, hx215_2, hx215_3⟩ := at_T63 HR0.out x29_2 p215 q215
        (try rw [← Nbq35.out] at hx215_3)
        cases e215
        replace hx215_0 := hc_ HB hx215_0
        replace hx215_1 := hc_ HB hx215_1
        replace hx215_2 := hc_ HB hx215_2
        replace hx215_3 := hc_ HB hx215_3
        replace p215 := eq_true p215
        replace q215 := eq_true q215
        go_wp2_with (first | ((with_reducible refine qgd (N := 9) rfl ?_); refine qB_ 9 #[.int .i64 0, .int .i64 0, .string (⟨#[]⟩ : ByteArray), .bool false] 63 ?_; intro gb216 hg w38 hbox hb; replace HO_7 := RB_ HO_7 hb; have BK216 := Aside0.mk (hbox); have GW216 := gE_ hg HB; have GE216 := gE_ hg HB; replace HB := bS_ HB hb; clear hb hbox hg; obtain ⟨hcz39_0, hcz39_1, hcz39_2, hcz39_3, hfz39_0, hfz39_1, hfz39_2, hfz39_3⟩ := zf4_ BK216) | ((with_reducible refine gate_builtin (b := .append) (xs := #[.tmp 33, .tmp 38]) rfl ?_); at_builtin; refine Kd.R_append (Kd.int .u8) (w0 := w) w.heap.size rfl (.tmp 33) (.tmp 38) 27 5 (.int .u8 0) 1 rfl Tryz.underlying27 info5 rfl (by decide) (by omega) u7 x7_2 ((((rd_T63 l0 x29_2).f0) + 1) % 256) [.int .u8 ((((rd_T63 l0 x29_2).f0) + 1) % 256)] (fun _ => True) (fun _ => False) rfl (by first | (go_simp; done) | (go_simp; rfl)) ?aP (fun _ hk => hk.elim) (fun _ _ => trivial) ?aO (bw_ HB.out) (qbz (bw_ HB.out)) (by have := LMc16.out; omega) ?_; (case aP => exact rfl); (case aO => exact (by (with_reducible repeat (first | apply Kd.R_alloc | apply Kd.R_drewN | apply Kd.R_drew)); exact Kd.R_mono (Kd.R_far (p := ⟨gb216, 3, none⟩) (Kd.R_far (p := ⟨gb216, 2, none⟩) (Kd.R_far (p := ⟨gb216, 1, none⟩) (Kd.R_far (p := ⟨gb216, 0, none⟩) (Kd.R_types HO_7.out BK216.out (by decide)) (fun _ hk => hk.2) (.int .i64 ((rd_T63 l0 x29_2).f0))) (fun _ hk => hk.2) (.int .i64 ((rd_T63 l0 x29_2).f1))) (fun _ hk => hk.2) (.string ((rd_T63 l0 x29_2).f2))) (fun _ hk => hk.2) (.bool true)) (fun _ hk => trivial))); intro v218 w40 ho hb hg hat; rw [← Ny217.out] at ho; replace BK216 := Aside0.mk (blk_grown (g := gb216) (o := .cells #[.int .i64 ((rd_T63 l0 x29_2).f0), .int .i64 ((rd_T63 l0 x29_2).f1), .string ((rd_T63 l0 x29_2).f2), .bool true] 63 (0, 0)) (bp_ BK216) hg (Kd.R_ne HO_7.out BK216.out (by decide))); replace HB := Aside0.mk (hb); have HO219 := Aside0.mk (ho); clear HO_7 ho hb hg hat; obtain ⟨hcz41_0, hcz41_1, hcz41_2, hcz41_3, hfz41_0, hfz41_1, hfz41_2, hfz41_3⟩ := zf4_ BK216) | ((with_reducible refine gate_builtin (b := .append) (xs := #[.tmp 62, .tmp 64]) rfl ?_); at_builtin; refine Kd.R_append (Kd.int .u8) (w0 := w) w.heap.size rfl (.tmp 62) (.tmp 64) 27 5 (.int .u8 0) 1 rfl Tryz.underlying27 info5 rfl (by decide) (by omega) v218 y217 1 [.int .u8 1] (fun _ => True) (fun _ => False) rfl rfl ?aP (fun _ hk => hk.elim) (fun _ _ => trivial) ?aO (bw_ HB.out) (qbz (bw_ HB.out)) (by have := LMc37.out; omega) ?_; (case aP => exact rfl); (case aO => exact (kR_ HO219.out)); intro v230 w42 ho hb hg hat; rw [← Ny229.out] at ho; replace BK216 := gR_ BK216 hg (Kd.R_ne HO219.out BK216.out (by decide)); replace HB := Aside0.mk (hb); have HO231 := Aside0.mk (ho); clear HO219 ho hb hg hat))
        go_roundg k2
        case measure => have := HK1.out; have := HK2.out; omega
        case rel => (try rw [← Nbq35.out]); exact ⟨(y229), (wrap64 (x29_2 + 1)), fe_, H', ⟨by have := HK1.out; have := HK2.out; omega⟩, ⟨by (with_reducible repeat (first | apply Kd.R_alloc | apply Kd.R_drewN | apply Kd.R_drew)); exact HO231.out⟩, ⟨bw_ HB.out⟩⟩
       replace c36 := Bool.eq_false_iff.mpr c36
       subst c36
       rw [if_neg (show ¬ (false = true) by decide)] at H
       have c43 : y217.length < 140737488355328 := Classical.byContradiction fun c43 => by rw [if_neg c43] at H; exact absurd H (by simp)
       rw [if_pos c43] at H
       have LMc43 := Aside0.mk c43
       clear c43
       first | (revert H; with_reducible refine nm_ fun y232 hy232 H => ?_) | (generalize hy232 : (y217 ++ [0] : List Int) = y232 at H; replace hy232 := hy232.symm)
       have Ny232 := Aside0.mk hy232; clear hy232
       have H' := Aside0.mk H
       clear H
       have p215 : 0 ≤ (x29_2 : Int) := ode_
       have q215 : x29_2 < (l0.length : Int) := ode_
       obtain ⟨ad215, e215, hx215_0, hx215_1, hx215_2, hx215_3⟩ := at_T63 HR0.out x29_2 p215 q215
       (try rw [← Nbq35.out] at hx215_3)
       cases e215
       replace hx215_0 := hc_ HB hx215_0
       replace hx215_1 := hc_ HB hx215_1
       replace hx215_2 := hc_ HB hx215_2
       replace hx215_3 := hc_ HB hx215_3
       replace p215 := eq_true p215
       replace q215 := eq_true q215
       go_wp2_with (first | ((with_reducible refine qgd (N := 9) rfl ?_); refine qB_ 9 #[.int .i64 0, .int .i64 0, .string (⟨#[]⟩ : ByteArray), .bool false] 63 ?_; intro gb216 hg w44 hbox hb; replace HO_7 := RB_ HO_7 hb; have BK216 := Aside0.mk (hbox); have GW216 := gE_ hg HB; have GE216 := gE_ hg HB; replace HB := bS_ HB hb; clear hb hbox hg; obtain ⟨hcz45_0, hcz45_1, hcz45_2, hcz45_3, hfz45_0, hfz45_1, hfz45_2, hfz45_3⟩ := zf4_ BK216) | ((with_reducible refine gate_builtin (b := .append) (xs := #[.tmp 33, .tmp 38]) rfl ?_); at_builtin; refine Kd.R_append (Kd.int .u8) (w0 := w) w.heap.size rfl (.tmp 33) (.tmp 38) 27 5 (.int .u8 0) 1 rfl Tryz.underlying27 info5 rfl (by decide) (by omega) u7 x7_2 ((((rd_T63 l0 x29_2).f0) + 1) % 256) [.int .u8 ((((rd_T63 l0 x29_2).f0) + 1) % 256)] (fun _ => True) (fun _ => False) rfl (by first | (go_simp; done) | (go_simp; rfl)) ?aP (fun _ hk => hk.elim) (fun _ _ => trivial) ?aO (bw_ HB.out) (qbz (bw_ HB.out)) (by have := LMc16.out; omega) ?_; (case aP => exact rfl); (case aO => exact (by (with_reducible repeat (first | apply Kd.R_alloc | apply Kd.R_drewN | apply Kd.R_drew)); exact Kd.R_mono (Kd.R_far (p := ⟨gb216, 3, none⟩) (Kd.R_far (p := ⟨gb216, 2, none⟩) (Kd.R_far (p := ⟨gb216, 1, none⟩) (Kd.R_far (p := ⟨gb216, 0, none⟩) (Kd.R_types HO_7.out BK216.out (by decide)) (fun _ hk => hk.2) (.int .i64 ((rd_T63 l0 x29_2).f0))) (fun _ hk => hk.2) (.int .i64 ((rd_T63 l0 x29_2).f1))) (fun _ hk => hk.2) (.string ((rd_T63 l0 x29_2).f2))) (fun _ hk => hk.2) (.bool false)) (fun _ hk => trivial))); intro v218 w46 ho hb hg hat; rw [← Ny217.out] at ho; replace BK216 := Aside0.mk (blk_grown (g := gb216) (o := .cells #[.int .i64 ((rd_T63 l0 x29_2).f0), .int .i64 ((rd_T63 l0 x29_2).f1), .string ((rd_T63 l0 x29_2).f2), .bool false] 63 (0, 0)) (bp_ BK216) hg (Kd.R_ne HO_7.out BK216.out (by decide))); replace HB := Aside0.mk (hb); have HO219 := Aside0.mk (ho); clear HO_7 ho hb hg hat; obtain ⟨hcz47_0, hcz47_1, hcz47_2, hcz47_3, hfz47_0, hfz47_1, hfz47_2, hfz47_3⟩ := zf4_ BK216) | ((with_reducible refine gate_builtin (b := .append) (xs := #[.tmp 62, .tmp 64]) rfl ?_); at_builtin; refine Kd.R_append (Kd.int .u8) (w0 := w) w.heap.size rfl (.tmp 62) (.tmp 64) 27 5 (.int .u8 0) 1 rfl Tryz.underlying27 info5 rfl (by decide) (by omega) v218 y217 0 [.int .u8 0] (fun _ => True) (fun _ => False) rfl rfl ?aP (fun _ hk => hk.elim) (fun _ _ => trivial) ?aO (bw_ HB.out) (qbz (bw_ HB.out)) (by have := LMc43.out; omega) ?_; (case aP => exact rfl); (case aO => exact (kR_ HO219.out)); intro v233 w48 ho hb hg hat; rw [← Ny232.out] at ho; replace BK216 := gR_ BK216 hg (Kd.R_ne HO219.out BK216.out (by decide)); replace HB := Aside0.mk (hb); have HO234 := Aside0.mk (ho); clear HO219 ho hb hg hat))
       go_roundg k2
       case measure => have := HK1.out; have := HK2.out; omega
       case rel => (try rw [← Nbq35.out]); exact ⟨(y232), (wrap64 (x29_2 + 1)), fe_, H', ⟨by have := HK1.out; have := HK2.out; omega⟩, ⟨by (with_reducible repeat (first | apply Kd.R_alloc | apply Kd.R_drewN | apply Kd.R_drew)); exact HO234.out⟩, ⟨bw_ HB.out⟩⟩
      rw [if_neg c34] at H
      have ⟨c34b0, c34b1⟩ := eqF c34
      have H' := Aside0.mk H
      clear H
      have p215 : 0 ≤ (x29_2 : Int) := ode_
      have q215 : x29_2 < (l0.length : Int) := ode_
      obtain ⟨ad215, e215, hx215_0, hx215_1, hx215_2, hx215_3⟩ := at_T63 HR0.out x29_2 p215 q215
      cases e215
      replace hx215_0 := hc_ HB hx215_0
      replace hx215_1 := hc_ HB hx215_1
      replace hx215_2 := hc_ HB hx215_2
      replace hx215_3 := hc_ HB hx215_3
      replace p215 := eq_true p215
      replace q215 := eq_true q215
      go_wp2_with (first | ((with_reducible refine qgd (N := 9) rfl ?_); refine qB_ 9 #[.int .i64 0, .int .i64 0, .string (⟨#[]⟩ : ByteArray), .bool false] 63 ?_; intro gb216 hg w49 hbox hb; replace HO_7 := RB_ HO_7 hb; have BK216 := Aside0.mk (hbox); have GW216 := gE_ hg HB; have GE216 := gE_ hg HB; replace HB := bS_ HB hb; clear hb hbox hg; obtain ⟨hcz50_0, hcz50_1, hcz50_2, hcz50_3, hfz50_0, hfz50_1, hfz50_2, hfz50_3⟩ := zf4_ BK216) | ((with_reducible refine gate_builtin (b := .append) (xs := #[.tmp 33, .tmp 38]) rfl ?_); at_builtin; refine Kd.R_append (Kd.int .u8) (w0 := w) w.heap.size rfl (.tmp 33) (.tmp 38) 27 5 (.int .u8 0) 1 rfl Tryz.underlying27 info5 rfl (by decide) (by omega) u7 x7_2 ((((rd_T63 l0 x29_2).f0) + 1) % 256) [.int .u8 ((((rd_T63 l0 x29_2).f0) + 1) % 256)] (fun _ => True) (fun _ => False) rfl (by first | (go_simp; done) | (go_simp; rfl)) ?aP (fun _ hk => hk.elim) (fun _ _ => trivial) ?aO (bw_ HB.out) (qbz (bw_ HB.out)) (by have := LMc16.out; omega) ?_; (case aP => exact rfl); (case aO => exact (by (with_reducible repeat (first | apply Kd.R_alloc | apply Kd.R_drewN | apply Kd.R_drew)); exact Kd.R_mono (Kd.R_far (p := ⟨gb216, 3, none⟩) (Kd.R_far (p := ⟨gb216, 2, none⟩) (Kd.R_far (p := ⟨gb216, 1, none⟩) (Kd.R_far (p := ⟨gb216, 0, none⟩) (Kd.R_types HO_7.out BK216.out (by decide)) (fun _ hk => hk.2) (.int .i64 ((rd_T63 l0 x29_2).f0))) (fun _ hk => hk.2) (.int .i64 ((rd_T63 l0 x29_2).f1))) (fun _ hk => hk.2) (.string ((rd_T63 l0 x29_2).f2))) (fun _ hk => hk.2) (.bool ((rd_T63 l0 x29_2).f3))) (fun _ hk => trivial))); intro v218 w51 ho hb hg hat; rw [← Ny217.out] at ho; replace BK216 := Aside0.mk (blk_grown (g := gb216) (o := .cells #[.int .i64 ((rd_T63 l0 x29_2).f0), .int .i64 ((rd_T63 l0 x29_2).f1), .string ((rd_T63 l0 x29_2).f2), .bool ((rd_T63 l0 x29_2).f3)] 63 (0, 0)) (bp_ BK216) hg (Kd.R_ne HO_7.out BK216.out (by decide))); replace HB := Aside0.mk (hb); have HO219 := Aside0.mk (ho); clear HO_7 ho hb hg hat; obtain ⟨hcz52_0, hcz52_1, hcz52_2, hcz52_3, hfz52_0, hfz52_1, hfz52_2, hfz52_3⟩ := zf4_ BK216))
      go_roundg k2
      case measure => have := HK1.out; have := HK2.out; omega
      case rel => exact ⟨(y217), (wrap64 (x29_2 + 1)), fe_, H', ⟨by have := HK1.out; have := HK2.out; omega⟩, ⟨by (with_reducible repeat (first | apply Kd.R_alloc | apply Kd.R_drewN | apply Kd.R_drew)); exact HO219.out⟩, ⟨bw_ HB.out⟩⟩
     rw [if_neg c13] at H
     have c13b0 := dcF c13
     clear c13
     obtain ⟨rfl, rfl⟩ := so2 H
     have hcv53 := own_string (P := Tryz.prog) Tryz.underlying27 Tryz.underlying5 Tryz.underlying9 (Kd.own_of_R HO_7.out)
     go_wp2
     go_ret2
     exact ⟨fr_, bw_ HB.out⟩

end Go.Proofs.YtddkbhglbkfelaaGreatDoor.T
