import Derived.Test.YtddkbhglbkfelaaGreatDoorPkTx0
import Derived.Test.YtddkbhglbkfelaaGreatDoorPkTx2
import Derived.Test.YtddkbhglbkfelaaGreatDoorPkTx4
import Derived.Test.YtddkbhglbkfelaaGreatDoorPkTx7
namespace Go.Proofs.YtddkbhglbkfelaaGreatDoor.T
open Go.RowKit Go.Proofs.YtddkbhglbkfelaaGreatDoorW.PrintWords Go.Proofs.YtddkbhglbkfelaaGreatDoorW.PrintLast Go.Proofs.YtddkbhglbkfelaaGreatDoorW.PrintMore Go.Proofs.YtddkbhglbkfelaaGreatDoorX
attribute [local go_sem] max2_int min2_int max_two min_two max_three min_three max_four min_four
set_option linter.unusedVariables false
set_option linter.unusedSimpArgs false

/-! ### EXT store_DecodeEntry: function 15 -/
/-- Nothing has changed but one block; what is new lies behind. -/
structure On (g : Nat) (w w' : World) : Prop where
 os : w'.os = w.os
 tape : w'.tape = w.tape
 output : w'.output = w.output
 size : w.heap.size ≤ w'.heap.size
 block : ∀ k, k < w.heap.size → k ≠ g → w'.heap[k]? = w.heap[k]?
theorem On.refl (g : Nat) (w : World) : On g w w := ⟨rfl, rfl, rfl, Nat.le_refl _, fun _ _ _ => rfl⟩
theorem On.trans {g : Nat} {a b c : World} (h : On g a b) (k : On g b c) : On g a c :=
 ⟨k.os.trans h.os, k.tape.trans h.tape, k.output.trans h.output, Nat.le_trans h.size k.size, fun i hi hg => (k.block i (Nat.lt_of_lt_of_le hi h.size) hg).trans (h.block i hi hg)⟩
theorem On.of_below {g : Nat} {a b : World} (h : Below a.heap.size a b) : On g a b := ⟨h.os, h.tape, h.output, h.size, fun i hi _ => h.block i hi⟩
theorem set_size (w : World) (p : Addr) (u : Value) : (w.setCell p u).heap.size = w.heap.size := by
 unfold World.setCell
 repeat' split
 all_goals first | rfl | simp
theorem On.set {g : Nat} {a b : World} (h : On g a b) (j : Nat) (u : Value) : On g a (b.setCell ⟨g, j, none⟩ u) := by
 have hb : Below 0 b (b.setCell ⟨g, j, none⟩ u) := Below.setCell (Below.refl 0 b) (Nat.zero_le _) u
 exact ⟨hb.os.trans h.os, hb.tape.trans h.tape, hb.output.trans h.output, Nat.le_trans h.size hb.size, fun i hi hg => (Below.heap_setCell b ⟨g, j, none⟩ u i hg).trans (h.block i hi hg)⟩
theorem On.drewN {g : Nat} {a b : World} (h : On g a b) (n : Nat) : On g a (b.drewN n) := ⟨h.os, h.tape, h.output, h.size, h.block⟩
theorem On.below {g n : Nat} {w0 a b : World} (h : On g a b) (k : Below n w0 a) (hg : n ≤ g) (hn : n ≤ w0.heap.size) : Below n w0 b :=
 ⟨h.os.trans k.os, h.tape.trans k.tape, h.output.trans k.output, Nat.le_trans k.size h.size, fun i hi => (h.block i (by have := k.size; omega) (by omega)).trans (k.block i hi)⟩
/-- What the reader holds: bytes that are left (elder than block N), and whether all was well. -/
def Rdr (N : Nat) (w : World) (g : Nat) (l : List Int) (bad : Bool) : Prop :=
 ∃ A c, w.heap[g]? = some (.cells #[.slice A l.length c, .bool bad] 80 (0, 0)) ∧ Kd.V (Kd.int .u8) 5 w 0 (fun k_ => k_ < N) (.slice A l.length c) l ∧ N ≤ g
section
variable {α : Type} {d : Kd α} {e base g N : Nat} {v : Value} {xs : List α} {w w' : World}
theorem V_on (h : Kd.V d e w base (fun k => k < N) v xs) (hN : N ≤ g) (ho : On g w w') : Kd.V d e w' base (fun k => k < N) v xs :=
 Kd.V_map h (fun _ hf => Kd.F_step hf (fun k hk hlt => ho.block k hlt (by omega)))
end
theorem GW_on {g : Nat} {w W : World} (h : GW w) (hg : 2 ≤ g) (ho : On g w W) : GW W := by
 obtain ⟨m, hm⟩ := h.m
 have h0 := ho.block 0 (World.block_lt_of_cell? w _ h.e) (by omega)
 have h1 := ho.block 1 (World.block_lt_of_cell? w _ hm) (by omega)
 refine ⟨?_, m, ?_⟩
 ·exact (World.cell?_of_block (a := ⟨0, 0, none⟩) (w := w) h0).trans h.e
 exact (World.cell?_of_block (a := ⟨1, 0, none⟩) (w := w) h1).trans hm
theorem rdr_below {N g : Nat} {w w' : World} {l : List Int} {b : Bool} (h : Rdr N w g l b) (hb : Below w.heap.size w w') : Rdr N w' g l b := by
 obtain ⟨A, c, hc, hV, hN⟩ := h
 exact ⟨A, c, (hb.block g (blk_lt hc)).trans hc, Kd.V_below hV hb, hN⟩
theorem rdr_on {N g g' : Nat} {w w' : World} {l : List Int} {b : Bool} (h : Rdr N w g l b) (hb : On g' w w') (h1 : g ≠ g') (h2 : N ≤ g') : Rdr N w' g l b := by
 obtain ⟨A, c, hc, hV, hN⟩ := h
 exact ⟨A, c, (hb.block g (blk_lt hc) h1).trans hc, V_on hV h2 hb, hN⟩
theorem rdr_belowN {N g n : Nat} {w w' : World} {l : List Int} {b : Bool} (h : Rdr N w g l b) (hb : Below n w w') (hg : g < n) : Rdr N w' g l b := by
 obtain ⟨A, c, hc, hV, hN⟩ := h
 exact ⟨A, c, (hb.block g hg).trans hc, Kd.V_step hV (fun k hk _ => hb.block k (by omega)), hN⟩
theorem On.thenBelow {g : Nat} {a b c : World} (h : On g a b) (k : Below a.heap.size b c) : On g a c :=
 ⟨k.os.trans h.os, k.tape.trans h.tape, k.output.trans h.output, Nat.le_trans h.size k.size, fun i hi hg => (k.block i hi).trans (h.block i hi hg)⟩
theorem On.put {g p : Nat} {a b : World} (h : On g a b) (hp : a.heap.size ≤ p) (j : Nat) (u : Value) : On g a (b.setCell ⟨p, j, none⟩ u) := by
 have hb : Below 0 b (b.setCell ⟨p, j, none⟩ u) := Below.setCell (Below.refl 0 b) (Nat.zero_le _) u
 exact ⟨hb.os.trans h.os, hb.tape.trans h.tape, hb.output.trans h.output, Nat.le_trans h.size hb.size, fun i hi hg => (Below.heap_setCell b ⟨p, j, none⟩ u i (by show i ≠ p; omega)).trans (h.block i hi hg)⟩
section
variable {α : Type} {d : Kd α} {e base g : Nat} {ok : Nat → Prop} {u v : Value} {xs : List α} {w w' : World}
theorem S_on (h : Kd.S d e w base ok u xs) (hg : g < base) (ho : On g w w') : Kd.S d e w' base ok u xs :=
 Kd.S_mono (Kd.S_move (Kd.S_bound h) (fun k hk => ho.block k hk.2.2.1 (by have := hk.2.1; omega))) (fun _ hk => hk.1)
theorem S_on_elder (h : Kd.S d e w base ok u xs) (hg : g < base) (ho : On g w w') (hv : ∀ k, v.ownBlock = some k → w.heap.size ≤ k) : Kd.S d e w' base (fun k => ok k ∧ some k ≠ v.ownBlock) u xs :=
 Kd.S_mono (Kd.S_move (Kd.S_bound h) (fun k hk => ho.block k hk.2.2.1 (by have := hk.2.1; omega))) (fun k hk => ⟨hk.1, fun e_ => by have := hv k e_.symm; have := hk.2.2.1; omega⟩)
end
theorem rdr_bad {N : Nat} {w : World} {g : Nat} {A : Option Addr} {c : Nat} {l : List Int} {b : Bool} (hN : N ≤ g) (hc : w.heap[g]? = some (.cells #[.slice A l.length c, .bool b] 80 (0, 0))) (hV : Kd.V (Kd.int .u8) 5 w 0 (fun k_ => k_ < N) (.slice A l.length c) l) (b' : Bool) :
  Rdr N (w.setCell ⟨g, 1, none⟩ (.bool b')) g l b' := ⟨A, c, blk_set hc 1 _, V_on hV hN ((On.refl g w).set 1 _), hN⟩
theorem rdr_cut {N : Nat} {w : World} {g : Nat} {A A' : Option Addr} {c c' n : Nat} {l' : List Int} {b : Bool} (hN : N ≤ g) (hc : w.heap[g]? = some (.cells #[.slice A n c, .bool b] 80 (0, 0))) (hV : Kd.V (Kd.int .u8) 5 w 0 (fun k_ => k_ < N) (.slice A' l'.length c') l') :
  Rdr N (w.setCell ⟨g, 0, none⟩ (.slice A' l'.length c')) g l' b := ⟨A', c', blk_set hc 0 _, V_on hV hN ((On.refl g w).set 0 _), hN⟩
theorem cut_V {w : World} {N : Nat} {A : Option Addr} {c : Nat} {l : List Int} (hV : Kd.V (Kd.int .u8) 5 w 0 (fun k_ => k_ < N) (.slice A l.length c) l) (j : Int) (h0 : 0 ≤ j) (hj : j ≤ (l.length : Int)) :
  ∃ A' c', (∀ W : World, (Instr.slice 27 (.slice A l.length c) (some (.int .i64 j)) none none).run Tryz.prog W = .ok (.slice A' (l.drop j.toNat).length c') W) ∧ Kd.V (Kd.int .u8) 5 w 0 (fun k_ => k_ < N) (.slice A' (l.drop j.toNat).length c') (l.drop j.toNat) := by
 obtain ⟨i, hi, _, hsz, _⟩ := info_parts info5
 have hroom := (Kd.V_reads' hV).2.1
 have h1 := cut_from (P := Tryz.prog) 27 5 .i64 Tryz.underlying27 hi 1 hsz A l.length c j h0 hj
 have hF := (Kd.V_at hV).2.2
 have hf := Kd.F_cut (m := j.toNat) (c := c) hF (by omega) hroom
 have hl : (l.drop j.toNat).length = l.length - j.toNat := by rw [List.length_drop]
 refine ⟨_, _, fun W => ?_, Kd.V_mk (c := c - j.toNat) (by rw [hl]; exact Nat.sub_le_sub_right hroom _) hf⟩
 rw [h1 W, hl]
 rfl
/-! ### byte -/
def rd_byte (l : List Int) (bad : Bool) (most : Int) : List Int × Bool × Int := if bad = true then (l, true, 0) else if (l.length : Int) = 0 then (l, true, 0) else if rd l 0 > most then (l, true, 0) else (l.drop 1, false, rd l 0)
set_option maxHeartbeats 8000000 in
set_option maxRecDepth 100000 in
theorem rd_byte_calls (N g : Nat) (l : List Int) (bad : Bool) (most : Int) (w : World) (hR : Rdr N w g l bad) :
  Calls Tryz.prog 28 #[.pointer (some ⟨g, 0, none⟩), .int .u8 most] w fun e w' => e = .returned (.int .u8 (rd_byte l bad most).2.2) ∧ Rdr N w' g (rd_byte l bad most).1 (rd_byte l bad most).2.1 ∧ On g w w' := by
 obtain ⟨A, c, hcells, hV, hN⟩ := hR
 have HN := Aside0.mk hN
 have HV := Aside0.mk hV
 have HB := Aside0.mk hcells
 have hcz0 : w.cell? ⟨g, 0, none⟩ = some (.slice A l.length c) := (qkc hcells 0).trans rfl
 have hcz1 : w.cell? ⟨g, 1, none⟩ = some (.bool bad) := (qkc hcells 1).trans rfl
 have hfz0 := qkf hcells 0
 have hfz1 := qkf hcells 1
 have hu1 := Tryz.underlying80
 clear hcells hV hN
 unfold rd_byte
 cases bad with
 | true =>
  rw [if_pos rfl]
  go_enter Tryz.func28, Tryz.ntmps28
  go_wp2
  go_ret
  exact ⟨rfl, rdr_bad HN.out HB.out HV.out true, (On.refl g w).set 1 _⟩
 | false =>
  rw [if_neg (by decide)]
  by_cases c1 : (l.length : Int) = 0
  ·rw [if_pos c1]
   have d1 : ((l.length : Int) == 0) = true := beq_iff_eq.mpr c1
   have d2 : l.length = 0 := by omega
   clear c1
   have HD := Aside0.mk d2
   clear d2
   go_enter Tryz.func28, Tryz.ntmps28
   go_wp2
   go_ret
   exact ⟨rfl, rdr_bad HN.out HB.out HV.out true, (On.refl g w).set 1 _⟩
  rw [if_neg c1]
  have d1 : ((l.length : Int) == 0) = false := beq_eq_false_iff_ne.mpr c1
  obtain ⟨A', c', hcut, hV'⟩ := cut_V HV.out 1 (by decide) (by omega)
  obtain ⟨ad, eA, hx⟩ := Kd.at_int (Kd.V_reads' HV.out).2.2 0 (by decide) (by omega)
  subst eA
  have HV' := Aside0.mk hV'
  have hx2 : w.cell? ad = some (.int .u8 (rd l 0)) := by have h_ := hx; rw [Int.toNat_zero, Addr.add_zero'] at h_; exact h_
  clear hx
  have q0 : (0 < l.length) = True := eq_true (by omega)
  have q1 : decide (0 < l.length) = true := decide_eq_true (by omega)
  clear hV' c1
  rw [Int.toNat_one] at hcut HV'
  generalize hl' : l.drop 1 = l' at hcut HV'
  by_cases c2 : rd l 0 > most
  ·rw [if_pos c2]
   have d2 : decide (most < rd l 0) = true := decide_eq_true c2
   clear c2
   go_enter Tryz.func28, Tryz.ntmps28
   go_wp2
   go_ret
   exact ⟨rfl, rdr_bad HN.out HB.out HV.out true, (On.refl g w).set 1 _⟩
  rw [if_neg c2]
  have d2 : decide (most < rd l 0) = false := decide_eq_false c2
  clear c2
  go_enter Tryz.func28, Tryz.ntmps28
  go_wp2
  go_ret
  exact ⟨rfl, rdr_cut HN.out HB.out HV'.out, (On.refl g w).set 0 _⟩
/-! ### uint -/
def rd_uint (k : Nat) (l : List Int) (bad : Bool) (most : Int) : Option (List Int × Bool × Int) :=
 (pack_Uint.f k l).bind fun t => if bad = true then some (l, true, 0) else if t.2.2.isNone = true then (if t.1 > most then some (l, true, 0) else if 0 ≤ t.2.1 then (if t.2.1 ≤ (l.length : Int) then some (l.drop (t.2.1 : Int).toNat, false, wrap64 t.1) else none) else none) else some (l, true, 0)
set_option maxHeartbeats 8000000 in
set_option maxRecDepth 100000 in
theorem rd_uint_calls (k : Nat) (N g : Nat) (l : List Int) (bad : Bool) (most : Int) (l' : List Int) (bad' : Bool) (r : Int) (w : World) (hm : 0 ≤ most ∧ most ≤ 9223372036854775807) (hR : Rdr N w g l bad) (h : rd_uint k l bad most = some (l', bad', r)) :
  Calls Tryz.prog 29 #[.pointer (some ⟨g, 0, none⟩), .int .i64 most] w fun e w' => e = .returned (.int .i64 r) ∧ Rdr N w' g l' bad' ∧ On g w w' := by
 obtain ⟨A, c, hcells, hV, hN⟩ := hR
 have HN := Aside0.mk hN
 have HV := Aside0.mk hV
 have HB := Aside0.mk hcells
 have hcz0 : w.cell? ⟨g, 0, none⟩ = some (.slice A l.length c) := (qkc hcells 0).trans rfl
 have hcz1 : w.cell? ⟨g, 1, none⟩ = some (.bool bad) := (qkc hcells 1).trans rfl
 have hfz0 := qkf hcells 0
 have hfz1 := qkf hcells 1
 have hu1 := Tryz.underlying80
 clear hcells hV hN
 have hw : IntKind.u64.wrap most = most := by simp [IntKind.wrap, IntKind.bits, IntKind.signed]; omega
 obtain ⟨⟨t1, t2, t3⟩, hU, h⟩ := Option.bind_eq_some_iff.mp h
 have HU := Aside0.mk hU
 clear hU hm
 dsimp only at h
 cases bad with
 | true =>
  rw [if_pos rfl] at h
  simp only [Option.some.injEq, Prod.mk.injEq] at h
  obtain ⟨rfl, rfl, rfl⟩ := h
  go_enter Tryz.func29, Tryz.ntmps29
  go_wp2_with (first | ((with_reducible refine qgc (f := 55) rfl ?_); refine gL_ (some 13) Tryz.func55 #[.slice A l.length c] ?_; (with_reducible refine (pack_Uint.calls k _ _ l t1 t2 t3 _ ?side1 ?side2 HU.out).mono ?_); (case side1 => exact (Kd.V_reads' HV.out).2.2); (case side2 => exact (Kd.V_reads' HV.out).2.1); rintro e w' ⟨rfl, ⟨nd, rfl⟩⟩; refine ⟨_, rfl, ?_⟩; (try simp only [errW_none, errW_some]); have hz0 : (w.drewN nd).cell? ⟨g, 0, none⟩ = some (.slice A l.length c) := hcz0; have hz1 : (w.drewN nd).cell? ⟨g, 1, none⟩ = some (.bool true) := hcz1; have hy0 : (w.drewN nd).frozen? ⟨g, 0, none⟩ = false := hfz0; have hy1 : (w.drewN nd).frozen? ⟨g, 1, none⟩ = false := hfz1))
  go_ret
  exact ⟨rfl, rdr_bad (w := w.drewN nd) HN.out HB.out (V_on HV.out HN.out ((On.refl g w).drewN nd)) true, ((On.refl g w).drewN nd).set 1 _⟩
 | false =>
  rw [if_neg (by decide)] at h
  cases t3 with
  | some q =>
   rw [if_neg (by simp)] at h
   simp only [Option.some.injEq, Prod.mk.injEq] at h
   obtain ⟨rfl, rfl, rfl⟩ := h
   go_enter Tryz.func29, Tryz.ntmps29
   go_wp2_with (first | ((with_reducible refine qgc (f := 55) rfl ?_); refine gL_ (some 13) Tryz.func55 #[.slice A l.length c] ?_; (with_reducible refine (pack_Uint.calls k _ _ l t1 t2 (some q) _ ?side1 ?side2 HU.out).mono ?_); (case side1 => exact (Kd.V_reads' HV.out).2.2); (case side2 => exact (Kd.V_reads' HV.out).2.1); rintro e w' ⟨rfl, ⟨nd, rfl⟩⟩; refine ⟨_, rfl, ?_⟩; (try simp only [errW_none, errW_some]); have hz0 : (w.drewN nd).cell? ⟨g, 0, none⟩ = some (.slice A l.length c) := hcz0; have hz1 : (w.drewN nd).cell? ⟨g, 1, none⟩ = some (.bool false) := hcz1; have hy0 : (w.drewN nd).frozen? ⟨g, 0, none⟩ = false := hfz0; have hy1 : (w.drewN nd).frozen? ⟨g, 1, none⟩ = false := hfz1))
   go_ret
   exact ⟨rfl, rdr_bad (w := w.drewN nd) HN.out HB.out (V_on HV.out HN.out ((On.refl g w).drewN nd)) true, ((On.refl g w).drewN nd).set 1 _⟩
  | none =>
   rw [if_pos (show (none : Option Int).isNone = true from rfl)] at h
   by_cases c1 : t1 > most
   ·rw [if_pos c1] at h
    have d1 : decide (most < t1) = true := decide_eq_true c1
    clear c1
    simp only [Option.some.injEq, Prod.mk.injEq] at h
    obtain ⟨rfl, rfl, rfl⟩ := h
    go_enter Tryz.func29, Tryz.ntmps29
    go_wp2_with (first | ((with_reducible refine qgc (f := 55) rfl ?_); refine gL_ (some 13) Tryz.func55 #[.slice A l.length c] ?_; (with_reducible refine (pack_Uint.calls k _ _ l t1 t2 none _ ?side1 ?side2 HU.out).mono ?_); (case side1 => exact (Kd.V_reads' HV.out).2.2); (case side2 => exact (Kd.V_reads' HV.out).2.1); rintro e w' ⟨rfl, ⟨nd, rfl⟩⟩; refine ⟨_, rfl, ?_⟩; (try simp only [errW_none, errW_some]); have hz0 : (w.drewN nd).cell? ⟨g, 0, none⟩ = some (.slice A l.length c) := hcz0; have hz1 : (w.drewN nd).cell? ⟨g, 1, none⟩ = some (.bool false) := hcz1; have hy0 : (w.drewN nd).frozen? ⟨g, 0, none⟩ = false := hfz0; have hy1 : (w.drewN nd).frozen? ⟨g, 1, none⟩ = false := hfz1))
    go_ret
    exact ⟨rfl, rdr_bad (w := w.drewN nd) HN.out HB.out (V_on HV.out HN.out ((On.refl g w).drewN nd)) true, ((On.refl g w).drewN nd).set 1 _⟩
   rw [if_neg c1] at h
   have d1 : decide (most < t1) = false := decide_eq_false c1
   clear c1
   by_cases c2 : 0 ≤ t2
   ·rw [if_pos c2] at h
    by_cases c3 : t2 ≤ (l.length : Int)
    ·rw [if_pos c3] at h
     obtain ⟨A', c', hcut, hV'⟩ := cut_V HV.out t2 c2 c3
     have HV' := Aside0.mk hV'
     clear hV'
     simp only [Option.some.injEq, Prod.mk.injEq] at h
     obtain ⟨rfl, rfl, rfl⟩ := h
     generalize hl' : l.drop t2.toNat = l' at hcut HV'
     go_enter Tryz.func29, Tryz.ntmps29
     go_wp2_with (first | ((with_reducible refine qgc (f := 55) rfl ?_); refine gL_ (some 13) Tryz.func55 #[.slice A l.length c] ?_; (with_reducible refine (pack_Uint.calls k _ _ l t1 t2 none _ ?side1 ?side2 HU.out).mono ?_); (case side1 => exact (Kd.V_reads' HV.out).2.2); (case side2 => exact (Kd.V_reads' HV.out).2.1); rintro e w' ⟨rfl, ⟨nd, rfl⟩⟩; refine ⟨_, rfl, ?_⟩; (try simp only [errW_none, errW_some]); have hz0 : (w.drewN nd).cell? ⟨g, 0, none⟩ = some (.slice A l.length c) := hcz0; have hz1 : (w.drewN nd).cell? ⟨g, 1, none⟩ = some (.bool false) := hcz1; have hy0 : (w.drewN nd).frozen? ⟨g, 0, none⟩ = false := hfz0; have hy1 : (w.drewN nd).frozen? ⟨g, 1, none⟩ = false := hfz1))
     go_ret
     exact ⟨rfl, rdr_cut (w := w.drewN nd) HN.out HB.out (V_on HV'.out HN.out ((On.refl g w).drewN nd)), ((On.refl g w).drewN nd).set 0 _⟩
    rw [if_neg c3] at h; cases h
   rw [if_neg c2] at h; cases h
/-! ### text -/
def rdtext_T1 : Bool × List (List Nat × List Nat) := (true, [([], []), ([0], [0]), ([1], [1]), ([2], [2]), ([], []), ([4], [4]), ([5], [5]), ([6], [6]), ([7], [7]), ([3, 8], [3, 8]), ([9], [9]), ([10], [10]), ([10], [10]), ([10], [10]), ([11, 9, 0, 1, 2, 3, 4, 5, 6, 7, 8, 9, 10, 11], [11]), ([12, 14, 0, 1, 2, 3, 4, 5, 6, 7, 8, 9, 10, 11, 12, 14], [12]), ([13, 15, 0, 1, 2, 3, 4, 5, 6, 7, 8, 9, 10, 11, 12, 13, 14, 15], [13])])
def rdtext_B1 : List Nat := [0, 1, 3, 7, 0, 16, 48, 112, 240, 511, 1023, 2047, 2047, 2047, 4095, 24575, 65535]
theorem rdtext_tab1 : rtab .any (opsOf Tryz.f66 1) = rdtext_T1 := by kernel_rfl
theorem rdtext_bits1 : waitsOk rdtext_T1.2 rdtext_B1 = true := by kernel_rfl
def rd_text (k : Nat) (l : List Int) (bad : Bool) : Option (List Int × Bool × ByteArray) :=
 (pack_Text.f k l (l.length : Int)).bind fun t => if bad = true then some (l, true, (⟨#[]⟩ : ByteArray)) else if t.2.2.isNone = true then (if 0 ≤ t.2.1 then (if t.2.1 ≤ (l.length : Int) then some (l.drop (t.2.1 : Int).toNat, false, t.1) else none) else none) else some (l, true, (⟨#[]⟩ : ByteArray))
set_option maxHeartbeats 8000000 in
set_option maxRecDepth 100000 in
theorem rd_text_calls (k : Nat) (N g : Nat) (l : List Int) (bad : Bool) (l' : List Int) (bad' : Bool) (r : ByteArray) (w : World) (hR : Rdr N w g l bad) (h : rd_text k l bad = some (l', bad', r)) :
  Calls Tryz.prog 66 #[.pointer (some ⟨g, 0, none⟩)] w fun e w' => e = .returned (.string r) ∧ Rdr N w' g l' bad' ∧ On g w w' := by
 obtain ⟨A, c, hcells, hV, hN⟩ := hR
 have HN := Aside0.mk hN
 have HV := Aside0.mk hV
 have HB := Aside0.mk hcells
 have hcz0 : w.cell? ⟨g, 0, none⟩ = some (.slice A l.length c) := (qkc hcells 0).trans rfl
 have hcz1 : w.cell? ⟨g, 1, none⟩ = some (.bool bad) := (qkc hcells 1).trans rfl
 have hfz0 := qkf hcells 0
 have hfz1 := qkf hcells 1
 have hu1 := Tryz.underlying80
 clear hcells hV hN
 obtain ⟨⟨t1, t2, t3⟩, hU, h⟩ := Option.bind_eq_some_iff.mp h
 have HU := Aside0.mk hU
 clear hU
 dsimp only at h
 go_enter Tryz.func66, Tryz.ntmps66
 go_wp2
 refine start_ (n := 17) (S := fun w' => w'.cell? ⟨g, 0, none⟩ = some (.slice A l.length c)) (ds := []) #[false, false, false, false, false, false, false, false, false, false, false, false, false, false, false, false, false] (by kernel_rfl) rfl rfl (hcz0) (fun hHeld => ?_)
 refine with_tabW rdtext_tab1 rdtext_bits1 (fun HT_ HW_ => ?_)
 refine pu_ 0 (some 7) HT_ ?_
 refine pu_ 1 (some 8) HT_ ?_
 refine pu_ 2 (some 9) HT_ ?_
 refine pu_ 4 (some 11) HT_ ?_
 refine pu_ 5 (some 12) HT_ ?_
 refine pu_ 6 (some 13) HT_ ?_
 refine take_ (i := 3) (N := some 10) (v := ?_) (a' := ?_) #[true, true, true, true, true, true, true, false, false, false, false, false, false, false, false, false, false] rfl rfl (take_ofW HT_.out HW_.out (by kernel_rfl)) (fun _ _ _ h => h) (Or.inl ⟨by rfl, ?_⟩) hHeld ?_ ?_
 rotate_left
 ·intro w' s0
  go_simp
  with_reducible rfl
 rotate_left
 ·simp only [Act.put, List.setIfInBounds_toArray, List.set_cons_zero, List.set_cons_succ, i64_w, i32_w]
  rfl
 refine take_ (i := 7) (N := some 14) (v := ?_) (a' := ?_) #[true, true, true, true, true, true, true, true, false, false, false, false, false, false, false, false, false] rfl rfl (take_ofW HT_.out HW_.out (by kernel_rfl)) (fun _ _ _ h => h) (Or.inl ⟨by rfl, ?_⟩) hHeld ?_ ?_
 rotate_left
 ·intro w' s0
  go_simp
  with_reducible rfl
 rotate_left
 ·simp only [Act.put, List.setIfInBounds_toArray, List.set_cons_zero, List.set_cons_succ, i64_w, i32_w]
  rfl
 refine pu_ 8 (some 15) HT_ ?_
 refine one_ (i := 9) (N := some 16) #[true, true, true, true, true, true, true, true, true, true, false, false, false, false, false, false, false] rfl rfl (one_of HT_.out (by kernel_rfl)) (by decide) (fun K hK => ?_)
 refine goes_ Tryz.func82 (by kernel_rfl) rfl #[.slice A l.length c, .int .i64 (l.length : Int)] (by rfl) rfl rfl (by (try simp only [List.map_toArray, List.map_cons, List.map_nil]); first | done | rfl) ?_
 with_reducible refine (pack_Text.calls k _ _ l (l.length : Int) t1 t2 t3 _ ?side1 ?side2 HU.out).mono ?_
 (case side1 => exact (Kd.V_reads' (V_on HV.out HN.out (On.of_below ((Below.refl _ w).drew)))).2.2)
 (case side2 => exact (Kd.V_reads' HV.out).2.1)
 rintro e w' ⟨rfl, ⟨nd, rfl⟩⟩
 refine ⟨_, rfl, ?_⟩
 refine hK.out _ _ (hcz0) (fun hHeld => ?_)
 clear hK K
 refine norm_ (a' := ?_) ?_ ?_
 rotate_left
 ·show Act.put _ (some 16) _ = _
  simp only [Act.put, List.setIfInBounds_toArray, List.set_cons_zero, List.set_cons_succ, i64_w, i32_w]
  rfl
 refine pu_ 10 (some 6) HT_ ?_
 refine pu_ 11 (some 17) HT_ ?_
 refine pu_ 12 (some 18) HT_ ?_
 refine pu_ 13 (some 19) HT_ ?_
 refine pu_ 14 (some 3) HT_ ?_
 refine pu_ 15 (some 4) HT_ ?_
 refine pu_ 16 (some 5) HT_ ?_
 refine done_ (done_of HT_.out (by kernel_rfl)) ?_
 
 have HO1 := Aside0.mk (show On g w (w.drew.drewN nd) from (On.of_below ((Below.refl _ w).drew)).drewN nd)
 have HB1 := Aside0.mk (show (w.drew.drewN nd).heap[g]? = some (.cells #[.slice A l.length c, .bool bad] 80 (0, 0)) from HB.out)
 have HV1 := Aside0.mk (V_on HV.out HN.out HO1.out)
 have hz0 : (w.drew.drewN nd).cell? ⟨g, 0, none⟩ = some (.slice A l.length c) := hcz0
 have hz1 : (w.drew.drewN nd).cell? ⟨g, 1, none⟩ = some (.bool bad) := hcz1
 have hy0 : (w.drew.drewN nd).frozen? ⟨g, 0, none⟩ = false := hfz0
 have hy1 : (w.drew.drewN nd).frozen? ⟨g, 1, none⟩ = false := hfz1
 clear hHeld hcz0 hcz1 hfz0 hfz1 HB HV
 generalize (w.drew.drewN nd) = w1 at HO1 HB1 HV1 hz0 hz1 hy0 hy1 ⊢
 cases bad with
 | true =>
  rw [if_pos rfl] at h
  simp only [Option.some.injEq, Prod.mk.injEq] at h
  obtain ⟨rfl, rfl, rfl⟩ := h
  go_wp2
  go_ret
  exact ⟨rfl, rdr_bad HN.out HB1.out HV1.out true, HO1.out.set 1 _⟩
 | false =>
  rw [if_neg (by decide)] at h
  cases t3 with
  | some q =>
   rw [if_neg (by simp)] at h
   simp only [Option.some.injEq, Prod.mk.injEq] at h
   obtain ⟨rfl, rfl, rfl⟩ := h
   try simp only [errW_none, errW_some]
   go_wp2
   go_ret
   exact ⟨rfl, rdr_bad HN.out HB1.out HV1.out true, HO1.out.set 1 _⟩
  | none =>
   rw [if_pos (show (none : Option Int).isNone = true from rfl)] at h
   by_cases c2 : 0 ≤ t2
   ·rw [if_pos c2] at h
    by_cases c3 : t2 ≤ (l.length : Int)
    ·rw [if_pos c3] at h
     obtain ⟨A', c', hcut, hV'⟩ := cut_V HV1.out t2 c2 c3
     have HV' := Aside0.mk hV'
     clear hV'
     simp only [Option.some.injEq, Prod.mk.injEq] at h
     obtain ⟨rfl, rfl, rfl⟩ := h
     generalize hl' : l.drop t2.toNat = l' at hcut HV'
     try simp only [errW_none, errW_some]
     go_wp2
     go_ret
     exact ⟨rfl, by rw [hl']; exact rdr_cut HN.out HB1.out HV'.out, HO1.out.set 0 _⟩
    rw [if_neg c3] at h; cases h
   rw [if_neg c2] at h; cases h
/-! ### many -/
set_option maxHeartbeats 8000000 in
set_option maxRecDepth 100000 in
theorem rd_many_calls (k : Nat) (N g : Nat) (l : List Int) (bad : Bool) (l' : List Int) (bad' : Bool) (r : Int) (w : World) (hR : Rdr N w g l bad) (h : rd_uint k l bad (l.length : Int) = some (l', bad', r)) :
  Calls Tryz.prog 30 #[.pointer (some ⟨g, 0, none⟩)] w fun e w' => e = .returned (.int .i64 r) ∧ Rdr N w' g l' bad' ∧ On g w w' := by
 have HR := Aside0.mk hR
 have HU := Aside0.mk h
 clear h
 obtain ⟨A, c, hcells, hV, hN⟩ := hR
 have HN := Aside0.mk hN
 have HV := Aside0.mk hV
 have HB := Aside0.mk hcells
 have hcz0 : w.cell? ⟨g, 0, none⟩ = some (.slice A l.length c) := (qkc hcells 0).trans rfl
 have hcz1 : w.cell? ⟨g, 1, none⟩ = some (.bool bad) := (qkc hcells 1).trans rfl
 have hfz0 := qkf hcells 0
 have hfz1 := qkf hcells 1
 have hu1 := Tryz.underlying80
 clear hcells hV hN
 have HL := Aside0.mk (show (0 : Int) ≤ (l.length : Int) ∧ (l.length : Int) ≤ 9223372036854775807 from by have := (Kd.V_reads' HV.out).2.2.2.1; omega)
 go_enter Tryz.func30, Tryz.ntmps30
 go_wp2_with (first | ((with_reducible refine qgc (f := 29) rfl ?_); refine gL_ (some 9) Tryz.func29 #[.pointer (some ⟨g, 0, none⟩), .int .i64 (l.length : Int)] ?_; (with_reducible refine (rd_uint_calls k N g l bad (l.length : Int) l' bad' r w HL.out HR.out HU.out).mono ?_); rintro e w1 ⟨rfl, R1, O1⟩; refine ⟨_, rfl, ?_⟩; have R1_ := Aside0.mk R1; have O1_ := Aside0.mk O1; clear R1 O1))
 go_ret
 exact ⟨rfl, R1_.out, O1_.out⟩
/-! ### values -/
def rd_values (k : Nat) (l : List Int) (bad : Bool) : Option (List Int × Bool × List (S63)) :=
 (rd_text k l bad).bind fun t => (order_Decode.f k t.2.2).bind fun d => some (t.1, (t.2.1 || !d.2.isNone), d.1)
set_option maxHeartbeats 8000000 in
set_option maxRecDepth 100000 in
theorem rd_values_calls (k : Nat) (N g : Nat) (l : List Int) (bad : Bool) (l' : List Int) (bad' : Bool) (r : List (S63)) (w : World) (hG : GW w) (h2 : 2 ≤ N) (hR : Rdr N w g l bad) (h : rd_values k l bad = some (l', bad', r)) :
  Calls Tryz.prog 58 #[.pointer (some ⟨g, 0, none⟩)] w fun e w' => ∃ v : Value, e = .returned v ∧ Kd.R k63 63 w' w.heap.size (fun _ => True) v r ∧ Rdr N w' g l' bad' ∧ On g w w' := by
 have hu1 := Tryz.underlying80
 have hN := hR.choose_spec.choose_spec.2.2
 have HN := Aside0.mk hN
 have HZ := Aside0.mk (show g < w.heap.size from blk_lt hR.choose_spec.choose_spec.1)
 have HG2 := Aside0.mk (show 2 ≤ g from by omega)
 clear hN h2
 have HR := Aside0.mk hR
 have HG := Aside0.mk hG
 clear hR hG
 obtain ⟨⟨t1, t2, t3⟩, hT, h⟩ := Option.bind_eq_some_iff.mp h
 have HT := Aside0.mk hT
 clear hT
 dsimp only at h
 obtain ⟨⟨d1, d2⟩, hD, h⟩ := Option.bind_eq_some_iff.mp h
 have HD := Aside0.mk hD
 clear hD
 dsimp only at h
 simp only [Option.some.injEq, Prod.mk.injEq] at h
 obtain ⟨rfl, rfl, rfl⟩ := h
 cases t2 with
 | true =>
  cases d2 with
  | none =>
   go_enter Tryz.func58, Tryz.ntmps58
   go_wp2_with (first | ((with_reducible refine qgc (f := 66) rfl ?_); refine gL_ (some 7) Tryz.func66 #[.pointer (some ⟨g, 0, none⟩)] ?_; (with_reducible refine (rd_text_calls k N g l bad t1 true t3 w HR.out HT.out).mono ?_); rintro e w1 ⟨rfl, R1, O1⟩; refine ⟨_, rfl, ?_⟩; have R1_ := Aside0.mk R1; have O1_ := Aside0.mk O1; clear R1 O1) | ((with_reducible refine qgc (f := 78) rfl ?_); refine gL_ (some 8) Tryz.func78 #[.string t3] ?_; (with_reducible refine (order_Decode.calls k t3 d1 none w1 (GW_on HG.out HG2.out O1_.out) HD.out).mono ?_); rintro e w2 ⟨v0, rfl, V0, B2⟩; refine ⟨_, rfl, ?_⟩; have V0_ := Aside0.mk V0; have R2_ := Aside0.mk (rdr_below R1_.out B2); have O2_ := Aside0.mk (O1_.out.trans (On.of_below B2)); have L1_ := Aside0.mk O1_.out.size; clear V0 B2 R1_ O1_; have ⟨A, c, hcells, hV, _⟩ := R2_.out; have HB := Aside0.mk hcells; have HV := Aside0.mk hV; have hcz0 : w2.cell? ⟨g, 0, none⟩ = some (.slice A t1.length c) := (qkc hcells 0).trans rfl; have hcz1 : w2.cell? ⟨g, 1, none⟩ = some (.bool true) := (qkc hcells 1).trans rfl; have hfz0 := qkf hcells 0; have hfz1 := qkf hcells 1; clear hcells hV; try simp only [errW_none, errW_some]))
   go_ret
   exact ⟨_, rfl, Kd.R_move (Kd.R_bound (Kd.R_lower V0_.out L1_.out)) (fun k_ hk_ => Below.heap_setCell w2 ⟨g, 1, none⟩ _ k_ (by have := HZ.out; have := hk_.2.1; show k_ ≠ g; omega)) |> fun h_ => Kd.R_mono h_ (fun _ _ => trivial), rdr_bad HN.out HB.out HV.out true, O2_.out.set 1 _⟩
  | some q =>
   go_enter Tryz.func58, Tryz.ntmps58
   go_wp2_with (first | ((with_reducible refine qgc (f := 66) rfl ?_); refine gL_ (some 7) Tryz.func66 #[.pointer (some ⟨g, 0, none⟩)] ?_; (with_reducible refine (rd_text_calls k N g l bad t1 true t3 w HR.out HT.out).mono ?_); rintro e w1 ⟨rfl, R1, O1⟩; refine ⟨_, rfl, ?_⟩; have R1_ := Aside0.mk R1; have O1_ := Aside0.mk O1; clear R1 O1) | ((with_reducible refine qgc (f := 78) rfl ?_); refine gL_ (some 8) Tryz.func78 #[.string t3] ?_; (with_reducible refine (order_Decode.calls k t3 d1 (some q) w1 (GW_on HG.out HG2.out O1_.out) HD.out).mono ?_); rintro e w2 ⟨v0, rfl, V0, B2⟩; refine ⟨_, rfl, ?_⟩; have V0_ := Aside0.mk V0; have R2_ := Aside0.mk (rdr_below R1_.out B2); have O2_ := Aside0.mk (O1_.out.trans (On.of_below B2)); have L1_ := Aside0.mk O1_.out.size; clear V0 B2 R1_ O1_; have ⟨A, c, hcells, hV, _⟩ := R2_.out; have HB := Aside0.mk hcells; have HV := Aside0.mk hV; have hcz0 : w2.cell? ⟨g, 0, none⟩ = some (.slice A t1.length c) := (qkc hcells 0).trans rfl; have hcz1 : w2.cell? ⟨g, 1, none⟩ = some (.bool true) := (qkc hcells 1).trans rfl; have hfz0 := qkf hcells 0; have hfz1 := qkf hcells 1; clear hcells hV; try simp only [errW_none, errW_some]))
   go_ret
   exact ⟨_, rfl, Kd.R_move (Kd.R_bound (Kd.R_lower V0_.out L1_.out)) (fun k_ hk_ => Below.heap_setCell w2 ⟨g, 1, none⟩ _ k_ (by have := HZ.out; have := hk_.2.1; show k_ ≠ g; omega)) |> fun h_ => Kd.R_mono h_ (fun _ _ => trivial), rdr_bad HN.out HB.out HV.out true, O2_.out.set 1 _⟩
 | false =>
  cases d2 with
  | none =>
   go_enter Tryz.func58, Tryz.ntmps58
   go_wp2_with (first | ((with_reducible refine qgc (f := 66) rfl ?_); refine gL_ (some 7) Tryz.func66 #[.pointer (some ⟨g, 0, none⟩)] ?_; (with_reducible refine (rd_text_calls k N g l bad t1 false t3 w HR.out HT.out).mono ?_); rintro e w1 ⟨rfl, R1, O1⟩; refine ⟨_, rfl, ?_⟩; have R1_ := Aside0.mk R1; have O1_ := Aside0.mk O1; clear R1 O1) | ((with_reducible refine qgc (f := 78) rfl ?_); refine gL_ (some 8) Tryz.func78 #[.string t3] ?_; (with_reducible refine (order_Decode.calls k t3 d1 none w1 (GW_on HG.out HG2.out O1_.out) HD.out).mono ?_); rintro e w2 ⟨v0, rfl, V0, B2⟩; refine ⟨_, rfl, ?_⟩; have V0_ := Aside0.mk V0; have R2_ := Aside0.mk (rdr_below R1_.out B2); have O2_ := Aside0.mk (O1_.out.trans (On.of_below B2)); have L1_ := Aside0.mk O1_.out.size; clear V0 B2 R1_ O1_; have ⟨A, c, hcells, hV, _⟩ := R2_.out; have HB := Aside0.mk hcells; have HV := Aside0.mk hV; have hcz0 : w2.cell? ⟨g, 0, none⟩ = some (.slice A t1.length c) := (qkc hcells 0).trans rfl; have hcz1 : w2.cell? ⟨g, 1, none⟩ = some (.bool false) := (qkc hcells 1).trans rfl; have hfz0 := qkf hcells 0; have hfz1 := qkf hcells 1; clear hcells hV; try simp only [errW_none, errW_some]))
   go_ret
   exact ⟨_, rfl, Kd.R_move (Kd.R_bound (Kd.R_lower V0_.out L1_.out)) (fun k_ hk_ => Below.heap_setCell w2 ⟨g, 1, none⟩ _ k_ (by have := HZ.out; have := hk_.2.1; show k_ ≠ g; omega)) |> fun h_ => Kd.R_mono h_ (fun _ _ => trivial), rdr_bad HN.out HB.out HV.out false, O2_.out.set 1 _⟩
  | some q =>
   go_enter Tryz.func58, Tryz.ntmps58
   go_wp2_with (first | ((with_reducible refine qgc (f := 66) rfl ?_); refine gL_ (some 7) Tryz.func66 #[.pointer (some ⟨g, 0, none⟩)] ?_; (with_reducible refine (rd_text_calls k N g l bad t1 false t3 w HR.out HT.out).mono ?_); rintro e w1 ⟨rfl, R1, O1⟩; refine ⟨_, rfl, ?_⟩; have R1_ := Aside0.mk R1; have O1_ := Aside0.mk O1; clear R1 O1) | ((with_reducible refine qgc (f := 78) rfl ?_); refine gL_ (some 8) Tryz.func78 #[.string t3] ?_; (with_reducible refine (order_Decode.calls k t3 d1 (some q) w1 (GW_on HG.out HG2.out O1_.out) HD.out).mono ?_); rintro e w2 ⟨v0, rfl, V0, B2⟩; refine ⟨_, rfl, ?_⟩; have V0_ := Aside0.mk V0; have R2_ := Aside0.mk (rdr_below R1_.out B2); have O2_ := Aside0.mk (O1_.out.trans (On.of_below B2)); have L1_ := Aside0.mk O1_.out.size; clear V0 B2 R1_ O1_; have ⟨A, c, hcells, hV, _⟩ := R2_.out; have HB := Aside0.mk hcells; have HV := Aside0.mk hV; have hcz0 : w2.cell? ⟨g, 0, none⟩ = some (.slice A t1.length c) := (qkc hcells 0).trans rfl; have hcz1 : w2.cell? ⟨g, 1, none⟩ = some (.bool false) := (qkc hcells 1).trans rfl; have hfz0 := qkf hcells 0; have hfz1 := qkf hcells 1; clear hcells hV; try simp only [errW_none, errW_some]))
   go_ret
   exact ⟨_, rfl, Kd.R_move (Kd.R_bound (Kd.R_lower V0_.out L1_.out)) (fun k_ hk_ => Below.heap_setCell w2 ⟨g, 1, none⟩ _ k_ (by have := HZ.out; have := hk_.2.1; show k_ ≠ g; omega)) |> fun h_ => Kd.R_mono h_ (fun _ _ => trivial), rdr_bad HN.out HB.out HV.out true, O2_.out.set 1 _⟩
/-! ### entry -/
def rd_tail (k : Nat) (l : List Int) (bad : Bool) (view : ByteArray) (acc : List (List (S63))) : Option (List Int × Bool × ByteArray × List (List (S63))) := if bad = true then some (l, true, view, acc) else (table_Name.f k view).bind fun nm => some (l, (!nm), view, acc)
def rd_loop (n : Int) (view : ByteArray) : Nat → Int → List Int → Bool → List (List (S63)) → Option (List Int × Bool × ByteArray × List (List (S63)))
 | 0, _, _, _, _ => none
 | k + 1, i, l, bad, acc => if i < n then (if bad = true then rd_tail k l true view acc else if acc.length < 5864062014805 then (rd_values k l false).bind fun t => rd_loop n view k (wrap64 (i + 1)) t.1 t.2.1 (acc ++ [t.2.2]) else none) else rd_tail k l bad view acc
def rd_entry (k : Nat) (l : List Int) (bad : Bool) : Option (List Int × Bool × ByteArray × List (List (S63))) :=
 (rd_text k (rd_byte l bad 2).1 (if (rd_byte l bad 2).2.2 = 2 then (rd_byte l bad 2).2.1 else true)).bind fun t => (rd_uint k t.1 t.2.1 (t.1.length : Int)).bind fun m => rd_loop m.2.2 t.2.2 k 0 m.1 m.2.1 []
def rdentry_T7 : Bool × List (List Nat × List Nat) := (true, [([], []), ([0], [0]), ([], []), ([2], [2]), ([3], [3]), ([1, 4, 3], [1, 4]), ([0, 1, 2, 3, 4, 5], []), ([6, 5, 5, 0, 1, 2, 3, 4, 5], [5, 6])])
def rdentry_B7 : List Nat := [0, 1, 0, 4, 12, 31, 63, 127]
theorem rdentry_tab7 : rtab .any (opsOf Tryz.f39 7) = rdentry_T7 := by kernel_rfl
theorem rdentry_bits7 : waitsOk rdentry_T7.2 rdentry_B7 = true := by kernel_rfl
set_option maxHeartbeats 8000000 in
set_option maxRecDepth 100000 in
theorem rd_entry_calls (k : Nat) (N g : Nat) (l : List Int) (bad : Bool) (l' : List Int) (bad' : Bool) (r1 : ByteArray) (r2 : List (List (S63))) (w : World) (hG : GW w) (h2 : 2 ≤ N) (hR : Rdr N w g l bad) (h : rd_entry k l bad = some (l', bad', r1, r2)) :
  Calls Tryz.prog 39 #[.pointer (some ⟨g, 0, none⟩)] w fun e w' => ∃ v : Value, e = .returned (.agg #[.string r1, v]) ∧ Kd.S (Kd.slice 63 k63) 64 w' w.heap.size (fun _ => True) v r2 ∧ Rdr N w' g l' bad' ∧ On g w w' := by
 have hu1 := Tryz.underlying80
 have hu2 := Tryz.underlying50
 have HN := Aside0.mk hR.choose_spec.choose_spec.2.2
 have HZ := Aside0.mk (show g < w.heap.size from blk_lt hR.choose_spec.choose_spec.1)
 have HG2 := Aside0.mk (show 2 ≤ g from by have := HN.out; omega)
 have H2N := Aside0.mk h2
 clear h2
 have HR := Aside0.mk hR
 have HG := Aside0.mk hG
 clear hR hG
 unfold rd_entry at h
 obtain ⟨⟨y1, y2, y3⟩, hy⟩ : ∃ y, y = rd_byte l bad 2 := ⟨_, rfl⟩
 rw [← hy] at h
 have HY := Aside0.mk hy
 clear hy
 dsimp only at h
 obtain ⟨⟨t1, t2, t3⟩, hT, h⟩ := Option.bind_eq_some_iff.mp h
 have HT := Aside0.mk hT
 clear hT
 dsimp only at h
 obtain ⟨⟨m1, m2, m3⟩, hM, h⟩ := Option.bind_eq_some_iff.mp h
 have HM := Aside0.mk hM
 clear hM
 dsimp only at h
 have H' := Aside0.mk h
 clear h
 by_cases cy : y3 = 2
 ·have HT1 := Aside0.mk (show rd_text k y1 y2 = some (t1, t2, t3) from by have h_ := HT.out; rw [if_pos cy] at h_; exact h_)
  clear HT
  have HT := HT1
  clear HT1
  have cy0 : (y3 == 2) = true := beq_iff_eq.mpr cy
  have cy1 : (y3 != 2) = false := bne_eq_false_iff_eq.mpr cy
  clear cy
  go_enter Tryz.func39, Tryz.ntmps39
  go_wp2_with (first | ((with_reducible refine qgd (N := 2) rfl ?_); refine qB_ 2 #[.string (⟨#[]⟩ : ByteArray), .slice none 0 0] 50 ?_; intro gb2 hg w2 hbox hb; have BK2 := Aside0.mk hbox; have HBw := Aside0.mk hb; have GB2 := Aside0.mk (show w.heap.size ≤ gb2 from by rw [hg]; exact Nat.le_refl _); have NG2 := Aside0.mk (show gb2 ≠ g from by have := HZ.out; have := GB2.out; omega); clear hb hbox hg) | ((with_reducible refine qgc (f := 28) rfl ?_); refine gL_ (some 5) Tryz.func28 #[.pointer (some ⟨g, 0, none⟩), .int .u8 2] ?_; (with_reducible refine (rd_byte_calls N g l bad 2 w2 (rdr_below HR.out HBw.out)).mono ?_); rintro e w3 ⟨rfl, R1, O1⟩; rw [← HY.out] at R1 ⊢; refine ⟨_, rfl, ?_⟩; have R1_ := Aside0.mk R1; have Z2_ := Aside0.mk ((O1.block gb2 (blk_lt BK2.out) NG2.out).trans BK2.out); have O1_ := Aside0.mk ((On.of_below HBw.out).trans O1); clear R1 O1 HR BK2 HBw; have HR := R1_; have BK2 := Z2_; have HO := O1_; clear R1_ Z2_ O1_; skip) | ((with_reducible refine qgc (f := 66) rfl ?_); refine gL_ (some 11) Tryz.func66 #[.pointer (some ⟨g, 0, none⟩)] ?_; (with_reducible refine (rd_text_calls k N g y1 y2 t1 t2 t3 _ (HR.out) HT.out).mono ?_); rintro e w5 ⟨rfl, R1, O1⟩; refine ⟨_, rfl, ?_⟩; have n1_ := Aside0.mk R1; have n2_ := Aside0.mk ((HO.out).trans O1); have n3_ := Aside0.mk ((O1.block gb2 (blk_lt (BK2.out)) NG2.out).trans (BK2.out)); clear R1 O1; (try clear hcz0 hcz1 hfz0 hfz1 HB HV); clear HR HO BK2; have HR := n1_; have HO := n2_; have BK2 := n3_; clear n1_ n2_ n3_) | ((with_reducible refine qgd (N := 3) rfl ?_); refine qB_ 3 #[.string (⟨#[]⟩ : ByteArray), .slice none 0 0] 50 ?_; intro gb3 hg w6 hbox hb; have BK3 := Aside0.mk hbox; have n1_ := Aside0.mk (rdr_below HR.out hb); have n2_ := Aside0.mk (HO.out.trans (On.of_below hb)); have n3_ := Aside0.mk ((hb.block gb2 (blk_lt BK2.out)).trans BK2.out); have GB3 := Aside0.mk (show w.heap.size ≤ gb3 from by rw [hg]; exact HO.out.size); have NG3 := Aside0.mk (show gb3 ≠ g from by have := HZ.out; have := GB3.out; omega); have N23 := Aside0.mk (show gb2 ≠ gb3 from by rw [hg]; exact Nat.ne_of_lt (blk_lt BK2.out)); clear HR HO BK2; have HR := n1_; have HO := n2_; have BK2 := n3_; clear n1_ n2_ n3_ hb hbox hg; obtain ⟨hct0, hct1, hft0, hft1⟩ := zf2_ BK3) | ((with_reducible refine qgc (f := 30) rfl ?_); have HR7 := Aside0.mk (show Rdr N ((w6.setCell ⟨gb3, 0, none⟩ (.string t3)).setCell ⟨gb3, 1, none⟩ (.slice none 0 0)) g t1 t2 from rdr_on HR.out (((On.refl gb3 w6).set 0 _).set 1 _) NG3.out.symm (by have := HN.out; have := GB3.out; have := HZ.out; omega)); have HO7 := Aside0.mk (show On g w ((w6.setCell ⟨gb3, 0, none⟩ (.string t3)).setCell ⟨gb3, 1, none⟩ (.slice none 0 0)) from (HO.out.put GB3.out 0 _).put GB3.out 1 _); have B27 := Aside0.mk (show ((w6.setCell ⟨gb3, 0, none⟩ (.string t3)).setCell ⟨gb3, 1, none⟩ (.slice none 0 0)).heap[gb2]? = some (.cells #[.string (⟨#[]⟩ : ByteArray), .slice none 0 0] 50 (0, 0)) from qkr (qkr BK2.out N23.out _) N23.out _); have B37 := Aside0.mk (show ((w6.setCell ⟨gb3, 0, none⟩ (.string t3)).setCell ⟨gb3, 1, none⟩ (.slice none 0 0)).heap[gb3]? = some (.cells #[.string t3, .slice none 0 0] 50 (0, 0)) from qkp (cs := #[.string t3, .slice none 0 0]) (qkp (cs := #[.string (⟨#[]⟩ : ByteArray), .slice none 0 0]) BK3.out 0 _ rfl) 1 _ rfl); clear hct0 hct1 hft0 hft1 HR HO BK2 BK3; refine gL_ (some 14) Tryz.func30 #[.pointer (some ⟨g, 0, none⟩)] ?_; (with_reducible refine (rd_many_calls k N g t1 t2 m1 m2 m3 _ HR7.out HM.out).mono ?_); rintro e w8 ⟨rfl, R1, O1⟩; refine ⟨_, rfl, ?_⟩; have HR := Aside0.mk R1; have HO := Aside0.mk (HO7.out.trans O1); have BK2 := Aside0.mk ((O1.block gb2 (blk_lt B27.out) NG2.out).trans B27.out); have BK3 := Aside0.mk ((O1.block gb3 (blk_lt B37.out) NG3.out).trans B37.out); clear R1 O1 HR7 HO7 B27 B37))
  go_loopg [15] k (fun kq v15 w' => ∃ (xi : Int) (xl : List Int) (xb : Bool) (acc : List (List (S63))) (u : Value), v15 = .int .i64 xi ∧ Aside0 (rd_loop m3 t3 kq xi xl xb acc = some (l', bad', r1, r2)) ∧ Aside0 (kq ≤ k) ∧ Aside0 (Kd.S (Kd.slice 63 k63) 64 w' w.heap.size (fun _ => True) u acc) ∧ Aside0 (w'.heap[gb2]? = some (.cells #[.string (⟨#[]⟩ : ByteArray), .slice none 0 0] 50 (0, 0))) ∧ Aside0 (w'.heap[gb3]? = some (.cells #[.string t3, u] 50 (0, 0))) ∧ Aside0 (Rdr N w' g xl xb) ∧ Aside0 (On g w w'))
  case atStart => exact ⟨0, m1, m2, [], .slice none 0 0, rfl, H', ⟨Nat.le_refl _⟩, ⟨Kd.S_nil _ _ _ _ _⟩, BK2, BK3, HR, HO⟩
  case round =>
   clear H' HR HO BK2 BK3
   obtain ⟨xi, xl, xb, acc, u, rfl, HA, HK1, HS, BK2, BK3, HR, HO⟩ := hrel
   cases gk with
   | zero => exact absurd HA.out (by simp [rd_loop])
   | succ k1 =>
    have H := HA.out
    clear HA
    simp only [rd_loop] at H
    by_cases c10 : xi < m3
    ·rw [if_pos c10] at H
     have c10b0 := dcT c10
     clear c10
     cases xb with
     | true =>
      rw [if_pos rfl] at H
      obtain ⟨Ao, co, eo⟩ := Kd.S_slice HS.out
      subst eo
      have hn1 := NG2.out
      have hn2 := NG2.out.symm
      have hn3 := NG3.out
      have hn4 := NG3.out.symm
      have hn5 := N23.out
      have hn6 := N23.out.symm
      unfold rd_tail at H
      rw [if_pos rfl] at H
      obtain ⟨rfl, rfl, rfl, rfl⟩ := so4 H
      (try clear hcz0 hcz1 hfz0 hfz1)
      have ⟨A, c, hcells, hV, _⟩ := HR.out
      have HB := Aside0.mk hcells
      have HV := Aside0.mk hV
      have hcz0 : wr.cell? ⟨g, 0, none⟩ = some (.slice A xl.length c) := (qkc hcells 0).trans rfl
      have hcz1 : wr.cell? ⟨g, 1, none⟩ = some (.bool true) := (qkc hcells 1).trans rfl
      have hfz0 := qkf hcells 0
      have hfz1 := qkf hcells 1
      clear hcells hV
      have hcu0 : wr.cell? ⟨gb2, 0, none⟩ = some (.string (⟨#[]⟩ : ByteArray)) := (qkc BK2.out 0).trans rfl
      have hcu1 : wr.cell? ⟨gb2, 1, none⟩ = some (.slice none 0 0) := (qkc BK2.out 1).trans rfl
      have hfu0 := qkf BK2.out 0
      have hfu1 := qkf BK2.out 1
      have hcs0 : wr.cell? ⟨gb3, 0, none⟩ = some (.string t3) := (qkc BK3.out 0).trans rfl
      have hcs1 : wr.cell? ⟨gb3, 1, none⟩ = some (.slice Ao acc.length co) := (qkc BK3.out 1).trans rfl
      have hfs0 := qkf BK3.out 0
      have hfs1 := qkf BK3.out 1
      go_wp2
      refine bodyPost_ret (results_cell_row rfl _ _ gb2 50 #[.string t3, .slice Ao acc.length co] (0, 0) _ rfl (qkp (cs := #[.string t3, .slice none 0 0]) (qkp (cs := #[.string (⟨#[]⟩ : ByteArray), .slice none 0 0]) (qkr (p := ⟨g, 1, none⟩) BK2.out NG2.out (.bool true)) 0 (.string t3) rfl) 1 (.slice Ao acc.length co) rfl) Tryz.underlying50 rfl (by kernel_rfl)) rfl ?_
      exact ⟨_, rfl, Kd.S_set (Kd.S_set (S_on HS.out HZ.out ((On.refl g wr).set 1 (.bool true))) (qkr (p := ⟨g, 1, none⟩) BK2.out NG2.out (.bool true)) (by decide) 0 (.string t3)) (qkp (cs := #[.string (⟨#[]⟩ : ByteArray), .slice none 0 0]) (qkr (p := ⟨g, 1, none⟩) BK2.out NG2.out (.bool true)) 0 (.string t3) rfl) (by decide) 1 (.slice Ao acc.length co), rdr_on (rdr_bad HN.out HB.out HV.out true) (((On.refl gb2 _).set 0 _).set 1 _) NG2.out.symm (by have := HN.out; have := GB2.out; have := HZ.out; omega), ((HO.out.set 1 _).put GB2.out 0 _).put GB2.out 1 _⟩
     | false =>
      rw [if_neg (by decide)] at H
      have c13 : acc.length < 5864062014805 := Classical.byContradiction fun c13 => by rw [if_neg c13] at H; exact absurd H (by simp)
      rw [if_pos c13] at H
      have LMc := Aside0.mk c13
      clear c13
      obtain ⟨⟨z1, z2, z3⟩, hZ, H⟩ := Option.bind_eq_some_iff.mp H
      have HV3 := Aside0.mk hZ
      clear hZ
      dsimp only at H
      obtain ⟨ya, hya⟩ : ∃ y_ : List (List (S63)), y_ = acc ++ [z3] := ⟨_, rfl⟩
      rw [← hya] at H
      have Ny := Aside0.mk hya
      clear hya
      have H' := Aside0.mk H
      clear H
      (try clear hcz0 hcz1 hfz0 hfz1)
      have ⟨A, c, hcells, hV, _⟩ := HR.out
      have HB := Aside0.mk hcells
      have HV := Aside0.mk hV
      have hcz0 : wr.cell? ⟨g, 0, none⟩ = some (.slice A xl.length c) := (qkc hcells 0).trans rfl
      have hcz1 : wr.cell? ⟨g, 1, none⟩ = some (.bool false) := (qkc hcells 1).trans rfl
      have hfz0 := qkf hcells 0
      have hfz1 := qkf hcells 1
      clear hcells hV
      try go_wp2
      clear hcz0 hcz1 hfz0 hfz1 HB HV
      have n1_ := Aside0.mk (Kd.S_drew HS.out)
      have n2_ := Aside0.mk (qkd BK2.out)
      have n3_ := Aside0.mk (qkd BK3.out)
      have n4_ := Aside0.mk (rdr_below HR.out ((Below.refl _ wr).drew))
      have n5_ := Aside0.mk (HO.out.trans (On.of_below ((Below.refl _ wr).drew)))
      clear HS BK2 BK3 HR HO
      have HS := n1_
      have BK2 := n2_
      have BK3 := n3_
      have HR := n4_
      have HO := n5_
      clear n1_ n2_ n3_ n4_ n5_
      refine start_ (n := 8) (S := fun w' => w'.cell? ⟨gb3, 1, none⟩ = some u) (ds := [7]) #[false, false, false, false, false, false, false, false] (by kernel_rfl) rfl rfl ((qkc BK3.out 1).trans rfl) (fun hHeld => ?_)
      refine with_tabW rdentry_tab7 rdentry_bits7 (fun HT_ HW_ => ?_)
      generalize wr.drew = w17 at HS BK2 BK3 HR HO hHeld ⊢
      refine pu_ 0 (some 21) HT_ ?_
      refine pu_ 2 (some 23) HT_ ?_
      refine take_ (i := 1) (N := some 22) (v := ?_) (a' := ?_) #[true, true, true, false, false, false, false, false] rfl rfl (take_ofW HT_.out HW_.out (by kernel_rfl)) (fun _ _ _ h => h) (Or.inl ⟨by rfl, ?_⟩) hHeld ?_ ?_
      rotate_left
      ·intro w' s0
       go_simp
       with_reducible rfl
      rotate_left
      ·simp only [Act.put, List.setIfInBounds_toArray, List.set_cons_zero, List.set_cons_succ, i64_w, i32_w]
       rfl
      refine one_ (i := 3) (N := some 24) #[true, true, true, true, false, false, false, false] rfl rfl (one_of HT_.out (by kernel_rfl)) (by decide) (fun K hK => ?_)
      refine goes_ Tryz.func58 (by kernel_rfl) rfl #[.pointer (some ⟨g, 0, none⟩)] (by rfl) rfl rfl (by (try simp only [List.map_toArray, List.map_cons, List.map_nil]); first | done | rfl) ?_
      with_reducible refine (rd_values_calls k1 N g xl false z1 z2 z3 _ (GW_on HG.out HG2.out HO.out) H2N.out HR.out HV3.out).mono ?_
      rintro e w18 ⟨v0, rfl, V0, R1, O1⟩
      refine ⟨_, rfl, ?_⟩
      have n1_ := Aside0.mk (S_on_elder (v := v0) HS.out HZ.out O1 (Kd.R_base V0))
      have n2_ := Aside0.mk ((O1.block gb2 (blk_lt BK2.out) NG2.out).trans BK2.out)
      have n3_ := Aside0.mk ((O1.block gb3 (blk_lt BK3.out) NG3.out).trans BK3.out)
      have n4_ := Aside0.mk R1
      have n6_ := Aside0.mk (Kd.R_lower V0 HO.out.size)
      have n5_ := Aside0.mk (HO.out.trans O1)
      clear HS BK2 BK3 HR HO V0 R1 O1
      have HS := n1_
      have BK2 := n2_
      have BK3 := n3_
      have HR := n4_
      have HO := n5_
      have HV0 := n6_
      clear n1_ n2_ n3_ n4_ n5_ n6_
      obtain ⟨Ao, co, eo⟩ := Kd.R_slice HV0.out
      subst eo
      refine hK.out _ _ ((qkc BK3.out 1).trans rfl) (fun hHeld => ?_)
      clear hK K
      refine norm_ (a' := ?_) ?_ ?_
      rotate_left
      ·show Act.put _ (some 24) _ = _
       simp only [Act.put, List.setIfInBounds_toArray, List.set_cons_zero, List.set_cons_succ, i64_w, i32_w]
       rfl
      refine one_ (i := 4) (N := some 25) #[true, true, true, true, true, false, false, false] rfl rfl (one_of HT_.out (by kernel_rfl)) (by decide) (fun K hK => ?_)
      refine value_ (w1 := ?_) (v := ?_) (by rfl) rfl ?_ ?_
      rotate_left 2
      ·go_simp
       constructor
       ·rfl
       rfl
      refine hK.out _ _ ((qkc (qka BK3.out _) 1).trans rfl) (fun hHeld => ?_)
      clear hK K
      refine norm_ (a' := ?_) ?_ ?_
      rotate_left
      ·show Act.put _ (some 25) _ = _
       simp only [Act.put, List.setIfInBounds_toArray, List.set_cons_zero, List.set_cons_succ, i64_w, i32_w]
       rfl
      refine one_ (i := 5) (N := some 26) #[true, true, true, true, true, true, false, false] rfl rfl (one_of HT_.out (by kernel_rfl)) (by decide) (fun K hK => ?_)
      refine Kd.S_append_step (Kd.slice 63 k63) (w0 := w18) w.heap.size (by rfl) (.tmp 22) (.tmp 25) 47 64 (.slice none 0 0) 24 rfl Tryz.underlying47 info64 rfl (by decide) (by omega) u acc z3 [.slice Ao z3.length co] (fun _ => True) (fun k_ => some k_ = (.slice Ao z3.length co : Value).ownBlock) rfl rfl ?aP (fun k_ hk_ => ((Kd.R_mono (ok' := fun k_ => True ∧ some k_ ≠ (u : Value).ownBlock) (Kd.R_apart' HV0.out (Kd.S_typed HS.out) (by decide)) (fun k_ hk => ⟨trivial, hk.2⟩))).1 k_ hk_.symm) (fun _ _ => trivial) ?aO (Below.refl _ _) HO.out.size ?aL ?_
      (case aP => exact Kd.M_row (Kd.R_mono (Kd.R_tight rfl (Kd.R_mono (ok' := fun k_ => True ∧ some k_ ≠ (u : Value).ownBlock) (Kd.R_apart' HV0.out (Kd.S_typed HS.out) (by decide)) (fun k_ hk => ⟨trivial, hk.2⟩))) (fun _ h_ => h_)))
      (case aO => exact Kd.S_mono HS.out (fun k_ hk => ⟨trivial, fun e_ => hk.2 e_⟩))
      (case aL => have := LMc.out; omega)
      intro v1 w19 ho hb hg hat
      rw [← Ny.out] at ho
      have n2_ := Aside0.mk (blk_grown (g := gb2) (o := .cells #[.string (⟨#[]⟩ : ByteArray), .slice none 0 0] 50 (0, 0)) BK2.out hg (Kd.S_ne HS.out BK2.out (by decide)))
      have n3_ := Aside0.mk (blk_grown (g := gb3) (o := .cells #[.string t3, u] 50 (0, 0)) BK3.out hg (Kd.S_ne HS.out BK3.out (by decide)))
      have n4_ := Aside0.mk (rdr_belowN HR.out hb HZ.out)
      have n5_ := Aside0.mk (HO.out.thenBelow hb)
      clear HS BK2 BK3 HR HO HV0
      have HS := Aside0.mk ho
      have BK2 := n2_
      have BK3 := n3_
      have HR := n4_
      have HO := n5_
      clear n2_ n3_ n4_ n5_ ho hb hg hat
      obtain ⟨Ap, cp, ep⟩ := Kd.S_slice HS.out
      subst ep
      refine hK.out _ _ ((qkc BK3.out 1).trans rfl) (fun hHeld => ?_)
      clear hK K
      refine norm_ (a' := ?_) ?_ ?_
      rotate_left
      ·show Act.put _ (some 26) _ = _
       simp only [Act.put, List.setIfInBounds_toArray, List.set_cons_zero, List.set_cons_succ, i64_w, i32_w]
       rfl
      refine pu_ 6 (some 27) HT_ ?_
      refine last_ (i := 7) (N := none) #[true, true, true, true, true, true, true, true] rfl rfl (one_of HT_.out (by kernel_rfl)) (by decide) (fun K hK => ?_)
      have hs22 : w19.cell? ⟨gb3, 1, none⟩ = some u := (qkc BK3.out 1).trans rfl
      have hfs22 := qkf BK3.out 1
      refine skip_ (w1 := ?_) ?sh1 ?sh2 ?_ ?_
      case sh1 => rfl
      case sh2 => rfl
      rotate_left
      ·go_simp
       rfl
      refine hK.out _ _ ?_
      clear hK K
      refine done_ (done_of HT_.out (by kernel_rfl)) ?_
       
      try go_wp2
      go_roundg k1
      case measure => have := HK1.out; omega
      case rel => exact ⟨wrap64 (xi + 1), z1, z2, ya, .slice Ap ya.length cp, rfl, H', ⟨by have := HK1.out; omega⟩, ⟨Kd.S_mono (Kd.S_set HS.out BK3.out (by decide) 1 _) (fun _ _ => trivial)⟩, ⟨qkr BK2.out N23.out _⟩, ⟨qkp (cs := #[.string t3, u]) BK3.out 1 _ rfl⟩, ⟨rdr_on HR.out ((On.refl gb3 _).set 1 _) NG3.out.symm (by have := HN.out; have := GB3.out; have := HZ.out; omega)⟩, ⟨HO.out.put GB3.out 1 _⟩⟩
    rw [if_neg c10] at H
    have c10b0 := dcF c10
    clear c10
    cases xb with
    | true =>
     obtain ⟨Ao, co, eo⟩ := Kd.S_slice HS.out
     subst eo
     have hn1 := NG2.out
     have hn2 := NG2.out.symm
     have hn3 := NG3.out
     have hn4 := NG3.out.symm
     have hn5 := N23.out
     have hn6 := N23.out.symm
     unfold rd_tail at H
     rw [if_pos rfl] at H
     obtain ⟨rfl, rfl, rfl, rfl⟩ := so4 H
     (try clear hcz0 hcz1 hfz0 hfz1)
     have ⟨A, c, hcells, hV, _⟩ := HR.out
     have HB := Aside0.mk hcells
     have HV := Aside0.mk hV
     have hcz0 : wr.cell? ⟨g, 0, none⟩ = some (.slice A xl.length c) := (qkc hcells 0).trans rfl
     have hcz1 : wr.cell? ⟨g, 1, none⟩ = some (.bool true) := (qkc hcells 1).trans rfl
     have hfz0 := qkf hcells 0
     have hfz1 := qkf hcells 1
     clear hcells hV
     have hcu0 : wr.cell? ⟨gb2, 0, none⟩ = some (.string (⟨#[]⟩ : ByteArray)) := (qkc BK2.out 0).trans rfl
     have hcu1 : wr.cell? ⟨gb2, 1, none⟩ = some (.slice none 0 0) := (qkc BK2.out 1).trans rfl
     have hfu0 := qkf BK2.out 0
     have hfu1 := qkf BK2.out 1
     have hcs0 : wr.cell? ⟨gb3, 0, none⟩ = some (.string t3) := (qkc BK3.out 0).trans rfl
     have hcs1 : wr.cell? ⟨gb3, 1, none⟩ = some (.slice Ao acc.length co) := (qkc BK3.out 1).trans rfl
     have hfs0 := qkf BK3.out 0
     have hfs1 := qkf BK3.out 1
     go_wp2
     refine bodyPost_ret (results_cell_row rfl _ _ gb2 50 #[.string t3, .slice Ao acc.length co] (0, 0) _ rfl (qkp (cs := #[.string t3, .slice none 0 0]) (qkp (cs := #[.string (⟨#[]⟩ : ByteArray), .slice none 0 0]) (qkr (p := ⟨g, 1, none⟩) BK2.out NG2.out (.bool true)) 0 (.string t3) rfl) 1 (.slice Ao acc.length co) rfl) Tryz.underlying50 rfl (by kernel_rfl)) rfl ?_
     exact ⟨_, rfl, Kd.S_set (Kd.S_set (S_on HS.out HZ.out ((On.refl g wr).set 1 (.bool true))) (qkr (p := ⟨g, 1, none⟩) BK2.out NG2.out (.bool true)) (by decide) 0 (.string t3)) (qkp (cs := #[.string (⟨#[]⟩ : ByteArray), .slice none 0 0]) (qkr (p := ⟨g, 1, none⟩) BK2.out NG2.out (.bool true)) 0 (.string t3) rfl) (by decide) 1 (.slice Ao acc.length co), rdr_on (rdr_bad HN.out HB.out HV.out true) (((On.refl gb2 _).set 0 _).set 1 _) NG2.out.symm (by have := HN.out; have := GB2.out; have := HZ.out; omega), ((HO.out.set 1 _).put GB2.out 0 _).put GB2.out 1 _⟩
    | false =>
     obtain ⟨Ao, co, eo⟩ := Kd.S_slice HS.out
     subst eo
     have hn1 := NG2.out
     have hn2 := NG2.out.symm
     have hn3 := NG3.out
     have hn4 := NG3.out.symm
     have hn5 := N23.out
     have hn6 := N23.out.symm
     unfold rd_tail at H
     rw [if_neg (by decide)] at H
     obtain ⟨nm, hNm, H⟩ := Option.bind_eq_some_iff.mp H
     have HNm := Aside0.mk hNm
     clear hNm
     obtain ⟨rfl, rfl, rfl, rfl⟩ := so4 H
     (try clear hcz0 hcz1 hfz0 hfz1)
     have ⟨A, c, hcells, hV, _⟩ := HR.out
     have HB := Aside0.mk hcells
     have HV := Aside0.mk hV
     have hcz0 : wr.cell? ⟨g, 0, none⟩ = some (.slice A xl.length c) := (qkc hcells 0).trans rfl
     have hcz1 : wr.cell? ⟨g, 1, none⟩ = some (.bool false) := (qkc hcells 1).trans rfl
     have hfz0 := qkf hcells 0
     have hfz1 := qkf hcells 1
     clear hcells hV
     have hcu0 : wr.cell? ⟨gb2, 0, none⟩ = some (.string (⟨#[]⟩ : ByteArray)) := (qkc BK2.out 0).trans rfl
     have hcu1 : wr.cell? ⟨gb2, 1, none⟩ = some (.slice none 0 0) := (qkc BK2.out 1).trans rfl
     have hfu0 := qkf BK2.out 0
     have hfu1 := qkf BK2.out 1
     have hcs0 : wr.cell? ⟨gb3, 0, none⟩ = some (.string t3) := (qkc BK3.out 0).trans rfl
     have hcs1 : wr.cell? ⟨gb3, 1, none⟩ = some (.slice Ao acc.length co) := (qkc BK3.out 1).trans rfl
     have hfs0 := qkf BK3.out 0
     have hfs1 := qkf BK3.out 1
     go_wp2_with (first | (go_at_call 40; (with_reducible refine (table_Name.calls k1 t3 nm wr (GW_on HG.out HG2.out HO.out) HNm.out).mono ?_); rintro e w9 ⟨rfl, B9⟩; have n1_ := Aside0.mk (rdr_below HR.out B9); have n2_ := Aside0.mk (HO.out.trans (On.of_below B9)); have n3_ := Aside0.mk ((B9.block gb2 (blk_lt BK2.out)).trans BK2.out); have n4_ := Aside0.mk ((B9.block gb3 (blk_lt BK3.out)).trans BK3.out); have n5_ := Aside0.mk (Kd.S_below HS.out B9); clear B9 HR HO BK2 BK3 HS hcu0 hcu1 hfu0 hfu1 hcs0 hcs1 hfs0 hfs1 HB HV; have HR := n1_; have HO := n2_; have BK2 := n3_; have BK3 := n4_; have HS := n5_; clear n1_ n2_ n3_ n4_ n5_; (try clear hcz0 hcz1 hfz0 hfz1); have ⟨A, c, hcells, hV, _⟩ := HR.out; have HB := Aside0.mk hcells; have HV := Aside0.mk hV; have hcz0 : w9.cell? ⟨g, 0, none⟩ = some (.slice A xl.length c) := (qkc hcells 0).trans rfl; have hcz1 : w9.cell? ⟨g, 1, none⟩ = some (.bool false) := (qkc hcells 1).trans rfl; have hfz0 := qkf hcells 0; have hfz1 := qkf hcells 1; clear hcells hV; obtain ⟨hcu0, hcu1, hfu0, hfu1⟩ := zf2_ BK2; obtain ⟨hcs0, hcs1, hfs0, hfs1⟩ := zf2_ BK3))
     refine bodyPost_ret (results_cell_row rfl _ _ gb2 50 #[.string t3, .slice Ao acc.length co] (0, 0) _ rfl (qkp (cs := #[.string t3, .slice none 0 0]) (qkp (cs := #[.string (⟨#[]⟩ : ByteArray), .slice none 0 0]) (qkr (p := ⟨g, 1, none⟩) BK2.out NG2.out (.bool (!nm))) 0 (.string t3) rfl) 1 (.slice Ao acc.length co) rfl) Tryz.underlying50 rfl (by kernel_rfl)) rfl ?_
     exact ⟨_, rfl, Kd.S_set (Kd.S_set (S_on HS.out HZ.out ((On.refl g w9).set 1 (.bool (!nm)))) (qkr (p := ⟨g, 1, none⟩) BK2.out NG2.out (.bool (!nm))) (by decide) 0 (.string t3)) (qkp (cs := #[.string (⟨#[]⟩ : ByteArray), .slice none 0 0]) (qkr (p := ⟨g, 1, none⟩) BK2.out NG2.out (.bool (!nm))) 0 (.string t3) rfl) (by decide) 1 (.slice Ao acc.length co), rdr_on (rdr_bad HN.out HB.out HV.out (!nm)) (((On.refl gb2 _).set 0 _).set 1 _) NG2.out.symm (by have := HN.out; have := GB2.out; have := HZ.out; omega), ((HO.out.set 1 _).put GB2.out 0 _).put GB2.out 1 _⟩
 have HT1 := Aside0.mk (show rd_text k y1 true = some (t1, t2, t3) from by have h_ := HT.out; rw [if_neg cy] at h_; exact h_)
 clear HT
 have HT := HT1
 clear HT1
 have cy0 : (y3 == 2) = false := beq_eq_false_iff_ne.mpr cy
 have cy1 : (y3 != 2) = true := bne_iff_ne.mpr cy
 clear cy
 go_enter Tryz.func39, Tryz.ntmps39
 go_wp2_with (first | ((with_reducible refine qgd (N := 2) rfl ?_); refine qB_ 2 #[.string (⟨#[]⟩ : ByteArray), .slice none 0 0] 50 ?_; intro gb2 hg w2 hbox hb; have BK2 := Aside0.mk hbox; have HBw := Aside0.mk hb; have GB2 := Aside0.mk (show w.heap.size ≤ gb2 from by rw [hg]; exact Nat.le_refl _); have NG2 := Aside0.mk (show gb2 ≠ g from by have := HZ.out; have := GB2.out; omega); clear hb hbox hg) | ((with_reducible refine qgc (f := 28) rfl ?_); refine gL_ (some 5) Tryz.func28 #[.pointer (some ⟨g, 0, none⟩), .int .u8 2] ?_; (with_reducible refine (rd_byte_calls N g l bad 2 w2 (rdr_below HR.out HBw.out)).mono ?_); rintro e w3 ⟨rfl, R1, O1⟩; rw [← HY.out] at R1 ⊢; refine ⟨_, rfl, ?_⟩; have R1_ := Aside0.mk R1; have Z2_ := Aside0.mk ((O1.block gb2 (blk_lt BK2.out) NG2.out).trans BK2.out); have O1_ := Aside0.mk ((On.of_below HBw.out).trans O1); clear R1 O1 HR BK2 HBw; have HR := R1_; have BK2 := Z2_; have HO := O1_; clear R1_ Z2_ O1_; (try clear hcz0 hcz1 hfz0 hfz1); have ⟨A, c, hcells, hV, _⟩ := HR.out; have HB := Aside0.mk hcells; have HV := Aside0.mk hV; have hcz0 : w3.cell? ⟨g, 0, none⟩ = some (.slice A y1.length c) := (qkc hcells 0).trans rfl; have hcz1 : w3.cell? ⟨g, 1, none⟩ = some (.bool y2) := (qkc hcells 1).trans rfl; have hfz0 := qkf hcells 0; have hfz1 := qkf hcells 1; clear hcells hV) | ((with_reducible refine qgc (f := 66) rfl ?_); refine gL_ (some 11) Tryz.func66 #[.pointer (some ⟨g, 0, none⟩)] ?_; (with_reducible refine (rd_text_calls k N g y1 true t1 t2 t3 _ (rdr_bad HN.out HB.out HV.out true) HT.out).mono ?_); rintro e w5 ⟨rfl, R1, O1⟩; refine ⟨_, rfl, ?_⟩; have n1_ := Aside0.mk R1; have n2_ := Aside0.mk ((HO.out.set 1 (.bool true)).trans O1); have n3_ := Aside0.mk ((O1.block gb2 (blk_lt (qkr (p := ⟨g, 1, none⟩) BK2.out NG2.out (.bool true))) NG2.out).trans (qkr (p := ⟨g, 1, none⟩) BK2.out NG2.out (.bool true))); clear R1 O1; (try clear hcz0 hcz1 hfz0 hfz1 HB HV); clear HR HO BK2; have HR := n1_; have HO := n2_; have BK2 := n3_; clear n1_ n2_ n3_) | ((with_reducible refine qgd (N := 3) rfl ?_); refine qB_ 3 #[.string (⟨#[]⟩ : ByteArray), .slice none 0 0] 50 ?_; intro gb3 hg w6 hbox hb; have BK3 := Aside0.mk hbox; have n1_ := Aside0.mk (rdr_below HR.out hb); have n2_ := Aside0.mk (HO.out.trans (On.of_below hb)); have n3_ := Aside0.mk ((hb.block gb2 (blk_lt BK2.out)).trans BK2.out); have GB3 := Aside0.mk (show w.heap.size ≤ gb3 from by rw [hg]; exact HO.out.size); have NG3 := Aside0.mk (show gb3 ≠ g from by have := HZ.out; have := GB3.out; omega); have N23 := Aside0.mk (show gb2 ≠ gb3 from by rw [hg]; exact Nat.ne_of_lt (blk_lt BK2.out)); clear HR HO BK2; have HR := n1_; have HO := n2_; have BK2 := n3_; clear n1_ n2_ n3_ hb hbox hg; obtain ⟨hct0, hct1, hft0, hft1⟩ := zf2_ BK3) | ((with_reducible refine qgc (f := 30) rfl ?_); have HR7 := Aside0.mk (show Rdr N ((w6.setCell ⟨gb3, 0, none⟩ (.string t3)).setCell ⟨gb3, 1, none⟩ (.slice none 0 0)) g t1 t2 from rdr_on HR.out (((On.refl gb3 w6).set 0 _).set 1 _) NG3.out.symm (by have := HN.out; have := GB3.out; have := HZ.out; omega)); have HO7 := Aside0.mk (show On g w ((w6.setCell ⟨gb3, 0, none⟩ (.string t3)).setCell ⟨gb3, 1, none⟩ (.slice none 0 0)) from (HO.out.put GB3.out 0 _).put GB3.out 1 _); have B27 := Aside0.mk (show ((w6.setCell ⟨gb3, 0, none⟩ (.string t3)).setCell ⟨gb3, 1, none⟩ (.slice none 0 0)).heap[gb2]? = some (.cells #[.string (⟨#[]⟩ : ByteArray), .slice none 0 0] 50 (0, 0)) from qkr (qkr BK2.out N23.out _) N23.out _); have B37 := Aside0.mk (show ((w6.setCell ⟨gb3, 0, none⟩ (.string t3)).setCell ⟨gb3, 1, none⟩ (.slice none 0 0)).heap[gb3]? = some (.cells #[.string t3, .slice none 0 0] 50 (0, 0)) from qkp (cs := #[.string t3, .slice none 0 0]) (qkp (cs := #[.string (⟨#[]⟩ : ByteArray), .slice none 0 0]) BK3.out 0 _ rfl) 1 _ rfl); clear hct0 hct1 hft0 hft1 HR HO BK2 BK3; refine gL_ (some 14) Tryz.func30 #[.pointer (some ⟨g, 0, none⟩)] ?_; (with_reducible refine (rd_many_calls k N g t1 t2 m1 m2 m3 _ HR7.out HM.out).mono ?_); rintro e w8 ⟨rfl, R1, O1⟩; refine ⟨_, rfl, ?_⟩; have HR := Aside0.mk R1; have HO := Aside0.mk (HO7.out.trans O1); have BK2 := Aside0.mk ((O1.block gb2 (blk_lt B27.out) NG2.out).trans B27.out); have BK3 := Aside0.mk ((O1.block gb3 (blk_lt B37.out) NG3.out).trans B37.out); clear R1 O1 HR7 HO7 B27 B37))
 go_loopg [15] k (fun kq v15 w' => ∃ (xi : Int) (xl : List Int) (xb : Bool) (acc : List (List (S63))) (u : Value), v15 = .int .i64 xi ∧ Aside0 (rd_loop m3 t3 kq xi xl xb acc = some (l', bad', r1, r2)) ∧ Aside0 (kq ≤ k) ∧ Aside0 (Kd.S (Kd.slice 63 k63) 64 w' w.heap.size (fun _ => True) u acc) ∧ Aside0 (w'.heap[gb2]? = some (.cells #[.string (⟨#[]⟩ : ByteArray), .slice none 0 0] 50 (0, 0))) ∧ Aside0 (w'.heap[gb3]? = some (.cells #[.string t3, u] 50 (0, 0))) ∧ Aside0 (Rdr N w' g xl xb) ∧ Aside0 (On g w w'))
 case atStart => exact ⟨0, m1, m2, [], .slice none 0 0, rfl, H', ⟨Nat.le_refl _⟩, ⟨Kd.S_nil _ _ _ _ _⟩, BK2, BK3, HR, HO⟩
 case round =>
  clear H' HR HO BK2 BK3
  obtain ⟨xi, xl, xb, acc, u, rfl, HA, HK1, HS, BK2, BK3, HR, HO⟩ := hrel
  cases gk with
  | zero => exact absurd HA.out (by simp [rd_loop])
  | succ k1 =>
   have H := HA.out
   clear HA
   simp only [rd_loop] at H
   by_cases c10 : xi < m3
   ·rw [if_pos c10] at H
    have c10b0 := dcT c10
    clear c10
    cases xb with
    | true =>
     rw [if_pos rfl] at H
     obtain ⟨Ao, co, eo⟩ := Kd.S_slice HS.out
     subst eo
     have hn1 := NG2.out
     have hn2 := NG2.out.symm
     have hn3 := NG3.out
     have hn4 := NG3.out.symm
     have hn5 := N23.out
     have hn6 := N23.out.symm
     unfold rd_tail at H
     rw [if_pos rfl] at H
     obtain ⟨rfl, rfl, rfl, rfl⟩ := so4 H
     (try clear hcz0 hcz1 hfz0 hfz1)
     have ⟨A, c, hcells, hV, _⟩ := HR.out
     have HB := Aside0.mk hcells
     have HV := Aside0.mk hV
     have hcz0 : wr.cell? ⟨g, 0, none⟩ = some (.slice A xl.length c) := (qkc hcells 0).trans rfl
     have hcz1 : wr.cell? ⟨g, 1, none⟩ = some (.bool true) := (qkc hcells 1).trans rfl
     have hfz0 := qkf hcells 0
     have hfz1 := qkf hcells 1
     clear hcells hV
     have hcu0 : wr.cell? ⟨gb2, 0, none⟩ = some (.string (⟨#[]⟩ : ByteArray)) := (qkc BK2.out 0).trans rfl
     have hcu1 : wr.cell? ⟨gb2, 1, none⟩ = some (.slice none 0 0) := (qkc BK2.out 1).trans rfl
     have hfu0 := qkf BK2.out 0
     have hfu1 := qkf BK2.out 1
     have hcs0 : wr.cell? ⟨gb3, 0, none⟩ = some (.string t3) := (qkc BK3.out 0).trans rfl
     have hcs1 : wr.cell? ⟨gb3, 1, none⟩ = some (.slice Ao acc.length co) := (qkc BK3.out 1).trans rfl
     have hfs0 := qkf BK3.out 0
     have hfs1 := qkf BK3.out 1
     go_wp2
     refine bodyPost_ret (results_cell_row rfl _ _ gb2 50 #[.string t3, .slice Ao acc.length co] (0, 0) _ rfl (qkp (cs := #[.string t3, .slice none 0 0]) (qkp (cs := #[.string (⟨#[]⟩ : ByteArray), .slice none 0 0]) (qkr (p := ⟨g, 1, none⟩) BK2.out NG2.out (.bool true)) 0 (.string t3) rfl) 1 (.slice Ao acc.length co) rfl) Tryz.underlying50 rfl (by kernel_rfl)) rfl ?_
     exact ⟨_, rfl, Kd.S_set (Kd.S_set (S_on HS.out HZ.out ((On.refl g wr).set 1 (.bool true))) (qkr (p := ⟨g, 1, none⟩) BK2.out NG2.out (.bool true)) (by decide) 0 (.string t3)) (qkp (cs := #[.string (⟨#[]⟩ : ByteArray), .slice none 0 0]) (qkr (p := ⟨g, 1, none⟩) BK2.out NG2.out (.bool true)) 0 (.string t3) rfl) (by decide) 1 (.slice Ao acc.length co), rdr_on (rdr_bad HN.out HB.out HV.out true) (((On.refl gb2 _).set 0 _).set 1 _) NG2.out.symm (by have := HN.out; have := GB2.out; have := HZ.out; omega), ((HO.out.set 1 _).put GB2.out 0 _).put GB2.out 1 _⟩
    | false =>
     rw [if_neg (by decide)] at H
     have c13 : acc.length < 5864062014805 := Classical.byContradiction fun c13 => by rw [if_neg c13] at H; exact absurd H (by simp)
     rw [if_pos c13] at H
     have LMc := Aside0.mk c13
     clear c13
     obtain ⟨⟨z1, z2, z3⟩, hZ, H⟩ := Option.bind_eq_some_iff.mp H
     have HV3 := Aside0.mk hZ
     clear hZ
     dsimp only at H
     obtain ⟨ya, hya⟩ : ∃ y_ : List (List (S63)), y_ = acc ++ [z3] := ⟨_, rfl⟩
     rw [← hya] at H
     have Ny := Aside0.mk hya
     clear hya
     have H' := Aside0.mk H
     clear H
     (try clear hcz0 hcz1 hfz0 hfz1)
     have ⟨A, c, hcells, hV, _⟩ := HR.out
     have HB := Aside0.mk hcells
     have HV := Aside0.mk hV
     have hcz0 : wr.cell? ⟨g, 0, none⟩ = some (.slice A xl.length c) := (qkc hcells 0).trans rfl
     have hcz1 : wr.cell? ⟨g, 1, none⟩ = some (.bool false) := (qkc hcells 1).trans rfl
     have hfz0 := qkf hcells 0
     have hfz1 := qkf hcells 1
     clear hcells hV
     try go_wp2
     clear hcz0 hcz1 hfz0 hfz1 HB HV
     have n1_ := Aside0.mk (Kd.S_drew HS.out)
     have n2_ := Aside0.mk (qkd BK2.out)
     have n3_ := Aside0.mk (qkd BK3.out)
     have n4_ := Aside0.mk (rdr_below HR.out ((Below.refl _ wr).drew))
     have n5_ := Aside0.mk (HO.out.trans (On.of_below ((Below.refl _ wr).drew)))
     clear HS BK2 BK3 HR HO
     have HS := n1_
     have BK2 := n2_
     have BK3 := n3_
     have HR := n4_
     have HO := n5_
     clear n1_ n2_ n3_ n4_ n5_
     refine start_ (n := 8) (S := fun w' => w'.cell? ⟨gb3, 1, none⟩ = some u) (ds := [7]) #[false, false, false, false, false, false, false, false] (by kernel_rfl) rfl rfl ((qkc BK3.out 1).trans rfl) (fun hHeld => ?_)
     refine with_tabW rdentry_tab7 rdentry_bits7 (fun HT_ HW_ => ?_)
     generalize wr.drew = w17 at HS BK2 BK3 HR HO hHeld ⊢
     refine pu_ 0 (some 21) HT_ ?_
     refine pu_ 2 (some 23) HT_ ?_
     refine take_ (i := 1) (N := some 22) (v := ?_) (a' := ?_) #[true, true, true, false, false, false, false, false] rfl rfl (take_ofW HT_.out HW_.out (by kernel_rfl)) (fun _ _ _ h => h) (Or.inl ⟨by rfl, ?_⟩) hHeld ?_ ?_
     rotate_left
     ·intro w' s0
      go_simp
      with_reducible rfl
     rotate_left
     ·simp only [Act.put, List.setIfInBounds_toArray, List.set_cons_zero, List.set_cons_succ, i64_w, i32_w]
      rfl
     refine one_ (i := 3) (N := some 24) #[true, true, true, true, false, false, false, false] rfl rfl (one_of HT_.out (by kernel_rfl)) (by decide) (fun K hK => ?_)
     refine goes_ Tryz.func58 (by kernel_rfl) rfl #[.pointer (some ⟨g, 0, none⟩)] (by rfl) rfl rfl (by (try simp only [List.map_toArray, List.map_cons, List.map_nil]); first | done | rfl) ?_
     with_reducible refine (rd_values_calls k1 N g xl false z1 z2 z3 _ (GW_on HG.out HG2.out HO.out) H2N.out HR.out HV3.out).mono ?_
     rintro e w18 ⟨v0, rfl, V0, R1, O1⟩
     refine ⟨_, rfl, ?_⟩
     have n1_ := Aside0.mk (S_on_elder (v := v0) HS.out HZ.out O1 (Kd.R_base V0))
     have n2_ := Aside0.mk ((O1.block gb2 (blk_lt BK2.out) NG2.out).trans BK2.out)
     have n3_ := Aside0.mk ((O1.block gb3 (blk_lt BK3.out) NG3.out).trans BK3.out)
     have n4_ := Aside0.mk R1
     have n6_ := Aside0.mk (Kd.R_lower V0 HO.out.size)
     have n5_ := Aside0.mk (HO.out.trans O1)
     clear HS BK2 BK3 HR HO V0 R1 O1
     have HS := n1_
     have BK2 := n2_
     have BK3 := n3_
     have HR := n4_
     have HO := n5_
     have HV0 := n6_
     clear n1_ n2_ n3_ n4_ n5_ n6_
     obtain ⟨Ao, co, eo⟩ := Kd.R_slice HV0.out
     subst eo
     refine hK.out _ _ ((qkc BK3.out 1).trans rfl) (fun hHeld => ?_)
     clear hK K
     refine norm_ (a' := ?_) ?_ ?_
     rotate_left
     ·show Act.put _ (some 24) _ = _
      simp only [Act.put, List.setIfInBounds_toArray, List.set_cons_zero, List.set_cons_succ, i64_w, i32_w]
      rfl
     refine one_ (i := 4) (N := some 25) #[true, true, true, true, true, false, false, false] rfl rfl (one_of HT_.out (by kernel_rfl)) (by decide) (fun K hK => ?_)
     refine value_ (w1 := ?_) (v := ?_) (by rfl) rfl ?_ ?_
     rotate_left 2
     ·go_simp
      constructor
      ·rfl
      rfl
     refine hK.out _ _ ((qkc (qka BK3.out _) 1).trans rfl) (fun hHeld => ?_)
     clear hK K
     refine norm_ (a' := ?_) ?_ ?_
     rotate_left
     ·show Act.put _ (some 25) _ = _
      simp only [Act.put, List.setIfInBounds_toArray, List.set_cons_zero, List.set_cons_succ, i64_w, i32_w]
      rfl
     refine one_ (i := 5) (N := some 26) #[true, true, true, true, true, true, false, false] rfl rfl (one_of HT_.out (by kernel_rfl)) (by decide) (fun K hK => ?_)
     refine Kd.S_append_step (Kd.slice 63 k63) (w0 := w18) w.heap.size (by rfl) (.tmp 22) (.tmp 25) 47 64 (.slice none 0 0) 24 rfl Tryz.underlying47 info64 rfl (by decide) (by omega) u acc z3 [.slice Ao z3.length co] (fun _ => True) (fun k_ => some k_ = (.slice Ao z3.length co : Value).ownBlock) rfl rfl ?aP (fun k_ hk_ => ((Kd.R_mono (ok' := fun k_ => True ∧ some k_ ≠ (u : Value).ownBlock) (Kd.R_apart' HV0.out (Kd.S_typed HS.out) (by decide)) (fun k_ hk => ⟨trivial, hk.2⟩))).1 k_ hk_.symm) (fun _ _ => trivial) ?aO (Below.refl _ _) HO.out.size ?aL ?_
     (case aP => exact Kd.M_row (Kd.R_mono (Kd.R_tight rfl (Kd.R_mono (ok' := fun k_ => True ∧ some k_ ≠ (u : Value).ownBlock) (Kd.R_apart' HV0.out (Kd.S_typed HS.out) (by decide)) (fun k_ hk => ⟨trivial, hk.2⟩))) (fun _ h_ => h_)))
     (case aO => exact Kd.S_mono HS.out (fun k_ hk => ⟨trivial, fun e_ => hk.2 e_⟩))
     (case aL => have := LMc.out; omega)
     intro v1 w19 ho hb hg hat
     rw [← Ny.out] at ho
     have n2_ := Aside0.mk (blk_grown (g := gb2) (o := .cells #[.string (⟨#[]⟩ : ByteArray), .slice none 0 0] 50 (0, 0)) BK2.out hg (Kd.S_ne HS.out BK2.out (by decide)))
     have n3_ := Aside0.mk (blk_grown (g := gb3) (o := .cells #[.string t3, u] 50 (0, 0)) BK3.out hg (Kd.S_ne HS.out BK3.out (by decide)))
     have n4_ := Aside0.mk (rdr_belowN HR.out hb HZ.out)
     have n5_ := Aside0.mk (HO.out.thenBelow hb)
     clear HS BK2 BK3 HR HO HV0
     have HS := Aside0.mk ho
     have BK2 := n2_
     have BK3 := n3_
     have HR := n4_
     have HO := n5_
     clear n2_ n3_ n4_ n5_ ho hb hg hat
     obtain ⟨Ap, cp, ep⟩ := Kd.S_slice HS.out
     subst ep
     refine hK.out _ _ ((qkc BK3.out 1).trans rfl) (fun hHeld => ?_)
     clear hK K
     refine norm_ (a' := ?_) ?_ ?_
     rotate_left
     ·show Act.put _ (some 26) _ = _
      simp only [Act.put, List.setIfInBounds_toArray, List.set_cons_zero, List.set_cons_succ, i64_w, i32_w]
      rfl
     refine pu_ 6 (some 27) HT_ ?_
     refine last_ (i := 7) (N := none) #[true, true, true, true, true, true, true, true] rfl rfl (one_of HT_.out (by kernel_rfl)) (by decide) (fun K hK => ?_)
     have hs22 : w19.cell? ⟨gb3, 1, none⟩ = some u := (qkc BK3.out 1).trans rfl
     have hfs22 := qkf BK3.out 1
     refine skip_ (w1 := ?_) ?sh1 ?sh2 ?_ ?_
     case sh1 => rfl
     case sh2 => rfl
     rotate_left
     ·go_simp
      rfl
     refine hK.out _ _ ?_
     clear hK K
     refine done_ (done_of HT_.out (by kernel_rfl)) ?_
       
     try go_wp2
     go_roundg k1
     case measure => have := HK1.out; omega
     case rel => exact ⟨wrap64 (xi + 1), z1, z2, ya, .slice Ap ya.length cp, rfl, H', ⟨by have := HK1.out; omega⟩, ⟨Kd.S_mono (Kd.S_set HS.out BK3.out (by decide) 1 _) (fun _ _ => trivial)⟩, ⟨qkr BK2.out N23.out _⟩, ⟨qkp (cs := #[.string t3, u]) BK3.out 1 _ rfl⟩, ⟨rdr_on HR.out ((On.refl gb3 _).set 1 _) NG3.out.symm (by have := HN.out; have := GB3.out; have := HZ.out; omega)⟩, ⟨HO.out.put GB3.out 1 _⟩⟩
   rw [if_neg c10] at H
   have c10b0 := dcF c10
   clear c10
   cases xb with
   | true =>
    obtain ⟨Ao, co, eo⟩ := Kd.S_slice HS.out
    subst eo
    have hn1 := NG2.out
    have hn2 := NG2.out.symm
    have hn3 := NG3.out
    have hn4 := NG3.out.symm
    have hn5 := N23.out
    have hn6 := N23.out.symm
    unfold rd_tail at H
    rw [if_pos rfl] at H
    obtain ⟨rfl, rfl, rfl, rfl⟩ := so4 H
    (try clear hcz0 hcz1 hfz0 hfz1)
    have ⟨A, c, hcells, hV, _⟩ := HR.out
    have HB := Aside0.mk hcells
    have HV := Aside0.mk hV
    have hcz0 : wr.cell? ⟨g, 0, none⟩ = some (.slice A xl.length c) := (qkc hcells 0).trans rfl
    have hcz1 : wr.cell? ⟨g, 1, none⟩ = some (.bool true) := (qkc hcells 1).trans rfl
    have hfz0 := qkf hcells 0
    have hfz1 := qkf hcells 1
    clear hcells hV
    have hcu0 : wr.cell? ⟨gb2, 0, none⟩ = some (.string (⟨#[]⟩ : ByteArray)) := (qkc BK2.out 0).trans rfl
    have hcu1 : wr.cell? ⟨gb2, 1, none⟩ = some (.slice none 0 0) := (qkc BK2.out 1).trans rfl
    have hfu0 := qkf BK2.out 0
    have hfu1 := qkf BK2.out 1
    have hcs0 : wr.cell? ⟨gb3, 0, none⟩ = some (.string t3) := (qkc BK3.out 0).trans rfl
    have hcs1 : wr.cell? ⟨gb3, 1, none⟩ = some (.slice Ao acc.length co) := (qkc BK3.out 1).trans rfl
    have hfs0 := qkf BK3.out 0
    have hfs1 := qkf BK3.out 1
    go_wp2
    refine bodyPost_ret (results_cell_row rfl _ _ gb2 50 #[.string t3, .slice Ao acc.length co] (0, 0) _ rfl (qkp (cs := #[.string t3, .slice none 0 0]) (qkp (cs := #[.string (⟨#[]⟩ : ByteArray), .slice none 0 0]) (qkr (p := ⟨g, 1, none⟩) BK2.out NG2.out (.bool true)) 0 (.string t3) rfl) 1 (.slice Ao acc.length co) rfl) Tryz.underlying50 rfl (by kernel_rfl)) rfl ?_
    exact ⟨_, rfl, Kd.S_set (Kd.S_set (S_on HS.out HZ.out ((On.refl g wr).set 1 (.bool true))) (qkr (p := ⟨g, 1, none⟩) BK2.out NG2.out (.bool true)) (by decide) 0 (.string t3)) (qkp (cs := #[.string (⟨#[]⟩ : ByteArray), .slice none 0 0]) (qkr (p := ⟨g, 1, none⟩) BK2.out NG2.out (.bool true)) 0 (.string t3) rfl) (by decide) 1 (.slice Ao acc.length co), rdr_on (rdr_bad HN.out HB.out HV.out true) (((On.refl gb2 _).set 0 _).set 1 _) NG2.out.symm (by have := HN.out; have := GB2.out; have := HZ.out; omega), ((HO.out.set 1 _).put GB2.out 0 _).put GB2.out 1 _⟩
   | false =>
    obtain ⟨Ao, co, eo⟩ := Kd.S_slice HS.out
    subst eo
    have hn1 := NG2.out
    have hn2 := NG2.out.symm
    have hn3 := NG3.out
    have hn4 := NG3.out.symm
    have hn5 := N23.out
    have hn6 := N23.out.symm
    unfold rd_tail at H
    rw [if_neg (by decide)] at H
    obtain ⟨nm, hNm, H⟩ := Option.bind_eq_some_iff.mp H
    have HNm := Aside0.mk hNm
    clear hNm
    obtain ⟨rfl, rfl, rfl, rfl⟩ := so4 H
    (try clear hcz0 hcz1 hfz0 hfz1)
    have ⟨A, c, hcells, hV, _⟩ := HR.out
    have HB := Aside0.mk hcells
    have HV := Aside0.mk hV
    have hcz0 : wr.cell? ⟨g, 0, none⟩ = some (.slice A xl.length c) := (qkc hcells 0).trans rfl
    have hcz1 : wr.cell? ⟨g, 1, none⟩ = some (.bool false) := (qkc hcells 1).trans rfl
    have hfz0 := qkf hcells 0
    have hfz1 := qkf hcells 1
    clear hcells hV
    have hcu0 : wr.cell? ⟨gb2, 0, none⟩ = some (.string (⟨#[]⟩ : ByteArray)) := (qkc BK2.out 0).trans rfl
    have hcu1 : wr.cell? ⟨gb2, 1, none⟩ = some (.slice none 0 0) := (qkc BK2.out 1).trans rfl
    have hfu0 := qkf BK2.out 0
    have hfu1 := qkf BK2.out 1
    have hcs0 : wr.cell? ⟨gb3, 0, none⟩ = some (.string t3) := (qkc BK3.out 0).trans rfl
    have hcs1 : wr.cell? ⟨gb3, 1, none⟩ = some (.slice Ao acc.length co) := (qkc BK3.out 1).trans rfl
    have hfs0 := qkf BK3.out 0
    have hfs1 := qkf BK3.out 1
    go_wp2_with (first | (go_at_call 40; (with_reducible refine (table_Name.calls k1 t3 nm wr (GW_on HG.out HG2.out HO.out) HNm.out).mono ?_); rintro e w9 ⟨rfl, B9⟩; have n1_ := Aside0.mk (rdr_below HR.out B9); have n2_ := Aside0.mk (HO.out.trans (On.of_below B9)); have n3_ := Aside0.mk ((B9.block gb2 (blk_lt BK2.out)).trans BK2.out); have n4_ := Aside0.mk ((B9.block gb3 (blk_lt BK3.out)).trans BK3.out); have n5_ := Aside0.mk (Kd.S_below HS.out B9); clear B9 HR HO BK2 BK3 HS hcu0 hcu1 hfu0 hfu1 hcs0 hcs1 hfs0 hfs1 HB HV; have HR := n1_; have HO := n2_; have BK2 := n3_; have BK3 := n4_; have HS := n5_; clear n1_ n2_ n3_ n4_ n5_; (try clear hcz0 hcz1 hfz0 hfz1); have ⟨A, c, hcells, hV, _⟩ := HR.out; have HB := Aside0.mk hcells; have HV := Aside0.mk hV; have hcz0 : w9.cell? ⟨g, 0, none⟩ = some (.slice A xl.length c) := (qkc hcells 0).trans rfl; have hcz1 : w9.cell? ⟨g, 1, none⟩ = some (.bool false) := (qkc hcells 1).trans rfl; have hfz0 := qkf hcells 0; have hfz1 := qkf hcells 1; clear hcells hV; obtain ⟨hcu0, hcu1, hfu0, hfu1⟩ := zf2_ BK2; obtain ⟨hcs0, hcs1, hfs0, hfs1⟩ := zf2_ BK3))
    refine bodyPost_ret (results_cell_row rfl _ _ gb2 50 #[.string t3, .slice Ao acc.length co] (0, 0) _ rfl (qkp (cs := #[.string t3, .slice none 0 0]) (qkp (cs := #[.string (⟨#[]⟩ : ByteArray), .slice none 0 0]) (qkr (p := ⟨g, 1, none⟩) BK2.out NG2.out (.bool (!nm))) 0 (.string t3) rfl) 1 (.slice Ao acc.length co) rfl) Tryz.underlying50 rfl (by kernel_rfl)) rfl ?_
    exact ⟨_, rfl, Kd.S_set (Kd.S_set (S_on HS.out HZ.out ((On.refl g w9).set 1 (.bool (!nm)))) (qkr (p := ⟨g, 1, none⟩) BK2.out NG2.out (.bool (!nm))) (by decide) 0 (.string t3)) (qkp (cs := #[.string (⟨#[]⟩ : ByteArray), .slice none 0 0]) (qkr (p := ⟨g, 1, none⟩) BK2.out NG2.out (.bool (!nm))) 0 (.string t3) rfl) (by decide) 1 (.slice Ao acc.length co), rdr_on (rdr_bad HN.out HB.out HV.out (!nm)) (((On.refl gb2 _).set 0 _).set 1 _) NG2.out.symm (by have := HN.out; have := GB2.out; have := HZ.out; omega), ((HO.out.set 1 _).put GB2.out 0 _).put GB2.out 1 _⟩
/-! ### done, DecodeEntry -/
set_option maxHeartbeats 8000000 in
set_option maxRecDepth 100000 in
theorem rd_done_calls (N g : Nat) (l : List Int) (bad : Bool) (w : World) (hR : Rdr N w g l bad) :
  Calls Tryz.prog 32 #[.pointer (some ⟨g, 0, none⟩)] w fun e w' => e = .returned (.bool (!bad && ((l.length : Int) == 0))) ∧ w' = w := by
 obtain ⟨A, c, hcells, hV, hN⟩ := hR
 have HN := Aside0.mk hN
 have HV := Aside0.mk hV
 have HB := Aside0.mk hcells
 have hcz0 : w.cell? ⟨g, 0, none⟩ = some (.slice A l.length c) := (qkc hcells 0).trans rfl
 have hcz1 : w.cell? ⟨g, 1, none⟩ = some (.bool bad) := (qkc hcells 1).trans rfl
 have hfz0 := qkf hcells 0
 have hfz1 := qkf hcells 1
 have hu1 := Tryz.underlying80
 clear hcells hV hN
 cases bad with
 | true =>
  go_enter Tryz.func32, Tryz.ntmps32
  go_wp2
  go_ret
  exact ⟨rfl, rfl⟩
 | false =>
  go_enter Tryz.func32, Tryz.ntmps32
  go_wp2
  go_ret
  exact ⟨rfl, rfl⟩
def store_DecodeEntry.f (k : Nat) (l0 : List Int) : Option (ByteArray × List (List (S63)) × Option Int) :=
 (rd_entry k l0 false).bind fun t => if t.2.1 = true then some ((⟨#[]⟩ : ByteArray), [], some 3) else if (t.1.length : Int) = 0 then some (t.2.2.1, t.2.2.2, none) else some ((⟨#[]⟩ : ByteArray), [], some 3)
set_option maxHeartbeats 8000000 in
set_option maxRecDepth 100000 in
theorem store_DecodeEntry.calls (k : Nat) (A0 : Option Addr) (c0 : Nat) (l0 : List Int) (r1 : ByteArray) (r2 : List (List (S63))) (r3 : Option Int) (w : World) (hr0 : Kd.C (Kd.int .u8) w A0 l0.length l0) (hc0 : l0.length ≤ c0) (hG : GW w) (h : store_DecodeEntry.f k l0 = some (r1, r2, r3)) :
  Calls Tryz.prog 15 #[.slice A0 l0.length c0] w fun e w' => ∃ v1_ : Value, e = .returned (.tuple #[.agg #[.string r1, v1_], errW r3]) ∧ Kd.S (Kd.slice 63 k63) 64 w' w.heap.size (fun _ => True) v1_ r2 ∧ Below w.heap.size w w' := by
 have hu1 := Tryz.underlying80
 have hu2 := Tryz.underlying50
 have hu3 := Tryz.underlying32
 have hu4 := Tryz.underlying65
 have HW2 := Aside0.mk (show 2 ≤ w.heap.size from by obtain ⟨m, hm⟩ := hG.m; have := World.block_lt_of_cell? w _ hm; exact this)
 have HV0 := Aside0.mk (show Kd.V (Kd.int .u8) 5 w 0 (fun k_ => k_ < w.heap.size) (.slice A0 l0.length c0) l0 from Kd.V_mk hc0 (fun W' hW => (Kd.heap_int .u8).C (fun k_ hk => hW k_ hk hk) hr0))
 have HG := Aside0.mk hG
 clear hG hr0 hc0
 unfold store_DecodeEntry.f at h
 obtain ⟨⟨t1, t2, t3, t4⟩, hE, h⟩ := Option.bind_eq_some_iff.mp h
 have HE := Aside0.mk hE
 clear hE
 dsimp only at h
 cases t2 with
 | true =>
  rw [if_pos rfl] at h
  simp only [Option.some.injEq, Prod.mk.injEq] at h
  obtain ⟨rfl, rfl, rfl⟩ := h
  go_enter Tryz.func15, Tryz.ntmps15
  go_wp2_with (first | ((with_reducible refine qgd (N := 2) rfl ?_); refine qB_ 2 #[.string (⟨#[]⟩ : ByteArray), .slice none 0 0] 50 ?_; intro gb2 hg w2 hbox hb; have BK2 := Aside0.mk hbox; have BB := Aside0.mk hb; have GB2 := Aside0.mk (show w.heap.size ≤ gb2 from by rw [hg]; exact Nat.le_refl _); clear hb hbox hg) | ((with_reducible refine qgd (N := 8) rfl ?_); refine qB_ 8 #[.slice A0 l0.length c0, .bool false] 80 ?_; intro g hg w3 hbox hb; have n1_ := Aside0.mk (below_step BB.out hb); have n2_ := Aside0.mk ((hb.block gb2 (blk_lt BK2.out)).trans BK2.out); have GG := Aside0.mk (show w.heap.size ≤ g from by rw [hg]; exact BB.out.size); have NG2 := Aside0.mk (show gb2 ≠ g from by rw [hg]; exact Nat.ne_of_lt (blk_lt BK2.out)); have HR := Aside0.mk (show Rdr w.heap.size w3 g l0 false from ⟨A0, c0, hbox, Kd.V_below HV0.out n1_.out, GG.out⟩); clear BB BK2; have BB := n1_; have BK2 := n2_; clear n1_ n2_ hb hbox hg) | ((with_reducible refine qgc (f := 39) rfl ?_); refine gL_ (some 10) Tryz.func39 #[.pointer (some ⟨g, 0, none⟩)] ?_; (with_reducible refine (rd_entry_calls k w.heap.size g l0 false t1 true t3 t4 w3 (GW_below HG.out BB.out) HW2.out HR.out HE.out).mono ?_); rintro e w4 ⟨v0, rfl, S1, R1, O1⟩; refine ⟨_, rfl, ?_⟩; have n1_ := Aside0.mk (Kd.S_lower S1 BB.out.size); have n2_ := Aside0.mk R1; have n3_ := Aside0.mk (O1.below BB.out GG.out (Nat.le_refl _)); have n4_ := Aside0.mk ((O1.block gb2 (blk_lt BK2.out) NG2.out).trans BK2.out); clear S1 R1 O1 HR BB BK2; have HS := n1_; have HR := n2_; have BB := n3_; have BK2 := n4_; clear n1_ n2_ n3_ n4_; obtain ⟨Ao, co, eo⟩ := Kd.S_slice HS.out; subst eo) | ((with_reducible refine qgd (N := 5) rfl ?_); refine qB_ 5 #[.string (⟨#[]⟩ : ByteArray), .slice none 0 0] 50 ?_; intro gb5 hg w5 hbox hb; have BK5 := Aside0.mk hbox; have GB5 := Aside0.mk (show w.heap.size ≤ gb5 from by rw [hg]; exact BB.out.size); have N25 := Aside0.mk (show gb2 ≠ gb5 from by rw [hg]; exact Nat.ne_of_lt (blk_lt BK2.out)); have NG5 := Aside0.mk (show gb5 ≠ g from by rw [hg]; have := blk_lt HR.out.choose_spec.choose_spec.1; omega); have n1_ := Aside0.mk (Kd.S_below HS.out hb); have n2_ := Aside0.mk (rdr_below HR.out hb); have n3_ := Aside0.mk (below_step BB.out hb); have n4_ := Aside0.mk ((hb.block gb2 (blk_lt BK2.out)).trans BK2.out); clear HS HR BB BK2; have HS := n1_; have HR := n2_; have BB := n3_; have BK2 := n4_; clear n1_ n2_ n3_ n4_ hb hbox hg; obtain ⟨hct0, hct1, hft0, hft1⟩ := zf2_ BK5) | ((with_reducible refine qgc (f := 32) rfl ?_); have n1_ := Aside0.mk (show Kd.S (Kd.slice 63 k63) 64 ((w5.setCell ⟨gb5, 0, none⟩ (.string t3)).setCell ⟨gb5, 1, none⟩ (.slice Ao t4.length co)) w.heap.size (fun _ => True) (.slice Ao t4.length co) t4 from Kd.S_set (Kd.S_set HS.out BK5.out (by decide) 0 (.string t3)) (qkp (cs := #[.string (⟨#[]⟩ : ByteArray), .slice none 0 0]) BK5.out 0 (.string t3) rfl) (by decide) 1 (.slice Ao t4.length co)); have n2_ := Aside0.mk (show Rdr w.heap.size ((w5.setCell ⟨gb5, 0, none⟩ (.string t3)).setCell ⟨gb5, 1, none⟩ (.slice Ao t4.length co)) g t1 true from rdr_on HR.out (((On.refl gb5 w5).set 0 _).set 1 _) NG5.out.symm GB5.out); have n3_ := Aside0.mk (show Below w.heap.size w ((w5.setCell ⟨gb5, 0, none⟩ (.string t3)).setCell ⟨gb5, 1, none⟩ (.slice Ao t4.length co)) from qbs (qbs BB.out GB5.out) GB5.out); have n4_ := Aside0.mk (show ((w5.setCell ⟨gb5, 0, none⟩ (.string t3)).setCell ⟨gb5, 1, none⟩ (.slice Ao t4.length co)).heap[gb2]? = some (.cells #[.string (⟨#[]⟩ : ByteArray), .slice none 0 0] 50 (0, 0)) from qkr (qkr BK2.out N25.out _) N25.out _); have n5_ := Aside0.mk (show ((w5.setCell ⟨gb5, 0, none⟩ (.string t3)).setCell ⟨gb5, 1, none⟩ (.slice Ao t4.length co)).heap[gb5]? = some (.cells #[.string t3, .slice Ao t4.length co] 50 (0, 0)) from qkp (cs := #[.string t3, .slice none 0 0]) (qkp (cs := #[.string (⟨#[]⟩ : ByteArray), .slice none 0 0]) BK5.out 0 (.string t3) rfl) 1 (.slice Ao t4.length co) rfl); clear hct0 hct1 hft0 hft1 HS HR BB BK2 BK5; have HS := n1_; have HR := n2_; have BB := n3_; have BK2 := n4_; have BK5 := n5_; clear n1_ n2_ n3_ n4_ n5_; generalize ((w5.setCell ⟨gb5, 0, none⟩ (.string t3)).setCell ⟨gb5, 1, none⟩ (.slice Ao t4.length co)) = w6 at HS HR BB BK2 BK5 ⊢; refine gL_ (some 12) Tryz.func32 #[.pointer (some ⟨g, 0, none⟩)] ?_; (with_reducible refine (rd_done_calls w.heap.size g t1 true w6 HR.out).mono ?_); rintro e w7 ⟨rfl, hw⟩; replace hw := hw.symm; subst hw; refine ⟨_, rfl, ?_⟩; have hn5 := N25.out; have hn6 := N25.out.symm; obtain ⟨hcu0, hcu1, hfu0, hfu1⟩ := zf2_ BK2; obtain ⟨hcs0, hcs1, hfs0, hfs1⟩ := zf2_ BK5))
  refine bodyPost_ret (results_ct rfl _ _ gb2 50 #[.string (⟨#[]⟩ : ByteArray), .slice none 0 0] (0, 0) _ rfl (qkp (cs := #[.string (⟨#[]⟩ : ByteArray), .slice none 0 0]) (qkp (cs := #[.string (⟨#[]⟩ : ByteArray), .slice none 0 0]) BK2.out 0 (.string (⟨#[]⟩ : ByteArray)) rfl) 1 (.slice none 0 0) rfl) Tryz.underlying50 rfl (by kernel_rfl)) rfl ?_
  exact ⟨_, by first | rfl | (simp [errW_none, errW_some] <;> rfl), Kd.S_nil _ _ _ _ _, qbs (qbs BB.out GB2.out) GB2.out⟩
 | false =>
  rw [if_neg (by decide)] at h
  by_cases c1 : (t1.length : Int) = 0
  ·rw [if_pos c1] at h
   have d1 : ((t1.length : Int) == 0) = true := beq_iff_eq.mpr c1
   have d2 : t1.length = 0 := by omega
   have HD := Aside0.mk d2
   clear c1 d2
   simp only [Option.some.injEq, Prod.mk.injEq] at h
   obtain ⟨rfl, rfl, rfl⟩ := h
   go_enter Tryz.func15, Tryz.ntmps15
   go_wp2_with (first | ((with_reducible refine qgd (N := 2) rfl ?_); refine qB_ 2 #[.string (⟨#[]⟩ : ByteArray), .slice none 0 0] 50 ?_; intro gb2 hg w2 hbox hb; have BK2 := Aside0.mk hbox; have BB := Aside0.mk hb; have GB2 := Aside0.mk (show w.heap.size ≤ gb2 from by rw [hg]; exact Nat.le_refl _); clear hb hbox hg) | ((with_reducible refine qgd (N := 8) rfl ?_); refine qB_ 8 #[.slice A0 l0.length c0, .bool false] 80 ?_; intro g hg w3 hbox hb; have n1_ := Aside0.mk (below_step BB.out hb); have n2_ := Aside0.mk ((hb.block gb2 (blk_lt BK2.out)).trans BK2.out); have GG := Aside0.mk (show w.heap.size ≤ g from by rw [hg]; exact BB.out.size); have NG2 := Aside0.mk (show gb2 ≠ g from by rw [hg]; exact Nat.ne_of_lt (blk_lt BK2.out)); have HR := Aside0.mk (show Rdr w.heap.size w3 g l0 false from ⟨A0, c0, hbox, Kd.V_below HV0.out n1_.out, GG.out⟩); clear BB BK2; have BB := n1_; have BK2 := n2_; clear n1_ n2_ hb hbox hg) | ((with_reducible refine qgc (f := 39) rfl ?_); refine gL_ (some 10) Tryz.func39 #[.pointer (some ⟨g, 0, none⟩)] ?_; (with_reducible refine (rd_entry_calls k w.heap.size g l0 false t1 false t3 t4 w3 (GW_below HG.out BB.out) HW2.out HR.out HE.out).mono ?_); rintro e w4 ⟨v0, rfl, S1, R1, O1⟩; refine ⟨_, rfl, ?_⟩; have n1_ := Aside0.mk (Kd.S_lower S1 BB.out.size); have n2_ := Aside0.mk R1; have n3_ := Aside0.mk (O1.below BB.out GG.out (Nat.le_refl _)); have n4_ := Aside0.mk ((O1.block gb2 (blk_lt BK2.out) NG2.out).trans BK2.out); clear S1 R1 O1 HR BB BK2; have HS := n1_; have HR := n2_; have BB := n3_; have BK2 := n4_; clear n1_ n2_ n3_ n4_; obtain ⟨Ao, co, eo⟩ := Kd.S_slice HS.out; subst eo) | ((with_reducible refine qgd (N := 5) rfl ?_); refine qB_ 5 #[.string (⟨#[]⟩ : ByteArray), .slice none 0 0] 50 ?_; intro gb5 hg w5 hbox hb; have BK5 := Aside0.mk hbox; have GB5 := Aside0.mk (show w.heap.size ≤ gb5 from by rw [hg]; exact BB.out.size); have N25 := Aside0.mk (show gb2 ≠ gb5 from by rw [hg]; exact Nat.ne_of_lt (blk_lt BK2.out)); have NG5 := Aside0.mk (show gb5 ≠ g from by rw [hg]; have := blk_lt HR.out.choose_spec.choose_spec.1; omega); have n1_ := Aside0.mk (Kd.S_below HS.out hb); have n2_ := Aside0.mk (rdr_below HR.out hb); have n3_ := Aside0.mk (below_step BB.out hb); have n4_ := Aside0.mk ((hb.block gb2 (blk_lt BK2.out)).trans BK2.out); clear HS HR BB BK2; have HS := n1_; have HR := n2_; have BB := n3_; have BK2 := n4_; clear n1_ n2_ n3_ n4_ hb hbox hg; obtain ⟨hct0, hct1, hft0, hft1⟩ := zf2_ BK5) | ((with_reducible refine qgc (f := 32) rfl ?_); have n1_ := Aside0.mk (show Kd.S (Kd.slice 63 k63) 64 ((w5.setCell ⟨gb5, 0, none⟩ (.string t3)).setCell ⟨gb5, 1, none⟩ (.slice Ao t4.length co)) w.heap.size (fun _ => True) (.slice Ao t4.length co) t4 from Kd.S_set (Kd.S_set HS.out BK5.out (by decide) 0 (.string t3)) (qkp (cs := #[.string (⟨#[]⟩ : ByteArray), .slice none 0 0]) BK5.out 0 (.string t3) rfl) (by decide) 1 (.slice Ao t4.length co)); have n2_ := Aside0.mk (show Rdr w.heap.size ((w5.setCell ⟨gb5, 0, none⟩ (.string t3)).setCell ⟨gb5, 1, none⟩ (.slice Ao t4.length co)) g t1 false from rdr_on HR.out (((On.refl gb5 w5).set 0 _).set 1 _) NG5.out.symm GB5.out); have n3_ := Aside0.mk (show Below w.heap.size w ((w5.setCell ⟨gb5, 0, none⟩ (.string t3)).setCell ⟨gb5, 1, none⟩ (.slice Ao t4.length co)) from qbs (qbs BB.out GB5.out) GB5.out); have n4_ := Aside0.mk (show ((w5.setCell ⟨gb5, 0, none⟩ (.string t3)).setCell ⟨gb5, 1, none⟩ (.slice Ao t4.length co)).heap[gb2]? = some (.cells #[.string (⟨#[]⟩ : ByteArray), .slice none 0 0] 50 (0, 0)) from qkr (qkr BK2.out N25.out _) N25.out _); have n5_ := Aside0.mk (show ((w5.setCell ⟨gb5, 0, none⟩ (.string t3)).setCell ⟨gb5, 1, none⟩ (.slice Ao t4.length co)).heap[gb5]? = some (.cells #[.string t3, .slice Ao t4.length co] 50 (0, 0)) from qkp (cs := #[.string t3, .slice none 0 0]) (qkp (cs := #[.string (⟨#[]⟩ : ByteArray), .slice none 0 0]) BK5.out 0 (.string t3) rfl) 1 (.slice Ao t4.length co) rfl); clear hct0 hct1 hft0 hft1 HS HR BB BK2 BK5; have HS := n1_; have HR := n2_; have BB := n3_; have BK2 := n4_; have BK5 := n5_; clear n1_ n2_ n3_ n4_ n5_; generalize ((w5.setCell ⟨gb5, 0, none⟩ (.string t3)).setCell ⟨gb5, 1, none⟩ (.slice Ao t4.length co)) = w6 at HS HR BB BK2 BK5 ⊢; refine gL_ (some 12) Tryz.func32 #[.pointer (some ⟨g, 0, none⟩)] ?_; (with_reducible refine (rd_done_calls w.heap.size g t1 false w6 HR.out).mono ?_); rintro e w7 ⟨rfl, hw⟩; replace hw := hw.symm; subst hw; refine ⟨_, rfl, ?_⟩; have hn5 := N25.out; have hn6 := N25.out.symm; obtain ⟨hcu0, hcu1, hfu0, hfu1⟩ := zf2_ BK2; obtain ⟨hcs0, hcs1, hfs0, hfs1⟩ := zf2_ BK5))
   refine bodyPost_ret (results_ct rfl _ _ gb2 50 #[.string t3, .slice Ao t4.length co] (0, 0) _ rfl (qkp (cs := #[.string t3, .slice none 0 0]) (qkp (cs := #[.string (⟨#[]⟩ : ByteArray), .slice none 0 0]) BK2.out 0 (.string t3) rfl) 1 (.slice Ao t4.length co) rfl) Tryz.underlying50 rfl (by kernel_rfl)) rfl ?_
   exact ⟨_, by first | rfl | (simp [errW_none, errW_some] <;> rfl), Kd.S_set (Kd.S_set HS.out BK2.out (by decide) 0 (.string t3)) (qkp (cs := #[.string (⟨#[]⟩ : ByteArray), .slice none 0 0]) BK2.out 0 (.string t3) rfl) (by decide) 1 (.slice Ao t4.length co), qbs (qbs BB.out GB2.out) GB2.out⟩
  rw [if_neg c1] at h
  have d1 : ((t1.length : Int) == 0) = false := beq_eq_false_iff_ne.mpr c1
  clear c1
  simp only [Option.some.injEq, Prod.mk.injEq] at h
  obtain ⟨rfl, rfl, rfl⟩ := h
  go_enter Tryz.func15, Tryz.ntmps15
  go_wp2_with (first | ((with_reducible refine qgd (N := 2) rfl ?_); refine qB_ 2 #[.string (⟨#[]⟩ : ByteArray), .slice none 0 0] 50 ?_; intro gb2 hg w2 hbox hb; have BK2 := Aside0.mk hbox; have BB := Aside0.mk hb; have GB2 := Aside0.mk (show w.heap.size ≤ gb2 from by rw [hg]; exact Nat.le_refl _); clear hb hbox hg) | ((with_reducible refine qgd (N := 8) rfl ?_); refine qB_ 8 #[.slice A0 l0.length c0, .bool false] 80 ?_; intro g hg w3 hbox hb; have n1_ := Aside0.mk (below_step BB.out hb); have n2_ := Aside0.mk ((hb.block gb2 (blk_lt BK2.out)).trans BK2.out); have GG := Aside0.mk (show w.heap.size ≤ g from by rw [hg]; exact BB.out.size); have NG2 := Aside0.mk (show gb2 ≠ g from by rw [hg]; exact Nat.ne_of_lt (blk_lt BK2.out)); have HR := Aside0.mk (show Rdr w.heap.size w3 g l0 false from ⟨A0, c0, hbox, Kd.V_below HV0.out n1_.out, GG.out⟩); clear BB BK2; have BB := n1_; have BK2 := n2_; clear n1_ n2_ hb hbox hg) | ((with_reducible refine qgc (f := 39) rfl ?_); refine gL_ (some 10) Tryz.func39 #[.pointer (some ⟨g, 0, none⟩)] ?_; (with_reducible refine (rd_entry_calls k w.heap.size g l0 false t1 false t3 t4 w3 (GW_below HG.out BB.out) HW2.out HR.out HE.out).mono ?_); rintro e w4 ⟨v0, rfl, S1, R1, O1⟩; refine ⟨_, rfl, ?_⟩; have n1_ := Aside0.mk (Kd.S_lower S1 BB.out.size); have n2_ := Aside0.mk R1; have n3_ := Aside0.mk (O1.below BB.out GG.out (Nat.le_refl _)); have n4_ := Aside0.mk ((O1.block gb2 (blk_lt BK2.out) NG2.out).trans BK2.out); clear S1 R1 O1 HR BB BK2; have HS := n1_; have HR := n2_; have BB := n3_; have BK2 := n4_; clear n1_ n2_ n3_ n4_; obtain ⟨Ao, co, eo⟩ := Kd.S_slice HS.out; subst eo) | ((with_reducible refine qgd (N := 5) rfl ?_); refine qB_ 5 #[.string (⟨#[]⟩ : ByteArray), .slice none 0 0] 50 ?_; intro gb5 hg w5 hbox hb; have BK5 := Aside0.mk hbox; have GB5 := Aside0.mk (show w.heap.size ≤ gb5 from by rw [hg]; exact BB.out.size); have N25 := Aside0.mk (show gb2 ≠ gb5 from by rw [hg]; exact Nat.ne_of_lt (blk_lt BK2.out)); have NG5 := Aside0.mk (show gb5 ≠ g from by rw [hg]; have := blk_lt HR.out.choose_spec.choose_spec.1; omega); have n1_ := Aside0.mk (Kd.S_below HS.out hb); have n2_ := Aside0.mk (rdr_below HR.out hb); have n3_ := Aside0.mk (below_step BB.out hb); have n4_ := Aside0.mk ((hb.block gb2 (blk_lt BK2.out)).trans BK2.out); clear HS HR BB BK2; have HS := n1_; have HR := n2_; have BB := n3_; have BK2 := n4_; clear n1_ n2_ n3_ n4_ hb hbox hg; obtain ⟨hct0, hct1, hft0, hft1⟩ := zf2_ BK5) | ((with_reducible refine qgc (f := 32) rfl ?_); have n1_ := Aside0.mk (show Kd.S (Kd.slice 63 k63) 64 ((w5.setCell ⟨gb5, 0, none⟩ (.string t3)).setCell ⟨gb5, 1, none⟩ (.slice Ao t4.length co)) w.heap.size (fun _ => True) (.slice Ao t4.length co) t4 from Kd.S_set (Kd.S_set HS.out BK5.out (by decide) 0 (.string t3)) (qkp (cs := #[.string (⟨#[]⟩ : ByteArray), .slice none 0 0]) BK5.out 0 (.string t3) rfl) (by decide) 1 (.slice Ao t4.length co)); have n2_ := Aside0.mk (show Rdr w.heap.size ((w5.setCell ⟨gb5, 0, none⟩ (.string t3)).setCell ⟨gb5, 1, none⟩ (.slice Ao t4.length co)) g t1 false from rdr_on HR.out (((On.refl gb5 w5).set 0 _).set 1 _) NG5.out.symm GB5.out); have n3_ := Aside0.mk (show Below w.heap.size w ((w5.setCell ⟨gb5, 0, none⟩ (.string t3)).setCell ⟨gb5, 1, none⟩ (.slice Ao t4.length co)) from qbs (qbs BB.out GB5.out) GB5.out); have n4_ := Aside0.mk (show ((w5.setCell ⟨gb5, 0, none⟩ (.string t3)).setCell ⟨gb5, 1, none⟩ (.slice Ao t4.length co)).heap[gb2]? = some (.cells #[.string (⟨#[]⟩ : ByteArray), .slice none 0 0] 50 (0, 0)) from qkr (qkr BK2.out N25.out _) N25.out _); have n5_ := Aside0.mk (show ((w5.setCell ⟨gb5, 0, none⟩ (.string t3)).setCell ⟨gb5, 1, none⟩ (.slice Ao t4.length co)).heap[gb5]? = some (.cells #[.string t3, .slice Ao t4.length co] 50 (0, 0)) from qkp (cs := #[.string t3, .slice none 0 0]) (qkp (cs := #[.string (⟨#[]⟩ : ByteArray), .slice none 0 0]) BK5.out 0 (.string t3) rfl) 1 (.slice Ao t4.length co) rfl); clear hct0 hct1 hft0 hft1 HS HR BB BK2 BK5; have HS := n1_; have HR := n2_; have BB := n3_; have BK2 := n4_; have BK5 := n5_; clear n1_ n2_ n3_ n4_ n5_; generalize ((w5.setCell ⟨gb5, 0, none⟩ (.string t3)).setCell ⟨gb5, 1, none⟩ (.slice Ao t4.length co)) = w6 at HS HR BB BK2 BK5 ⊢; refine gL_ (some 12) Tryz.func32 #[.pointer (some ⟨g, 0, none⟩)] ?_; (with_reducible refine (rd_done_calls w.heap.size g t1 false w6 HR.out).mono ?_); rintro e w7 ⟨rfl, hw⟩; replace hw := hw.symm; subst hw; refine ⟨_, rfl, ?_⟩; have hn5 := N25.out; have hn6 := N25.out.symm; obtain ⟨hcu0, hcu1, hfu0, hfu1⟩ := zf2_ BK2; obtain ⟨hcs0, hcs1, hfs0, hfs1⟩ := zf2_ BK5))
  refine bodyPost_ret (results_ct rfl _ _ gb2 50 #[.string (⟨#[]⟩ : ByteArray), .slice none 0 0] (0, 0) _ rfl (qkp (cs := #[.string (⟨#[]⟩ : ByteArray), .slice none 0 0]) (qkp (cs := #[.string (⟨#[]⟩ : ByteArray), .slice none 0 0]) BK2.out 0 (.string (⟨#[]⟩ : ByteArray)) rfl) 1 (.slice none 0 0) rfl) Tryz.underlying50 rfl (by kernel_rfl)) rfl ?_
  exact ⟨_, by first | rfl | (simp [errW_none, errW_some] <;> rfl), Kd.S_nil _ _ _ _ _, qbs (qbs BB.out GB2.out) GB2.out⟩
/-! ### more rounds, the same answer -/
theorem rd_uint.mono : ∀ l bad most k, LeO (rd_uint k l bad most) (rd_uint (k + 1) l bad most) := by
 intro l bad most k
 unfold rd_uint
 repeat' first
 | (with_reducible exact pack_Uint.mono _ _)
 | (with_reducible exact LeO.refl _)
 | (with_reducible exact LeO.none _)
 | (with_reducible refine LeO.ite ?_ ?_)
 | (with_reducible refine LeO.bind ?_ (fun _ => ?_))
 | exact LeO.refl _
theorem rd_text.mono : ∀ l bad k, LeO (rd_text k l bad) (rd_text (k + 1) l bad) := by
 intro l bad k
 unfold rd_text
 repeat' first
 | (with_reducible exact pack_Text.mono _ _ _)
 | (with_reducible exact LeO.refl _)
 | (with_reducible exact LeO.none _)
 | (with_reducible refine LeO.ite ?_ ?_)
 | (with_reducible refine LeO.bind ?_ (fun _ => ?_))
 | exact LeO.refl _
theorem rd_values.mono : ∀ l bad k, LeO (rd_values k l bad) (rd_values (k + 1) l bad) := by
 intro l bad k
 unfold rd_values
 repeat' first
 | (with_reducible exact rd_text.mono _ _ _)
 | (with_reducible exact order_Decode.mono _ _)
 | (with_reducible exact LeO.refl _)
 | (with_reducible exact LeO.none _)
 | (with_reducible refine LeO.ite ?_ ?_)
 | (with_reducible refine LeO.bind ?_ (fun _ => ?_))
 | exact LeO.refl _
theorem rd_tail.mono : ∀ l bad view acc k, LeO (rd_tail k l bad view acc) (rd_tail (k + 1) l bad view acc) := by
 intro l bad view acc k
 unfold rd_tail
 repeat' first
 | (with_reducible exact table_Name.mono _ _)
 | (with_reducible exact LeO.refl _)
 | (with_reducible exact LeO.none _)
 | (with_reducible refine LeO.ite ?_ ?_)
 | (with_reducible refine LeO.bind ?_ (fun _ => ?_))
 | exact LeO.refl _
theorem rd_loop.mono (n : Int) (view : ByteArray) : ∀ k i l bad acc, LeO (rd_loop n view k i l bad acc) (rd_loop n view (k + 1) i l bad acc)
 | 0 => fun _ _ _ _ r h => by simp [rd_loop] at h
 | k + 1 => by
  have ih := rd_loop.mono n view k
  intro i l bad acc
  unfold rd_loop
  repeat' first
  | (with_reducible exact ih _ _ _ _)
  | (with_reducible exact rd_tail.mono _ _ _ _ _)
  | (with_reducible exact rd_values.mono _ _ _)
  | (with_reducible exact LeO.refl _)
  | (with_reducible exact LeO.none _)
  | (with_reducible refine LeO.ite ?_ ?_)
  | (with_reducible refine LeO.bind ?_ (fun _ => ?_))
theorem rd_entry.mono : ∀ l bad k, LeO (rd_entry k l bad) (rd_entry (k + 1) l bad) := by
 intro l bad k
 unfold rd_entry
 repeat' first
 | (with_reducible exact rd_text.mono _ _ _)
 | (with_reducible exact rd_uint.mono _ _ _ _)
 | (with_reducible exact rd_loop.mono _ _ _ _ _ _ _)
 | (with_reducible exact LeO.refl _)
 | (with_reducible exact LeO.none _)
 | (with_reducible refine LeO.ite ?_ ?_)
 | (with_reducible refine LeO.bind ?_ (fun _ => ?_))
 | exact LeO.refl _
theorem store_DecodeEntry.mono : ∀ l k, LeO (store_DecodeEntry.f k l) (store_DecodeEntry.f (k + 1) l) := by
 intro l k
 unfold store_DecodeEntry.f
 repeat' first
 | (with_reducible exact rd_entry.mono _ _ _)
 | (with_reducible exact LeO.refl _)
 | (with_reducible refine LeO.bind ?_ (fun _ => ?_))

end Go.Proofs.YtddkbhglbkfelaaGreatDoor.T
