-- Written by wip/xprint.py of this session's own repo (a patched run of the kit's printer). Not trusted: Lean checks it.
import Derived.Test.YtaffmgphcmmdhaaDoorPbLx0
import Derived.Test.YtaffmgphcmmdhaaDoorPbLx4
import Derived.Test.YtaffmgphcmmdhaaDoorPbLx5
import Derived.Test.YtaffmgphcmmdhaaDoorPbLx6
namespace Go.Proofs.YtaffmgphcmmdhaaDoor.L
open Go.RowKit Go.Proofs.YtaffmgphcmmdhaaDoorW.PrintWords Go.Proofs.YtaffmgphcmmdhaaDoorW.PrintLast Go.Proofs.YtaffmgphcmmdhaaDoorW.PrintMore Go.Proofs.YtaffmgphcmmdhaaDoorX
attribute [local go_sem] max2_int min2_int max_two min_two max_three min_three max_four min_four
set_option linter.unusedVariables false
set_option linter.unusedSimpArgs false

/-! ### barbicanlaw18_LexBack: function 3 -/
mutual
def barbicanlaw18_LexBack.j0 : Nat → ByteArray → List Int → List (S34) → Option (Bool)
  | 0, _, _, _ => none
  | k + 1, x0, x1, x5 => barbicanlaw18_LexBack.l0 k x0 x1 x5 ([] : List Int) 0
def barbicanlaw18_LexBack.l0 : Nat → ByteArray → List Int → List (S34) → List Int → Int → Option (Bool)
  | 0, _, _, _, _, _ => none
  | k + 1, x0, x1, x5, x13, x14 => if x14 < (x5.length : Int) then (if (wrap64 (x14 + 1)) < (x5.length : Int) then (if 0 ≤ (wrap64 (x14 + 1)) then (barbicanlaw18_LexBack.j2 k x0 x1 x5 x13 x14 ((rd_T34 x5 (wrap64 (x14 + 1))).f3)) else (none)) else (barbicanlaw18_LexBack.j2 k x0 x1 x5 x13 x14 (x0.size : Int))) else (if (x13.length : Int) > 65536 then ((barbicanlaw18_sure.f k).bind fun t221 => (some t221)) else ((lex_Lex.f k (strOfNums x13)).bind fun bt222 => (if bt222.2.2.isNone = true then ((lex_Same.f k x5 bt222.1).bind fun t228 => (if t228 = true then ((barbicanlaw18_sure.f k).bind fun t229 => (some t229)) else (none))) else (none))))
def barbicanlaw18_LexBack.j2 : Nat → ByteArray → List Int → List (S34) → List Int → Int → Int → Option (Bool)
  | 0, _, _, _, _, _, _ => none
  | k + 1, x0, x1, x5, x13, x14, x15 => if 0 ≤ x14 then (if x14 < (x5.length : Int) then (if ((rd_T34 x5 x14).f3) < 0 then (none) else (if ((rd_T34 x5 x14).f3) > x15 then (none) else (barbicanlaw18_LexBack.j3 k x0 x1 x5 x13 x14 x15 (decide (x15 > (x0.size : Int)))))) else (none)) else (none)
def barbicanlaw18_LexBack.j3 : Nat → ByteArray → List Int → List (S34) → List Int → Int → Int → Bool → Option (Bool)
  | 0, _, _, _, _, _, _, _ => none
  | k + 1, x0, x1, x5, x13, x14, x15, x96 => if x96 = true then (none) else (if 0 ≤ x14 then (if x14 < (x5.length : Int) then (if 0 ≤ ((rd_T34 x5 x14).f3) then (if ((rd_T34 x5 x14).f3) ≤ x15 then (if x15 ≤ (x0.size : Int) then (if x13.length + (x0.extract (((rd_T34 x5 x14).f3) : Int).toNat (x15 : Int).toNat).size < 140737488355328 then ((some (x13 ++ bytesOf (x0.extract (((rd_T34 x5 x14).f3) : Int).toNat (x15 : Int).toNat) : List Int)).bind fun y214 => (if x14 < (x1.length : Int) then (if 0 ≤ (wrap64 (Int.tmod (IntKind.u64.wrap (rd x1 x14)) 4)) then (if (wrap64 (Int.tmod (IntKind.u64.wrap (rd x1 x14)) 4)) < 4 then (if y214.length < 140737488355328 then (barbicanlaw18_LexBack.l0 k x0 x1 x5 (y214 ++ [bt (⟨#[32, 9, 10, 13]⟩ : ByteArray) (wrap64 (Int.tmod (IntKind.u64.wrap (rd x1 x14)) 4))]) (wrap64 (x14 + 1))) else (none)) else (none)) else (none)) else (barbicanlaw18_LexBack.l0 k x0 x1 x5 y214 (wrap64 (x14 + 1))))) else (none)) else (none)) else (none)) else (none)) else (none)) else (none))
end
def barbicanlaw18_LexBack.f (k : Nat) (a0 : ByteArray) (l1 : List Int) : Option (Bool) := (lex_Lex.f k a0).bind fun bt194 => (if bt194.2.2.isNone = true then ((lex_Print.f k bt194.1).bind fun bt200 => (if bt200.2.isNone = true then (if (bt200.1.size : Int) ≤ 65536 then ((lex_Lex.f k bt200.1).bind fun bt203 => (if bt203.2.2.isNone = true then ((lex_Same.f k bt194.1 bt203.1).bind fun t209 => (if t209 = true then (barbicanlaw18_LexBack.j0 k a0 l1 bt194.1) else (none))) else (none))) else (barbicanlaw18_LexBack.j0 k a0 l1 bt194.1)) else (none))) else (if (bt194.1.length : Int) = 0 then ((barbicanlaw18_sure.f k).bind fun t230 => (some t230)) else (none)))
set_option maxHeartbeats 8000000 in
set_option maxRecDepth 100000 in
theorem barbicanlaw18_LexBack.calls (k : Nat) (a0 : ByteArray) (A1 : Option Addr) (c1 : Nat) (l1 : List Int) (r : Bool) (w : World) (hr1 : Kd.C (Kd.int .i64) w A1 l1.length l1) (hc1 : l1.length ≤ c1) (hG : GW w) (h : barbicanlaw18_LexBack.f k a0 l1 = some r) :
    Calls Tryd.prog 3 #[.string a0, .slice A1 l1.length c1] w fun e w' => e = .returned (.bool r) ∧ Below w.heap.size w w' := by
  have hu25 := Tryd.underlying25
  have hu37 := Tryd.underlying37
  have HR1 := Aside0.mk hr1
  have HC1 := Aside0.mk hc1
  clear hr1 hc1
  have HB := Aside0.mk (Below.refl w.heap.size w)
  have HG := Aside0.mk hG
  clear hG
  have H : ((lex_Lex.f k a0).bind fun bt194 => (if bt194.2.2.isNone = true then ((lex_Print.f k bt194.1).bind fun bt200 => (if bt200.2.isNone = true then (if (bt200.1.size : Int) ≤ 65536 then ((lex_Lex.f k bt200.1).bind fun bt203 => (if bt203.2.2.isNone = true then ((lex_Same.f k bt194.1 bt203.1).bind fun t209 => (if t209 = true then (barbicanlaw18_LexBack.j0 k a0 l1 bt194.1) else (none))) else (none))) else (barbicanlaw18_LexBack.j0 k a0 l1 bt194.1)) else (none))) else (if (bt194.1.length : Int) = 0 then ((barbicanlaw18_sure.f k).bind fun t230 => (some t230)) else (none)))) = some r := h
  clear h
  replace H := Option.bind_eq_some_iff.mp H
  obtain ⟨⟨t194, t195, t196⟩, A30, H⟩ := H
  replace H : (if t196.isNone = true then ((lex_Print.f k t194).bind fun bt200 => (if bt200.2.isNone = true then (if (bt200.1.size : Int) ≤ 65536 then ((lex_Lex.f k bt200.1).bind fun bt203 => (if bt203.2.2.isNone = true then ((lex_Same.f k t194 bt203.1).bind fun t209 => (if t209 = true then (barbicanlaw18_LexBack.j0 k a0 l1 t194) else (none))) else (none))) else (barbicanlaw18_LexBack.j0 k a0 l1 t194)) else (none))) else (if (t194.length : Int) = 0 then ((barbicanlaw18_sure.f k).bind fun t230 => (some t230)) else (none))) = some r := H
  have A3 := Aside0.mk A30
  clear A30
  rcases t196 with _ | q199
  · have H1 : ((lex_Print.f k t194).bind fun bt200 => (if bt200.2.isNone = true then (if (bt200.1.size : Int) ≤ 65536 then ((lex_Lex.f k bt200.1).bind fun bt203 => (if bt203.2.2.isNone = true then ((lex_Same.f k t194 bt203.1).bind fun t209 => (if t209 = true then (barbicanlaw18_LexBack.j0 k a0 l1 t194) else (none))) else (none))) else (barbicanlaw18_LexBack.j0 k a0 l1 t194)) else (none))) = some r := by rw [if_pos (show (none : Option Int).isNone = true by rfl)] at H; exact H
    clear H
    have H := H1
    clear H1
    try simp only [errW_none, errW_some]
    replace H := Option.bind_eq_some_iff.mp H
    obtain ⟨⟨t200, t201⟩, A40, H⟩ := H
    replace H : (if t201.isNone = true then (if (t200.size : Int) ≤ 65536 then ((lex_Lex.f k t200).bind fun bt203 => (if bt203.2.2.isNone = true then ((lex_Same.f k t194 bt203.1).bind fun t209 => (if t209 = true then (barbicanlaw18_LexBack.j0 k a0 l1 t194) else (none))) else (none))) else (barbicanlaw18_LexBack.j0 k a0 l1 t194)) else (none)) = some r := H
    have A4 := Aside0.mk A40
    clear A40
    rcases t201 with _ | q202
    · have H1 : (if (t200.size : Int) ≤ 65536 then ((lex_Lex.f k t200).bind fun bt203 => (if bt203.2.2.isNone = true then ((lex_Same.f k t194 bt203.1).bind fun t209 => (if t209 = true then (barbicanlaw18_LexBack.j0 k a0 l1 t194) else (none))) else (none))) else (barbicanlaw18_LexBack.j0 k a0 l1 t194)) = some r := by rw [if_pos (show (none : Option Int).isNone = true by rfl)] at H; exact H
      clear H
      have H := H1
      clear H1
      try simp only [errW_none, errW_some]
      have HC5 := Aside0.mk H
      clear H
      go_enter Tryd.func3, Tryd.ntmps3
      go_upto_if 42 with (first | ((with_reducible refine gate_callee (f := 4) rfl ?_); refine goesL_ (some 21) rfl rfl Tryd.func4 (by kernel_rfl) rfl #[.string a0] rfl (by (try simp only [List.map_toArray, List.map_cons, List.map_nil]); first | done | rfl | (simp only [List.length_drop, List.length_take]; rfl)) ?_; (with_reducible refine (lex_Lex.calls k a0 t194 t195 none _ ?side1 A3.out).mono ?_); (case side1 => exact GW_below HG.out (by repeat (first | (with_reducible first | exact HB.out | apply below_alloc | apply pw_below_drewN | apply below_drew1) | exact HB.out))); rintro e w6 ⟨v197, rfl, ho0, hb⟩; refine ⟨_, rfl, ?_⟩; have n0_ := Aside0.mk (Kd.R_lower ho0 (below_size (by repeat (first | (with_reducible first | exact HB.out | apply below_alloc | apply pw_below_drewN | apply below_drew1) | exact HB.out)))); have n1_ := Aside0.mk (below_step (by repeat (first | (with_reducible first | exact HB.out | apply below_alloc | apply pw_below_drewN | apply below_drew1) | exact HB.out)) hb); clear HB; have HO198 := n0_; have HB := n1_; clear n0_ n1_; (try clear hb); (try clear hb2); (try clear hk); (try clear hi); (try clear ho0); (try simp only [errW_none, errW_some]); obtain ⟨Ao7, co7, eo7⟩ := Kd.R_slice HO198.out; subst eo7) | ((with_reducible refine gate_callee (f := 6) rfl ?_); refine goesL_ (some 35) rfl rfl Tryd.func6 (by kernel_rfl) rfl #[.slice Ao7 t194.length co7] rfl (by (try simp only [List.map_toArray, List.map_cons, List.map_nil]); first | done | rfl | (simp only [List.length_drop, List.length_take]; rfl)) ?_; (with_reducible refine (lex_Print.calls k _ _ t194 t200 none _ ?side1 ?side2 ?side3 A4.out).mono ?_); (case side1 => repeat (first | exact (Kd.R_reads' HO198.out).2.2 | (with_reducible refine Kd.C_alloc ?_ _) | (with_reducible refine Kd.C_drewN ?_ _) | (with_reducible refine Kd.C_drew ?_))); (case side2 => exact (Kd.R_reads' HO198.out).2.1); (case side3 => exact GW_below HG.out (by repeat (first | (with_reducible first | exact HB.out | apply below_alloc | apply pw_below_drewN | apply below_drew1) | exact HB.out))); rintro e w8 ⟨rfl, hb⟩; refine ⟨_, rfl, ?_⟩; have n0_ := Aside0.mk (Kd.R_below (by (with_reducible repeat (first | apply Kd.R_alloc | apply Kd.R_drewN | apply Kd.R_drew)); exact HO198.out) hb); have n1_ := Aside0.mk (below_step (by repeat (first | (with_reducible first | exact HB.out | apply below_alloc | apply pw_below_drewN | apply below_drew1) | exact HB.out)) hb); clear HO198; clear HB; have HO198 := n0_; have HB := n1_; clear n0_ n1_; (try clear hb); (try clear hb2); (try clear hk); (try clear hi); (try simp only [errW_none, errW_some])))
      (try simp only [Act.put, List.setIfInBounds_toArray, List.set_cons_zero, List.set_cons_succ])
      go_cut [] (fun wc => ∃ (kq : Nat), Aside0 (barbicanlaw18_LexBack.j0 kq a0 l1 t194 = some r) ∧ Aside0 (kq ≤ k) ∧ Aside0 (Kd.R k34 34 wc w.heap.size (fun _ => True) (.slice Ao7 t194.length co7) t194) ∧ Aside0 (Below w.heap.size w wc))
      case first =>
        have H := HC5.out
        clear HC5
        by_cases c9 : (t200.size : Int) ≤ 65536
        · rw [if_pos c9] at H
          have c9b0 : decide ((t200.size : Int) ≤ 65536) = true := decide_eq_true c9
          have c9b1 : decide (t200.size ≤ 65536) = true := decide_eq_true (by omega)
          clear c9
          (first | rw [c9b0] | (simp only [i64_w, i32_w]; rw [c9b0]) | skip)
          replace H := Option.bind_eq_some_iff.mp H
          obtain ⟨⟨t203, t204, t205⟩, A100, H⟩ := H
          replace H : (if t205.isNone = true then ((lex_Same.f k t194 t203).bind fun t209 => (if t209 = true then (barbicanlaw18_LexBack.j0 k a0 l1 t194) else (none))) else (none)) = some r := H
          have A10 := Aside0.mk A100
          clear A100
          rcases t205 with _ | q208
          · have H1 : ((lex_Same.f k t194 t203).bind fun t209 => (if t209 = true then (barbicanlaw18_LexBack.j0 k a0 l1 t194) else (none))) = some r := by rw [if_pos (show (none : Option Int).isNone = true by rfl)] at H; exact H
            clear H
            have H := H1
            clear H1
            try simp only [errW_none, errW_some]
            replace H := Option.bind_eq_some_iff.mp H
            obtain ⟨t209, A110, H⟩ := H
            replace H : (if t209 = true then (barbicanlaw18_LexBack.j0 k a0 l1 t194) else (none)) = some r := H
            have A11 := Aside0.mk A110
            clear A110
            by_cases c12 : t209 = true
            · subst c12
              have H1 : (barbicanlaw18_LexBack.j0 k a0 l1 t194) = some r := by rw [if_pos rfl] at H; exact H
              clear H
              have H := H1
              clear H1
              have H' := Aside0.mk H
              clear H
              go_wp2_with (first | ((with_reducible refine gate_callee (f := 4) rfl ?_); refine goesL_ (some 45) rfl rfl Tryd.func4 (by kernel_rfl) rfl #[.string t200] rfl (by (try simp only [List.map_toArray, List.map_cons, List.map_nil]); first | done | rfl | (simp only [List.length_drop, List.length_take]; rfl)) ?_; (with_reducible refine (lex_Lex.calls k t200 t203 t204 none _ ?side1 A10.out).mono ?_); (case side1 => exact GW_below HG.out (by repeat (first | (with_reducible first | exact HB.out | apply below_alloc | apply pw_below_drewN | apply below_drew1) | exact HB.out))); rintro e w13 ⟨v206, rfl, ho0, hb⟩; refine ⟨_, rfl, ?_⟩; have n0_ := Aside0.mk (Kd.R_elder' (by (with_reducible repeat (first | apply Kd.R_alloc | apply Kd.R_drewN | apply Kd.R_drew)); exact HO198.out) (Kd.R_base ho0) hb); have n1_ := Aside0.mk (Kd.R_lower (Kd.R_new' ho0 (Kd.R_lt (by (with_reducible repeat (first | apply Kd.R_alloc | apply Kd.R_drewN | apply Kd.R_drew)); exact HO198.out))) (below_size (by repeat (first | (with_reducible first | exact HB.out | apply below_alloc | apply pw_below_drewN | apply below_drew1) | exact HB.out)))); have n2_ := Aside0.mk (below_step (by repeat (first | (with_reducible first | exact HB.out | apply below_alloc | apply pw_below_drewN | apply below_drew1) | exact HB.out)) hb); clear HO198; clear HB; have HO198 := n0_; have HO207 := n1_; have HB := n2_; clear n0_ n1_ n2_; (try clear hb); (try clear hb2); (try clear hk); (try clear hi); (try clear ho0); (try simp only [errW_none, errW_some]); obtain ⟨Ao14, co14, eo14⟩ := Kd.R_slice HO207.out; subst eo14) | (go_at_call 7; (with_reducible refine (lex_Same.calls k _ _ t194 _ _ t203 true _ ?side1 ?side2 ?side3 ?side4 A11.out).mono ?_); (case side1 => repeat (first | exact (Kd.R_reads' HO198.out).2.2 | (with_reducible refine Kd.C_alloc ?_ _) | (with_reducible refine Kd.C_drewN ?_ _) | (with_reducible refine Kd.C_drew ?_))); (case side2 => exact (Kd.R_reads' HO198.out).2.1); (case side3 => repeat (first | exact (Kd.R_reads' HO207.out).2.2 | (with_reducible refine Kd.C_alloc ?_ _) | (with_reducible refine Kd.C_drewN ?_ _) | (with_reducible refine Kd.C_drew ?_))); (case side4 => exact (Kd.R_reads' HO207.out).2.1); rintro e w15 ⟨rfl, hb⟩; have n0_ := Aside0.mk (Kd.R_below (by (with_reducible repeat (first | apply Kd.R_alloc | apply Kd.R_drewN | apply Kd.R_drew)); exact HO198.out) hb); have n1_ := Aside0.mk (Kd.R_below (by (with_reducible repeat (first | apply Kd.R_alloc | apply Kd.R_drewN | apply Kd.R_drew)); exact HO207.out) hb); have n2_ := Aside0.mk (below_step (by repeat (first | (with_reducible first | exact HB.out | apply below_alloc | apply pw_below_drewN | apply below_drew1) | exact HB.out)) hb); clear HO198; clear HO207; clear HB; have HO198 := n0_; have HO207 := n1_; have HB := n2_; clear n0_ n1_ n2_; (try clear hb); (try clear hb2); (try clear hk); (try clear hi)))
              refine Met.intro ?_
              go_step
              (repeat apply Exists.intro)
              refine ⟨?rel, ?frm⟩
              case frm => first | rfl | (simp only [c9b0, c9b1]; rfl) | (simp only [c9b0, c9b1]; first | done | rfl)
              case rel => exact ⟨_, H', ⟨by first | omega | exact Nat.le_refl _⟩, ⟨by (with_reducible repeat (first | apply Kd.R_alloc | apply Kd.R_drewN | apply Kd.R_drew)); exact Kd.R_mono HO198.out (fun _ hk => trivial)⟩, ⟨by repeat (first | (with_reducible first | exact HB.out | apply below_alloc | apply pw_below_drewN | apply below_drew1) | exact HB.out)⟩⟩
            · replace c12 := Bool.eq_false_iff.mpr c12
              subst c12
              have H1 : (none) = some r := by rw [if_neg (show ¬ (false = true) by decide)] at H; exact H
              clear H
              have H := H1
              clear H1
              exact absurd H (by simp)
          · have H1 : (none) = some r := by rw [if_neg (show ¬ (some q208).isNone = true by simp)] at H; exact H
            clear H
            have H := H1
            clear H1
            try simp only [errW_none, errW_some]
            exact absurd H (by simp)
        · rw [if_neg c9] at H
          have c9b0 : decide ((t200.size : Int) ≤ 65536) = false := decide_eq_false c9
          have c9b1 : decide (t200.size ≤ 65536) = false := decide_eq_false (by omega)
          clear c9
          (first | rw [c9b0] | (simp only [i64_w, i32_w]; rw [c9b0]) | skip)
          have H' := Aside0.mk H
          clear H
          go_wp2
          refine Met.intro ?_
          go_step
          (repeat apply Exists.intro)
          refine ⟨?rel, ?frm⟩
          case frm => first | rfl | (simp only [c9b0, c9b1]; rfl) | (simp only [c9b0, c9b1]; first | done | rfl)
          case rel => exact ⟨_, H', ⟨by first | omega | exact Nat.le_refl _⟩, ⟨by (with_reducible repeat (first | apply Kd.R_alloc | apply Kd.R_drewN | apply Kd.R_drew)); exact HO198.out⟩, ⟨by repeat (first | (with_reducible first | exact HB.out | apply below_alloc | apply pw_below_drewN | apply below_drew1) | exact HB.out)⟩⟩
      case rest =>
        clear HC5
        try clear c1
        try clear q1
        try clear p2
        try clear q2
        try clear c3
        try clear c4
        try clear c6
        try clear c9
        try clear c9b0
        try clear c9b1
        try clear c12
        try clear q199
        try clear q202
        try clear q208
        obtain ⟨kq, HA, HJ4, HO_5, HB⟩ := hcut
        cases kq with
        | zero => exact absurd HA.out (by simp [barbicanlaw18_LexBack.j0])
        | succ kj4 =>
          have H := HA.out
          clear HA
          simp only [barbicanlaw18_LexBack.j0] at H
          have H' := Aside0.mk H
          clear H
          go_wp2
          go_loopg [13, 14] kj4 (fun kq v13 v14 w' => ∃ (x13_2 : List Int) (x14_2 : Int), v14 = .int .i64 x14_2 ∧ Aside0 (barbicanlaw18_LexBack.l0 kq a0 l1 t194 x13_2 x14_2 = some r) ∧ Aside0 (kq ≤ kj4) ∧ Aside0 (Kd.R k34 34 w' w.heap.size (fun _ => True) (.slice Ao7 t194.length co7) t194) ∧ Aside0 (Kd.R (Kd.int .u8) 5 w' w.heap.size (fun _ => True) v13 x13_2) ∧ Aside0 (Below w.heap.size w w'))
          case atStart => exact ⟨(([] : List Int)), (0), (by first | rfl | (simp; done) | (simp [*]; done) | (simp [bne]; done)), H', ⟨Nat.le_refl _⟩, ⟨by (with_reducible repeat (first | apply Kd.R_alloc | apply Kd.R_drewN | apply Kd.R_drew)); exact HO_5.out⟩, ⟨by first | exact Kd.R_nil _ _ _ _ _ | exact Kd.N_nil _ _ _ _ _ | exact Kd.V_nil _ _ _ _ _ | exact Kd.Q_nil _ _ _ _ _ | exact Kd.S_nil _ _ _ _ _⟩, ⟨by repeat (first | (with_reducible first | exact HB.out | apply below_alloc | apply pw_below_drewN | apply below_drew1) | exact HB.out)⟩⟩
          case round =>
            clear H'
            try clear c1
            try clear q1
            try clear p2
            try clear q2
            try clear c3
            try clear c4
            try clear c6
            try clear c9
            try clear c9b0
            try clear c9b1
            try clear c12
            try clear p2
            try clear q1
            try clear q199
            try clear q2
            try clear q202
            try clear q208
            obtain ⟨x13_2, x14_2, rfl, HA, HK2, HO_5, HO_13, HB⟩ := hrel
            cases gk with
            | zero => exact absurd HA.out (by simp [barbicanlaw18_LexBack.l0])
            | succ k2 =>
              have H := HA.out
              clear HA
              simp only [barbicanlaw18_LexBack.l0] at H
              by_cases c16 : x14_2 < (t194.length : Int)
              · rw [if_pos c16] at H
                have c16b0 : decide (x14_2 < (t194.length : Int)) = true := decide_eq_true c16
                clear c16
                have HC17 := Aside0.mk H
                clear H
                go_upto_if 69 with (fail)
                go_cut [15] (fun v15 wc => ∃ (kq : Nat) (x15_16 : Int), v15 = .int .i64 x15_16 ∧ Aside0 (barbicanlaw18_LexBack.j2 kq a0 l1 t194 x13_2 x14_2 x15_16 = some r) ∧ Aside0 (kq ≤ k2) ∧ Aside0 (Kd.R k34 34 wc w.heap.size (fun _ => True) (.slice Ao7 t194.length co7) t194) ∧ Aside0 (Kd.R (Kd.int .u8) 5 wc w.heap.size (fun _ => True) u13 x13_2) ∧ Aside0 (Below w.heap.size w wc))
                case first =>
                  have H := HC17.out
                  clear HC17
                  by_cases c18 : (wrap64 (x14_2 + 1)) < (t194.length : Int)
                  · rw [if_pos c18] at H
                    have c18b0 : decide ((wrap64 (x14_2 + 1)) < (t194.length : Int)) = true := decide_eq_true c18
                    clear c18
                    (first | rw [c18b0] | (simp only [i64_w, i32_w]; rw [c18b0]) | skip)
                    obtain ⟨ji19, hji19⟩ : ∃ j_ : Int, (wrap64 (x14_2 + 1)) = j_ := ⟨_, rfl⟩
                    replace H : (if 0 ≤ (ji19) then (barbicanlaw18_LexBack.j2 k2 a0 l1 t194 x13_2 x14_2 ((rd_T34 t194 (ji19)).f3)) else (none)) = some r := by first | (rw [hji19] at H; exact H) | (simp only [hji19] at H ⊢; exact H)
                    (try rw [hji19] at c18b0)
                    have hji19w : (IntKind.i64.wrap (x14_2 + 1)) = ji19 := (i64_w _).trans hji19
                    by_cases c20 : 0 ≤ (ji19)
                    · rw [if_pos c20] at H
                      have c20b0 : decide (0 ≤ (ji19)) = true := decide_eq_true c20
                      clear c20
                      have H' := Aside0.mk H
                      clear H
                      have p210 : 0 ≤ ((ji19) : Int) := of_decide_eq_true (by first | (with_reducible assumption) | assumption)
                      have q210 : (ji19) < (t194.length : Int) := of_decide_eq_true (by first | (with_reducible assumption) | assumption)
                      obtain ⟨ad210, e210, hx210_0, hx210_1, hx210_2, hx210_3⟩ := at_T34 (Kd.R_reads' HO_5.out).2.2 (ji19) p210 q210
                      cases e210
                      replace p210 := eq_true p210
                      replace q210 := eq_true q210
                      go_wp2
                      refine Met.intro ?_
                      go_step
                      (repeat apply Exists.intro)
                      refine ⟨?rel, ?frm⟩
                      case frm => first | rfl | (simp only [c16b0, c18b0, c20b0]; rfl) | (simp only [c16b0, c18b0, c20b0]; first | done | rfl)
                      case rel => exact ⟨_, ((rd_T34 t194 (ji19)).f3), (by first | rfl | (simp; done) | (simp only [← hji19] <;> (first | rfl | simp)) | (simp [*]; done) | (simp [bne]; done)), H', ⟨by have := HJ4.out; have := HK2.out; first | omega | exact Nat.le_refl _⟩, ⟨by (with_reducible repeat (first | apply Kd.R_alloc | apply Kd.R_drewN | apply Kd.R_drew)); exact HO_5.out⟩, ⟨by (with_reducible repeat (first | apply Kd.R_alloc | apply Kd.R_drewN | apply Kd.R_drew)); exact HO_13.out⟩, ⟨by repeat (first | (with_reducible first | exact HB.out | apply below_alloc | apply pw_below_drewN | apply below_drew1) | exact HB.out)⟩⟩
                    · rw [if_neg c20] at H
                      exact absurd H (by simp)
                  · rw [if_neg c18] at H
                    have c18b0 : decide ((wrap64 (x14_2 + 1)) < (t194.length : Int)) = false := decide_eq_false c18
                    clear c18
                    (first | rw [c18b0] | (simp only [i64_w, i32_w]; rw [c18b0]) | skip)
                    have H' := Aside0.mk H
                    clear H
                    go_wp2
                    refine Met.intro ?_
                    go_step
                    (repeat apply Exists.intro)
                    refine ⟨?rel, ?frm⟩
                    case frm => first | rfl | (simp only [c16b0, c18b0]; rfl) | (simp only [c16b0, c18b0]; first | done | rfl)
                    case rel => exact ⟨_, ((a0.size : Int)), (by first | rfl | (simp; done) | (simp [*]; done) | (simp [bne]; done)), H', ⟨by have := HJ4.out; have := HK2.out; first | omega | exact Nat.le_refl _⟩, ⟨by (with_reducible repeat (first | apply Kd.R_alloc | apply Kd.R_drewN | apply Kd.R_drew)); exact HO_5.out⟩, ⟨by (with_reducible repeat (first | apply Kd.R_alloc | apply Kd.R_drewN | apply Kd.R_drew)); exact HO_13.out⟩, ⟨by repeat (first | (with_reducible first | exact HB.out | apply below_alloc | apply pw_below_drewN | apply below_drew1) | exact HB.out)⟩⟩
                case rest =>
                  clear HC17
                  try clear c1
                  try clear q1
                  try clear c2
                  try clear p2
                  try clear q2
                  try clear hx2
                  try clear c3
                  try clear c4
                  try clear c6
                  try clear p6
                  try clear c9
                  try clear c9b0
                  try clear c9b1
                  try clear c12
                  try clear c16
                  try clear c16b0
                  try clear c18
                  try clear c18b0
                  try clear q19
                  try clear c20
                  try clear c20b0
                  try clear q20
                  try clear hx210_0
                  try clear hx210_1
                  try clear hx210_2
                  try clear hx210_3
                  try clear p2
                  try clear p210
                  try clear q1
                  try clear q199
                  try clear q2
                  try clear q202
                  try clear q208
                  try clear q210
                  obtain ⟨kq, x15_16, rfl, HA, HJ16, HO_5, HO_13, HB⟩ := hcut
                  cases kq with
                  | zero => exact absurd HA.out (by simp [barbicanlaw18_LexBack.j2])
                  | succ kj16 =>
                    have H := HA.out
                    clear HA
                    simp only [barbicanlaw18_LexBack.j2] at H
                    have HC21 := Aside0.mk H
                    clear H
                    go_upto_region 18 with (fail)
                    go_cut [96] (fun v96 wc => ∃ (kq : Nat) (x96_20 : Bool), v96 = .bool x96_20 ∧ Aside0 (barbicanlaw18_LexBack.j3 kq a0 l1 t194 x13_2 x14_2 x15_16 x96_20 = some r) ∧ Aside0 (kq ≤ kj16) ∧ Aside0 (Kd.R k34 34 wc w.heap.size (fun _ => True) (.slice Ao7 t194.length co7) t194) ∧ Aside0 (Kd.R (Kd.int .u8) 5 wc w.heap.size (fun _ => True) u13 x13_2) ∧ Aside0 (Below w.heap.size w wc))
                    case first =>
                      have H := HC21.out
                      clear HC21
                      by_cases c22 : 0 ≤ x14_2
                      · rw [if_pos c22] at H
                        have c22b0 : decide (0 ≤ x14_2) = true := decide_eq_true c22
                        clear c22
                        (first | rw [c22b0] | (simp only [i64_w, i32_w]; rw [c22b0]) | skip)
                        by_cases c23 : x14_2 < (t194.length : Int)
                        · rw [if_pos c23] at H
                          have c23b0 : decide (x14_2 < (t194.length : Int)) = true := decide_eq_true c23
                          clear c23
                          by_cases c24 : ((rd_T34 t194 x14_2).f3) < 0
                          · rw [if_pos c24] at H
                            exact absurd H (by simp)
                          · rw [if_neg c24] at H
                            have c24b0 : decide (((rd_T34 t194 x14_2).f3) < 0) = false := decide_eq_false c24
                            clear c24
                            by_cases c25 : ((rd_T34 t194 x14_2).f3) > x15_16
                            · rw [if_pos c25] at H
                              exact absurd H (by simp)
                            · rw [if_neg c25] at H
                              have c25b0 : decide (x15_16 < ((rd_T34 t194 x14_2).f3)) = false := decide_eq_false c25
                              clear c25
                              have H' := Aside0.mk H
                              clear H
                              have p211 : 0 ≤ (x14_2 : Int) := of_decide_eq_true (by first | (with_reducible assumption) | assumption)
                              have q211 : x14_2 < (t194.length : Int) := of_decide_eq_true (by first | (with_reducible assumption) | assumption)
                              obtain ⟨ad211, e211, hx211_0, hx211_1, hx211_2, hx211_3⟩ := at_T34 (Kd.R_reads' HO_5.out).2.2 x14_2 p211 q211
                              cases e211
                              replace p211 := eq_true p211
                              replace q211 := eq_true q211
                              have p212 : 0 ≤ (x14_2 : Int) := of_decide_eq_true (by first | (with_reducible assumption) | assumption)
                              have q212 : x14_2 < (t194.length : Int) := of_decide_eq_true (by first | (with_reducible assumption) | assumption)
                              obtain ⟨ad212, e212, hx212_0, hx212_1, hx212_2, hx212_3⟩ := at_T34 (Kd.R_reads' HO_5.out).2.2 x14_2 p212 q212
                              obtain rfl : ad211 = ad212 := (by injection e212)
                              replace p212 := eq_true p212
                              replace q212 := eq_true q212
                              go_wp2
                              refine Met.intro ?_
                              go_step
                              (repeat apply Exists.intro)
                              refine ⟨?rel, ?frm⟩
                              case frm => first | rfl | (simp only [c16b0, c22b0, c23b0, c24b0, c25b0]; rfl) | (simp only [c16b0, c22b0, c23b0, c24b0, c25b0]; first | done | rfl)
                              case rel => exact ⟨_, (decide (x15_16 > (a0.size : Int))), (by first | rfl | (simp; done) | (simp [*]; done) | (simp [bne]; done)), H', ⟨by have := HJ4.out; have := HK2.out; have := HJ16.out; first | omega | exact Nat.le_refl _⟩, ⟨by (with_reducible repeat (first | apply Kd.R_alloc | apply Kd.R_drewN | apply Kd.R_drew)); exact HO_5.out⟩, ⟨by (with_reducible repeat (first | apply Kd.R_alloc | apply Kd.R_drewN | apply Kd.R_drew)); exact HO_13.out⟩, ⟨by repeat (first | (with_reducible first | exact HB.out | apply below_alloc | apply pw_below_drewN | apply below_drew1) | exact HB.out)⟩⟩
                        · rw [if_neg c23] at H
                          exact absurd H (by simp)
                      · rw [if_neg c22] at H
                        exact absurd H (by simp)
                    case rest =>
                      clear HC21
                      try clear c1
                      try clear q1
                      try clear c2
                      try clear p2
                      try clear q2
                      try clear hx2
                      try clear c3
                      try clear c4
                      try clear c6
                      try clear p6
                      try clear c9
                      try clear c9b0
                      try clear c9b1
                      try clear c12
                      try clear c16
                      try clear c16b0
                      try clear c18
                      try clear c18b0
                      try clear q19
                      try clear c20
                      try clear c20b0
                      try clear q20
                      try clear p21
                      try clear q21
                      try clear hx21
                      try clear c22
                      try clear c22b0
                      try clear c23
                      try clear c23b0
                      try clear c24
                      try clear c24b0
                      try clear c25
                      try clear c25b0
                      try clear hx210_0
                      try clear hx210_1
                      try clear hx210_2
                      try clear hx210_3
                      try clear hx211_0
                      try clear hx211_1
                      try clear hx211_2
                      try clear hx211_3
                      try clear hx212_0
                      try clear hx212_1
                      try clear hx212_2
                      try clear hx212_3
                      try clear p2
                      try clear p210
                      try clear p211
                      try clear p212
                      try clear p6
                      try clear q1
                      try clear q19
                      try clear q199
                      try clear q2
                      try clear q20
                      try clear q202
                      try clear q208
                      try clear q210
                      try clear q211
                      try clear q212
                      obtain ⟨kq, x96_20, rfl, HA, HJ20, HO_5, HO_13, HB⟩ := hcut
                      cases kq with
                      | zero => exact absurd HA.out (by simp [barbicanlaw18_LexBack.j3])
                      | succ kj20 =>
                        have H := HA.out
                        clear HA
                        simp only [barbicanlaw18_LexBack.j3] at H
                        by_cases c26 : x96_20 = true
                        · subst c26
                          have H1 : (none) = some r := by rw [if_pos rfl] at H; exact H
                          clear H
                          have H := H1
                          clear H1
                          exact absurd H (by simp)
                        · replace c26 := Bool.eq_false_iff.mpr c26
                          subst c26
                          have H1 : (if 0 ≤ x14_2 then (if x14_2 < (t194.length : Int) then (if 0 ≤ ((rd_T34 t194 x14_2).f3) then (if ((rd_T34 t194 x14_2).f3) ≤ x15_16 then (if x15_16 ≤ (a0.size : Int) then (if x13_2.length + (a0.extract (((rd_T34 t194 x14_2).f3) : Int).toNat (x15_16 : Int).toNat).size < 140737488355328 then ((some (x13_2 ++ bytesOf (a0.extract (((rd_T34 t194 x14_2).f3) : Int).toNat (x15_16 : Int).toNat) : List Int)).bind fun y214 => (if x14_2 < (l1.length : Int) then (if 0 ≤ (wrap64 (Int.tmod (IntKind.u64.wrap (rd l1 x14_2)) 4)) then (if (wrap64 (Int.tmod (IntKind.u64.wrap (rd l1 x14_2)) 4)) < 4 then (if y214.length < 140737488355328 then (barbicanlaw18_LexBack.l0 kj20 a0 l1 t194 (y214 ++ [bt (⟨#[32, 9, 10, 13]⟩ : ByteArray) (wrap64 (Int.tmod (IntKind.u64.wrap (rd l1 x14_2)) 4))]) (wrap64 (x14_2 + 1))) else (none)) else (none)) else (none)) else (barbicanlaw18_LexBack.l0 kj20 a0 l1 t194 y214 (wrap64 (x14_2 + 1))))) else (none)) else (none)) else (none)) else (none)) else (none)) else (none)) = some r := by rw [if_neg (show ¬ (false = true) by decide)] at H; exact H
                          clear H
                          have H := H1
                          clear H1
                          by_cases c27 : 0 ≤ x14_2
                          · rw [if_pos c27] at H
                            have c27b0 : decide (0 ≤ x14_2) = true := decide_eq_true c27
                            clear c27
                            by_cases c28 : x14_2 < (t194.length : Int)
                            · rw [if_pos c28] at H
                              have c28b0 : decide (x14_2 < (t194.length : Int)) = true := decide_eq_true c28
                              clear c28
                              by_cases c29 : 0 ≤ ((rd_T34 t194 x14_2).f3)
                              · rw [if_pos c29] at H
                                have c29b0 := eq_true c29
                                have c29b1 : decide (0 ≤ ((rd_T34 t194 x14_2).f3)) = true := decide_eq_true c29
                                clear c29
                                by_cases c30 : ((rd_T34 t194 x14_2).f3) ≤ x15_16
                                · rw [if_pos c30] at H
                                  have c30b0 := eq_true c30
                                  have c30b1 : decide (((rd_T34 t194 x14_2).f3) ≤ x15_16) = true := decide_eq_true c30
                                  clear c30
                                  by_cases c31 : x15_16 ≤ (a0.size : Int)
                                  · rw [if_pos c31] at H
                                    have c31b0 := eq_true c31
                                    have c31b1 : decide (x15_16 ≤ (a0.size : Int)) = true := decide_eq_true c31
                                    clear c31
                                    by_cases c32 : x13_2.length + (a0.extract (((rd_T34 t194 x14_2).f3) : Int).toNat (x15_16 : Int).toNat).size < 140737488355328
                                    · rw [if_pos c32] at H
                                      have LMc32 := Aside0.mk c32
                                      clear c32
                                      obtain ⟨y214, hy214⟩ : ∃ y_ : List Int, y_ = (x13_2 ++ bytesOf (a0.extract (((rd_T34 t194 x14_2).f3) : Int).toNat (x15_16 : Int).toNat)) := ⟨_, rfl⟩
                                      replace H : (if x14_2 < (l1.length : Int) then (if 0 ≤ (wrap64 (Int.tmod (IntKind.u64.wrap (rd l1 x14_2)) 4)) then (if (wrap64 (Int.tmod (IntKind.u64.wrap (rd l1 x14_2)) 4)) < 4 then (if y214.length < 140737488355328 then (barbicanlaw18_LexBack.l0 kj20 a0 l1 t194 (y214 ++ [bt (⟨#[32, 9, 10, 13]⟩ : ByteArray) (wrap64 (Int.tmod (IntKind.u64.wrap (rd l1 x14_2)) 4))]) (wrap64 (x14_2 + 1))) else (none)) else (none)) else (none)) else (barbicanlaw18_LexBack.l0 kj20 a0 l1 t194 y214 (wrap64 (x14_2 + 1)))) = some r := by first | (rw [hy214]; with_reducible exact H) | (have H2_ := (Option.bind_some _ _).symm.trans H; rw [hy214]; with_reducible exact H2_) | (have H2_ := (Option.bind_some _ _).symm.trans H; with_reducible exact H2_) | with_reducible exact H | (rw [hy214]; exact H) | exact H
                                      have Ny214 := Aside0.mk hy214
                                      clear hy214
                                      by_cases c33 : x14_2 < (l1.length : Int)
                                      · rw [if_pos c33] at H
                                        have c33b0 : decide (x14_2 < (l1.length : Int)) = true := decide_eq_true c33
                                        clear c33
                                        obtain ⟨ji34, hji34⟩ : ∃ j_ : Int, (wrap64 (Int.tmod (IntKind.u64.wrap (rd l1 x14_2)) 4)) = j_ := ⟨_, rfl⟩
                                        replace H : (if 0 ≤ (ji34) then (if (ji34) < 4 then (if y214.length < 140737488355328 then (barbicanlaw18_LexBack.l0 kj20 a0 l1 t194 (y214 ++ [bt (⟨#[32, 9, 10, 13]⟩ : ByteArray) (ji34)]) (wrap64 (x14_2 + 1))) else (none)) else (none)) else (none)) = some r := by first | (rw [hji34] at H; exact H) | (simp only [hji34] at H ⊢; exact H)
                                        have hji34w : (IntKind.i64.wrap (Int.tmod (IntKind.u64.wrap (rd l1 x14_2)) 4)) = ji34 := (i64_w _).trans hji34
                                        by_cases c35 : 0 ≤ (ji34)
                                        · rw [if_pos c35] at H
                                          have c35b0 : decide (0 ≤ (ji34)) = true := decide_eq_true c35
                                          clear c35
                                          by_cases c36 : (ji34) < 4
                                          · rw [if_pos c36] at H
                                            have c36b0 : decide ((ji34) < 4) = true := decide_eq_true c36
                                            clear c36
                                            by_cases c38 : y214.length < 140737488355328
                                            · rw [if_pos c38] at H
                                              have LMc38 := Aside0.mk c38
                                              clear c38
                                              obtain ⟨y218, hy218⟩ : ∃ y_ : List Int, y_ = (y214 ++ [bt (⟨#[32, 9, 10, 13]⟩ : ByteArray) (ji34)]) := ⟨_, rfl⟩
                                              replace H : (barbicanlaw18_LexBack.l0 kj20 a0 l1 t194 y218 (wrap64 (x14_2 + 1))) = some r := by first | (rw [hy218]; with_reducible exact H) | (have H2_ := (Option.bind_some _ _).symm.trans H; rw [hy218]; with_reducible exact H2_) | (have H2_ := (Option.bind_some _ _).symm.trans H; with_reducible exact H2_) | with_reducible exact H | (rw [hy218]; exact H) | exact H
                                              have Ny218 := Aside0.mk hy218
                                              clear hy218
                                              have H' := Aside0.mk H
                                              clear H
                                              have p213 : 0 ≤ (x14_2 : Int) := of_decide_eq_true (by first | (with_reducible assumption) | assumption)
                                              have q213 : x14_2 < (t194.length : Int) := of_decide_eq_true (by first | (with_reducible assumption) | assumption)
                                              obtain ⟨ad213, e213, hx213_0, hx213_1, hx213_2, hx213_3⟩ := at_T34 (Kd.R_reads' HO_5.out).2.2 x14_2 p213 q213
                                              cases e213
                                              replace p213 := eq_true p213
                                              replace q213 := eq_true q213
                                              go_wp2_with (first | (at_builtin; refine print_append_str (w0 := w) w.heap.size rfl (.tmp 97) _ 32 9 5 rfl Tryd.underlying32 Tryd.underlying9 info5 u13 x13_2 (a0.extract (((rd_T34 t194 x14_2).f3) : Int).toNat (x15_16 : Int).toNat) rfl rfl ?aO ?aB ?aS ?aL ?_; (case aB => exact (by repeat (first | (with_reducible first | exact HB.out | apply below_alloc | apply pw_below_drewN | apply below_drew1) | exact HB.out))); (case aO => exact (Kd.own_of_R (by (with_reducible repeat (first | apply Kd.R_alloc | apply Kd.R_drewN | apply Kd.R_drew)); exact HO_13.out))); (case aS => exact (below_size (by repeat (first | (with_reducible first | exact HB.out | apply below_alloc | apply pw_below_drewN | apply below_drew1) | exact HB.out)))); (case aL => have := LMc32.out; omega); intro v215 w39 ho0 hb hg; have ho := Kd.R_of_own (h1 := fun _ => rfl) (ok := fun _ => True) ho0 (fun _ _ => trivial); clear ho0; have hat := True.intro; rw [← Ny214.out] at ho; change Kd.R (Kd.int .u8) 5 w39 w.heap.size (fun _ => True) v215 y214 at ho; have n0_ := Aside0.mk (Kd.R_over' (by (with_reducible repeat (first | apply Kd.R_alloc | apply Kd.R_drewN | apply Kd.R_drew)); exact HO_5.out) (Kd.R_typed (by (with_reducible repeat (first | apply Kd.R_alloc | apply Kd.R_drewN | apply Kd.R_drew)); exact HO_13.out)) (by decide) hg); have n1_ := Aside0.mk (hb); have n2_ := Aside0.mk (ho); clear HO_5; clear HB; clear HO_13; have HO_5 := n0_; have HB := n1_; have HO216 := n2_; clear n0_ n1_ n2_; clear ho hb hg hat; have p217 : 0 ≤ (x14_2 : Int) := of_decide_eq_true (by first | (with_reducible assumption) | assumption); have q217 : x14_2 < (l1.length : Int) := of_decide_eq_true (by first | (with_reducible assumption) | assumption); obtain ⟨ad217, e217, hx217_0⟩ := Kd.at_int HR1.out x14_2 p217 q217; cases e217; replace hx217_0 := (HB.out.cell (World.block_lt_of_cell? w _ hx217_0)).trans hx217_0; replace p217 := eq_true p217; replace q217 := eq_true q217; have p37 : 0 ≤ ((ji34) : Int) := of_decide_eq_true (by first | (with_reducible assumption) | assumption); have q37 : (ji34) < (4 : Int) := of_decide_eq_true (by first | (with_reducible assumption) | assumption); have hx37 := bt_at (⟨#[32, 9, 10, 13]⟩ : ByteArray) (ji34); replace p37 := eq_true p37; replace q37 := eq_true q37) | ((with_reducible refine gate_builtin (b := .append) (xs := #[.tmp 111, .tmp 120]) rfl ?_); (try (refine gate_guard (by rfl) ?_; dsimp only)); at_builtin; refine Kd.R_append (Kd.int .u8) (w0 := w) w.heap.size rfl (.tmp 111) (.tmp 120) 32 5 (.int .u8 0) 1 rfl Tryd.underlying32 info5 rfl (by decide) (by omega) v215 y214 (bt (⟨#[32, 9, 10, 13]⟩ : ByteArray) (ji34)) [.int .u8 (bt (⟨#[32, 9, 10, 13]⟩ : ByteArray) (ji34))] (fun _ => True) (fun _ => False) rfl rfl ?aP (fun _ hk => hk.elim) ?aF ?aO ?aB ?aS ?aL ?_; (case aP => exact rfl); (case aB => exact (by repeat (first | (with_reducible first | exact HB.out | apply below_alloc | apply pw_below_drewN | apply below_drew1) | exact HB.out))); (case aF => exact (fun _ _ => trivial)); (case aO => exact (by (with_reducible repeat (first | apply Kd.R_alloc | apply Kd.R_drewN | apply Kd.R_drew)); exact HO216.out)); (case aS => exact (below_size (by repeat (first | (with_reducible first | exact HB.out | apply below_alloc | apply pw_below_drewN | apply below_drew1) | exact HB.out)))); (case aL => have := LMc38.out; omega); intro v219 w40 ho hb hg hat; rw [← Ny218.out] at ho; have n0_ := Aside0.mk (Kd.R_over' (by (with_reducible repeat (first | apply Kd.R_alloc | apply Kd.R_drewN | apply Kd.R_drew)); exact HO_5.out) (Kd.R_typed (by (with_reducible repeat (first | apply Kd.R_alloc | apply Kd.R_drewN | apply Kd.R_drew)); exact HO216.out)) (by decide) hg); have n1_ := Aside0.mk (hb); have n2_ := Aside0.mk (ho); clear HO_5; clear HB; clear HO216; have HO_5 := n0_; have HB := n1_; have HO220 := n2_; clear n0_ n1_ n2_; clear ho hb hg hat))
                                              go_roundg kj20
                                              case measure => have := HJ4.out; have := HK2.out; have := HJ16.out; have := HJ20.out; omega
                                              case rel => exact ⟨(y218), (wrap64 (x14_2 + 1)), (by first | rfl | (simp; done) | (simp [*]; done) | (simp [bne]; done)), H', ⟨by have := HJ4.out; have := HK2.out; have := HJ16.out; have := HJ20.out; omega⟩, ⟨by (with_reducible repeat (first | apply Kd.R_alloc | apply Kd.R_drewN | apply Kd.R_drew)); exact HO_5.out⟩, ⟨by (with_reducible repeat (first | apply Kd.R_alloc | apply Kd.R_drewN | apply Kd.R_drew)); exact HO220.out⟩, ⟨by repeat (first | (with_reducible first | exact HB.out | apply below_alloc | apply pw_below_drewN | apply below_drew1) | exact HB.out)⟩⟩
                                            · rw [if_neg c38] at H
                                              exact absurd H (by simp)
                                          · rw [if_neg c36] at H
                                            exact absurd H (by simp)
                                        · rw [if_neg c35] at H
                                          exact absurd H (by simp)
                                      · rw [if_neg c33] at H
                                        have c33b0 : decide (x14_2 < (l1.length : Int)) = false := decide_eq_false c33
                                        clear c33
                                        have H' := Aside0.mk H
                                        clear H
                                        have p213 : 0 ≤ (x14_2 : Int) := of_decide_eq_true (by first | (with_reducible assumption) | assumption)
                                        have q213 : x14_2 < (t194.length : Int) := of_decide_eq_true (by first | (with_reducible assumption) | assumption)
                                        obtain ⟨ad213, e213, hx213_0, hx213_1, hx213_2, hx213_3⟩ := at_T34 (Kd.R_reads' HO_5.out).2.2 x14_2 p213 q213
                                        cases e213
                                        replace p213 := eq_true p213
                                        replace q213 := eq_true q213
                                        go_wp2_with (first | (at_builtin; refine print_append_str (w0 := w) w.heap.size rfl (.tmp 97) _ 32 9 5 rfl Tryd.underlying32 Tryd.underlying9 info5 u13 x13_2 (a0.extract (((rd_T34 t194 x14_2).f3) : Int).toNat (x15_16 : Int).toNat) rfl rfl ?aO ?aB ?aS ?aL ?_; (case aB => exact (by repeat (first | (with_reducible first | exact HB.out | apply below_alloc | apply pw_below_drewN | apply below_drew1) | exact HB.out))); (case aO => exact (Kd.own_of_R (by (with_reducible repeat (first | apply Kd.R_alloc | apply Kd.R_drewN | apply Kd.R_drew)); exact HO_13.out))); (case aS => exact (below_size (by repeat (first | (with_reducible first | exact HB.out | apply below_alloc | apply pw_below_drewN | apply below_drew1) | exact HB.out)))); (case aL => have := LMc32.out; omega); intro v215 w41 ho0 hb hg; have ho := Kd.R_of_own (h1 := fun _ => rfl) (ok := fun _ => True) ho0 (fun _ _ => trivial); clear ho0; have hat := True.intro; rw [← Ny214.out] at ho; change Kd.R (Kd.int .u8) 5 w41 w.heap.size (fun _ => True) v215 y214 at ho; have n0_ := Aside0.mk (Kd.R_over' (by (with_reducible repeat (first | apply Kd.R_alloc | apply Kd.R_drewN | apply Kd.R_drew)); exact HO_5.out) (Kd.R_typed (by (with_reducible repeat (first | apply Kd.R_alloc | apply Kd.R_drewN | apply Kd.R_drew)); exact HO_13.out)) (by decide) hg); have n1_ := Aside0.mk (hb); have n2_ := Aside0.mk (ho); clear HO_5; clear HB; clear HO_13; have HO_5 := n0_; have HB := n1_; have HO216 := n2_; clear n0_ n1_ n2_; clear ho hb hg hat))
                                        go_roundg kj20
                                        case measure => have := HJ4.out; have := HK2.out; have := HJ16.out; have := HJ20.out; omega
                                        case rel => exact ⟨(y214), (wrap64 (x14_2 + 1)), (by first | rfl | (simp; done) | (simp [*]; done) | (simp [bne]; done)), H', ⟨by have := HJ4.out; have := HK2.out; have := HJ16.out; have := HJ20.out; omega⟩, ⟨by (with_reducible repeat (first | apply Kd.R_alloc | apply Kd.R_drewN | apply Kd.R_drew)); exact HO_5.out⟩, ⟨by (with_reducible repeat (first | apply Kd.R_alloc | apply Kd.R_drewN | apply Kd.R_drew)); exact HO216.out⟩, ⟨by repeat (first | (with_reducible first | exact HB.out | apply below_alloc | apply pw_below_drewN | apply below_drew1) | exact HB.out)⟩⟩
                                    · rw [if_neg c32] at H
                                      exact absurd H (by simp)
                                  · rw [if_neg c31] at H
                                    exact absurd H (by simp)
                                · rw [if_neg c30] at H
                                  exact absurd H (by simp)
                              · rw [if_neg c29] at H
                                exact absurd H (by simp)
                            · rw [if_neg c28] at H
                              exact absurd H (by simp)
                          · rw [if_neg c27] at H
                            exact absurd H (by simp)
              · rw [if_neg c16] at H
                have c16b0 : decide (x14_2 < (t194.length : Int)) = false := decide_eq_false c16
                clear c16
                by_cases c42 : (x13_2.length : Int) > 65536
                · rw [if_pos c42] at H
                  have c42b0 : decide (65536 < (x13_2.length : Int)) = true := decide_eq_true c42
                  have c42b1 : decide (65536 < x13_2.length) = true := decide_eq_true (by omega)
                  clear c42
                  replace H := Option.bind_eq_some_iff.mp H
                  obtain ⟨t221, A430, H⟩ := H
                  replace H : (some t221) = some r := H
                  have A43 := Aside0.mk A430
                  clear A430
                  obtain rfl := Option.some.inj H
                  obtain ⟨Ao44, co44, eo44⟩ := Kd.R_slice HO_13.out
                  subst eo44
                  go_wp2_with (first | ((with_reducible refine gate_callee (f := 5) rfl ?_); refine goesL_ (some 125) rfl rfl Tryd.func5 (by kernel_rfl) rfl #[] rfl (by (try simp only [List.map_toArray, List.map_cons, List.map_nil]); first | done | rfl | (simp only [List.length_drop, List.length_take]; rfl)) ?_; (with_reducible refine (barbicanlaw18_sure.calls k2  t221 _ ?side1 A43.out).mono ?_); (case side1 => exact GW_below HG.out (by repeat (first | (with_reducible first | exact HB.out | apply below_alloc | apply pw_below_drewN | apply below_drew1) | exact HB.out))); rintro e w45 ⟨rfl, hb⟩; refine ⟨_, rfl, ?_⟩; have n0_ := Aside0.mk (Kd.R_below (by (with_reducible repeat (first | apply Kd.R_alloc | apply Kd.R_drewN | apply Kd.R_drew)); exact HO_5.out) hb); have n1_ := Aside0.mk (Kd.R_below (by (with_reducible repeat (first | apply Kd.R_alloc | apply Kd.R_drewN | apply Kd.R_drew)); exact HO_13.out) hb); have n2_ := Aside0.mk (below_step (by repeat (first | (with_reducible first | exact HB.out | apply below_alloc | apply pw_below_drewN | apply below_drew1) | exact HB.out)) hb); clear HO_5; clear HO_13; clear HB; have HO_5 := n0_; have HO_13 := n1_; have HB := n2_; clear n0_ n1_ n2_; (try clear hb); (try clear hb2); (try clear hk); (try clear hi)))
                  go_ret
                  exact ⟨by first | rfl | (simp [errW_none, errW_some] <;> rfl) | (simp [*, errW_none, errW_some] <;> rfl), by repeat (first | (with_reducible first | exact HB.out | apply below_alloc | apply pw_below_drewN | apply below_drew1) | exact HB.out)⟩
                · rw [if_neg c42] at H
                  have c42b0 : decide (65536 < (x13_2.length : Int)) = false := decide_eq_false c42
                  have c42b1 : decide (65536 < x13_2.length) = false := decide_eq_false (by omega)
                  clear c42
                  replace H := Option.bind_eq_some_iff.mp H
                  obtain ⟨⟨t222, t223, t224⟩, A460, H⟩ := H
                  replace H : (if t224.isNone = true then ((lex_Same.f k2 t194 t222).bind fun t228 => (if t228 = true then ((barbicanlaw18_sure.f k2).bind fun t229 => (some t229)) else (none))) else (none)) = some r := H
                  have A46 := Aside0.mk A460
                  clear A460
                  rcases t224 with _ | q227
                  · have H1 : ((lex_Same.f k2 t194 t222).bind fun t228 => (if t228 = true then ((barbicanlaw18_sure.f k2).bind fun t229 => (some t229)) else (none))) = some r := by rw [if_pos (show (none : Option Int).isNone = true by rfl)] at H; exact H
                    clear H
                    have H := H1
                    clear H1
                    try simp only [errW_none, errW_some]
                    replace H := Option.bind_eq_some_iff.mp H
                    obtain ⟨t228, A470, H⟩ := H
                    replace H : (if t228 = true then ((barbicanlaw18_sure.f k2).bind fun t229 => (some t229)) else (none)) = some r := H
                    have A47 := Aside0.mk A470
                    clear A470
                    by_cases c48 : t228 = true
                    · subst c48
                      have H1 : ((barbicanlaw18_sure.f k2).bind fun t229 => (some t229)) = some r := by rw [if_pos rfl] at H; exact H
                      clear H
                      have H := H1
                      clear H1
                      replace H := Option.bind_eq_some_iff.mp H
                      obtain ⟨t229, A490, H⟩ := H
                      replace H : (some t229) = some r := H
                      have A49 := Aside0.mk A490
                      clear A490
                      obtain rfl := Option.some.inj H
                      obtain ⟨Ao50, co50, eo50⟩ := Kd.R_slice HO_13.out
                      subst eo50
                      have hcv51 := own_string (P := Tryd.prog) Tryd.underlying32 Tryd.underlying5 Tryd.underlying9 (Kd.own_of_R HO_13.out)
                      go_wp2_with (first | ((with_reducible refine gate_callee (f := 4) rfl ?_); refine goesL_ (some 129) rfl rfl Tryd.func4 (by kernel_rfl) rfl #[.string (strOfNums x13_2)] rfl (by (try simp only [List.map_toArray, List.map_cons, List.map_nil]); first | done | rfl | (simp only [List.length_drop, List.length_take]; rfl)) ?_; (with_reducible refine (lex_Lex.calls k2 (strOfNums x13_2) t222 t223 none _ ?side1 A46.out).mono ?_); (case side1 => exact GW_below HG.out (by repeat (first | (with_reducible first | exact HB.out | apply below_alloc | apply pw_below_drewN | apply below_drew1) | exact HB.out))); rintro e w52 ⟨v225, rfl, ho0, hb⟩; refine ⟨_, rfl, ?_⟩; have n0_ := Aside0.mk (Kd.R_elder' (by (with_reducible repeat (first | apply Kd.R_alloc | apply Kd.R_drewN | apply Kd.R_drew)); exact HO_5.out) (Kd.R_base ho0) hb); have n1_ := Aside0.mk (Kd.R_below (by (with_reducible repeat (first | apply Kd.R_alloc | apply Kd.R_drewN | apply Kd.R_drew)); exact HO_13.out) hb); have n2_ := Aside0.mk (Kd.R_lower (Kd.R_new' ho0 (Kd.R_lt (by (with_reducible repeat (first | apply Kd.R_alloc | apply Kd.R_drewN | apply Kd.R_drew)); exact HO_5.out))) (below_size (by repeat (first | (with_reducible first | exact HB.out | apply below_alloc | apply pw_below_drewN | apply below_drew1) | exact HB.out)))); have n3_ := Aside0.mk (below_step (by repeat (first | (with_reducible first | exact HB.out | apply below_alloc | apply pw_below_drewN | apply below_drew1) | exact HB.out)) hb); clear HO_5; clear HO_13; clear HB; have HO_5 := n0_; have HO_13 := n1_; have HO226 := n2_; have HB := n3_; clear n0_ n1_ n2_ n3_; (try clear hb); (try clear hb2); (try clear hk); (try clear hi); (try clear ho0); (try simp only [errW_none, errW_some]); obtain ⟨Ao53, co53, eo53⟩ := Kd.R_slice HO226.out; subst eo53) | (go_at_call 7; (with_reducible refine (lex_Same.calls k2 _ _ t194 _ _ t222 true _ ?side1 ?side2 ?side3 ?side4 A47.out).mono ?_); (case side1 => repeat (first | exact (Kd.R_reads' HO_5.out).2.2 | (with_reducible refine Kd.C_alloc ?_ _) | (with_reducible refine Kd.C_drewN ?_ _) | (with_reducible refine Kd.C_drew ?_))); (case side2 => exact (Kd.R_reads' HO_5.out).2.1); (case side3 => repeat (first | exact (Kd.R_reads' HO226.out).2.2 | (with_reducible refine Kd.C_alloc ?_ _) | (with_reducible refine Kd.C_drewN ?_ _) | (with_reducible refine Kd.C_drew ?_))); (case side4 => exact (Kd.R_reads' HO226.out).2.1); rintro e w54 ⟨rfl, hb⟩; have n0_ := Aside0.mk (Kd.R_below (by (with_reducible repeat (first | apply Kd.R_alloc | apply Kd.R_drewN | apply Kd.R_drew)); exact HO_5.out) hb); have n1_ := Aside0.mk (Kd.R_below (by (with_reducible repeat (first | apply Kd.R_alloc | apply Kd.R_drewN | apply Kd.R_drew)); exact HO_13.out) hb); have n2_ := Aside0.mk (Kd.R_below (by (with_reducible repeat (first | apply Kd.R_alloc | apply Kd.R_drewN | apply Kd.R_drew)); exact HO226.out) hb); have n3_ := Aside0.mk (below_step (by repeat (first | (with_reducible first | exact HB.out | apply below_alloc | apply pw_below_drewN | apply below_drew1) | exact HB.out)) hb); clear HO_5; clear HO_13; clear HO226; clear HB; have HO_5 := n0_; have HO_13 := n1_; have HO226 := n2_; have HB := n3_; clear n0_ n1_ n2_ n3_; (try clear hb); (try clear hb2); (try clear hk); (try clear hi)) | (go_at_call 5; (with_reducible refine (barbicanlaw18_sure.calls k2  t229 _ ?side1 A49.out).mono ?_); (case side1 => exact GW_below HG.out (by repeat (first | (with_reducible first | exact HB.out | apply below_alloc | apply pw_below_drewN | apply below_drew1) | exact HB.out))); rintro e w55 ⟨rfl, hb⟩; have n0_ := Aside0.mk (Kd.R_below (by (with_reducible repeat (first | apply Kd.R_alloc | apply Kd.R_drewN | apply Kd.R_drew)); exact HO_5.out) hb); have n1_ := Aside0.mk (Kd.R_below (by (with_reducible repeat (first | apply Kd.R_alloc | apply Kd.R_drewN | apply Kd.R_drew)); exact HO_13.out) hb); have n2_ := Aside0.mk (Kd.R_below (by (with_reducible repeat (first | apply Kd.R_alloc | apply Kd.R_drewN | apply Kd.R_drew)); exact HO226.out) hb); have n3_ := Aside0.mk (below_step (by repeat (first | (with_reducible first | exact HB.out | apply below_alloc | apply pw_below_drewN | apply below_drew1) | exact HB.out)) hb); clear HO_5; clear HO_13; clear HO226; clear HB; have HO_5 := n0_; have HO_13 := n1_; have HO226 := n2_; have HB := n3_; clear n0_ n1_ n2_ n3_; (try clear hb); (try clear hb2); (try clear hk); (try clear hi)))
                      go_ret
                      exact ⟨by first | rfl | (simp [errW_none, errW_some] <;> rfl) | (simp [*, errW_none, errW_some] <;> rfl), by repeat (first | (with_reducible first | exact HB.out | apply below_alloc | apply pw_below_drewN | apply below_drew1) | exact HB.out)⟩
                    · replace c48 := Bool.eq_false_iff.mpr c48
                      subst c48
                      have H1 : (none) = some r := by rw [if_neg (show ¬ (false = true) by decide)] at H; exact H
                      clear H
                      have H := H1
                      clear H1
                      exact absurd H (by simp)
                  · have H1 : (none) = some r := by rw [if_neg (show ¬ (some q227).isNone = true by simp)] at H; exact H
                    clear H
                    have H := H1
                    clear H1
                    try simp only [errW_none, errW_some]
                    exact absurd H (by simp)
    · have H1 : (none) = some r := by rw [if_neg (show ¬ (some q202).isNone = true by simp)] at H; exact H
      clear H
      have H := H1
      clear H1
      try simp only [errW_none, errW_some]
      exact absurd H (by simp)
  · have H1 : (if (t194.length : Int) = 0 then ((barbicanlaw18_sure.f k).bind fun t230 => (some t230)) else (none)) = some r := by rw [if_neg (show ¬ (some q199).isNone = true by simp)] at H; exact H
    clear H
    have H := H1
    clear H1
    try simp only [errW_none, errW_some]
    by_cases c56 : (t194.length : Int) = 0
    · rw [if_pos c56] at H
      have c56b0 : ((t194.length : Int) == 0) = true := beq_iff_eq.mpr c56
      have c56b1 : ((t194.length : Int) != 0) = false := bne_eq_false_iff_eq.mpr c56
      clear c56
      replace H := Option.bind_eq_some_iff.mp H
      obtain ⟨t230, A570, H⟩ := H
      replace H : (some t230) = some r := H
      have A57 := Aside0.mk A570
      clear A570
      obtain rfl := Option.some.inj H
      go_enter Tryd.func3, Tryd.ntmps3
      go_wp2_with (first | ((with_reducible refine gate_callee (f := 4) rfl ?_); refine goesL_ (some 21) rfl rfl Tryd.func4 (by kernel_rfl) rfl #[.string a0] rfl (by (try simp only [List.map_toArray, List.map_cons, List.map_nil]); first | done | rfl | (simp only [List.length_drop, List.length_take]; rfl)) ?_; (with_reducible refine (lex_Lex.calls k a0 t194 t195 (some q199) _ ?side1 A3.out).mono ?_); (case side1 => exact GW_below HG.out (by repeat (first | (with_reducible first | exact HB.out | apply below_alloc | apply pw_below_drewN | apply below_drew1) | exact HB.out))); rintro e w58 ⟨v197, rfl, ho0, hb⟩; refine ⟨_, rfl, ?_⟩; have n0_ := Aside0.mk (Kd.R_lower ho0 (below_size (by repeat (first | (with_reducible first | exact HB.out | apply below_alloc | apply pw_below_drewN | apply below_drew1) | exact HB.out)))); have n1_ := Aside0.mk (below_step (by repeat (first | (with_reducible first | exact HB.out | apply below_alloc | apply pw_below_drewN | apply below_drew1) | exact HB.out)) hb); clear HB; have HO198 := n0_; have HB := n1_; clear n0_ n1_; (try clear hb); (try clear hb2); (try clear hk); (try clear hi); (try clear ho0); (try simp only [errW_none, errW_some]); obtain ⟨Ao59, co59, eo59⟩ := Kd.R_slice HO198.out; subst eo59) | (go_at_call 5; (with_reducible refine (barbicanlaw18_sure.calls k  t230 _ ?side1 A57.out).mono ?_); (case side1 => exact GW_below HG.out (by repeat (first | (with_reducible first | exact HB.out | apply below_alloc | apply pw_below_drewN | apply below_drew1) | exact HB.out))); rintro e w60 ⟨rfl, hb⟩; have n0_ := Aside0.mk (Kd.R_below (by (with_reducible repeat (first | apply Kd.R_alloc | apply Kd.R_drewN | apply Kd.R_drew)); exact HO198.out) hb); have n1_ := Aside0.mk (below_step (by repeat (first | (with_reducible first | exact HB.out | apply below_alloc | apply pw_below_drewN | apply below_drew1) | exact HB.out)) hb); clear HO198; clear HB; have HO198 := n0_; have HB := n1_; clear n0_ n1_; (try clear hb); (try clear hb2); (try clear hk); (try clear hi)))
      go_ret
      exact ⟨by first | rfl | (simp [errW_none, errW_some] <;> rfl) | (simp [*, errW_none, errW_some] <;> rfl), by repeat (first | (with_reducible first | exact HB.out | apply below_alloc | apply pw_below_drewN | apply below_drew1) | exact HB.out)⟩
    · rw [if_neg c56] at H
      exact absurd H (by simp)

end Go.Proofs.YtaffmgphcmmdhaaDoor.L
