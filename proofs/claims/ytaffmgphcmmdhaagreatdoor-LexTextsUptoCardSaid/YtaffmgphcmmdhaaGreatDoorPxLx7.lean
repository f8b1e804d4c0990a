-- Written by wip/xprint.py of this session's own repo (a patched run of the kit's printer). Not trusted: Lean checks it.
import Derived.Test.YtaffmgphcmmdhaaGreatDoorPxLx0
import Derived.Test.YtaffmgphcmmdhaaGreatDoorPxLx1
import Derived.Test.YtaffmgphcmmdhaaGreatDoorPxLx4
import Derived.Test.YtaffmgphcmmdhaaGreatDoorPxLx6
namespace Go.Proofs.YtaffmgphcmmdhaaGreatDoor.L
open Go.RowKit Go.Proofs.YtaffmgphcmmdhaaGreatDoorW.PrintWords Go.Proofs.YtaffmgphcmmdhaaGreatDoorW.PrintLast Go.Proofs.YtaffmgphcmmdhaaGreatDoorW.PrintMore Go.Proofs.YtaffmgphcmmdhaaGreatDoorX
attribute [local go_sem] max2_int min2_int max_two min_two max_three min_three max_four min_four
set_option linter.unusedVariables false
set_option linter.unusedSimpArgs false

attribute [local go_sem high] eqA47
/-! ### barbicanlaw18_sure: function 10 -/
def barbicanlaw18_sure.f (k : Nat)  : Option (Bool) := (lex_Lex.f k (⟨#[97, 60, 61, 49, 39, 120, 39, 39, 121, 39]⟩ : ByteArray)).bind fun bt202 => (if bt202.2.2.isNone = true then (if bt202.2.1 = 10 then (if (bt202.1.length : Int) = 4 then (if 1 < (bt202.1.length : Int) then (if (((rd_T47 bt202.1 1).f0) == 4 && ((((rd_T47 bt202.1 1).f1).toList) == ([60, 61] : List UInt8) && (((rd_T47 bt202.1 1).f2) == 0 && (((rd_T47 bt202.1 1).f3) == 1)))) = true then (if 3 < (bt202.1.length : Int) then (some (((rd_T47 bt202.1 3).f1).toList == ([120, 39, 121] : List UInt8))) else (none)) else (none)) else (none)) else (none)) else (none)) else (none))
theorem barbicanlaw18_sure.mono : ∀ k, LeO (barbicanlaw18_sure.f k ) (barbicanlaw18_sure.f (k + 1) ) := by
  intro  k
  unfold barbicanlaw18_sure.f
  repeat' first
      | (with_reducible exact lex_Lex.mono _ _)
      | (with_reducible exact LeO.refl _)
      | (with_reducible exact LeO.none _)
      | (with_reducible refine LeO.ite ?_ ?_)
      | (with_reducible refine LeO.bind ?_ (fun _ => ?_))
      | exact lex_Lex.mono _ _
      | exact LeO.none _
      | refine LeO.ite ?_ ?_
      | refine LeO.bind ?_ (fun _ => ?_)
set_option maxHeartbeats 8000000 in
set_option maxRecDepth 100000 in
theorem barbicanlaw18_sure.calls (k : Nat)  (r : Bool) (w : World) (hG : GW w) (h : barbicanlaw18_sure.f k  = some r) :
    Calls Tryz.prog 10 #[] w fun e w' => e = .returned (.bool r) ∧ Below w.heap.size w w' := by
  have hu47 := Tryz.underlying47
  have hu24 := Tryz.underlying24
  have hu42 := Tryz.underlying42
  have HB := Aside0.mk (Below.refl w.heap.size w)
  have HG := Aside0.mk hG
  clear hG
  have H : ((lex_Lex.f k (⟨#[97, 60, 61, 49, 39, 120, 39, 39, 121, 39]⟩ : ByteArray)).bind fun bt202 => (if bt202.2.2.isNone = true then (if bt202.2.1 = 10 then (if (bt202.1.length : Int) = 4 then (if 1 < (bt202.1.length : Int) then (if (((rd_T47 bt202.1 1).f0) == 4 && ((((rd_T47 bt202.1 1).f1).toList) == ([60, 61] : List UInt8) && (((rd_T47 bt202.1 1).f2) == 0 && (((rd_T47 bt202.1 1).f3) == 1)))) = true then (if 3 < (bt202.1.length : Int) then (some (((rd_T47 bt202.1 3).f1).toList == ([120, 39, 121] : List UInt8))) else (none)) else (none)) else (none)) else (none)) else (none)) else (none))) = some r := h
  clear h
  replace H := Option.bind_eq_some_iff.mp H
  obtain ⟨⟨t202, t203, t204⟩, A10, H⟩ := H
  replace H : (if t204.isNone = true then (if t203 = 10 then (if (t202.length : Int) = 4 then (if 1 < (t202.length : Int) then (if (((rd_T47 t202 1).f0) == 4 && ((((rd_T47 t202 1).f1).toList) == ([60, 61] : List UInt8) && (((rd_T47 t202 1).f2) == 0 && (((rd_T47 t202 1).f3) == 1)))) = true then (if 3 < (t202.length : Int) then (some (((rd_T47 t202 3).f1).toList == ([120, 39, 121] : List UInt8))) else (none)) else (none)) else (none)) else (none)) else (none)) else (none)) = some r := H
  have A1 := Aside0.mk A10
  clear A10
  rcases t204 with _ | q207
  · have H1 : (if t203 = 10 then (if (t202.length : Int) = 4 then (if 1 < (t202.length : Int) then (if (((rd_T47 t202 1).f0) == 4 && ((((rd_T47 t202 1).f1).toList) == ([60, 61] : List UInt8) && (((rd_T47 t202 1).f2) == 0 && (((rd_T47 t202 1).f3) == 1)))) = true then (if 3 < (t202.length : Int) then (some (((rd_T47 t202 3).f1).toList == ([120, 39, 121] : List UInt8))) else (none)) else (none)) else (none)) else (none)) else (none)) = some r := by rw [if_pos (show (none : Option Int).isNone = true by rfl)] at H; exact H
    clear H
    have H := H1
    clear H1
    try simp only [errW_none, errW_some]
    by_cases c2 : t203 = 10
    · rw [if_pos c2] at H
      have c2b0 : (t203 == 10) = true := beq_iff_eq.mpr c2
      have c2b1 : (t203 != 10) = false := bne_eq_false_iff_eq.mpr c2
      clear c2
      by_cases c3 : (t202.length : Int) = 4
      · rw [if_pos c3] at H
        have c3b0 : ((t202.length : Int) == 4) = true := beq_iff_eq.mpr c3
        have c3b1 : ((t202.length : Int) != 4) = false := bne_eq_false_iff_eq.mpr c3
        clear c3
        by_cases c4 : 1 < (t202.length : Int)
        · rw [if_pos c4] at H
          have c4b0 : decide (1 < (t202.length : Int)) = true := decide_eq_true c4
          have c4b1 : decide (1 < t202.length) = true := decide_eq_true (by omega)
          clear c4
          by_cases c5 : (((rd_T47 t202 1).f0) == 4 && ((((rd_T47 t202 1).f1).toList) == ([60, 61] : List UInt8) && (((rd_T47 t202 1).f2) == 0 && (((rd_T47 t202 1).f3) == 1)))) = true
          · rw [if_pos c5] at H
            have c5b0 : (((rd_T47 t202 1).f0) == 4 && ((((rd_T47 t202 1).f1).toList) == ([60, 61] : List UInt8) && (((rd_T47 t202 1).f2) == 0 && (((rd_T47 t202 1).f3) == 1)))) = true := c5
            (try (have c5b1 : decide (((rd_T47 t202 1).f0) = 4 && ((((rd_T47 t202 1).f1).toList) == ([60, 61] : List UInt8) && (((rd_T47 t202 1).f2) == 0 && (((rd_T47 t202 1).f3) == 1)))) = true := by simpa using c5))
            (try (have c5b2 : (((rd_T47 t202 1).f0) == 4 && ((((rd_T47 t202 1).f1).toList) == ([60, 61] : List UInt8) && (((rd_T47 t202 1).f2) == 0 && (((rd_T47 t202 1).f3) == 1)))) = true := by simpa using c5))
            (try (have c5b3 : (!(((rd_T47 t202 1).f0) == 4 && ((((rd_T47 t202 1).f1).toList) == ([60, 61] : List UInt8) && (((rd_T47 t202 1).f2) == 0 && (((rd_T47 t202 1).f3) == 1))))) = false := by first | simpa using c5 | (have h_ := c5; revert h_; cases ((rd_T47 t202 1).f0) <;> cases 4 && ((((rd_T47 t202 1).f1).toList) == ([60, 61] : List UInt8) && (((rd_T47 t202 1).f2) == 0 && (((rd_T47 t202 1).f3) == 1))) <;> simp)))
            (try rw [c5b3])
            (try (have c5b4 : ((!((rd_T47 t202 1).f0)) == 4 && ((((rd_T47 t202 1).f1).toList) == ([60, 61] : List UInt8) && (((rd_T47 t202 1).f2) == 0 && (((rd_T47 t202 1).f3) == 1)))) = false := by first | (have h_ := c5; revert h_; cases ((rd_T47 t202 1).f0) <;> cases 4 && ((((rd_T47 t202 1).f1).toList) == ([60, 61] : List UInt8) && (((rd_T47 t202 1).f2) == 0 && (((rd_T47 t202 1).f3) == 1))) <;> simp; done) | simpa using c5))
            clear c5
            by_cases c6 : 3 < (t202.length : Int)
            · rw [if_pos c6] at H
              have c6b0 : decide (3 < (t202.length : Int)) = true := decide_eq_true c6
              have c6b1 : decide (3 < t202.length) = true := decide_eq_true (by omega)
              clear c6
              obtain rfl := Option.some.inj H
              go_enter Tryz.func10, Tryz.ntmps10
              go_wp2_with (first | ((with_reducible refine gate_callee (f := 6) rfl ?_); refine goesL_ (some 5) rfl rfl Tryz.func6 (by kernel_rfl) rfl #[.string (⟨#[97, 60, 61, 49, 39, 120, 39, 39, 121, 39]⟩ : ByteArray)] rfl (by (try simp only [List.map_toArray, List.map_cons, List.map_nil]); first | done | rfl | (simp only [List.length_drop, List.length_take]; rfl)) ?_; (with_reducible refine (lex_Lex.calls k (⟨#[97, 60, 61, 49, 39, 120, 39, 39, 121, 39]⟩ : ByteArray) t202 t203 none _ ?side1 A1.out).mono ?_); (case side1 => exact GW_below HG.out (by repeat (first | (with_reducible first | exact HB.out | apply below_alloc | apply pw_below_drewN | apply below_drew1) | exact HB.out))); rintro e w7 ⟨v205, rfl, ho0, hb⟩; refine ⟨_, rfl, ?_⟩; have n0_ := Aside0.mk (Kd.R_lower ho0 (below_size (by repeat (first | (with_reducible first | exact HB.out | apply below_alloc | apply pw_below_drewN | apply below_drew1) | exact HB.out)))); have n1_ := Aside0.mk (below_step (by repeat (first | (with_reducible first | exact HB.out | apply below_alloc | apply pw_below_drewN | apply below_drew1) | exact HB.out)) hb); clear HB; have HO206 := n0_; have HB := n1_; clear n0_ n1_; (try clear hb); (try clear hb2); (try clear hk); (try clear hi); (try clear ho0); (try simp only [errW_none, errW_some]); obtain ⟨Ao8, co8, eo8⟩ := Kd.R_slice HO206.out; subst eo8; have p208 : 0 ≤ (1 : Int) := (by omega); have q208 : 1 < (t202.length : Int) := of_decide_eq_true (by first | (with_reducible assumption) | assumption); obtain ⟨ad208, e208, hx208_0, hx208_1, hx208_2, hx208_3⟩ := at_T47 (Kd.R_reads' HO206.out).2.2 1 p208 q208; cases e208; (try simp only [show (1 : Int).toNat = 1 from rfl, Nat.reduceMul, Nat.reduceEqDiff, Go.Addr.add, ↓reduceIte] at hx208_0); (try simp only [show (1 : Int).toNat = 1 from rfl, Nat.reduceMul, Nat.reduceEqDiff, Go.Addr.add, ↓reduceIte] at hx208_1); (try simp only [show (1 : Int).toNat = 1 from rfl, Nat.reduceMul, Nat.reduceEqDiff, Go.Addr.add, ↓reduceIte] at hx208_2); (try simp only [show (1 : Int).toNat = 1 from rfl, Nat.reduceMul, Nat.reduceEqDiff, Go.Addr.add, ↓reduceIte] at hx208_3); have qi208 : (1 < t202.length) = True := eq_true (by omega); (try rw [show ((1 : Int)).toNat = 1 from rfl] at hx208_0); (try rw [show 1 * 4 = 4 from rfl] at hx208_0); (try rw [show ((1 : Int)).toNat = 1 from rfl] at hx208_1); (try rw [show 1 * 4 = 4 from rfl] at hx208_1); (try rw [show ((1 : Int)).toNat = 1 from rfl] at hx208_2); (try rw [show 1 * 4 = 4 from rfl] at hx208_2); (try rw [show ((1 : Int)).toNat = 1 from rfl] at hx208_3); (try rw [show 1 * 4 = 4 from rfl] at hx208_3); replace p208 := eq_true p208; replace q208 := eq_true q208; have p209 : 0 ≤ (3 : Int) := (by omega); have q209 : 3 < (t202.length : Int) := of_decide_eq_true (by first | (with_reducible assumption) | assumption); obtain ⟨ad209, e209, hx209_0, hx209_1, hx209_2, hx209_3⟩ := at_T47 (Kd.R_reads' HO206.out).2.2 3 p209 q209; obtain rfl : ad208 = ad209 := (by injection e209); (try simp only [show (3 : Int).toNat = 3 from rfl, Nat.reduceMul, Nat.reduceEqDiff, Go.Addr.add, ↓reduceIte] at hx209_0); (try simp only [show (3 : Int).toNat = 3 from rfl, Nat.reduceMul, Nat.reduceEqDiff, Go.Addr.add, ↓reduceIte] at hx209_1); (try simp only [show (3 : Int).toNat = 3 from rfl, Nat.reduceMul, Nat.reduceEqDiff, Go.Addr.add, ↓reduceIte] at hx209_2); (try simp only [show (3 : Int).toNat = 3 from rfl, Nat.reduceMul, Nat.reduceEqDiff, Go.Addr.add, ↓reduceIte] at hx209_3); have qi209 : (3 < t202.length) = True := eq_true (by omega); (try rw [show ((3 : Int)).toNat = 3 from rfl] at hx209_0); (try rw [show 3 * 4 = 12 from rfl] at hx209_0); (try rw [show ((3 : Int)).toNat = 3 from rfl] at hx209_1); (try rw [show 3 * 4 = 12 from rfl] at hx209_1); (try rw [show ((3 : Int)).toNat = 3 from rfl] at hx209_2); (try rw [show 3 * 4 = 12 from rfl] at hx209_2); (try rw [show ((3 : Int)).toNat = 3 from rfl] at hx209_3); (try rw [show 3 * 4 = 12 from rfl] at hx209_3); replace p209 := eq_true p209; replace q209 := eq_true q209))
              go_ret
              exact ⟨by first | rfl | (simp [errW_none, errW_some] <;> rfl) | (simp [*, errW_none, errW_some] <;> rfl), by repeat (first | (with_reducible first | exact HB.out | apply below_alloc | apply pw_below_drewN | apply below_drew1) | exact HB.out)⟩
            · rw [if_neg c6] at H
              exact absurd H (by simp)
          · rw [if_neg c5] at H
            exact absurd H (by simp)
        · rw [if_neg c4] at H
          exact absurd H (by simp)
      · rw [if_neg c3] at H
        exact absurd H (by simp)
    · rw [if_neg c2] at H
      exact absurd H (by simp)
  · have H1 : (none) = some r := by rw [if_neg (show ¬ (some q207).isNone = true by simp)] at H; exact H
    clear H
    have H := H1
    clear H1
    try simp only [errW_none, errW_some]
    exact absurd H (by simp)

/-! ### barbicanlaw18_LexTexts: function 3 -/
def barbicanlaw18_LexTexts.f (k : Nat) (a0 : ByteArray) : Option (Bool) := (lex_Lex.f k a0).bind fun bt210 => ((barbicanref18_Lex.f k a0).bind fun bt215 => ((barbicanlaw18_tokens.f k bt210.1 bt215.1).bind fun t220 => (if t220 = true then (if bt210.2.1 = bt215.2.1 then ((barbicanlaw18_num.f bt210.2.2).bind fun t221 => (if t221 = bt215.2.2 then ((barbicanlaw18_sure.f k).bind fun t222 => (some t222)) else (none))) else (none)) else (none))))
set_option maxHeartbeats 8000000 in
set_option maxRecDepth 100000 in
theorem barbicanlaw18_LexTexts.calls (k : Nat) (a0 : ByteArray) (r : Bool) (w : World) (hG : GW w) (h : barbicanlaw18_LexTexts.f k a0 = some r) :
    Calls Tryz.prog 3 #[.string a0] w fun e w' => e = .returned (.bool r) ∧ Below w.heap.size w w' := by
  have HB := Aside0.mk (Below.refl w.heap.size w)
  have HG := Aside0.mk hG
  clear hG
  have H : ((lex_Lex.f k a0).bind fun bt210 => ((barbicanref18_Lex.f k a0).bind fun bt215 => ((barbicanlaw18_tokens.f k bt210.1 bt215.1).bind fun t220 => (if t220 = true then (if bt210.2.1 = bt215.2.1 then ((barbicanlaw18_num.f bt210.2.2).bind fun t221 => (if t221 = bt215.2.2 then ((barbicanlaw18_sure.f k).bind fun t222 => (some t222)) else (none))) else (none)) else (none))))) = some r := h
  clear h
  replace H := Option.bind_eq_some_iff.mp H
  obtain ⟨⟨t210, t211, t212⟩, A20, H⟩ := H
  replace H : ((barbicanref18_Lex.f k a0).bind fun bt215 => ((barbicanlaw18_tokens.f k t210 bt215.1).bind fun t220 => (if t220 = true then (if t211 = bt215.2.1 then ((barbicanlaw18_num.f t212).bind fun t221 => (if t221 = bt215.2.2 then ((barbicanlaw18_sure.f k).bind fun t222 => (some t222)) else (none))) else (none)) else (none)))) = some r := H
  have A2 := Aside0.mk A20
  clear A20
  replace H := Option.bind_eq_some_iff.mp H
  obtain ⟨⟨t215, t216, t217⟩, A30, H⟩ := H
  replace H : ((barbicanlaw18_tokens.f k t210 t215).bind fun t220 => (if t220 = true then (if t211 = t216 then ((barbicanlaw18_num.f t212).bind fun t221 => (if t221 = t217 then ((barbicanlaw18_sure.f k).bind fun t222 => (some t222)) else (none))) else (none)) else (none))) = some r := H
  have A3 := Aside0.mk A30
  clear A30
  replace H := Option.bind_eq_some_iff.mp H
  obtain ⟨t220, A40, H⟩ := H
  replace H : (if t220 = true then (if t211 = t216 then ((barbicanlaw18_num.f t212).bind fun t221 => (if t221 = t217 then ((barbicanlaw18_sure.f k).bind fun t222 => (some t222)) else (none))) else (none)) else (none)) = some r := H
  have A4 := Aside0.mk A40
  clear A40
  by_cases c5 : t220 = true
  · subst c5
    have H1 : (if t211 = t216 then ((barbicanlaw18_num.f t212).bind fun t221 => (if t221 = t217 then ((barbicanlaw18_sure.f k).bind fun t222 => (some t222)) else (none))) else (none)) = some r := by rw [if_pos rfl] at H; exact H
    clear H
    have H := H1
    clear H1
    by_cases c6 : t211 = t216
    · rw [if_pos c6] at H
      have c6b0 : (t211 == t216) = true := beq_iff_eq.mpr c6
      have c6b1 : (t211 != t216) = false := bne_eq_false_iff_eq.mpr c6
      clear c6
      replace H := Option.bind_eq_some_iff.mp H
      obtain ⟨t221, A70, H⟩ := H
      replace H : (if t221 = t217 then ((barbicanlaw18_sure.f k).bind fun t222 => (some t222)) else (none)) = some r := H
      have A7 := Aside0.mk A70
      clear A70
      by_cases c8 : t221 = t217
      · rw [if_pos c8] at H
        have c8b0 : (t221 == t217) = true := beq_iff_eq.mpr c8
        have c8b1 : (t221 != t217) = false := bne_eq_false_iff_eq.mpr c8
        clear c8
        replace H := Option.bind_eq_some_iff.mp H
        obtain ⟨t222, A90, H⟩ := H
        replace H : (some t222) = some r := H
        have A9 := Aside0.mk A90
        clear A90
        obtain rfl := Option.some.inj H
        go_enter Tryz.func3, Tryz.ntmps3
        go_wp2_with (first | ((with_reducible refine gate_callee (f := 6) rfl ?_); refine goesL_ (some 11) rfl rfl Tryz.func6 (by kernel_rfl) rfl #[.string a0] rfl (by (try simp only [List.map_toArray, List.map_cons, List.map_nil]); first | done | rfl | (simp only [List.length_drop, List.length_take]; rfl)) ?_; (with_reducible refine (lex_Lex.calls k a0 t210 t211 t212 _ ?side1 A2.out).mono ?_); (case side1 => exact GW_below HG.out (by repeat (first | (with_reducible first | exact HB.out | apply below_alloc | apply pw_below_drewN | apply below_drew1) | exact HB.out))); rintro e w10 ⟨v213, rfl, ho0, hb⟩; refine ⟨_, rfl, ?_⟩; have n0_ := Aside0.mk (Kd.R_lower ho0 (below_size (by repeat (first | (with_reducible first | exact HB.out | apply below_alloc | apply pw_below_drewN | apply below_drew1) | exact HB.out)))); have n1_ := Aside0.mk (below_step (by repeat (first | (with_reducible first | exact HB.out | apply below_alloc | apply pw_below_drewN | apply below_drew1) | exact HB.out)) hb); clear HB; have HO214 := n0_; have HB := n1_; clear n0_ n1_; (try clear hb); (try clear hb2); (try clear hk); (try clear hi); (try clear ho0); (try simp only [errW_none, errW_some])) | ((with_reducible refine gate_callee (f := 7) rfl ?_); refine goesL_ (some 17) rfl rfl Tryz.func7 (by kernel_rfl) rfl #[.string a0] rfl (by (try simp only [List.map_toArray, List.map_cons, List.map_nil]); first | done | rfl | (simp only [List.length_drop, List.length_take]; rfl)) ?_; (with_reducible refine (barbicanref18_Lex.calls k a0 t215 t216 t217 _ A3.out).mono ?_); rintro e w11 ⟨v218, rfl, ho0, hb⟩; refine ⟨_, rfl, ?_⟩; have n0_ := Aside0.mk (Kd.R_below (by (with_reducible repeat (first | apply Kd.R_alloc | apply Kd.R_drewN | apply Kd.R_drew)); exact HO214.out) hb); have n1_ := Aside0.mk (Kd.R_lower ho0 (below_size (by repeat (first | (with_reducible first | exact HB.out | apply below_alloc | apply pw_below_drewN | apply below_drew1) | exact HB.out)))); have n2_ := Aside0.mk (below_step (by repeat (first | (with_reducible first | exact HB.out | apply below_alloc | apply pw_below_drewN | apply below_drew1) | exact HB.out)) hb); clear HO214; clear HB; have HO214 := n0_; have HO219 := n1_; have HB := n2_; clear n0_ n1_ n2_; (try clear hb); (try clear hb2); (try clear hk); (try clear hi); (try clear ho0); obtain ⟨Ao12, co12, eo12⟩ := Kd.R_slice HO214.out; subst eo12; obtain ⟨Ao13, co13, eo13⟩ := Kd.R_slice HO219.out; subst eo13) | ((with_reducible refine gate_callee (f := 8) rfl ?_); refine goesL_ (some 23) rfl rfl Tryz.func8 (by kernel_rfl) rfl #[.slice Ao12 t210.length co12, .slice Ao13 t215.length co13] rfl (by (try simp only [List.map_toArray, List.map_cons, List.map_nil]); first | done | rfl | (simp only [List.length_drop, List.length_take]; rfl)) ?_; (with_reducible refine (barbicanlaw18_tokens.calls k _ _ t210 _ _ t215 true _ ?side1 ?side2 ?side3 ?side4 A4.out).mono ?_); (case side1 => repeat (first | exact (Kd.R_reads' HO214.out).2.2 | (with_reducible refine Kd.C_alloc ?_ _) | (with_reducible refine Kd.C_drewN ?_ _) | (with_reducible refine Kd.C_drew ?_))); (case side2 => exact (Kd.R_reads' HO214.out).2.1); (case side3 => repeat (first | exact (Kd.R_reads' HO219.out).2.2 | (with_reducible refine Kd.C_alloc ?_ _) | (with_reducible refine Kd.C_drewN ?_ _) | (with_reducible refine Kd.C_drew ?_))); (case side4 => exact (Kd.R_reads' HO219.out).2.1); rintro e w' ⟨rfl, ⟨nd, rfl⟩⟩; refine ⟨_, rfl, ?_⟩; have CA7 := fun W (hG_ : GW W) => barbicanlaw18_num.calls t212 t221 W hG_ A7.out; try simp only [errW_none, errW_some] at CA7) | (go_at_call 9; (with_reducible refine (CA7 _ ?side1).mono ?_); (case side1 => exact GW_below HG.out (by repeat (first | (with_reducible first | exact HB.out | apply below_alloc | apply pw_below_drewN | apply below_drew1) | exact HB.out))); rintro e w14 ⟨rfl, hb⟩; have n0_ := Aside0.mk (Kd.R_below (by (with_reducible repeat (first | apply Kd.R_alloc | apply Kd.R_drewN | apply Kd.R_drew)); exact HO214.out) hb); have n1_ := Aside0.mk (Kd.R_below (by (with_reducible repeat (first | apply Kd.R_alloc | apply Kd.R_drewN | apply Kd.R_drew)); exact HO219.out) hb); have n2_ := Aside0.mk (below_step (by repeat (first | (with_reducible first | exact HB.out | apply below_alloc | apply pw_below_drewN | apply below_drew1) | exact HB.out)) hb); clear HO214; clear HO219; clear HB; have HO214 := n0_; have HO219 := n1_; have HB := n2_; clear n0_ n1_ n2_; (try clear hb); (try clear hb2); (try clear hk); (try clear hi)) | (go_at_call 10; (with_reducible refine (barbicanlaw18_sure.calls k  t222 _ ?side1 A9.out).mono ?_); (case side1 => exact GW_below HG.out (by repeat (first | (with_reducible first | exact HB.out | apply below_alloc | apply pw_below_drewN | apply below_drew1) | exact HB.out))); rintro e w15 ⟨rfl, hb⟩; have n0_ := Aside0.mk (Kd.R_below (by (with_reducible repeat (first | apply Kd.R_alloc | apply Kd.R_drewN | apply Kd.R_drew)); exact HO214.out) hb); have n1_ := Aside0.mk (Kd.R_below (by (with_reducible repeat (first | apply Kd.R_alloc | apply Kd.R_drewN | apply Kd.R_drew)); exact HO219.out) hb); have n2_ := Aside0.mk (below_step (by repeat (first | (with_reducible first | exact HB.out | apply below_alloc | apply pw_below_drewN | apply below_drew1) | exact HB.out)) hb); clear HO214; clear HO219; clear HB; have HO214 := n0_; have HO219 := n1_; have HB := n2_; clear n0_ n1_ n2_; (try clear hb); (try clear hb2); (try clear hk); (try clear hi)))
        go_ret
        exact ⟨by first | rfl | (simp [errW_none, errW_some] <;> rfl) | (simp [*, errW_none, errW_some] <;> rfl), by repeat (first | (with_reducible first | exact HB.out | apply below_alloc | apply pw_below_drewN | apply below_drew1) | exact HB.out)⟩
      · rw [if_neg c8] at H
        exact absurd H (by simp)
    · rw [if_neg c6] at H
      exact absurd H (by simp)
  · replace c5 := Bool.eq_false_iff.mpr c5
    subst c5
    have H1 : (none) = some r := by rw [if_neg (show ¬ (false = true) by decide)] at H; exact H
    clear H
    have H := H1
    clear H1
    exact absurd H (by simp)

-- NOT PRINTED: function 22 (lex_Token)

-- NOT PRINTED: function 24 (lex_Token_bare)

-- NOT PRINTED: function 23 (lex_Same_1)

-- NOT PRINTED: function 9990003 (lex_Token_of_Same_1)

-- NOT PRINTED: function 11 (lex_Same)

-- NOT PRINTED: function 4 (barbicanlaw18_LexCases)

end Go.Proofs.YtaffmgphcmmdhaaGreatDoor.L
