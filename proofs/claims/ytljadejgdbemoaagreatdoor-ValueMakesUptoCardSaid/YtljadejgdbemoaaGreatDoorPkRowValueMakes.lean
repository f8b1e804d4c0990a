/- The law barbican/barbicanlaw05.ValueMakes, Rows.valueMakesUptoRow: for every input of bulk at most 1048576 the call returns true, and what it was handed reads as it did; the package-level variables that it names as the program's text lays them. -/
import Derived.Test.YtljadejgdbemoaaGreatDoorCards
import Derived.Test.YtljadejgdbemoaaGreatDoorTie
import Derived.Test.YtljadejgdbemoaaGreatDoorPkXGLMak
import Derived.Test.YtljadejgdbemoaaGreatDoorPkKx9
import Derived.Test.YtljadejgdbemoaaGreatDoorPkXOpen
import Derived.Test.YtljadejgdbemoaaGreatDoorPkPureValueMakes
import Derived.WalkKit
import Derived.ProofKit
import Derived.OpenShut
import Derived.ShutString
import Derived.Below
import Derived.SizedLaws
import Derived.Deep.DeepHandedRow
import Derived.Lib.LaidTab
import Derived.SevenTiedAt
set_option linter.unusedVariables false
set_option linter.unusedSimpArgs false
namespace Go.Proofs.YtljadejgdbemoaaGreatDoor.valueMakesX
open Go.ChangeShapes Go.WideShapes Go.ChangeAt
open Go.RowKit Go.Proofs.YtljadejgdbemoaaGreatDoorW.PrintWords Go.Proofs.YtljadejgdbemoaaGreatDoorW.PrintLast Go.Proofs.YtljadejgdbemoaaGreatDoorX Go.Proofs.YtljadejgdbemoaaGreatDoor.K
open Go.ChangeMaps (open_string shut_string)
theorem own : ownKnob Tryz.prog.godebug = none := by kernel_rfl
theorem laidOut : laidOutB Tryz.prog = true := by kernel_rfl
set_option maxRecDepth 100000 in
set_option maxHeartbeats 4000000 in
theorem contract (H : Type) (enc : TypeId × Value → H) (W : World) (base : Nat) (args : Array Value) (ds gs : List (DataW H)) (before : List MemPlace)
    (hval0 : ∀ (j : Nat) t v, Tryz.f7.params[j]? = some t → args[j]? = some v → Value.okWide Tryz.prog W .any base t v)
    (hW : DataW.Whole enc Tryz.prog Tryz.f7.params.toList Rows.valueMakesSpec.vars false W args.toList ds gs before) (hk : Rows.uptoSmall H (ds ++ gs) = true) (hL : laidMetH Tryz.prog Rows.valueMakesUptoRow.laid W) (hsh : W.ShapedOpen Tryz.prog) :
    Calls Tryz.prog 7 args W fun e W' => ∃ v, e = .returned v ∧ Rows.valueMakesSpec.post enc Tryz.prog Tryz.f7 false true false false W args v W' := by
  have hGW : GW W := gw_of hsh hL (by kernel_rfl) (by kernel_rfl) (by kernel_rfl) (by kernel_rfl)
  have hval : ∀ (j : Nat) t v, Tryz.f7.params[j]? = some t → args[j]? = some v → Value.okWide Tryz.prog W .any base t v := hval0
  have hW' := hW
  obtain ⟨p, q, hA0, hV, rfl, hfz, hnd⟩ := hW
  have hA : DataW.TrodAll enc Tryz.prog W 0 (fun _ => true) true Tryz.f7.params.toList args.toList ds p := hA0
  rw [Tryz.params7] at hA hval
  obtain ⟨v0, vs0, d0, ds0, p0, q0, hargs, rfl, rfl, h0, r0⟩ := trodAll_cons hA
  obtain ⟨v1, vs1, d1, ds1, p1, q1, rfl, rfl, rfl, h1, r1⟩ := trodAll_cons r0
  obtain ⟨v2, vs2, d2, ds2, p2, q2, rfl, rfl, rfl, h2, r2⟩ := trodAll_cons r1
  obtain ⟨rfl, rfl, rfl⟩ := trodAll_nil r2
  obtain rfl : args = #[v0, v1, v2] := by cases args; simp_all
  obtain ⟨rfl, rfl⟩ := trodVars_none hV
  obtain ⟨cs0, rfl, hsz0⟩ := okWide_struct Tryz.underlying23 (hval 0 23 v0 rfl rfl)
  have k0 := h0
  have lt0 : ∀ x ∈ p0, x.block < W.heap.size := by obtain ⟨m, hm⟩ := k0; exact DataW.trod_lt m _ _ _ hm
  obtain ⟨fuel0, hf0⟩ := h0
  obtain ⟨y0, hy0, hwf0, hto0⟩ := (opens_struct (mk := id) (g := id) Tryz.underlying23 (by kernel_rfl) (opensF_cons rfl (by kernel_rfl) (opens_int Tryz.underlying3) (opensF_cons rfl (by kernel_rfl) (opens_int Tryz.underlying3) (opensF_cons rfl (by kernel_rfl) (opens_string Tryz.underlying9) (opensF_one rfl (by kernel_rfl) (opens_bool Tryz.underlying4))))) (fun _ => rfl)) _ _ _ hf0
  obtain ⟨a0_0, a0_1, a0_2, a0_3⟩ := y0
  obtain ⟨_, _, hcs0_0, rfl, ⟨_, _, hcs0_1, rfl, ⟨_, _, hcs0_2, rfl, rfl⟩⟩⟩ := hy0
  subst hcs0_2
  subst hcs0_1
  have hcs0_ : cs0 = #[.int .i64 a0_0, .int .i64 a0_1, .string a0_2, .bool a0_3] := by apply Array.toList_inj.1; simpa [Value.cells] using hcs0_0
  subst hcs0_
  obtain ⟨a1, rfl, rfl, rfl, hw1⟩ := open_string Tryz.underlying9 (hval 1 9 v1 rfl rfl) h1
  obtain ⟨a2, rfl, rfl, rfl, hw2⟩ := open_int Tryz.underlying3 (hval 2 3 v2 rfl rfl) h2
  have hb : 1 + 1 + (a0_2.size + 1) + 1 + (a1.size + 1) + 1 ≤ 1048576 := by
    have hk' : Rows.uptoBulkAll _ ≤ 1048576 := of_decide_eq_true hk
    simp only [List.append_nil, List.cons_append, List.nil_append, Rows.uptoBulkAll, Rows.uptoBulk, Array.length_toList] at hk'
    have ht0 : (1 + (1 + ((a0_2.size + 1) + (1)))) + 1 ≤ Rows.uptoBulk d0 := hto0
    have hsize_ : ∀ s_ : ByteArray, s_.data.size = s_.size := fun _ => rfl
    simp only [hsize_] at hk'
    omega
  obtain ⟨k, hpure⟩ := barbicanlaw05_ValueMakes_pure a0_0 a0_1 a0_2 a0_3 a1 a2 hwf0.1 hwf0.2.1 hwf0.2.2.1 hwf0.2.2.2 hw1 hw2 hb
  clear hA0 hval0 hA hval
  refine (barbicanlaw05_ValueMakes.calls k a0_0 a0_1 a0_2 a0_3 a1 a2 true W  hGW hpure).mono fun e W' he => ?_
  obtain ⟨rfl, bel⟩ := he
  exact ⟨_, rfl, _, _, _, [], _, [], hW', trodAll_mk1 (shut_bool Tryz.underlying4 _), (trodAll_cons_mk (Below.trod laidOut (by kernel_rfl) (of_decide_eq_true (by kernel_rfl)) k0 bel lt0) (trodAll_cons_mk (shut_string Tryz.underlying9 hw1) (trodAll_cons_mk (shut_int Tryz.underlying3 hw2) trodAll_mk0))), rfl, bel.frame _, fun h => by cases h⟩
theorem reads (os : Os) {H : Type} (enc : TypeId × Value → H) : ∃ places, DataW.whole enc Tryz.prog ((laidWorldA os Rows.valueMakesUptoRow.laid).forCall (fun _ _ => 0) ⟨#[], #[.agg #[.int .i64 0, .int .i64 0, .string .empty, .bool false], .string .empty, .int .i64 0], []⟩).memory Tryz.f7.params.toList Rows.valueMakesSpec.vars false (#[.agg #[.int .i64 0, .int .i64 0, .string .empty, .bool false], .string .empty, .int .i64 0] : Array Value).toList 8 = some ([(.agg [(.lit (.int .i64 0)), (.lit (.int .i64 0)), (.lit (.string [])), (.lit (.bool false))]), (.lit (.string [])), (.lit (.int .i64 0))], [], places) :=
  ⟨[], by kernel_rfl⟩
set_option maxRecDepth 100000 in
theorem lifted (os : Os) (started : os.Started) (H : Type) (enc : TypeId × Value → H) (F : Stop.Interp) :
    ReturnsInHanded {} Tryz.checked os 7 .any ((Rows.OpenSpec.upto Rows.valueMakesSpec).preRow enc Tryz.prog Tryz.f7 Rows.valueMakesUptoRow.domain false Rows.valueMakesUptoRow.laid) (((Rows.OpenSpec.upto Rows.valueMakesSpec).at F).post enc Tryz.prog Tryz.f7 false true false false) := by
  obtain ⟨places, hx⟩ := reads os enc
  refine returnsInHanded_of_row (C := Tryz.checked) (s := (Rows.OpenSpec.upto Rows.valueMakesSpec)) own started (by kernel_rfl) Tryz.func7
    (witness_row_shaped (enc := enc) (C := Tryz.checked) false (laidWorldA os Rows.valueMakesUptoRow.laid) #[.agg #[.int .i64 0, .int .i64 0, .string .empty, .bool false], .string .empty, .int .i64 0] (laidWorldA_os _ _) (World.shaped_of_ZipB (by kernel_rfl) (by kernel_rfl)) (by kernel_rfl)
      (OpenSpec.preRow_of_cond 8 hx (by kernel_rfl) (fun k hk => by cases hk; kernel_rfl) (by kernel_rfl) (laid_metA _ (by kernel_rfl) (by kernel_rfl) (by kernel_rfl)))) ?_
  intro W base args ds gs before hval hW _ hcond _ hL hsh _
  exact contract H enc W base args ds gs before hval hW (hcond _ rfl) hL hsh
theorem said : Rows.ValueMakesUptoSaid :=
  OpenClaim.holds_of_cond 7 Tryz.f7 rfl rfl rfl rfl rfl rfl rfl ⟨rfl, rfl, rfl, rfl, rfl⟩ rfl rfl rfl rfl rfl (by kernel_rfl) Tryz.func7 (by kernel_rfl)
    (of_decide_eq_true (by kernel_rfl)) (by unfold Func.isWrapper; first | (rw [if_pos (by decide +kernel)]; kernel_rfl) | (rw [if_neg (by decide +kernel)]; exact ⟨rfl, rfl⟩))
    (fun os started H enc _ F => by rw [OpenClaim.pre_eq_preRow]; exact lifted os started H enc F)
/-- No parameter wants a stand-in. -/
theorem plain (f : FuncId) (fn : Func) (hf : Tryz.pinned.checked.prog.funcNamed "barbican/barbicanlaw05.ValueMakes" = some f) (hfn : Tryz.pinned.checked.prog.funcs[f]? = some fn) :
    ∀ (j : Nat) t, fn.params[j]? = some t → Tryz.pinned.checked.prog.wantsStandIn t = false := by
  obtain rfl : f = 7 := Option.some.inj ((show Tryz.prog.funcNamed "barbican/barbicanlaw05.ValueMakes" = some 7 by kernel_rfl).symm.trans hf) |>.symm
  obtain rfl : fn = Tryz.f7 := (Option.some.inj (Tryz.func7.symm.trans hfn)).symm
  intro j t ht
  rw [Tryz.params7] at ht
  have hm := Array.mem_of_getElem? ht
  simp only [List.mem_toArray, List.mem_cons, List.mem_nil_iff, or_false] at hm
  rcases hm with rfl | rfl | rfl
  · exact (show Tryz.prog.wantsStandIn 23 = false by kernel_rfl)
  · exact (show Tryz.prog.wantsStandIn 9 = false by kernel_rfl)
  · exact (show Tryz.prog.wantsStandIn 3 = false by kernel_rfl)
/-- The card. -/
theorem card : Rows.ValueMakesUptoCardSaid :=
  Claim7.holds_tied_plain_at .later [] _ _ _ _ said (fun _ h => by cases h) (by kernel_rfl) (fun _ h => by cases h) valueMakesUpto_row_tie rfl ⟨rfl, rfl⟩ (by kernel_rfl) rfl (fun f fn h1 h2 => ⟨by kernel_rfl, plain f fn h1 h2⟩) (by kernel_rfl)
#print axioms card
end Go.Proofs.YtljadejgdbemoaaGreatDoor.valueMakesX
namespace Go.Proofs.YtljadejgdbemoaaGreatDoor
/-- The card, under a short name, for the claim. -/
theorem valueMakes_card : Rows.ValueMakesUptoCardSaid := valueMakesX.card
end Go.Proofs.YtljadejgdbemoaaGreatDoor
