/- The law barbican/barbicanlaw05.ValueMorgan, Rows.valueMorganUptoRow: for every input of bulk at most 1048576 the call returns true, and what it was handed reads as it did; the package-level variables that it names as the program's text lays them. -/
import Derived.Test.YtljadejgdbemoaaDoorCards
import Derived.Test.YtljadejgdbemoaaDoorTie
import Derived.Test.YtljadejgdbemoaaDoorPmXGLMor
import Derived.Test.YtljadejgdbemoaaDoorPmMx6
import Derived.Test.YtljadejgdbemoaaDoorPmXOpen
import Derived.Test.YtljadejgdbemoaaDoorPmPureValueMorgan
import Derived.WalkKit
import Derived.ProofKit
import Derived.OpenShut
import Derived.ShutString
import Derived.Below
import Derived.SizedLaws
import Derived.Deep.DeepHandedRow
import Derived.Lib.LaidTab
import Derived.SevenTiedAt
set_option linter.unusedVariables false
set_option linter.unusedSimpArgs false
namespace Go.Proofs.YtljadejgdbemoaaDoor.valueMorganX
open Go.ChangeShapes Go.WideShapes Go.ChangeAt
open Go.RowKit Go.Proofs.YtljadejgdbemoaaDoorW.PrintWords Go.Proofs.YtljadejgdbemoaaDoorW.PrintLast Go.Proofs.YtljadejgdbemoaaDoorX Go.Proofs.YtljadejgdbemoaaDoor.M
open Go.ChangeMaps (open_string shut_string)
theorem own : ownKnob Tryd.prog.godebug = none := by kernel_rfl
theorem laidOut : laidOutB Tryd.prog = true := by kernel_rfl
set_option maxRecDepth 100000 in
set_option maxHeartbeats 4000000 in
theorem contract (H : Type) (enc : TypeId × Value → H) (W : World) (base : Nat) (args : Array Value) (ds gs : List (DataW H)) (before : List MemPlace)
    (hval0 : ∀ (j : Nat) t v, Tryd.f9.params[j]? = some t → args[j]? = some v → Value.okWide Tryd.prog W .any base t v)
    (hW : DataW.Whole enc Tryd.prog Tryd.f9.params.toList Rows.valueMorganSpec.vars false W args.toList ds gs before) (hk : Rows.uptoSmall H (ds ++ gs) = true) (hL : laidMetH Tryd.prog Rows.valueMorganUptoRow.laid W) (hsh : W.ShapedOpen Tryd.prog) :
    Calls Tryd.prog 9 args W fun e W' => ∃ v, e = .returned v ∧ Rows.valueMorganSpec.post enc Tryd.prog Tryd.f9 false true false false W args v W' := by
  have hGW : GW W := gw_of hsh hL (by kernel_rfl) (by kernel_rfl) (by kernel_rfl)
  have hval : ∀ (j : Nat) t v, Tryd.f9.params[j]? = some t → args[j]? = some v → Value.okWide Tryd.prog W .any base t v := hval0
  have hW' := hW
  obtain ⟨p, q, hA0, hV, rfl, hfz, hnd⟩ := hW
  have hA : DataW.TrodAll enc Tryd.prog W 0 (fun _ => true) true Tryd.f9.params.toList args.toList ds p := hA0
  rw [Tryd.params9] at hA hval
  obtain ⟨v0, vs0, d0, ds0, p0, q0, hargs, rfl, rfl, h0, r0⟩ := trodAll_cons hA
  obtain ⟨v1, vs1, d1, ds1, p1, q1, rfl, rfl, rfl, h1, r1⟩ := trodAll_cons r0
  obtain ⟨v2, vs2, d2, ds2, p2, q2, rfl, rfl, rfl, h2, r2⟩ := trodAll_cons r1
  obtain ⟨rfl, rfl, rfl⟩ := trodAll_nil r2
  obtain rfl : args = #[v0, v1, v2] := by cases args; simp_all
  obtain ⟨rfl, rfl⟩ := trodVars_none hV
  obtain ⟨cs0, rfl, hsz0⟩ := okWide_struct Tryd.underlying38 (hval 0 38 v0 rfl rfl)
  have k0 := h0
  have lt0 : ∀ x ∈ p0, x.block < W.heap.size := by obtain ⟨m, hm⟩ := k0; exact DataW.trod_lt m _ _ _ hm
  obtain ⟨fuel0, hf0⟩ := h0
  obtain ⟨y0, hy0, hwf0, hto0⟩ := (opens_struct (mk := id) (g := id) Tryd.underlying38 (by kernel_rfl) (opensF_cons rfl (by kernel_rfl) (opens_int Tryd.underlying3) (opensF_cons rfl (by kernel_rfl) (opens_int Tryd.underlying3) (opensF_cons rfl (by kernel_rfl) (opens_string Tryd.underlying9) (opensF_one rfl (by kernel_rfl) (opens_bool Tryd.underlying4))))) (fun _ => rfl)) _ _ _ hf0
  obtain ⟨a0_0, a0_1, a0_2, a0_3⟩ := y0
  obtain ⟨_, _, hcs0_0, rfl, ⟨_, _, hcs0_1, rfl, ⟨_, _, hcs0_2, rfl, rfl⟩⟩⟩ := hy0
  subst hcs0_2
  subst hcs0_1
  have hcs0_ : cs0 = #[.int .i64 a0_0, .int .i64 a0_1, .string a0_2, .bool a0_3] := by apply Array.toList_inj.1; simpa [Value.cells] using hcs0_0
  subst hcs0_
  obtain ⟨cs1, rfl, hsz1⟩ := okWide_struct Tryd.underlying38 (hval 1 38 v1 rfl rfl)
  have k1 := h1
  have lt1 : ∀ x ∈ p1, x.block < W.heap.size := by obtain ⟨m, hm⟩ := k1; exact DataW.trod_lt m _ _ _ hm
  obtain ⟨fuel1, hf1⟩ := h1
  obtain ⟨y1, hy1, hwf1, hto1⟩ := (opens_struct (mk := id) (g := id) Tryd.underlying38 (by kernel_rfl) (opensF_cons rfl (by kernel_rfl) (opens_int Tryd.underlying3) (opensF_cons rfl (by kernel_rfl) (opens_int Tryd.underlying3) (opensF_cons rfl (by kernel_rfl) (opens_string Tryd.underlying9) (opensF_one rfl (by kernel_rfl) (opens_bool Tryd.underlying4))))) (fun _ => rfl)) _ _ _ hf1
  obtain ⟨a1_0, a1_1, a1_2, a1_3⟩ := y1
  obtain ⟨_, _, hcs1_0, rfl, ⟨_, _, hcs1_1, rfl, ⟨_, _, hcs1_2, rfl, rfl⟩⟩⟩ := hy1
  subst hcs1_2
  subst hcs1_1
  have hcs1_ : cs1 = #[.int .i64 a1_0, .int .i64 a1_1, .string a1_2, .bool a1_3] := by apply Array.toList_inj.1; simpa [Value.cells] using hcs1_0
  subst hcs1_
  obtain ⟨cs2, rfl, hsz2⟩ := okWide_struct Tryd.underlying38 (hval 2 38 v2 rfl rfl)
  have k2 := h2
  have lt2 : ∀ x ∈ p2, x.block < W.heap.size := by obtain ⟨m, hm⟩ := k2; exact DataW.trod_lt m _ _ _ hm
  obtain ⟨fuel2, hf2⟩ := h2
  obtain ⟨y2, hy2, hwf2, hto2⟩ := (opens_struct (mk := id) (g := id) Tryd.underlying38 (by kernel_rfl) (opensF_cons rfl (by kernel_rfl) (opens_int Tryd.underlying3) (opensF_cons rfl (by kernel_rfl) (opens_int Tryd.underlying3) (opensF_cons rfl (by kernel_rfl) (opens_string Tryd.underlying9) (opensF_one rfl (by kernel_rfl) (opens_bool Tryd.underlying4))))) (fun _ => rfl)) _ _ _ hf2
  obtain ⟨a2_0, a2_1, a2_2, a2_3⟩ := y2
  obtain ⟨_, _, hcs2_0, rfl, ⟨_, _, hcs2_1, rfl, ⟨_, _, hcs2_2, rfl, rfl⟩⟩⟩ := hy2
  subst hcs2_2
  subst hcs2_1
  have hcs2_ : cs2 = #[.int .i64 a2_0, .int .i64 a2_1, .string a2_2, .bool a2_3] := by apply Array.toList_inj.1; simpa [Value.cells] using hcs2_0
  subst hcs2_
  have hb : 1 + 1 + (a0_2.size + 1) + 1 + 1 + 1 + (a1_2.size + 1) + 1 + 1 + 1 + (a2_2.size + 1) + 1 ≤ 1048576 := by
    have hk' : Rows.uptoBulkAll _ ≤ 1048576 := of_decide_eq_true hk
    simp only [List.append_nil, List.cons_append, List.nil_append, Rows.uptoBulkAll] at hk'
    have ht0 : (1 + (1 + ((a0_2.size + 1) + (1)))) + 1 ≤ Rows.uptoBulk d0 := hto0
    have ht1 : (1 + (1 + ((a1_2.size + 1) + (1)))) + 1 ≤ Rows.uptoBulk d1 := hto1
    have ht2 : (1 + (1 + ((a2_2.size + 1) + (1)))) + 1 ≤ Rows.uptoBulk d2 := hto2
    omega
  obtain ⟨k, hpure⟩ := barbicanlaw05_ValueMorgan_pure a0_0 a0_1 a0_2 a0_3 a1_0 a1_1 a1_2 a1_3 a2_0 a2_1 a2_2 a2_3 hwf0.1 hwf0.2.1 hwf0.2.2.1 hwf0.2.2.2 hwf1.1 hwf1.2.1 hwf1.2.2.1 hwf1.2.2.2 hwf2.1 hwf2.2.1 hwf2.2.2.1 hwf2.2.2.2 hb
  clear hA0 hval0 hA hval
  refine (barbicanlaw05_ValueMorgan.calls k a0_0 a0_1 a0_2 a0_3 a1_0 a1_1 a1_2 a1_3 a2_0 a2_1 a2_2 a2_3 true W  hGW hpure).mono fun e W' he => ?_
  obtain ⟨rfl, bel⟩ := he
  exact ⟨_, rfl, _, _, _, [], _, [], hW', trodAll_mk1 (shut_bool Tryd.underlying4 _), (trodAll_cons_mk (Below.trod laidOut (by kernel_rfl) (of_decide_eq_true (by kernel_rfl)) k0 bel lt0) (trodAll_cons_mk (Below.trod laidOut (by kernel_rfl) (of_decide_eq_true (by kernel_rfl)) k1 bel lt1) (trodAll_cons_mk (Below.trod laidOut (by kernel_rfl) (of_decide_eq_true (by kernel_rfl)) k2 bel lt2) trodAll_mk0))), rfl, bel.frame _, fun h => by cases h⟩
theorem reads (os : Os) {H : Type} (enc : TypeId × Value → H) : ∃ places, DataW.whole enc Tryd.prog ((World.laidAll Tryd.prog os Rows.valueMorganUptoRow.laid).forCall (fun _ _ => 0) ⟨#[], #[.agg #[.int .i64 0, .int .i64 0, .string .empty, .bool false], .agg #[.int .i64 0, .int .i64 0, .string .empty, .bool false], .agg #[.int .i64 0, .int .i64 0, .string .empty, .bool false]], []⟩).memory Tryd.f9.params.toList Rows.valueMorganSpec.vars false (#[.agg #[.int .i64 0, .int .i64 0, .string .empty, .bool false], .agg #[.int .i64 0, .int .i64 0, .string .empty, .bool false], .agg #[.int .i64 0, .int .i64 0, .string .empty, .bool false]] : Array Value).toList 8 = some ([(.agg [(.lit (.int .i64 0)), (.lit (.int .i64 0)), (.lit (.string [])), (.lit (.bool false))]), (.agg [(.lit (.int .i64 0)), (.lit (.int .i64 0)), (.lit (.string [])), (.lit (.bool false))]), (.agg [(.lit (.int .i64 0)), (.lit (.int .i64 0)), (.lit (.string [])), (.lit (.bool false))])], [], places) :=
  ⟨[], by kernel_rfl⟩
set_option maxRecDepth 100000 in
theorem lifted (os : Os) (started : os.Started) (H : Type) (enc : TypeId × Value → H) (F : Stop.Interp) :
    ReturnsInHanded {} Tryd.checked os 9 .any ((Rows.OpenSpec.upto Rows.valueMorganSpec).preRow enc Tryd.prog Tryd.f9 Rows.valueMorganUptoRow.domain false Rows.valueMorganUptoRow.laid) (((Rows.OpenSpec.upto Rows.valueMorganSpec).at F).post enc Tryd.prog Tryd.f9 false true false false) := by
  obtain ⟨places, hx⟩ := reads os enc
  refine returnsInHanded_of_row (C := Tryd.checked) (s := (Rows.OpenSpec.upto Rows.valueMorganSpec)) own started (by kernel_rfl) Tryd.func9
    (witness_row_shaped (enc := enc) (C := Tryd.checked) false (World.laidAll Tryd.prog os Rows.valueMorganUptoRow.laid) #[.agg #[.int .i64 0, .int .i64 0, .string .empty, .bool false], .agg #[.int .i64 0, .int .i64 0, .string .empty, .bool false], .agg #[.int .i64 0, .int .i64 0, .string .empty, .bool false]] (World.laidAll_os _ _ _) (World.shaped_of_ZipB (by kernel_rfl) (by kernel_rfl)) (by kernel_rfl)
      (OpenSpec.preRow_of_cond 8 hx (by kernel_rfl) (fun k hk => by cases hk; kernel_rfl) (by kernel_rfl) (by rw [MakeChecks.laidMetH_plain _ _ _ (by kernel_rfl)]; exact laidMet_laidAll _ (by kernel_rfl) (by kernel_rfl)))) ?_
  intro W base args ds gs before hval hW _ hcond _ hL hsh _
  exact contract H enc W base args ds gs before hval hW (hcond _ rfl) hL hsh
theorem said : Rows.ValueMorganUptoSaid :=
  OpenClaim.holds_of_cond 9 Tryd.f9 rfl rfl rfl rfl rfl rfl rfl ⟨rfl, rfl, rfl, rfl, rfl⟩ rfl rfl rfl rfl rfl (by kernel_rfl) Tryd.func9 (by kernel_rfl)
    (of_decide_eq_true (by kernel_rfl)) (by unfold Func.isWrapper; first | (rw [if_pos (by decide +kernel)]; kernel_rfl) | (rw [if_neg (by decide +kernel)]; exact ⟨rfl, rfl⟩))
    (fun os started H enc _ F => by rw [OpenClaim.pre_eq_preRow]; exact lifted os started H enc F)
/-- No parameter wants a stand-in. -/
theorem plain (f : FuncId) (fn : Func) (hf : Tryd.pinned.checked.prog.funcNamed "barbican/barbicanlaw05.ValueMorgan" = some f) (hfn : Tryd.pinned.checked.prog.funcs[f]? = some fn) :
    ∀ (j : Nat) t, fn.params[j]? = some t → Tryd.pinned.checked.prog.wantsStandIn t = false := by
  obtain rfl : f = 9 := Option.some.inj ((show Tryd.prog.funcNamed "barbican/barbicanlaw05.ValueMorgan" = some 9 by kernel_rfl).symm.trans hf) |>.symm
  obtain rfl : fn = Tryd.f9 := (Option.some.inj (Tryd.func9.symm.trans hfn)).symm
  intro j t ht
  rw [Tryd.params9] at ht
  have hm := Array.mem_of_getElem? ht
  simp only [List.mem_toArray, List.mem_cons, List.mem_nil_iff, or_false] at hm
  rcases hm with rfl | rfl | rfl
  · exact (show Tryd.prog.wantsStandIn 38 = false by kernel_rfl)
  · exact (show Tryd.prog.wantsStandIn 38 = false by kernel_rfl)
  · exact (show Tryd.prog.wantsStandIn 38 = false by kernel_rfl)
/-- The card. -/
theorem card : Rows.ValueMorganUptoCardSaid :=
  Claim7.holds_tied_plain_at .later [] _ _ _ _ said (fun _ h => by cases h) (by kernel_rfl) (fun _ h => by cases h) valueMorganUpto_row_tie rfl ⟨rfl, rfl⟩ (by kernel_rfl) rfl (fun f fn h1 h2 => ⟨by kernel_rfl, plain f fn h1 h2⟩) (by kernel_rfl)
#print axioms card
end Go.Proofs.YtljadejgdbemoaaDoor.valueMorganX
namespace Go.Proofs.YtljadejgdbemoaaDoor
/-- The card, under a short name, for the claim. -/
theorem valueMorgan_card : Rows.ValueMorganUptoCardSaid := valueMorganX.card
end Go.Proofs.YtljadejgdbemoaaDoor
