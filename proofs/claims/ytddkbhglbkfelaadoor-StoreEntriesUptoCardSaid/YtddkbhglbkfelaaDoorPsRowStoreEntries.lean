/- The law barbican/barbicanlaw26.StoreEntries, Rows.storeEntriesUptoRow: for every input of bulk at most 1048576 the call returns true, and what it was handed reads as it did; the package-level variables that it names as the program's text lays them. -/
import Derived.Test.YtddkbhglbkfelaaDoorCards
import Derived.Test.YtddkbhglbkfelaaDoorTie
import Derived.Test.YtddkbhglbkfelaaDoorPsXGLSto
import Derived.Test.YtddkbhglbkfelaaDoorPsEx18
import Derived.Test.YtddkbhglbkfelaaDoorPsXOpen
import Derived.Test.YtddkbhglbkfelaaDoorPsPureStoreEntries
import Derived.WalkKit
import Derived.ProofKit
import Derived.OpenShut
import Derived.ShutString
import Derived.Below
import Derived.SizedLaws
import Derived.Deep.DeepHandedRow
import Derived.Lib.LaidTab
import Derived.SevenTiedAt
set_option linter.unusedVariables false
set_option linter.unusedSimpArgs false
namespace Go.Proofs.YtddkbhglbkfelaaDoor.storeEntriesX
open Go.ChangeShapes Go.WideShapes Go.ChangeAt
open Go.RowKit Go.Proofs.YtddkbhglbkfelaaDoorW.PrintWords Go.Proofs.YtddkbhglbkfelaaDoorW.PrintLast Go.Proofs.YtddkbhglbkfelaaDoorX Go.Proofs.YtddkbhglbkfelaaDoor.E
open Go.ChangeMaps (open_string shut_string)
theorem own : ownKnob Tryd.prog.godebug = none := by kernel_rfl
theorem laidOut : laidOutB Tryd.prog = true := by kernel_rfl
set_option maxRecDepth 100000 in
set_option maxHeartbeats 4000000 in
theorem contract (H : Type) (enc : TypeId × Value → H) (W : World) (base : Nat) (args : Array Value) (ds gs : List (DataW H)) (before : List MemPlace)
    (hval0 : ∀ (j : Nat) t v, Tryd.f3.params[j]? = some t → args[j]? = some v → Value.okWide Tryd.prog W .any base t v)
    (hW : DataW.Whole enc Tryd.prog Tryd.f3.params.toList Rows.storeEntriesSpec.vars false W args.toList ds gs before) (hk : Rows.uptoSmall H (ds ++ gs) = true) (hL : laidMetH Tryd.prog Rows.storeEntriesUptoRow.laid W) (hsh : W.ShapedOpen Tryd.prog) :
    Calls Tryd.prog 3 args W fun e W' => ∃ v, e = .returned v ∧ Rows.storeEntriesSpec.post enc Tryd.prog Tryd.f3 false true false false W args v W' := by
  have hGW : GW W := gw_of hsh hL (by kernel_rfl)
  have hval : ∀ (j : Nat) t v, Tryd.f3.params[j]? = some t → args[j]? = some v → Value.okWide Tryd.prog W .any base t v := hval0
  have hW' := hW
  obtain ⟨p, q, hA0, hV, rfl, hfz, hnd⟩ := hW
  have hA : DataW.TrodAll enc Tryd.prog W 0 (fun _ => true) true Tryd.f3.params.toList args.toList ds p := hA0
  rw [Tryd.params3] at hA hval
  obtain ⟨v0, vs0, d0, ds0, p0, q0, hargs, rfl, rfl, h0, r0⟩ := trodAll_cons hA
  obtain ⟨v1, vs1, d1, ds1, p1, q1, rfl, rfl, rfl, h1, r1⟩ := trodAll_cons r0
  obtain ⟨rfl, rfl, rfl⟩ := trodAll_nil r1
  obtain rfl : args = #[v0, v1] := by cases args; simp_all
  obtain ⟨rfl, rfl⟩ := trodVars_none hV
  obtain ⟨cs0, rfl, hsz0⟩ := okWide_struct Tryd.underlying24 (hval 0 24 v0 rfl rfl)
  have k0 := h0
  have lt0 : ∀ x ∈ p0, x.block < W.heap.size := by obtain ⟨m, hm⟩ := k0; exact DataW.trod_lt m _ _ _ hm
  obtain ⟨fuel0, hf0⟩ := h0
  obtain ⟨y0, hy0, hwf0, hto0⟩ := (opens_struct (mk := id) (g := id) Tryd.underlying24 (by kernel_rfl) (opensF_cons rfl (by kernel_rfl) (opens_string Tryd.underlying9) (opensF_one rfl (by kernel_rfl) (opens_slice Tryd.underlying22 (by kernel_rfl) (opens_slice Tryd.underlying46 (by kernel_rfl) op72)))) (fun _ => rfl)) _ _ _ hf0
  obtain ⟨a0_0, l0_1⟩ := y0
  obtain ⟨_, _, hcs0_0, rfl, ⟨A0_1, c0_1, rfl, hc0_1, hr0_1⟩⟩ := hy0
  have hcs0_ : cs0 = #[.string a0_0, .slice A0_1 l0_1.length c0_1] := by apply Array.toList_inj.1; simpa [Value.cells] using hcs0_0
  subst hcs0_
  obtain ⟨p1a, p1l, p1c, rfl⟩ := okWide_slice Tryd.underlying25 (hval 1 25 v1 rfl rfl)
  have k1 := h1
  have lt1 : ∀ x ∈ p1, x.block < W.heap.size := by obtain ⟨m, hm⟩ := k1; exact DataW.trod_lt m _ _ _ hm
  obtain ⟨fuel1, hf1⟩ := h1
  obtain ⟨A1, l1, c1, hcs1, hr1, hc1, _, hw1, ht1⟩ := open_row Tryd.underlying25 (by kernel_rfl) (opens_int Tryd.underlying5) hf1
  simp [Value.cells] at hcs1
  obtain ⟨rfl, rfl, rfl⟩ := hcs1
  have hb : (a0_0.size + 1) + ((l0_1.map fun e_ => ((e_.map fun e1_ => T72 e1_).sum + 1)).sum + 1) + ((l1.map fun e_ => 1).sum + 1) ≤ 1048576 := by
    have hk' : Rows.uptoBulkAll _ ≤ 1048576 := of_decide_eq_true hk
    simp only [List.append_nil, List.cons_append, List.nil_append, Rows.uptoBulkAll] at hk'
    have ht0 : ((a0_0.size + 1) + (((l0_1.map fun e_ => ((e_.map fun e1_ => T72 e1_).sum + 1)).sum + 1))) + 1 ≤ Rows.uptoBulk d0 := hto0
    have ht1_ : ((l1.map fun e_ => 1).sum + 1) ≤ Rows.uptoBulk d1 := ht1
    omega
  obtain ⟨k, hpure⟩ := barbicanlaw26_StoreEntries_pure a0_0 l0_1 l1 hwf0.1 hwf0.2 hw1 hb
  clear hA0 hval0 hA hval
  refine (barbicanlaw26_StoreEntries.calls k a0_0 _ _ l0_1 _ _ l1 true W hr0_1 hc0_1 hr1 hc1 hGW hpure).mono fun e W' he => ?_
  obtain ⟨rfl, bel⟩ := he
  exact ⟨_, rfl, _, _, _, [], _, [], hW', trodAll_mk1 (shut_bool Tryd.underlying4 _), (trodAll_cons_mk (Below.trod laidOut (by kernel_rfl) (of_decide_eq_true (by kernel_rfl)) k0 bel lt0) (trodAll_cons_mk (Below.trod laidOut (by kernel_rfl) (of_decide_eq_true (by kernel_rfl)) k1 bel lt1) trodAll_mk0)), rfl, bel.frame _, fun h => by cases h⟩
theorem reads (os : Os) {H : Type} (enc : TypeId × Value → H) : ∃ places, DataW.whole enc Tryd.prog ((laidWorldA os Rows.storeEntriesUptoRow.laid).forCall (fun _ _ => 0) ⟨#[], #[.agg #[.string .empty, .slice none 0 0], .slice none 0 0], []⟩).memory Tryd.f3.params.toList Rows.storeEntriesSpec.vars false (#[.agg #[.string .empty, .slice none 0 0], .slice none 0 0] : Array Value).toList 8 = some ([(.agg [(.lit (.string [])), .nil]), .nil], [], places) :=
  ⟨[], by kernel_rfl⟩
set_option maxRecDepth 100000 in
theorem lifted (os : Os) (started : os.Started) (H : Type) (enc : TypeId × Value → H) (F : Stop.Interp) :
    ReturnsInHanded {} Tryd.checked os 3 .any ((Rows.OpenSpec.upto Rows.storeEntriesSpec).preRow enc Tryd.prog Tryd.f3 Rows.storeEntriesUptoRow.domain false Rows.storeEntriesUptoRow.laid) (((Rows.OpenSpec.upto Rows.storeEntriesSpec).at F).post enc Tryd.prog Tryd.f3 false true false false) := by
  obtain ⟨places, hx⟩ := reads os enc
  refine returnsInHanded_of_row (C := Tryd.checked) (s := (Rows.OpenSpec.upto Rows.storeEntriesSpec)) own started (by kernel_rfl) Tryd.func3
    (witness_row_shaped (enc := enc) (C := Tryd.checked) false (laidWorldA os Rows.storeEntriesUptoRow.laid) #[.agg #[.string .empty, .slice none 0 0], .slice none 0 0] (laidWorldA_os _ _) (World.shaped_of_ZipB (by kernel_rfl) (by kernel_rfl)) (by kernel_rfl)
      (OpenSpec.preRow_of_cond 8 hx (by kernel_rfl) (fun k hk => by cases hk; kernel_rfl) (by kernel_rfl) (laid_metA _ (by kernel_rfl) (by kernel_rfl) (by kernel_rfl)))) ?_
  intro W base args ds gs before hval hW _ hcond _ hL hsh _
  exact contract H enc W base args ds gs before hval hW (hcond _ rfl) hL hsh
theorem said : Rows.StoreEntriesUptoSaid :=
  OpenClaim.holds_of_cond 3 Tryd.f3 rfl rfl rfl rfl rfl rfl rfl ⟨rfl, rfl, rfl, rfl, rfl⟩ rfl rfl rfl rfl rfl (by kernel_rfl) Tryd.func3 (by kernel_rfl)
    (of_decide_eq_true (by kernel_rfl)) (by unfold Func.isWrapper; first | (rw [if_pos (by decide +kernel)]; kernel_rfl) | (rw [if_neg (by decide +kernel)]; exact ⟨rfl, rfl⟩))
    (fun os started H enc _ F => by rw [OpenClaim.pre_eq_preRow]; exact lifted os started H enc F)
/-- No parameter wants a stand-in. -/
theorem plain (f : FuncId) (fn : Func) (hf : Tryd.pinned.checked.prog.funcNamed "barbican/barbicanlaw26.StoreEntries" = some f) (hfn : Tryd.pinned.checked.prog.funcs[f]? = some fn) :
    ∀ (j : Nat) t, fn.params[j]? = some t → Tryd.pinned.checked.prog.wantsStandIn t = false := by
  obtain rfl : f = 3 := Option.some.inj ((show Tryd.prog.funcNamed "barbican/barbicanlaw26.StoreEntries" = some 3 by kernel_rfl).symm.trans hf) |>.symm
  obtain rfl : fn = Tryd.f3 := (Option.some.inj (Tryd.func3.symm.trans hfn)).symm
  intro j t ht
  rw [Tryd.params3] at ht
  have hm := Array.mem_of_getElem? ht
  simp only [List.mem_toArray, List.mem_cons, List.mem_nil_iff, or_false] at hm
  rcases hm with rfl | rfl
  · exact (show Tryd.prog.wantsStandIn 24 = false by kernel_rfl)
  · exact (show Tryd.prog.wantsStandIn 25 = false by kernel_rfl)
/-- The card. -/
theorem card : Rows.StoreEntriesUptoCardSaid :=
  Claim7.holds_tied_plain_at .later [] _ _ _ _ said (fun _ h => by cases h) (by kernel_rfl) (fun _ h => by cases h) storeEntriesUpto_row_tie rfl ⟨rfl, rfl⟩ (by kernel_rfl) rfl (fun f fn h1 h2 => ⟨by kernel_rfl, plain f fn h1 h2⟩) (by kernel_rfl)
#print axioms card
end Go.Proofs.YtddkbhglbkfelaaDoor.storeEntriesX
namespace Go.Proofs.YtddkbhglbkfelaaDoor
/-- The card, under a short name, for the claim. -/
theorem storeEntries_card : Rows.StoreEntriesUptoCardSaid := storeEntriesX.card
end Go.Proofs.YtddkbhglbkfelaaDoor
