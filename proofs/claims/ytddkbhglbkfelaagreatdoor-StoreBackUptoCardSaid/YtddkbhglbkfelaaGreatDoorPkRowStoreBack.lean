/- The law barbican/barbicanlaw26.StoreBack, Rows.storeBackUptoRow: for every input of bulk at most 1048576 the call returns true, and what it was handed reads as it did; the package-level variables that it names as the program's text lays them. -/
import Derived.Test.YtddkbhglbkfelaaGreatDoorCards
import Derived.Test.YtddkbhglbkfelaaGreatDoorTie
import Derived.Test.YtddkbhglbkfelaaGreatDoorPkXGLSto
import Derived.Test.YtddkbhglbkfelaaGreatDoorPkXBkT
import Derived.Test.YtddkbhglbkfelaaGreatDoorPkXOpen
import Derived.Test.YtddkbhglbkfelaaGreatDoorPkPureStoreBack
import Derived.WalkKit
import Derived.ProofKit
import Derived.OpenShut
import Derived.ShutString
import Derived.Below
import Derived.SizedLaws
import Derived.Deep.DeepHandedRow
import Derived.Lib.LaidTab
import Derived.SevenTiedAt
set_option linter.unusedVariables false
set_option linter.unusedSimpArgs false
namespace Go.Proofs.YtddkbhglbkfelaaGreatDoor.storeBackX
open Go.ChangeShapes Go.WideShapes Go.ChangeAt
open Go.RowKit Go.Proofs.YtddkbhglbkfelaaGreatDoorW.PrintWords Go.Proofs.YtddkbhglbkfelaaGreatDoorW.PrintLast Go.Proofs.YtddkbhglbkfelaaGreatDoorX Go.Proofs.YtddkbhglbkfelaaGreatDoor.T
open Go.ChangeMaps (open_string shut_string)
theorem own : ownKnob Tryz.prog.godebug = none := by kernel_rfl
theorem laidOut : laidOutB Tryz.prog = true := by kernel_rfl
set_option maxRecDepth 100000 in
set_option maxHeartbeats 4000000 in
theorem contract (H : Type) (enc : TypeId × Value → H) (W : World) (base : Nat) (args : Array Value) (ds gs : List (DataW H)) (before : List MemPlace)
    (hval0 : ∀ (j : Nat) t v, Tryz.f4.params[j]? = some t → args[j]? = some v → Value.okWide Tryz.prog W .any base t v)
    (hW : DataW.Whole enc Tryz.prog Tryz.f4.params.toList Rows.storeBackSpec.vars false W args.toList ds gs before) (hk : Rows.uptoSmall H (ds ++ gs) = true) (hL : laidMetH Tryz.prog Rows.storeBackUptoRow.laid W) (hsh : W.ShapedOpen Tryz.prog) :
    Calls Tryz.prog 4 args W fun e W' => ∃ v, e = .returned v ∧ Rows.storeBackSpec.post enc Tryz.prog Tryz.f4 false true false false W args v W' := by
  have hGW : GW W := gw_of hsh hL (by kernel_rfl)
  have hval : ∀ (j : Nat) t v, Tryz.f4.params[j]? = some t → args[j]? = some v → Value.okWide Tryz.prog W .any base t v := hval0
  have hW' := hW
  obtain ⟨p, q, hA0, hV, rfl, hfz, hnd⟩ := hW
  have hA : DataW.TrodAll enc Tryz.prog W 0 (fun _ => true) true Tryz.f4.params.toList args.toList ds p := hA0
  rw [Tryz.params4] at hA hval
  obtain ⟨v0, vs0, d0, ds0, p0, q0, hargs, rfl, rfl, h0, r0⟩ := trodAll_cons hA
  obtain ⟨v1, vs1, d1, ds1, p1, q1, rfl, rfl, rfl, h1, r1⟩ := trodAll_cons r0
  obtain ⟨v2, vs2, d2, ds2, p2, q2, rfl, rfl, rfl, h2, r2⟩ := trodAll_cons r1
  obtain ⟨rfl, rfl, rfl⟩ := trodAll_nil r2
  obtain rfl : args = #[v0, v1, v2] := by cases args; simp_all
  obtain ⟨rfl, rfl⟩ := trodVars_none hV
  obtain ⟨p0a, p0l, p0c, rfl⟩ := okWide_slice Tryz.underlying22 (hval 0 22 v0 rfl rfl)
  have k0 := h0
  have lt0 : ∀ x ∈ p0, x.block < W.heap.size := by obtain ⟨m, hm⟩ := k0; exact DataW.trod_lt m _ _ _ hm
  obtain ⟨fuel0, hf0⟩ := h0
  obtain ⟨A0, l0, c0, hcs0, hr0, hc0, _, hw0, ht0⟩ := open_row Tryz.underlying22 (by kernel_rfl) op59 hf0
  simp [Value.cells] at hcs0
  obtain ⟨rfl, rfl, rfl⟩ := hcs0
  obtain ⟨cs1, rfl, hsz1⟩ := okWide_struct Tryz.underlying26 (hval 1 26 v1 rfl rfl)
  have k1 := h1
  have lt1 : ∀ x ∈ p1, x.block < W.heap.size := by obtain ⟨m, hm⟩ := k1; exact DataW.trod_lt m _ _ _ hm
  obtain ⟨fuel1, hf1⟩ := h1
  obtain ⟨y1, hy1, hwf1, hto1⟩ := (opens_struct (mk := id) (g := id) Tryz.underlying26 (by kernel_rfl) (opensF_cons rfl (by kernel_rfl) (opens_int Tryz.underlying3) (opensF_cons rfl (by kernel_rfl) (opens_int Tryz.underlying3) (opensF_cons rfl (by kernel_rfl) (opens_slice Tryz.underlying23 (by kernel_rfl) (opens_int Tryz.underlying3)) (opensF_one rfl (by kernel_rfl) (opens_slice Tryz.underlying24 (by kernel_rfl) op68))))) (fun _ => rfl)) _ _ _ hf1
  obtain ⟨a1_0, a1_1, l1_2, l1_3⟩ := y1
  obtain ⟨_, _, hcs1_0, rfl, ⟨_, _, hcs1_1, rfl, ⟨_, _, hcs1_2, ⟨A1_2, c1_2, rfl, hc1_2, hr1_2⟩, ⟨A1_3, c1_3, rfl, hc1_3, hr1_3⟩⟩⟩⟩ := hy1
  subst hcs1_2
  subst hcs1_1
  have hcs1_ : cs1 = #[.int .i64 a1_0, .int .i64 a1_1, .slice A1_2 l1_2.length c1_2, .slice A1_3 l1_3.length c1_3] := by apply Array.toList_inj.1; simpa [Value.cells] using hcs1_0
  subst hcs1_
  obtain ⟨cs2, rfl, hsz2⟩ := okWide_struct Tryz.underlying49 (hval 2 49 v2 rfl rfl)
  have k2 := h2
  have lt2 : ∀ x ∈ p2, x.block < W.heap.size := by obtain ⟨m, hm⟩ := k2; exact DataW.trod_lt m _ _ _ hm
  obtain ⟨fuel2, hf2⟩ := h2
  obtain ⟨y2, hy2, hwf2, hto2⟩ := (opens_struct (mk := id) (g := id) Tryz.underlying49 (by kernel_rfl) (opensF_cons rfl (by kernel_rfl) (opens_string Tryz.underlying9) (opensF_one rfl (by kernel_rfl) (opens_slice Tryz.underlying47 (by kernel_rfl) (opens_slice Tryz.underlying64 (by kernel_rfl) op63)))) (fun _ => rfl)) _ _ _ hf2
  obtain ⟨a2_0, l2_1⟩ := y2
  obtain ⟨_, _, hcs2_0, rfl, ⟨A2_1, c2_1, rfl, hc2_1, hr2_1⟩⟩ := hy2
  have hcs2_ : cs2 = #[.string a2_0, .slice A2_1 l2_1.length c2_1] := by apply Array.toList_inj.1; simpa [Value.cells] using hcs2_0
  subst hcs2_
  have hb : ((l0.map fun e_ => T59 e_).sum + 1) + 1 + 1 + ((l1_2.map fun e_ => 1).sum + 1) + ((l1_3.map fun e_ => T68 e_).sum + 1) + (a2_0.size + 1) + ((l2_1.map fun e_ => ((e_.map fun e1_ => T63 e1_).sum + 1)).sum + 1) ≤ 1048576 := by
    have hk' : Rows.uptoBulkAll _ ≤ 1048576 := of_decide_eq_true hk
    simp only [List.append_nil, List.cons_append, List.nil_append, Rows.uptoBulkAll] at hk'
    have ht0_ : ((l0.map fun e_ => T59 e_).sum + 1) ≤ Rows.uptoBulk d0 := ht0
    have ht1 : (1 + (1 + (((l1_2.map fun e_ => 1).sum + 1) + (((l1_3.map fun e_ => T68 e_).sum + 1))))) + 1 ≤ Rows.uptoBulk d1 := hto1
    have ht2 : ((a2_0.size + 1) + (((l2_1.map fun e_ => ((e_.map fun e1_ => T63 e1_).sum + 1)).sum + 1))) + 1 ≤ Rows.uptoBulk d2 := hto2
    omega
  obtain ⟨k, hpure⟩ := barbicanlaw26_StoreBack_pure l0 a1_0 a1_1 l1_2 l1_3 a2_0 l2_1 hw0 hwf1.1 hwf1.2.1 hwf1.2.2.1 hwf1.2.2.2 hwf2.1 hwf2.2 hb
  clear hA0 hval0 hA hval
  refine (barbicanlaw26_StoreBack.calls k _ _ l0 a1_0 a1_1 _ _ l1_2 _ _ l1_3 a2_0 _ _ l2_1 true W hr0 hc0 hr1_2 hc1_2 hr1_3 hc1_3 hr2_1 hc2_1 hGW hpure).mono fun e W' he => ?_
  obtain ⟨rfl, bel⟩ := he
  exact ⟨_, rfl, _, _, _, [], _, [], hW', trodAll_mk1 (shut_bool Tryz.underlying4 _), (trodAll_cons_mk (Below.trod laidOut (by kernel_rfl) (of_decide_eq_true (by kernel_rfl)) k0 bel lt0) (trodAll_cons_mk (Below.trod laidOut (by kernel_rfl) (of_decide_eq_true (by kernel_rfl)) k1 bel lt1) (trodAll_cons_mk (Below.trod laidOut (by kernel_rfl) (of_decide_eq_true (by kernel_rfl)) k2 bel lt2) trodAll_mk0))), rfl, bel.frame _, fun h => by cases h⟩
theorem reads (os : Os) {H : Type} (enc : TypeId × Value → H) : ∃ places, DataW.whole enc Tryz.prog ((laidWorldA os Rows.storeBackUptoRow.laid).forCall (fun _ _ => 0) ⟨#[], #[.slice none 0 0, .agg #[.int .i64 0, .int .i64 0, .slice none 0 0, .slice none 0 0], .agg #[.string .empty, .slice none 0 0]], []⟩).memory Tryz.f4.params.toList Rows.storeBackSpec.vars false (#[.slice none 0 0, .agg #[.int .i64 0, .int .i64 0, .slice none 0 0, .slice none 0 0], .agg #[.string .empty, .slice none 0 0]] : Array Value).toList 8 = some ([.nil, (.agg [(.lit (.int .i64 0)), (.lit (.int .i64 0)), .nil, .nil]), (.agg [(.lit (.string [])), .nil])], [], places) :=
  ⟨[], by kernel_rfl⟩
set_option maxRecDepth 100000 in
theorem lifted (os : Os) (started : os.Started) (H : Type) (enc : TypeId × Value → H) (F : Stop.Interp) :
    ReturnsInHanded {} Tryz.checked os 4 .any ((Rows.OpenSpec.upto Rows.storeBackSpec).preRow enc Tryz.prog Tryz.f4 Rows.storeBackUptoRow.domain false Rows.storeBackUptoRow.laid) (((Rows.OpenSpec.upto Rows.storeBackSpec).at F).post enc Tryz.prog Tryz.f4 false true false false) := by
  obtain ⟨places, hx⟩ := reads os enc
  refine returnsInHanded_of_row (C := Tryz.checked) (s := (Rows.OpenSpec.upto Rows.storeBackSpec)) own started (by kernel_rfl) Tryz.func4
    (witness_row_shaped (enc := enc) (C := Tryz.checked) false (laidWorldA os Rows.storeBackUptoRow.laid) #[.slice none 0 0, .agg #[.int .i64 0, .int .i64 0, .slice none 0 0, .slice none 0 0], .agg #[.string .empty, .slice none 0 0]] (laidWorldA_os _ _) (World.shaped_of_ZipB (by kernel_rfl) (by kernel_rfl)) (by kernel_rfl)
      (OpenSpec.preRow_of_cond 8 hx (by kernel_rfl) (fun k hk => by cases hk; kernel_rfl) (by kernel_rfl) (laid_metA _ (by kernel_rfl) (by kernel_rfl) (by kernel_rfl)))) ?_
  intro W base args ds gs before hval hW _ hcond _ hL hsh _
  exact contract H enc W base args ds gs before hval hW (hcond _ rfl) hL hsh
theorem said : Rows.StoreBackUptoSaid :=
  OpenClaim.holds_of_cond 4 Tryz.f4 rfl rfl rfl rfl rfl rfl rfl ⟨rfl, rfl, rfl, rfl, rfl⟩ rfl rfl rfl rfl rfl (by kernel_rfl) Tryz.func4 (by kernel_rfl)
    (of_decide_eq_true (by kernel_rfl)) (by unfold Func.isWrapper; first | (rw [if_pos (by decide +kernel)]; kernel_rfl) | (rw [if_neg (by decide +kernel)]; exact ⟨rfl, rfl⟩))
    (fun os started H enc _ F => by rw [OpenClaim.pre_eq_preRow]; exact lifted os started H enc F)
/-- No parameter wants a stand-in. -/
theorem plain (f : FuncId) (fn : Func) (hf : Tryz.pinned.checked.prog.funcNamed "barbican/barbicanlaw26.StoreBack" = some f) (hfn : Tryz.pinned.checked.prog.funcs[f]? = some fn) :
    ∀ (j : Nat) t, fn.params[j]? = some t → Tryz.pinned.checked.prog.wantsStandIn t = false := by
  obtain rfl : f = 4 := Option.some.inj ((show Tryz.prog.funcNamed "barbican/barbicanlaw26.StoreBack" = some 4 by kernel_rfl).symm.trans hf) |>.symm
  obtain rfl : fn = Tryz.f4 := (Option.some.inj (Tryz.func4.symm.trans hfn)).symm
  intro j t ht
  rw [Tryz.params4] at ht
  have hm := Array.mem_of_getElem? ht
  simp only [List.mem_toArray, List.mem_cons, List.mem_nil_iff, or_false] at hm
  rcases hm with rfl | rfl | rfl
  · exact (show Tryz.prog.wantsStandIn 22 = false by kernel_rfl)
  · exact (show Tryz.prog.wantsStandIn 26 = false by kernel_rfl)
  · exact (show Tryz.prog.wantsStandIn 49 = false by kernel_rfl)
/-- The card. -/
theorem card : Rows.StoreBackUptoCardSaid :=
  Claim7.holds_tied_plain_at .later [] _ _ _ _ said (fun _ h => by cases h) (by kernel_rfl) (fun _ h => by cases h) storeBackUpto_row_tie rfl ⟨rfl, rfl⟩ (by kernel_rfl) rfl (fun f fn h1 h2 => ⟨by kernel_rfl, plain f fn h1 h2⟩) (by kernel_rfl)
#print axioms card
end Go.Proofs.YtddkbhglbkfelaaGreatDoor.storeBackX
namespace Go.Proofs.YtddkbhglbkfelaaGreatDoor
/-- The card, under a short name, for the claim. -/
theorem storeBack_card : Rows.StoreBackUptoCardSaid := storeBackX.card
end Go.Proofs.YtddkbhglbkfelaaGreatDoor
