/- The law barbican/barbicanlaw22.PlanNarrows, Rows.planNarrowsUptoRow: for every input of bulk at most 1048576 the call returns true, and what it was handed reads as it did. -/
import Derived.Test.YtddkbhglbkfelaaRows
import Derived.Test.YtddkbhglbkfelaaPnXGLMln
import Derived.Test.YtddkbhglbkfelaaPnXOpenR
import Derived.Test.YtddkbhglbkfelaaPnPurePlanNarrows
import Derived.WalkKit
import Derived.ProofKit
import Derived.OpenShut
import Derived.ShutString
import Derived.Below
import Derived.SizedLaws
import Derived.Deep.DeepHandedRow
import Derived.Lib.LaidTab
import Derived.SevenTiedAt
set_option linter.unusedVariables false
set_option linter.unusedSimpArgs false
namespace Go.Proofs.Ytddkbhglbkfelaa.planNarrowsX
open Go.ChangeShapes Go.WideShapes Go.ChangeAt
open Go.RowKit Go.Proofs.YtddkbhglbkfelaaW.PrintWords Go.Proofs.YtddkbhglbkfelaaW.PrintLast Go.Proofs.YtddkbhglbkfelaaX Go.Proofs.Ytddkbhglbkfelaa.P
open Go.ChangeMaps (open_string shut_string)
theorem own : ownKnob Try.prog.godebug = none := by kernel_rfl
theorem laidOut : laidOutB Try.prog = true := by kernel_rfl
section
variable {H : Type} {enc : TypeId × Value → H} {w : World} {spare : Nat → Bool} {held : Bool}
theorem op24 (N : Nat) : OpensB enc Try.prog w spare held N 24 k24 (fun _ => True) (fun _ => 0) :=
  opensB_mono (opensB_of (opens_struct (mk := fun p => (⟨p.1, p.2.1, p.2.2.1, p.2.2.2⟩ : S24)) Try.underlying24 (by kernel_rfl) (opensF_cons rfl (by kernel_rfl) (opens_int Try.underlying3) (opensF_cons rfl (by kernel_rfl) (opens_int Try.underlying3) (opensF_cons rfl (by kernel_rfl) (opens_string Try.underlying9) (opensF_one rfl (by kernel_rfl) (opens_bool Try.underlying4))))) (fun _ => rfl))) (fun _ _ => trivial) (fun _ => Nat.zero_le _)
theorem M26L_sum : ∀ l : List S26, M26L l = (l.map M26).sum
  | [] => by rw [M26L]; rfl
  | x :: l => by rw [M26L, M26L_sum l]; simp
theorem op26 : ∀ N : Nat, OpensB enc Try.prog w spare held N 26 (Kd.upto F26 8 [26] N) (fun _ => True) M26
  | 0 => fun fuel cs x h hN => by have := bulk_pos Try.underlying26 h; omega
  | N + 1 => by
    have hs : OpensB enc Try.prog w spare held N 22 (Kd.slice 26 (Kd.upto F26 8 [26] N)) (fun l => ∀ a ∈ l, True) (fun l => (l.map M26).sum + 1) :=
      opensB_le (Nat.le_succ N) (opensB_slice Try.underlying22 (by rw [sz26 N]; kernel_rfl) (op26 N))
    have h1 := opensB_struct (N := N) (mk := fun p => (⟨p.1, p.2.1, p.2.2.1, p.2.2.2.1, p.2.2.2.2⟩ : S26)) (g := fun x : S26 => (x.f0, x.f1, x.f2, x.f3, x.f4)) Try.underlying26 (by kernel_rfl)
      (opensFB_cons rfl (by kernel_rfl) (opensB_of (opens_string Try.underlying9)) (opensFB_cons rfl (by kernel_rfl) (opensB_of (opens_int Try.underlying3)) (opensFB_cons rfl (by kernel_rfl) (opensB_of (opens_int Try.underlying3)) (opensFB_cons rfl (by kernel_rfl) (op24 N) (opensFB_one rfl (by kernel_rfl) hs))))) (fun _ => rfl)
    refine opensB_mono h1 (fun _ _ => trivial) (fun a => ?_)
    rw [M26_eq, M26L_sum]
    simp only []
    omega
theorem opens26 : Opens enc Try.prog w spare held 26 k26 (fun _ => True) M26 := fun fuel cs x h => by
  obtain ⟨a, h1, h2, h3⟩ := op26 (Go.Proofs.Ytddkbhglbkfelaa.Rows.uptoBulk x.1) fuel cs x h (Nat.le_refl _)
  exact ⟨a, ⟨_, h1⟩, h2, h3⟩
end
set_option maxRecDepth 100000 in
set_option maxHeartbeats 4000000 in
theorem contract (H : Type) (enc : TypeId × Value → H) (W : World) (base : Nat) (args : Array Value) (ds gs : List (DataW H)) (before : List MemPlace)
    (hval0 : ∀ (j : Nat) t v, Try.f3.params[j]? = some t → args[j]? = some v → Value.okWide Try.prog W .any base t v)
    (hW : DataW.Whole enc Try.prog Try.f3.params.toList Rows.planNarrowsSpec.vars false W args.toList ds gs before) (hk : Rows.uptoSmall H (ds ++ gs) = true) (hsh : W.ShapedOpen Try.prog) :
    Calls Try.prog 3 args W fun e W' => ∃ v, e = .returned v ∧ Rows.planNarrowsSpec.post enc Try.prog Try.f3 false true false false W args v W' := by
  have hGW : GW W := gw_of hsh
  have hval : ∀ (j : Nat) t v, Try.f3.params[j]? = some t → args[j]? = some v → Value.okWide Try.prog W .any base t v := hval0
  have hW' := hW
  obtain ⟨p, q, hA0, hV, rfl, hfz, hnd⟩ := hW
  have hA : DataW.TrodAll enc Try.prog W 0 (fun _ => true) true Try.f3.params.toList args.toList ds p := hA0
  rw [Try.params3] at hA hval
  obtain ⟨v0, vs0, d0, ds0, p0, q0, hargs, rfl, rfl, h0, r0⟩ := trodAll_cons hA
  obtain ⟨v1, vs1, d1, ds1, p1, q1, rfl, rfl, rfl, h1, r1⟩ := trodAll_cons r0
  obtain ⟨v2, vs2, d2, ds2, p2, q2, rfl, rfl, rfl, h2, r2⟩ := trodAll_cons r1
  obtain ⟨rfl, rfl, rfl⟩ := trodAll_nil r2
  obtain rfl : args = #[v0, v1, v2] := by cases args; simp_all
  obtain ⟨rfl, rfl⟩ := trodVars_none hV
  obtain ⟨p0a, p0l, p0c, rfl⟩ := okWide_slice Try.underlying22 (hval 0 22 v0 rfl rfl)
  have k0 := h0
  have lt0 : ∀ x ∈ p0, x.block < W.heap.size := by obtain ⟨m, hm⟩ := k0; exact DataW.trod_lt m _ _ _ hm
  obtain ⟨fuel0, hf0⟩ := h0
  obtain ⟨A0, l0, c0, hcs0, hr0, hc0, _, hw0, ht0⟩ := open_row Try.underlying22 (by kernel_rfl) opens26 hf0
  simp [Value.cells] at hcs0
  obtain ⟨rfl, rfl, rfl⟩ := hcs0
  obtain ⟨cs1, rfl, hsz1⟩ := okWide_struct Try.underlying26 (hval 1 26 v1 rfl rfl)
  have k1 := h1
  have lt1 : ∀ x ∈ p1, x.block < W.heap.size := by obtain ⟨m, hm⟩ := k1; exact DataW.trod_lt m _ _ _ hm
  obtain ⟨fuel1, hf1⟩ := h1
  obtain ⟨y, hK1, _, ht1⟩ := opens26 _ _ _ hf1
  obtain ⟨A1, c1, hcs1, hc1, hr1⟩ := k26_open hK1
  have hcs1_ : cs1 = #[.string y.f0, .int .i64 y.f1, .int .i64 y.f2, .int .i64 y.f3.f0, .int .i64 y.f3.f1, .string y.f3.f2, .bool y.f3.f3, .slice A1 y.f4.length c1] := by apply Array.toList_inj.1; simpa [Value.cells] using hcs1
  subst hcs1_
  obtain ⟨a2, rfl, rfl, rfl, hw2⟩ := open_string Try.underlying9 (hval 2 9 v2 rfl rfl) h2
  have hb : M26L l0 + M26 y ≤ 1048576 := by
    have hk' : Rows.uptoBulkAll _ ≤ 1048576 := of_decide_eq_true hk
    simp only [List.append_nil, List.cons_append, List.nil_append, Rows.uptoBulkAll] at hk'
    have ht0_ : ((l0.map M26).sum + 1) ≤ Rows.uptoBulk d0 := ht0
    have ht1_ : M26 y ≤ Rows.uptoBulk d1 := ht1
    rw [M26L_sum]
    omega
  obtain ⟨k, hpure⟩ := ev_exists (planNarrows_ev l0 y a2 hb)
  clear hA0 hval0 hA hval
  refine (barbicanlaw22_PlanNarrows.calls k _ _ _ l0 y.f0 y.f1 y.f2 y.f3.f0 y.f3.f1 y.f3.f2 y.f3.f3 _ _ _ y.f4 a2 true W (Kd.V_mk hc0 (Kd.C_F k26_heap hr0)) (Kd.V_mk hc1 (Kd.C_F k26_heap hr1)) hGW hpure).mono fun e W' he => ?_
  obtain ⟨rfl, bel⟩ := he
  exact ⟨_, rfl, _, _, _, [], _, [], hW', trodAll_mk1 (shut_bool Try.underlying4 _), (trodAll_cons_mk (Below.trod laidOut (by kernel_rfl) (of_decide_eq_true (by kernel_rfl)) k0 bel lt0) (trodAll_cons_mk (Below.trod laidOut (by kernel_rfl) (of_decide_eq_true (by kernel_rfl)) k1 bel lt1) (trodAll_cons_mk (shut_string Try.underlying9 hw2) trodAll_mk0))), rfl, bel.frame _, fun h => by cases h⟩
theorem reads (os : Os) {H : Type} (enc : TypeId × Value → H) : ∃ places, DataW.whole enc Try.prog ((World.laidAll Try.prog os Rows.planNarrowsUptoRow.laid).forCall (fun _ _ => 0) ⟨#[], #[.slice none 0 0, .agg #[.string .empty, .int .i64 0, .int .i64 0, .int .i64 0, .int .i64 0, .string .empty, .bool false, .slice none 0 0], .string .empty], []⟩).memory Try.f3.params.toList Rows.planNarrowsSpec.vars false (#[.slice none 0 0, .agg #[.string .empty, .int .i64 0, .int .i64 0, .int .i64 0, .int .i64 0, .string .empty, .bool false, .slice none 0 0], .string .empty] : Array Value).toList 8 = some ([.nil, .agg [.lit (.string []), .lit (.int .i64 0), .lit (.int .i64 0), .agg [.lit (.int .i64 0), .lit (.int .i64 0), .lit (.string []), .lit (.bool false)], .nil], .lit (.string [])], [], places) :=
  ⟨[], by kernel_rfl⟩
set_option maxRecDepth 100000 in
theorem lifted (os : Os) (started : os.Started) (H : Type) (enc : TypeId × Value → H) (F : Stop.Interp) :
    ReturnsInHanded {} Try.checked os 3 .any ((Rows.OpenSpec.upto Rows.planNarrowsSpec).preRow enc Try.prog Try.f3 Rows.planNarrowsUptoRow.domain false Rows.planNarrowsUptoRow.laid) (((Rows.OpenSpec.upto Rows.planNarrowsSpec).at F).post enc Try.prog Try.f3 false true false false) := by
  obtain ⟨places, hx⟩ := reads os enc
  refine returnsInHanded_of_row (C := Try.checked) (s := (Rows.OpenSpec.upto Rows.planNarrowsSpec)) own started (by kernel_rfl) Try.func3
    (witness_row_shaped (enc := enc) (C := Try.checked) false (World.laidAll Try.prog os Rows.planNarrowsUptoRow.laid) #[.slice none 0 0, .agg #[.string .empty, .int .i64 0, .int .i64 0, .int .i64 0, .int .i64 0, .string .empty, .bool false, .slice none 0 0], .string .empty] (World.laidAll_os _ _ _) (World.shaped_of_ZipB (by kernel_rfl) (by kernel_rfl)) (by kernel_rfl)
      (OpenSpec.preRow_of_cond 8 hx (by kernel_rfl) (fun k hk => by cases hk; kernel_rfl) (by kernel_rfl) (by rw [MakeChecks.laidMetH_plain _ _ _ (by kernel_rfl)]; exact laidMet_laidAll _ (by kernel_rfl) (by kernel_rfl)))) ?_
  intro W base args ds gs before hval hW _ hcond _ hL hsh _
  exact contract H enc W base args ds gs before hval hW (hcond _ rfl) hsh
theorem said : Rows.PlanNarrowsUptoSaid :=
  OpenClaim.holds_of_cond 3 Try.f3 rfl rfl rfl rfl rfl rfl rfl ⟨rfl, rfl, rfl, rfl, rfl⟩ rfl rfl rfl rfl rfl (by kernel_rfl) Try.func3 (by kernel_rfl)
    (of_decide_eq_true (by kernel_rfl)) (by unfold Func.isWrapper; first | (rw [if_pos (by decide +kernel)]; kernel_rfl) | (rw [if_neg (by decide +kernel)]; exact ⟨rfl, rfl⟩))
    (fun os started H enc _ F => by rw [OpenClaim.pre_eq_preRow]; exact lifted os started H enc F)
#print axioms said
end Go.Proofs.Ytddkbhglbkfelaa.planNarrowsX
namespace Go.Proofs.Ytddkbhglbkfelaa
/-- The statement, under a short name, for the claim. -/
theorem planNarrows_said : Rows.PlanNarrowsUptoSaid := planNarrowsX.said
end Go.Proofs.Ytddkbhglbkfelaa
