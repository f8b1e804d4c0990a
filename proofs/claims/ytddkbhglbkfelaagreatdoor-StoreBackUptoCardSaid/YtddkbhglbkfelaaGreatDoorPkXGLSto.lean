/- The premise GW out of a row's condition on errors.errorType, and of the world's shape; a start that meets a row's condition. -/
import Derived.Test.YtddkbhglbkfelaaGreatDoorRows
import Derived.Test.YtddkbhglbkfelaaGreatDoorPkXGSto
import Derived.ChangeVars
import Derived.LaidLaws
import Derived.LaidHandle
import Derived.LaidSub
import Derived.MakeChecks
import Derived.Lay
import Derived.Lib.LaidTab
import Derived.Stop.Joined
import Derived.Deep.DeepHandedRow
namespace Go.Proofs.YtddkbhglbkfelaaGreatDoorX
open Go.RowKit
theorem etG : Tryz.prog.globalNamed "errors.errorType" = some 0 := by kernel_rfl
theorem rtG : (Tryz.prog.cutTypes.find? (·.1 == "internal/reflectlite.rtype")).map (·.2) = some 158 := by kernel_rfl
theorem oneRowG : ((List.range 227).filter fun t => Tryz.prog.rowNamed t [101, 114, 114, 111, 114]) = [32] := by kernel_rfl
theorem sizeG : Tryz.prog.types.size = 227 := by kernel_rfl
theorem e_of_laid {W : World} (h : laidMetH Tryz.prog [("errors.errorType", Go.Proofs.YtddkbhglbkfelaaGreatDoor.Rows.laid_errors_errorType)] W) : W.cell? ⟨0, 0, none⟩ = some (.iface 158 (.agg #[.pointer (some ⟨2, 32, none⟩)])) := by
  have h' : laidMet Tryz.prog [] W ∧ handlesMet Tryz.prog [("errors.errorType", Go.Proofs.YtddkbhglbkfelaaGreatDoor.Rows.laid_errors_errorType)] W := h
  obtain ⟨name, u, ty, e1, e2, e3, e4, e5⟩ := h'.2 _ (List.mem_singleton.2 rfl)
  have en : name = [101, 114, 114, 111, 114] := (Option.some.inj e1).symm
  subst en
  obtain rfl := Option.some.inj (rtG.symm.trans e2)
  have hm : ty ∈ (List.range 227).filter fun t => Tryz.prog.rowNamed t [101, 114, 114, 111, 114] := List.mem_filter.2 ⟨List.mem_range.2 (by rw [← sizeG]; exact e3), e4⟩
  rw [oneRowG] at hm
  obtain rfl := List.mem_singleton.1 hm
  have hh : typeHandle Tryz.prog 32 = .pointer (some ⟨2, 32, none⟩) := by kernel_rfl
  rw [hh] at e5
  simpa using World.var?_cell etG e5 0
theorem gw_of {W : World} {l : List (String × DataW Unit)} (hsh : W.ShapedOpen Tryz.prog) (h : laidMetH Tryz.prog l W)
    (he : (l.filter fun x => x.1 == "errors.errorType") = [("errors.errorType", Go.Proofs.YtddkbhglbkfelaaGreatDoor.Rows.laid_errors_errorType)]) : GW W := by
  have h0 := laidMetH.filter (fun x => x.1 == "errors.errorType") h
  rw [he] at h0
  exact ⟨e_of_laid h0, Tryz.laysM143.s1_3 W hsh⟩
/-- A start of any shape that is shown: the row's witness. -/
theorem witness_row_shaped {H : Type} {enc : TypeId × Value → H} {C : Checked} {os : Os} {f : FuncId} {fn : Func} {s : OpenSpec} {conds : List PathCond} {apart : Bool} {laid : List (String × DataW Unit)} (modest : Bool) (w0 : World) (args : Array Value) (hos : w0.os = os)
    (hs : (w0.forCall (fun _ _ => 0) ⟨#[], args, []⟩).Shaped C.prog)
    (hok : Input.okWideB C.prog (w0.forCall (fun _ _ => 0) ⟨#[], args, []⟩) f ⟨#[], args, []⟩ = true)
    (hrow : s.preRow enc C.prog fn conds apart laid (w0.forCall (fun _ _ => 0) ⟨#[], args, []⟩).memory args) :
    ∃ (w : World) (tape : Tape) (i : Input), w.os = os ∧ (w.forCall tape i).Shaped C.prog ∧ i.vars = [] ∧ Input.okWide C.prog (w.forCall tape i) .any w.heap.size f i ∧
      s.preRow enc C.prog fn conds apart laid (w.forCall tape i).memory i.args ∧ ({ modest := modest } : Assume).holds C.prog (lone (Frame.enter C.prog f i.args .normal) [] (w.forCall tape i)) :=
  ⟨w0, fun _ _ => 0, ⟨#[], args, []⟩, hos, hs, (Input.okWide_of_okWideB (base := 0) hok).1, (Input.okWide_of_okWideB hok).2, hrow, by
    simp only [Assume.holds]
    exact ⟨by simp, by simp, fun _ => Modest.zero, by simp, by simp⟩⟩
/-- The settled world, errorType's cell laid. -/
noncomputable def errWorld (os : Os) : World :=
  let w0 := World.holding Tryz.prog os ⟨#[], #[], []⟩
  { w0 with heap := w0.heap.modify 0 fun
      | .cells _ t frozen => .cells #[.iface 158 (.agg #[.pointer (some ⟨2, 32, none⟩)])] t frozen
      | o => o }
/-- .. and all else that a row lists. -/
noncomputable def laidWorldA (os : Os) (l : List (String × DataW Unit)) : World := (errWorld os).layVars Tryz.prog (l.filter fun x => x.2.handleName?.isNone)
theorem laidWorldA_os (os : Os) (l : List (String × DataW Unit)) : (laidWorldA os l).os = os := World.layVars_os _ _ _
theorem laid_metA {os : Os} {l : List (String × DataW Unit)} (args : Array Value)
    (hf : (errWorld os).layFits Tryz.prog (l.filter fun x => x.2.handleName?.isNone) [] = true)
    (hi : (errWorld os).layIfaces Tryz.prog (l.filter fun x => x.2.handleName?.isNone) (laidWorldA os l) = true)
    (hh : (l.filter fun x => x.2.handleName?.isSome).all (handleAtB Tryz.prog ((laidWorldA os l).forCall (fun _ _ => 0) ⟨#[], args, []⟩).memory) = true) :
    laidMetH Tryz.prog l ((laidWorldA os l).forCall (fun _ _ => 0) ⟨#[], args, []⟩).memory := by
  refine laidMetH_of_parts ?_ hh
  generalize hp : (l.filter fun x => x.2.handleName?.isNone) = p at hf hi
  have e1 : (p.filter fun x => (p.map (·.1)).contains x.1) = p := List.filter_eq_self.2 fun x hx => List.contains_iff_mem.2 (List.mem_map.2 ⟨x, hx, rfl⟩)
  have e2 : (p.filter fun x => !(p.map (·.1)).contains x.1) = [] := List.filter_eq_nil_iff.2 fun x hx => by rw [List.contains_iff_mem.2 (List.mem_map.2 ⟨x, hx, rfl⟩)]; simp
  have h : laidMet Tryz.prog p (laidWorldA os l) := laidMet_layVars (w0 := errWorld os) (p.map (·.1)) [] (by rw [e1]; unfold laidWorldA; rw [hp]) (by rw [e1]; exact hf) (by rw [e1]; exact hi) (by rw [e2]; exact LaidIn.none)
  exact h.of_heap (by simp [World.memory, World.forCall, Input.heap])
end Go.Proofs.YtddkbhglbkfelaaGreatDoorX
