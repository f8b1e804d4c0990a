/- The premise GW out of a row's conditions on the table of powers of ten and on strconv's two errors, and of the world's shape; a start that meets a row's condition. -/
import Derived.Test.YtaffmgphcmmdhaaDoorRows
import Derived.Test.YtaffmgphcmmdhaaDoorPbXGMor
import Derived.ChangeVars
import Derived.LaidLaws
import Derived.LaidHandle
import Derived.LaidSub
import Derived.MakeChecks
import Derived.Lay
import Derived.Lib.LaidTab
import Derived.Stop.Joined
import Derived.Stop.LaidErr
import Derived.Deep.DeepHandedRow
namespace Go.Proofs.YtaffmgphcmmdhaaDoorX
open Go.RowKit
theorem starG : "*" ++ "errors.errorString" = "*errors.errorString" := by decide
theorem rowG (u : TypeId) (h : Tryd.prog.typeName? 3 u = some "*errors.errorString") : u = 119 :=
  typeName_ptr_named (nm := "errors.errorString") (by rw [starG]; kernel_rfl) (by kernel_rfl) (by decide) u (by rw [starG]; exact h)
theorem cell_of_sentinel {W : World} {n : String} {g : Nat} {text : List UInt8} (h : laidMetH Tryd.prog [(n, .iface "*errors.errorString" (.ptr (.agg [.lit (.string text)])))] W) (hg : Tryd.prog.globalNamed n = some g) (ht : (Tryd.prog.globals[g]?).map (·.type) = some 25) :
    ∃ te pe, W.cell? ⟨g, 0, none⟩ = some (.iface te pe) := by
  rw [MakeChecks.laidMetH_plain _ _ _ (by rfl)] at h
  obtain ⟨a, s, hv, _⟩ := laid_sentinel h hg ht Tryd.underlying25 rowG Tryd.underlying119 Tryd.underlying121 rfl rfl Tryd.underlying9 (by kernel_rfl) (by kernel_rfl)
  exact ⟨_, _, by simpa using World.var?_cell hg hv 0⟩
theorem gw_of {W : World} {l : List (String × DataW Unit)} (hsh : W.ShapedOpen Tryd.prog) (h : laidMetH Tryd.prog l W)
    (hk : (l.filter fun x => x.1 == "internal/strconv.uint64pow10") = [("internal/strconv.uint64pow10", Lib.tabData .u64 Lib.pow10Tab)])
    (hs : (l.filter fun x => x.1 == "strconv.ErrSyntax") = [("strconv.ErrSyntax", Go.Proofs.YtaffmgphcmmdhaaDoor.Rows.laid_strconv_ErrSyntax)])
    (hr : (l.filter fun x => x.1 == "strconv.ErrRange") = [("strconv.ErrRange", Go.Proofs.YtaffmgphcmmdhaaDoor.Rows.laid_strconv_ErrRange)]) : GW W := by
  have h1 := laidMetH.filter (fun x => x.1 == "internal/strconv.uint64pow10") h
  rw [hk, MakeChecks.laidMetH_plain _ _ _ (by kernel_rfl)] at h1
  have h2 := laidMetH.filter (fun x => x.1 == "strconv.ErrSyntax") h
  rw [hs] at h2
  have h3 := laidMetH.filter (fun x => x.1 == "strconv.ErrRange") h
  rw [hr] at h3
  exact ⟨Lib.tabIs_of_head (g := 6) (t := 125) (e := 50) (n := 20) (by kernel_rfl) (by kernel_rfl) Tryd.underlying125 Tryd.underlying50 (by kernel_rfl) (by kernel_rfl) h1, Tryd.laysM155.s1_3 W hsh,
    cell_of_sentinel h2 (by kernel_rfl) (by kernel_rfl), cell_of_sentinel h3 (by kernel_rfl) (by kernel_rfl)⟩
/-- A start of any shape that is shown: the row's witness. -/
theorem witness_row_shaped {H : Type} {enc : TypeId × Value → H} {C : Checked} {os : Os} {f : FuncId} {fn : Func} {s : OpenSpec} {conds : List PathCond} {apart : Bool} {laid : List (String × DataW Unit)} (modest : Bool) (w0 : World) (args : Array Value) (hos : w0.os = os)
    (hs : (w0.forCall (fun _ _ => 0) ⟨#[], args, []⟩).Shaped C.prog)
    (hok : Input.okWideB C.prog (w0.forCall (fun _ _ => 0) ⟨#[], args, []⟩) f ⟨#[], args, []⟩ = true)
    (hrow : s.preRow enc C.prog fn conds apart laid (w0.forCall (fun _ _ => 0) ⟨#[], args, []⟩).memory args) :
    ∃ (w : World) (tape : Tape) (i : Input), w.os = os ∧ (w.forCall tape i).Shaped C.prog ∧ i.vars = [] ∧ Input.okWide C.prog (w.forCall tape i) .any w.heap.size f i ∧
      s.preRow enc C.prog fn conds apart laid (w.forCall tape i).memory i.args ∧ ({ modest := modest } : Assume).holds C.prog (lone (Frame.enter C.prog f i.args .normal) [] (w.forCall tape i)) :=
  ⟨w0, fun _ _ => 0, ⟨#[], args, []⟩, hos, hs, (Input.okWide_of_okWideB (base := 0) hok).1, (Input.okWide_of_okWideB hok).2, hrow, by
    simp only [Assume.holds]
    exact ⟨by simp, by simp, fun _ => Modest.zero, by simp, by simp⟩⟩
end Go.Proofs.YtaffmgphcmmdhaaDoorX
