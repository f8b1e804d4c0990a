/- What the walks of lex.Lex, lex.Same compute, told plainly. -/
import Derived.Test.YtaffmgphcmmdhaaGreatDoorPyXLwQ
set_option linter.unusedVariables false
set_option linter.unusedSimpArgs false
namespace Go.Proofs.YtaffmgphcmmdhaaGreatDoor.Q
open Go.RowKit Go.Proofs.YtaffmgphcmmdhaaGreatDoorW.PrintWords Go.Proofs.YtaffmgphcmmdhaaGreatDoorW.PrintLast Go.Proofs.YtaffmgphcmmdhaaGreatDoorX
open Go.Proofs.YtaffmgphcmmdhaaGreatDoorX.Lx
theorem sure_ev : Ev (fun k => barbicanlaw18_sure.f k) true := by
  refine Ev.of (fun k => barbicanlaw18_sure.mono k) (k := 40) ?_
  kernel_rfl
abbrev TK := S47
/-! ### the same tokens -/
def core (x : TK) : Int × List UInt8 × Int := (x.f0, x.f1.data.toList, x.f2)
theorem rdT_at {xs : List TK} {j : Nat} {x : TK} (h : xs[j]? = some x) : rd_T47 xs (j : Int) = x := by
  unfold rd_T47
  rw [Int.toNat_natCast]
  first | (rw [List.getD_eq_getElem?_getD, h]; rfl) | simp [h]
end Go.Proofs.YtaffmgphcmmdhaaGreatDoor.Q
