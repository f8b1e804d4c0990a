/- Plain lemmas, without the program: bits of whole numbers, and numbers of seven bits a byte. -/
import Derived.Test.YtaffmgphcmmdhaaGreatDoorPyXPlain
set_option linter.unusedVariables false
set_option linter.unusedSimpArgs false
namespace Go.Proofs.YtaffmgphcmmdhaaGreatDoorX
open Go.RowKit Go.Proofs.YtaffmgphcmmdhaaGreatDoorW.PrintWords

theorem u64_wrap_id {x : Int} (h0 : 0 ≤ x) (h1 : x < 18446744073709551616) : IntKind.u64.wrap x = x := by
  simp [IntKind.wrap, IntKind.bits, IntKind.signed]; omega
theorem u64_wrap (x : Int) : IntKind.u64.wrap x = x % 18446744073709551616 := by
  simp [IntKind.wrap, IntKind.bits, IntKind.signed]
end Go.Proofs.YtaffmgphcmmdhaaGreatDoorX
