/- Plain lemmas, without the program: bits of whole numbers, and numbers of seven bits a byte. -/
import Derived.Test.YtddkbhglbkfelaaPnXPlain
set_option linter.unusedVariables false
set_option linter.unusedSimpArgs false
namespace Go.Proofs.YtddkbhglbkfelaaX
open Go.RowKit Go.Proofs.YtddkbhglbkfelaaW.PrintWords

theorem u64_wrap (x : Int) : IntKind.u64.wrap x = x % 18446744073709551616 := by
  simp [IntKind.wrap, IntKind.bits, IntKind.signed]
end Go.Proofs.YtddkbhglbkfelaaX
