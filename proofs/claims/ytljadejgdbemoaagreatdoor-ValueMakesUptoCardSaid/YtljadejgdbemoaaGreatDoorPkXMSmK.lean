/- What value.is, null, and the law's own sure compute, told plainly. -/
import Derived.Test.YtljadejgdbemoaaGreatDoorPkKx
import Derived.Test.YtljadejgdbemoaaGreatDoorPkXBits
set_option linter.unusedVariables false
set_option linter.unusedSimpArgs false
namespace Go.Proofs.YtljadejgdbemoaaGreatDoor.K
open Go.RowKit Go.Proofs.YtljadejgdbemoaaGreatDoorW.PrintWords Go.Proofs.YtljadejgdbemoaaGreatDoorW.PrintLast Go.Proofs.YtljadejgdbemoaaGreatDoorX
theorem ev_at {α : Type} {g : Nat → Option α} {r : α} (n : Nat) (h : ∀ k, g (k + n) = some r) : Ev g r := ⟨n, fun k hk => by have := h (k - n); rwa [Nat.sub_add_cancel hk] at this⟩
def flat (v : S23) {α : Type} (e : α) : Int × Int × ByteArray × Bool × α := (v.f0, v.f1, v.f2, v.f3, e)
theorem sure_ev : Ev (fun k => barbicanlaw05_sure.f k) true := by
  refine Ev.of (fun k => barbicanlaw05_sure.mono k) (k := 12) ?_
  kernel_rfl
end Go.Proofs.YtljadejgdbemoaaGreatDoor.K
