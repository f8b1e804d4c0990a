/- The law LexPrints: what is left to prove of it, about numbers and lists alone. -/
import Derived.Test.YtaffmgphcmmdhaaGreatDoorPyQx10
import Derived.Test.YtaffmgphcmmdhaaGreatDoorPyXOpen
set_option linter.unusedVariables false
set_option linter.unusedSimpArgs false
namespace Go.Proofs.YtaffmgphcmmdhaaGreatDoor.Q
open Go.RowKit Go.Proofs.YtaffmgphcmmdhaaGreatDoorW.PrintWords Go.Proofs.YtaffmgphcmmdhaaGreatDoorW.PrintLast Go.Proofs.YtaffmgphcmmdhaaGreatDoorX
def W50 (x : S50) : Prop := ((Lit.int .i64 x.f0).wf = true) ∧ (x.f1.size ≤ maxLen) ∧ ((Lit.int .i64 x.f2).wf = true) ∧ (Lit.int .i64 x.f3).wf = true
def T50 (x : S50) : Nat := 1 + ((x.f1.size + 1) + (1 + (1))) + 1
theorem op50 {H : Type} {enc : TypeId × Value → H} {w : World} {spare : Nat → Bool} {held : Bool} : Opens enc Tryz.prog w spare held 50 k50 W50 T50 :=
  opens_struct (mk := fun p => (⟨p.1, p.2.1, p.2.2.1, p.2.2.2⟩ : S50)) Tryz.underlying50 (by kernel_rfl) (opensF_cons rfl (by kernel_rfl) (opens_int Tryz.underlying3) (opensF_cons rfl (by kernel_rfl) (opens_string Tryz.underlying9) (opensF_cons rfl (by kernel_rfl) (opens_int Tryz.underlying3) (opensF_one rfl (by kernel_rfl) (opens_int Tryz.underlying3))))) (fun _ => rfl)
/-- The one pure statement of the law. -/
def barbicanlaw18_LexPrints_Pure : Prop := ∀ (l0 : List (S50)) (l1 : List (S50)), (∀ e_ ∈ l0, W50 e_) → (∀ e_ ∈ l1, W50 e_) → ((l0.map fun e_ => T50 e_).sum + 1) + ((l1.map fun e_ => T50 e_).sum + 1) ≤ 1048576 → ∃ k, barbicanlaw18_LexPrints.f k l0 l1 = some true
end Go.Proofs.YtaffmgphcmmdhaaGreatDoor.Q
