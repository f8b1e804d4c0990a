/- The law RowChecks: what is left to prove of it, about numbers and lists alone. -/
import Derived.Test.YtljadejgdbemoaaGreatDoorPqCx11
import Derived.Test.YtljadejgdbemoaaGreatDoorPqXOpen
set_option linter.unusedVariables false
set_option linter.unusedSimpArgs false
namespace Go.Proofs.YtljadejgdbemoaaGreatDoor.C
open Go.RowKit Go.Proofs.YtljadejgdbemoaaGreatDoorW.PrintWords Go.Proofs.YtljadejgdbemoaaGreatDoorW.PrintLast Go.Proofs.YtljadejgdbemoaaGreatDoorX
def W86 (x : S86) : Prop := (x.f0.size ≤ maxLen) ∧ ((Lit.int .i64 x.f1).wf = true) ∧ (True) ∧ True
def T86 (x : S86) : Nat := (x.f0.size + 1) + (1 + (1 + (1))) + 1
theorem op86 {H : Type} {enc : TypeId × Value → H} {w : World} {spare : Nat → Bool} {held : Bool} : Opens enc Tryz.prog w spare held 86 k86 W86 T86 :=
  opens_struct (mk := fun p => (⟨p.1, p.2.1, p.2.2.1, p.2.2.2⟩ : S86)) Tryz.underlying86 (by kernel_rfl) (opensF_cons rfl (by kernel_rfl) (opens_string Tryz.underlying9) (opensF_cons rfl (by kernel_rfl) (opens_int Tryz.underlying3) (opensF_cons rfl (by kernel_rfl) (opens_bool Tryz.underlying4) (opensF_one rfl (by kernel_rfl) (opens_bool Tryz.underlying4))))) (fun _ => rfl)
def W23 (x : S23) : Prop := ((Lit.int .i64 x.f0).wf = true) ∧ ((Lit.int .i64 x.f1).wf = true) ∧ (x.f2.size ≤ maxLen) ∧ True
def T23 (x : S23) : Nat := 1 + (1 + ((x.f2.size + 1) + (1))) + 1
theorem op23 {H : Type} {enc : TypeId × Value → H} {w : World} {spare : Nat → Bool} {held : Bool} : Opens enc Tryz.prog w spare held 23 k23 W23 T23 :=
  opens_struct (mk := fun p => (⟨p.1, p.2.1, p.2.2.1, p.2.2.2⟩ : S23)) Tryz.underlying23 (by kernel_rfl) (opensF_cons rfl (by kernel_rfl) (opens_int Tryz.underlying3) (opensF_cons rfl (by kernel_rfl) (opens_int Tryz.underlying3) (opensF_cons rfl (by kernel_rfl) (opens_string Tryz.underlying9) (opensF_one rfl (by kernel_rfl) (opens_bool Tryz.underlying4))))) (fun _ => rfl)
/-- The one pure statement of the law. -/
def barbicanlaw14_RowChecks_Pure : Prop := ∀ (a0_0 : ByteArray) (l0_1 : List (S86)) (l1 : List (S23)), (a0_0.size ≤ maxLen) → (∀ e_ ∈ l0_1, W86 e_) → (∀ e_ ∈ l1, W23 e_) → (a0_0.size + 1) + ((l0_1.map fun e_ => T86 e_).sum + 1) + ((l1.map fun e_ => T23 e_).sum + 1) ≤ 1048576 → ∃ k, barbicanlaw14_RowChecks.f k a0_0 l0_1 l1 = some true
end Go.Proofs.YtljadejgdbemoaaGreatDoor.C
