/- The law RowBytes: what is left to prove of it, about numbers and lists alone. -/
import Derived.Test.YtljadejgdbemoaaDoorPyRx15
import Derived.Test.YtljadejgdbemoaaDoorPyXOpen
set_option linter.unusedVariables false
set_option linter.unusedSimpArgs false
namespace Go.Proofs.YtljadejgdbemoaaDoor.R
open Go.RowKit Go.Proofs.YtljadejgdbemoaaDoorW.PrintWords Go.Proofs.YtljadejgdbemoaaDoorW.PrintLast Go.Proofs.YtljadejgdbemoaaDoorX
def W36 (x : S36) : Prop := (x.f0.size ≤ maxLen) ∧ ((Lit.int .i64 x.f1).wf = true) ∧ (True) ∧ True
def T36 (x : S36) : Nat := (x.f0.size + 1) + (1 + (1 + (1))) + 1
theorem op36 {H : Type} {enc : TypeId × Value → H} {w : World} {spare : Nat → Bool} {held : Bool} : Opens enc Tryd.prog w spare held 36 k36 W36 T36 :=
  opens_struct (mk := fun p => (⟨p.1, p.2.1, p.2.2.1, p.2.2.2⟩ : S36)) Tryd.underlying36 (by kernel_rfl) (opensF_cons rfl (by kernel_rfl) (opens_string Tryd.underlying9) (opensF_cons rfl (by kernel_rfl) (opens_int Tryd.underlying3) (opensF_cons rfl (by kernel_rfl) (opens_bool Tryd.underlying4) (opensF_one rfl (by kernel_rfl) (opens_bool Tryd.underlying4))))) (fun _ => rfl)
def W38 (x : S38) : Prop := ((Lit.int .i64 x.f0).wf = true) ∧ ((Lit.int .i64 x.f1).wf = true) ∧ (x.f2.size ≤ maxLen) ∧ True
def T38 (x : S38) : Nat := 1 + (1 + ((x.f2.size + 1) + (1))) + 1
theorem op38 {H : Type} {enc : TypeId × Value → H} {w : World} {spare : Nat → Bool} {held : Bool} : Opens enc Tryd.prog w spare held 38 k38 W38 T38 :=
  opens_struct (mk := fun p => (⟨p.1, p.2.1, p.2.2.1, p.2.2.2⟩ : S38)) Tryd.underlying38 (by kernel_rfl) (opensF_cons rfl (by kernel_rfl) (opens_int Tryd.underlying3) (opensF_cons rfl (by kernel_rfl) (opens_int Tryd.underlying3) (opensF_cons rfl (by kernel_rfl) (opens_string Tryd.underlying9) (opensF_one rfl (by kernel_rfl) (opens_bool Tryd.underlying4))))) (fun _ => rfl)
/-- The one pure statement of the law. -/
def barbicanlaw14_RowBytes_Pure : Prop := ∀ (a0_0 : ByteArray) (l0_1 : List (S36)) (l1 : List (S38)) (l2 : List (Int)), (a0_0.size ≤ maxLen) → (∀ e_ ∈ l0_1, W36 e_) → (∀ e_ ∈ l1, W38 e_) → (∀ e_ ∈ l2, (Lit.int .u8 e_).wf = true) → (a0_0.size + 1) + ((l0_1.map fun e_ => T36 e_).sum + 1) + ((l1.map fun e_ => T38 e_).sum + 1) + ((l2.map fun e_ => 1).sum + 1) ≤ 1048576 → ∃ k, barbicanlaw14_RowBytes.f k a0_0 l0_1 l1 l2 = some true
end Go.Proofs.YtljadejgdbemoaaDoor.R
