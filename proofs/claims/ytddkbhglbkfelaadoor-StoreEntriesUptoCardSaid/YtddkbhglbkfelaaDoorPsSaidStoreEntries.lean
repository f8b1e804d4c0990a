/- The law StoreEntries: what is left to prove of it, about numbers and lists alone. -/
import Derived.Test.YtddkbhglbkfelaaDoorPsEx18
import Derived.Test.YtddkbhglbkfelaaDoorPsXOpen
set_option linter.unusedVariables false
set_option linter.unusedSimpArgs false
namespace Go.Proofs.YtddkbhglbkfelaaDoor.E
open Go.RowKit Go.Proofs.YtddkbhglbkfelaaDoorW.PrintWords Go.Proofs.YtddkbhglbkfelaaDoorW.PrintLast Go.Proofs.YtddkbhglbkfelaaDoorX
def W72 (x : S72) : Prop := ((Lit.int .i64 x.f0).wf = true) ∧ ((Lit.int .i64 x.f1).wf = true) ∧ (x.f2.size ≤ maxLen) ∧ True
def T72 (x : S72) : Nat := 1 + (1 + ((x.f2.size + 1) + (1))) + 1
theorem op72 {H : Type} {enc : TypeId × Value → H} {w : World} {spare : Nat → Bool} {held : Bool} : Opens enc Tryd.prog w spare held 72 k72 W72 T72 :=
  opens_struct (mk := fun p => (⟨p.1, p.2.1, p.2.2.1, p.2.2.2⟩ : S72)) Tryd.underlying72 (by kernel_rfl) (opensF_cons rfl (by kernel_rfl) (opens_int Tryd.underlying3) (opensF_cons rfl (by kernel_rfl) (opens_int Tryd.underlying3) (opensF_cons rfl (by kernel_rfl) (opens_string Tryd.underlying9) (opensF_one rfl (by kernel_rfl) (opens_bool Tryd.underlying4))))) (fun _ => rfl)
/-- The one pure statement of the law. -/
def barbicanlaw26_StoreEntries_Pure : Prop := ∀ (a0_0 : ByteArray) (l0_1 : List (List (S72))) (l1 : List (Int)), (a0_0.size ≤ maxLen) → (∀ e_ ∈ l0_1, ∀ e1_ ∈ e_, W72 e1_) → (∀ e_ ∈ l1, (Lit.int .u8 e_).wf = true) → (a0_0.size + 1) + ((l0_1.map fun e_ => ((e_.map fun e1_ => T72 e1_).sum + 1)).sum + 1) + ((l1.map fun e_ => 1).sum + 1) ≤ 1048576 → ∃ k, barbicanlaw26_StoreEntries.f k a0_0 l0_1 l1 = some true
end Go.Proofs.YtddkbhglbkfelaaDoor.E
