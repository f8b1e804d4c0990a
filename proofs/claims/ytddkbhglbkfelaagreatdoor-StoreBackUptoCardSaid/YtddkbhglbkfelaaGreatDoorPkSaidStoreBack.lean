/- The law StoreBack: what is left to prove of it, about numbers and lists alone. -/
import Derived.Test.YtddkbhglbkfelaaGreatDoorPkXBkT
import Derived.Test.YtddkbhglbkfelaaGreatDoorPkXOpen
set_option linter.unusedVariables false
set_option linter.unusedSimpArgs false
namespace Go.Proofs.YtddkbhglbkfelaaGreatDoor.T
open Go.RowKit Go.Proofs.YtddkbhglbkfelaaGreatDoorW.PrintWords Go.Proofs.YtddkbhglbkfelaaGreatDoorW.PrintLast Go.Proofs.YtddkbhglbkfelaaGreatDoorX
def W118 (x : S118) : Prop := (x.f0.size ≤ maxLen) ∧ ((Lit.int .i64 x.f1).wf = true) ∧ (True) ∧ True
def T118 (x : S118) : Nat := (x.f0.size + 1) + (1 + (1 + (1))) + 1
theorem op118 {H : Type} {enc : TypeId × Value → H} {w : World} {spare : Nat → Bool} {held : Bool} : Opens enc Tryz.prog w spare held 118 k118 W118 T118 :=
  opens_struct (mk := fun p => (⟨p.1, p.2.1, p.2.2.1, p.2.2.2⟩ : S118)) Tryz.underlying118 (by kernel_rfl) (opensF_cons rfl (by kernel_rfl) (opens_string Tryz.underlying9) (opensF_cons rfl (by kernel_rfl) (opens_int Tryz.underlying3) (opensF_cons rfl (by kernel_rfl) (opens_bool Tryz.underlying4) (opensF_one rfl (by kernel_rfl) (opens_bool Tryz.underlying4))))) (fun _ => rfl)
def W59 (x : S59) : Prop := (x.f0.size ≤ maxLen) ∧ ∀ e_ ∈ x.f1, W118 e_
def T59 (x : S59) : Nat := (x.f0.size + 1) + (((x.f1.map fun e_ => T118 e_).sum + 1)) + 1
theorem op59 {H : Type} {enc : TypeId × Value → H} {w : World} {spare : Nat → Bool} {held : Bool} : Opens enc Tryz.prog w spare held 59 k59 W59 T59 :=
  opens_struct (mk := fun p => (⟨p.1, p.2⟩ : S59)) Tryz.underlying59 (by kernel_rfl) (opensF_cons rfl (by kernel_rfl) (opens_string Tryz.underlying9) (opensF_one rfl (by kernel_rfl) (opens_slice Tryz.underlying57 (by kernel_rfl) op118))) (fun _ => rfl)
def W63 (x : S63) : Prop := ((Lit.int .i64 x.f0).wf = true) ∧ ((Lit.int .i64 x.f1).wf = true) ∧ (x.f2.size ≤ maxLen) ∧ True
def T63 (x : S63) : Nat := 1 + (1 + ((x.f2.size + 1) + (1))) + 1
theorem op63 {H : Type} {enc : TypeId × Value → H} {w : World} {spare : Nat → Bool} {held : Bool} : Opens enc Tryz.prog w spare held 63 k63 W63 T63 :=
  opens_struct (mk := fun p => (⟨p.1, p.2.1, p.2.2.1, p.2.2.2⟩ : S63)) Tryz.underlying63 (by kernel_rfl) (opensF_cons rfl (by kernel_rfl) (opens_int Tryz.underlying3) (opensF_cons rfl (by kernel_rfl) (opens_int Tryz.underlying3) (opensF_cons rfl (by kernel_rfl) (opens_string Tryz.underlying9) (opensF_one rfl (by kernel_rfl) (opens_bool Tryz.underlying4))))) (fun _ => rfl)
def W68 (x : S68) : Prop := (x.f0.size ≤ maxLen) ∧ (True) ∧ ∀ e_ ∈ x.f2, W63 e_
def T68 (x : S68) : Nat := (x.f0.size + 1) + (1 + (((x.f2.map fun e_ => T63 e_).sum + 1))) + 1
theorem op68 {H : Type} {enc : TypeId × Value → H} {w : World} {spare : Nat → Bool} {held : Bool} : Opens enc Tryz.prog w spare held 68 k68 W68 T68 :=
  opens_struct (mk := fun p => (⟨p.1, p.2.1, p.2.2⟩ : S68)) Tryz.underlying68 (by kernel_rfl) (opensF_cons rfl (by kernel_rfl) (opens_string Tryz.underlying9) (opensF_cons rfl (by kernel_rfl) (opens_bool Tryz.underlying4) (opensF_one rfl (by kernel_rfl) (opens_slice Tryz.underlying64 (by kernel_rfl) op63)))) (fun _ => rfl)
/-- The one pure statement of the law. -/
def barbicanlaw26_StoreBack_Pure : Prop := ∀ (l0 : List (S59)) (a1_0 : Int) (a1_1 : Int) (l1_2 : List (Int)) (l1_3 : List (S68)) (a2_0 : ByteArray) (l2_1 : List (List (S63))), (∀ e_ ∈ l0, W59 e_) → ((Lit.int .i64 a1_0).wf = true) → ((Lit.int .i64 a1_1).wf = true) → (∀ e_ ∈ l1_2, (Lit.int .i64 e_).wf = true) → (∀ e_ ∈ l1_3, W68 e_) → (a2_0.size ≤ maxLen) → (∀ e_ ∈ l2_1, ∀ e1_ ∈ e_, W63 e1_) → ((l0.map fun e_ => T59 e_).sum + 1) + 1 + 1 + ((l1_2.map fun e_ => 1).sum + 1) + ((l1_3.map fun e_ => T68 e_).sum + 1) + (a2_0.size + 1) + ((l2_1.map fun e_ => ((e_.map fun e1_ => T63 e1_).sum + 1)).sum + 1) ≤ 1048576 → ∃ k, barbicanlaw26_StoreBack.f k l0 a1_0 a1_1 l1_2 l1_3 a2_0 l2_1 = some true
end Go.Proofs.YtddkbhglbkfelaaGreatDoor.T
