/- What value.is, null, and the law's own sure compute, told plainly. -/
import Derived.Test.YtljadejgdbemoaaDoorPmMx
import Derived.Test.YtljadejgdbemoaaDoorPmXPlain
set_option linter.unusedVariables false
set_option linter.unusedSimpArgs false
namespace Go.Proofs.YtljadejgdbemoaaDoor.M
open Go.RowKit Go.Proofs.YtljadejgdbemoaaDoorW.PrintWords Go.Proofs.YtljadejgdbemoaaDoorW.PrintLast Go.Proofs.YtljadejgdbemoaaDoorX
theorem ev_at {α : Type} {g : Nat → Option α} {r : α} (n : Nat) (h : ∀ k, g (k + n) = some r) : Ev g r := ⟨n, fun k hk => by have := h (k - n); rwa [Nat.sub_add_cancel hk] at this⟩
def okK (c x : Int) : Bool := decide (x = c) || decide (x = 0)
theorem wr01 : wrap64 (0 + 1) = 1 := by unfold wrap64; omega
theorem wr12 : wrap64 (1 + 1) = 2 := by unfold wrap64; omega
theorem is_two (k : Nat) (c : Int) (A B : S38) : value_is.f (k + 3) c [A, B] = some (okK c A.f0 && okK c B.f0) := by
  have r0 : rd_T38 [A, B] 0 = A := rfl
  have r1 : rd_T38 [A, B] 1 = B := rfl
  simp only [value_is.f, value_is.l0, List.length_cons, List.length_nil, wr01, wr12, r0, r1, okK]
  by_cases a1 : A.f0 = c <;> by_cases a0 : A.f0 = 0 <;> by_cases b1 : B.f0 = c <;> by_cases b0 : B.f0 = 0 <;> simp [a1, a0, b1, b0]
theorem is_one (k : Nat) (c : Int) (A : S38) : value_is.f (k + 2) c [A] = some (okK c A.f0) := by
  have r0 : rd_T38 [A] 0 = A := rfl
  simp only [value_is.f, value_is.l0, List.length_cons, List.length_nil, wr01, r0, okK]
  by_cases a1 : A.f0 = c <;> by_cases a0 : A.f0 = 0 <;> simp [a1, a0]
theorem null_two (k : Nat) (A B : S38) : value_null.f (k + 3) [A, B] = some (decide (A.f0 = 0) || decide (B.f0 = 0)) := by
  have r0 : rd_T38 [A, B] 0 = A := rfl
  have r1 : rd_T38 [A, B] 1 = B := rfl
  simp only [value_null.f, value_null.l0, List.length_cons, List.length_nil, wr01, wr12, r0, r1]
  by_cases a0 : A.f0 = 0 <;> by_cases b0 : B.f0 = 0 <;> simp [a0, b0]
theorem null_one (k : Nat) (A : S38) : value_null.f (k + 2) [A] = some (decide (A.f0 = 0)) := by
  have r0 : rd_T38 [A] 0 = A := rfl
  simp only [value_null.f, value_null.l0, List.length_cons, List.length_nil, wr01, r0]
  by_cases a0 : A.f0 = 0 <;> simp [a0]
def flat (v : S38) {α : Type} (e : α) : Int × Int × ByteArray × Bool × α := (v.f0, v.f1, v.f2, v.f3, e)
theorem sure_ev : Ev (fun k => barbicanlaw05_sure.f k) true := by
  refine Ev.of (fun k => barbicanlaw05_sure.mono k) (k := 12) ?_
  kernel_rfl
end Go.Proofs.YtljadejgdbemoaaDoor.M
