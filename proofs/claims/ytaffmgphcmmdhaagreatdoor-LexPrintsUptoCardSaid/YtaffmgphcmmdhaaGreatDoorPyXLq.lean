/- What holds of every token that was read; the printed ones joined: plain lists. -/
import Derived.Test.YtaffmgphcmmdhaaGreatDoorPyXLp
import Derived.Lib.Join
set_option linter.unusedVariables false
set_option linter.unusedSimpArgs false
namespace Go.Proofs.YtaffmgphcmmdhaaGreatDoorX
open Go.RowKit
namespace Lx
theorem jn_len (C : Nat) : ∀ (ps : List (List UInt8)), (∀ p ∈ ps, p.length ≤ C) → (jn ps).length ≤ (C + 1) * ps.length
  | [], _ => Nat.zero_le _
  | [p], h => by
    have := h p (List.mem_cons_self ..)
    show p.length ≤ (C + 1) * 1
    omega
  | p :: q :: ps, h => by
    have h1 := h p (List.mem_cons_self ..)
    have ih := jn_len C (q :: ps) (fun x hx => h x (List.mem_cons_of_mem _ hx))
    show (p ++ 32 :: jn (q :: ps)).length ≤ (C + 1) * ((q :: ps).length + 1)
    rw [List.length_append, List.length_cons, Nat.mul_succ]
    omega
theorem jn_tail : ∀ (ps : List (List UInt8)) (p : List UInt8), jn (p :: ps) = p ++ Lib.joinTail [32] ps
  | [], p => by simp [Lib.joinTail, jn]
  | q :: ps, p => by
    rw [show jn (p :: q :: ps) = p ++ 32 :: jn (q :: ps) from rfl, jn_tail ps q]
    simp [Lib.joinTail]
theorem jn_join (ps : List (List UInt8)) : Lib.join ps [32] = jn ps := by
  cases ps with
  | nil => rfl
  | cons p ps => rw [Lib.join_cons, jn_tail]
end Lx
end Go.Proofs.YtaffmgphcmmdhaaGreatDoorX
