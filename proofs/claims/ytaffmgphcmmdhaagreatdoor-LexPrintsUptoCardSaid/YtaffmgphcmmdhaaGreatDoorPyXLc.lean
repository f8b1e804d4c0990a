/- Great letters outside quotes are read as small ones: plain lists. -/
import Derived.Test.YtaffmgphcmmdhaaGreatDoorPyXLs
set_option linter.unusedVariables false
set_option linter.unusedSimpArgs false
namespace Go.Proofs.YtaffmgphcmmdhaaGreatDoorX
open Go.RowKit
namespace Lx
theorem all_u8 {P : UInt8 → Prop} (h : ∀ n : Fin 256, P (UInt8.ofNat n.val)) : ∀ c, P c := fun c => by
  have := h ⟨c.toNat, c.toNat_lt⟩
  simpa using this
def upc (c : UInt8) : UInt8 := if 97 ≤ c.toNat ∧ c.toNat ≤ 122 then c - 32 else c
def up : Bool → List UInt8 → List UInt8
  | _, [] => []
  | q, c :: l => (if (if c = 39 then !q else q) = true then c else upc c) :: up (if c = 39 then !q else q) l
theorem tw_all (p : UInt8 → Bool) : ∀ (l : List UInt8) (c : UInt8), c ∈ l.takeWhile p → p c = true
  | [], c, h => by cases h
  | d :: l, c, h => by
    rw [List.takeWhile_cons] at h
    split at h
    · rename_i hd
      rcases List.mem_cons.1 h with rfl | h
      · exact hd
      · exact tw_all p l c h
    · cases h
theorem q39 : ¬ ((39 : UInt8).toNat < 32 ∨ 126 < (39 : UInt8).toNat) := by decide
theorem txt_qq (l : List UInt8) : txt (39 :: 39 :: l) = (txt l).map (fun r => (39 :: r.1, r.2 + 2)) := by
  rw [txt, if_neg q39, if_pos rfl, if_pos rfl]
theorem txt_qn {d : UInt8} (h : d ≠ 39) (l : List UInt8) : txt (39 :: d :: l) = some ([], 1) := by
  rw [txt, if_neg q39, if_pos rfl, if_neg h]
end Lx
end Go.Proofs.YtaffmgphcmmdhaaGreatDoorX
