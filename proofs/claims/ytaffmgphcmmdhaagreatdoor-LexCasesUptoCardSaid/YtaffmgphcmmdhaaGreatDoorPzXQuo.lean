/- Plain lemmas, without the program: quotes doubled; decimal digits; rows of bytes as texts. -/
import Derived.Test.YtaffmgphcmmdhaaGreatDoorPzXPlain
import Derived.Lib.Replace
import Derived.Lib.SplitLaws
import Derived.Lib.ItoaNum
import Derived.Lib.AtoiAllCases
import Derived.Lib.CountLaws
set_option linter.unusedVariables false
set_option linter.unusedSimpArgs false
namespace Go.Proofs.YtaffmgphcmmdhaaGreatDoorX
open Go.RowKit Go.Proofs.YtaffmgphcmmdhaaGreatDoorW.PrintWords
/-! ### quotes -/
/-! ### texts -/
theorem mk_list (l : List UInt8) : (⟨l.toArray⟩ : ByteArray).data.toList = l := rfl
theorem mk_size (l : List UInt8) : (⟨l.toArray⟩ : ByteArray).size = l.length := by rw [← size_data]
theorem size_app (a b : ByteArray) : (a ++ b).size = a.size + b.size := ByteArray.size_append
/-- Bytes as whole numbers. -/
def numsB (l : List UInt8) : List Int := l.map fun b => (b.toNat : Int)
theorem numsB_length (l : List UInt8) : (numsB l).length = l.length := List.length_map _
theorem numsB_app (a b : List UInt8) : numsB (a ++ b) = numsB a ++ numsB b := List.map_append
theorem str_nums (l : List UInt8) : strOfNums (numsB l) = ⟨l.toArray⟩ := by
  have h : ∀ l : List UInt8, (numsB l).map (fun n => UInt8.ofNat n.toNat) = l := by
    intro l
    unfold numsB
    rw [List.map_map]
    conv => rhs; rw [← List.map_id l]
    apply List.map_congr_left
    intro b _
    simp
  unfold strOfNums
  first
  | (rw [h])
  | (congr 1; exact congrArg List.toArray (h l))
/-! ### decimal digits -/
/-! ### numbers, read again -/
/-! ### quotes, halved again -/
end Go.Proofs.YtaffmgphcmmdhaaGreatDoorX
