/- Great letters outside quotes are read as small ones: plain lists. -/
import Derived.Test.YtaffmgphcmmdhaaDoorPbXLs
set_option linter.unusedVariables false
set_option linter.unusedSimpArgs false
namespace Go.Proofs.YtaffmgphcmmdhaaDoorX
open Go.RowKit
namespace Lx
theorem all_u8 {P : UInt8 → Prop} (h : ∀ n : Fin 256, P (UInt8.ofNat n.val)) : ∀ c, P c := fun c => by
  have := h ⟨c.toNat, c.toNat_lt⟩
  simpa using this
def upc (c : UInt8) : UInt8 := if 97 ≤ c.toNat ∧ c.toNat ≤ 122 then c - 32 else c
def up : Bool → List UInt8 → List UInt8
  | _, [] => []
  | q, c :: l => (if (if c = 39 then !q else q) = true then c else upc c) :: up (if c = 39 then !q else q) l
theorem D_noL : ∀ c : UInt8, isD c = true → isL c = false := all_u8 (by decide +kernel)
theorem B_noL : ∀ c : UInt8, isB c = true → isL c = false := all_u8 (by decide +kernel)
theorem tw_all (p : UInt8 → Bool) : ∀ (l : List UInt8) (c : UInt8), c ∈ l.takeWhile p → p c = true
  | [], c, h => by cases h
  | d :: l, c, h => by
    rw [List.takeWhile_cons] at h
    split at h
    · rename_i hd
      rcases List.mem_cons.1 h with rfl | h
      · exact hd
      · exact tw_all p l c h
    · cases h
theorem q39 : ¬ ((39 : UInt8).toNat < 32 ∨ 126 < (39 : UInt8).toNat) := by decide
theorem txt_qq (l : List UInt8) : txt (39 :: 39 :: l) = (txt l).map (fun r => (39 :: r.1, r.2 + 2)) := by
  rw [txt, if_neg q39, if_pos rfl, if_pos rfl]
theorem txt_qn {d : UInt8} (h : d ≠ 39) (l : List UInt8) : txt (39 :: d :: l) = some ([], 1) := by
  rw [txt, if_neg q39, if_pos rfl, if_neg h]
theorem lexL_skip : ∀ (g u : List UInt8) (N a : Nat), (∀ c ∈ g, isB c = true) → g.length ≤ N → lexL N (g ++ u) a = lexL (N - g.length) u (a + g.length)
  | [], u, N, a, _, _ => rfl
  | c :: g, u, 0, a, _, h => by simp at h
  | c :: g, u, N + 1, a, hg, h => by
    simp only [List.length_cons] at h
    rw [List.cons_append, lexL, if_pos (hg c (List.mem_cons_self ..)), lexL_skip g u N (a + 1) (fun x hx => hg x (List.mem_cons_of_mem _ hx)) (by omega)]
    simp only [List.length_cons]
    rw [show N + 1 - (g.length + 1) = N - g.length by omega, show a + (g.length + 1) = a + 1 + g.length by omega]
end Lx
end Go.Proofs.YtaffmgphcmmdhaaDoorX
