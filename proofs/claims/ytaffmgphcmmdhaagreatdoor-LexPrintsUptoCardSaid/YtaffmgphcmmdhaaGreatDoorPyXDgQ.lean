/- What the walk of the reference's Digits computes, told plainly. -/
import Derived.Test.YtaffmgphcmmdhaaGreatDoorPyQx
import Derived.Test.YtaffmgphcmmdhaaGreatDoorPyXQuo
import Derived.Test.YtaffmgphcmmdhaaGreatDoorPyXBits
set_option linter.unusedVariables false
set_option linter.unusedSimpArgs false
namespace Go.Proofs.YtaffmgphcmmdhaaGreatDoor.Q
open Go.RowKit Go.Proofs.YtaffmgphcmmdhaaGreatDoorW.PrintWords Go.Proofs.YtaffmgphcmmdhaaGreatDoorW.PrintLast Go.Proofs.YtaffmgphcmmdhaaGreatDoorX
theorem digits_loop (m : ByteArray) (hm : m.size ≤ 1) : ∀ (d u : Nat) (acc : List UInt8), u < 10 ^ d → u < 18446744073709551616 → 1 ≤ d → acc.length + d ≤ 100 →
    Ev (fun k => barbicanref05_Digits.l0 k (u : Int) m ⟨acc.toArray⟩) (m ++ ⟨(Lib.decDigits u ++ acc).toArray⟩)
  | 0, u, acc, _, _, h, _ => by omega
  | d + 1, u, acc, hu, h64, _, hl => by
    refine ev_step (fun _ => barbicanref05_Digits.l0.eq_2 ..) ?_
    have hmod : Int.tmod (u : Int) 10 = ((u % 10 : Nat) : Int) := by rw [Int.tmod_eq_emod_of_nonneg (by omega)]; omega
    have hdiv : Int.tdiv (u : Int) 10 = ((u / 10 : Nat) : Int) := by rw [Int.tdiv_eq_ediv_of_nonneg (by omega)]; omega
    have hw1 : IntKind.u64.wrap (((u % 10 : Nat) : Int) + 1) = ((u % 10 + 1 : Nat) : Int) := by rw [u64_wrap_id (by omega) (by omega)]; omega
    have hw2 : IntKind.u64.wrap ((u / 10 : Nat) : Int) = ((u / 10 : Nat) : Int) := u64_wrap_id (by omega) (by omega)
    have hlt : u % 10 < 10 := Nat.mod_lt _ (by omega)
    have hcut : (⟨#[48, 49, 50, 51, 52, 53, 54, 55, 56, 57]⟩ : ByteArray).extract (u % 10) (u % 10 + 1) = ⟨[UInt8.ofNat (48 + u % 10)].toArray⟩ := digit_cut ⟨u % 10, hlt⟩
    rw [hmod, hdiv, hw1, hw2]
    simp only [Int.toNat_natCast, hcut, app_mk, mk_size, List.length_cons, List.length_nil, List.cons_append, List.nil_append]
    refine ev_if_pos (by omega) (ev_if_pos (by omega) (ev_if_pos (by omega) (ev_if_pos (by omega) ?_)))
    by_cases hu10 : u < 10
    · refine ev_if_pos (by omega) (ev_if_pos (by omega) ?_)
      rw [dec_small hu10, Nat.mod_eq_of_lt hu10]
      exact ev_some _
    · refine ev_if_neg (by omega) ?_
      have hd : 1 ≤ d := by
        rcases d with _ | d
        · simp at hu; omega
        · omega
      have := digits_loop m hm d (u / 10) (UInt8.ofNat (48 + u % 10) :: acc) (by rw [Nat.pow_succ] at hu; omega) (by omega) hd (by simp only [List.length_cons]; omega)
      rw [dec_big hu10, List.append_assoc]
      exact this
theorem digits_ev {n : Int} (h0 : -9223372036854775808 ≤ n) (h1 : n ≤ 9223372036854775807) : Ev (fun k => barbicanref05_Digits.f k n) ⟨(Lib.itoa n).toArray⟩ := by
  have hp : (10 : Nat) ^ 20 = 100000000000000000000 := by decide
  unfold barbicanref05_Digits.f Lib.itoa
  by_cases hn : n < 0
  · refine ev_if_pos hn ?_
    rw [if_pos hn]
    have e : IntKind.u64.wrap (-(IntKind.u64.wrap n)) = ((n.natAbs : Nat) : Int) := by rw [u64_wrap, u64_wrap]; omega
    rw [e]
    refine ev_step (fun _ => barbicanref05_Digits.j0.eq_2 ..) ?_
    have := digits_loop ⟨#[45]⟩ (by decide) 20 n.natAbs [] (by omega) (by omega) (by omega) (by decide)
    rw [List.append_nil] at this
    have e2 : (⟨#[45]⟩ : ByteArray) ++ (⟨(Lib.decDigits n.natAbs).toArray⟩ : ByteArray) = ⟨(45 :: Lib.decDigits n.natAbs).toArray⟩ := app_mk [45] _
    rw [e2] at this
    exact this
  · refine ev_if_neg hn ?_
    rw [if_neg hn]
    have e : IntKind.u64.wrap n = ((n.toNat : Nat) : Int) := by rw [u64_wrap]; omega
    rw [e]
    refine ev_step (fun _ => barbicanref05_Digits.j0.eq_2 ..) ?_
    have := digits_loop ⟨#[]⟩ (by decide) 20 n.toNat [] (by omega) (by omega) (by omega) (by decide)
    rw [List.append_nil] at this
    have e2 : (⟨#[]⟩ : ByteArray) ++ (⟨(Lib.decDigits n.toNat).toArray⟩ : ByteArray) = ⟨(Lib.decDigits n.toNat).toArray⟩ := app_mk [] _
    rw [e2] at this
    exact this
end Go.Proofs.YtaffmgphcmmdhaaGreatDoor.Q
