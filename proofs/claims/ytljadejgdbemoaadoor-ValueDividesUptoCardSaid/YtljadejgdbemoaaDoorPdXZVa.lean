/- What the walks of the layer of values compute (reckoning, joining), told plainly. -/
import Derived.Test.YtljadejgdbemoaaDoorPdBx
import Derived.Test.YtljadejgdbemoaaDoorPdXMul
set_option linter.unusedVariables false
set_option linter.unusedSimpArgs false
namespace Go.Proofs.YtljadejgdbemoaaDoor.B
open Go.RowKit Go.Proofs.YtljadejgdbemoaaDoorW.PrintWords Go.Proofs.YtljadejgdbemoaaDoorW.PrintLast Go.Proofs.YtljadejgdbemoaaDoorX
theorem ev_at {α : Type} {g : Nat → Option α} {r : α} (n : Nat) (h : ∀ k, g (k + n) = some r) : Ev g r := ⟨n, fun k hk => by have := h (k - n); rwa [Nat.sub_add_cancel hk] at this⟩
def okK (c x : Int) : Bool := decide (x = c) || decide (x = 0)
theorem wr01 : wrap64 (0 + 1) = 1 := by unfold wrap64; omega
theorem wr12 : wrap64 (1 + 1) = 2 := by unfold wrap64; omega
theorem is_two (k : Nat) (c : Int) (A B : S38) : value_is.f (k + 3) c [A, B] = some (okK c A.f0 && okK c B.f0) := by
  have r0 : rd_T38 [A, B] 0 = A := rfl
  have r1 : rd_T38 [A, B] 1 = B := rfl
  simp only [value_is.f, value_is.l0, List.length_cons, List.length_nil, wr01, wr12, r0, r1, okK]
  by_cases a1 : A.f0 = c <;> by_cases a0 : A.f0 = 0 <;> by_cases b1 : B.f0 = c <;> by_cases b0 : B.f0 = 0 <;> simp [a1, a0, b1, b0]
theorem null_two (k : Nat) (A B : S38) : value_null.f (k + 3) [A, B] = some (decide (A.f0 = 0) || decide (B.f0 = 0)) := by
  have r0 : rd_T38 [A, B] 0 = A := rfl
  have r1 : rd_T38 [A, B] 1 = B := rfl
  simp only [value_null.f, value_null.l0, List.length_cons, List.length_nil, wr01, wr12, r0, r1]
  by_cases a0 : A.f0 = 0 <;> by_cases b0 : B.f0 = 0 <;> simp [a0, b0]
theorem size_eq {x : Int} (h : fitsI x) : value_size.f x = some (x.natAbs : Int) := by
  unfold fitsI at h
  unfold value_size.f
  by_cases hx : x < 0
  · rw [if_pos hx, u64_wrap, u64_wrap]; congr 1; omega
  · rw [if_neg hx, u64_wrap]; congr 1; omega
theorem mul64_eq {a b : Int} (ha : 0 ≤ a) (ha1 : a < 18446744073709551616) (hb : 0 ≤ b) (hb1 : b < 18446744073709551616) :
    bits_Mul64.f a b = some (a * b / 18446744073709551616, a * b % 18446744073709551616) := by
  have h1 := mulHi_eq ha ha1 hb hb1
  unfold mulHi at h1
  unfold bits_Mul64.f
  rw [h1, u64_wrap]
theorem abs_mul (x y : Int) : x * y = if (decide (x < 0) != decide (y < 0)) = true then -((x.natAbs : Int) * (y.natAbs : Int)) else (x.natAbs : Int) * (y.natAbs : Int) := by
  by_cases hx : x < 0 <;> by_cases hy : y < 0 <;> simp only [hx, hy, decide_true, decide_false, bne_self_eq_false, Bool.false_eq_true, if_false, if_true, show (true != false) = true from rfl, show (false != true) = true from rfl]
  · have e1 : (x.natAbs : Int) = -x := by omega
    have e2 : (y.natAbs : Int) = -y := by omega
    rw [e1, e2, Int.neg_mul_neg]
  · have e1 : (x.natAbs : Int) = -x := by omega
    have e2 : (y.natAbs : Int) = y := by omega
    rw [e1, e2, Int.neg_mul, Int.neg_neg]
  · have e1 : (x.natAbs : Int) = x := by omega
    have e2 : (y.natAbs : Int) = -y := by omega
    rw [e1, e2, Int.mul_neg, Int.neg_neg]
  · have e1 : (x.natAbs : Int) = x := by omega
    have e2 : (y.natAbs : Int) = y := by omega
    rw [e1, e2]
theorem product_eq (k : Nat) {x y : Int} (hx : fitsI x) (hy : fitsI y) : value_product.f (k + 1) x y = some (if fitsI (x * y) then (x * y, none) else (0, some 5)) := by
  have hxy := abs_mul x y
  unfold value_product.f
  rw [size_eq hx, size_eq hy]
  unfold fitsI at hx hy
  simp only [Option.bind_some]
  rw [mul64_eq (by omega) (by omega) (by omega) (by omega)]
  simp only [Option.bind_some]
  have hp : 0 ≤ (x.natAbs : Int) * (y.natAbs : Int) := Int.mul_nonneg (by omega) (by omega)
  generalize (x.natAbs : Int) * (y.natAbs : Int) = p at *
  generalize (decide (x < 0) != decide (y < 0)) = ng at *
  rw [hxy]
  unfold fitsI
  cases ng
  · simp only [Bool.false_eq_true, if_false, Bool.not_false]
    simp only [value_product.j0, Bool.false_eq_true, if_false, if_true]
    repeat' split
    all_goals first | rfl | (exfalso; omega) | (congr 2; unfold wrap64; omega)
  · simp only [if_true, Bool.not_true]
    simp only [value_product.j0, Bool.false_eq_true, if_false, if_true, u64_wrap]
    repeat' split
    all_goals first | rfl | (exfalso; omega) | (congr 2; unfold wrap64; omega)
/-! ### value.number -/
/-- What comes of two numbers: the number, or the error. -/
def numR (op x y : Int) : Int × Option Int :=
  if op = 45 then (if fitsI (x - y) then (x - y, none) else (0, some 5))
  else if op = 43 then (if fitsI (x + y) then (x + y, none) else (0, some 5))
  else if op = 42 then (if fitsI (x * y) then (x * y, none) else (0, some 5))
  else if y = 0 then (0, some 6)
  else if y = -1 ∧ op = 37 then (0, none)
  else if y = -1 ∧ x = -9223372036854775808 then (0, some 5)
  else if op = 47 then (wrap64 (Int.tdiv x y), none) else (Int.tmod x y, none)
theorem number_eq (k : Nat) {op x y : Int} (hx : fitsI x) (hy : fitsI y) : value_number.f (k + 3) op x y = some (numR op x y) := by
  unfold value_number.f numR
  by_cases h45 : op = 45
  · rw [if_pos h45, if_pos h45]
    by_cases hf : fitsI (x - y)
    · rw [if_pos hf]
      unfold fitsI at *
      by_cases hm : y = -9223372036854775808
      · rw [if_pos hm, if_neg (by omega)]; congr 2; unfold wrap64; omega
      · rw [if_neg hm]
        have e1 : wrap64 (-y) = -y := by unfold wrap64; omega
        have e2 : wrap64 (x + -y) = x - y := by unfold wrap64; omega
        rw [e1, e2, if_neg]
        by_cases h1 : x - y > x <;> by_cases h2 : -y > 0 <;> simp [h1, h2] <;> omega
    · rw [if_neg hf]
      unfold fitsI at *
      by_cases hm : y = -9223372036854775808
      · rw [if_pos hm, if_pos (by omega)]
      · rw [if_neg hm]
        have e1 : wrap64 (-y) = -y := by unfold wrap64; omega
        have e2 : wrap64 (x + -y) = if 0 < -y then x - y - 18446744073709551616 else x - y + 18446744073709551616 := by unfold wrap64; split <;> omega
        rw [e1, e2, if_pos]
        by_cases h2 : -y > 0
        · rw [if_pos h2]
          have h1 : ¬ x - y - 18446744073709551616 > x := by omega
          rw [decide_eq_false h1, decide_eq_true h2]; rfl
        · rw [if_neg h2]
          have h1 : x - y + 18446744073709551616 > x := by omega
          rw [decide_eq_true h1, decide_eq_false h2]; rfl
  rw [if_neg h45, if_neg h45]
  by_cases h43 : op = 43
  · rw [if_pos h43, if_pos h43]
    by_cases hf : fitsI (x + y)
    · rw [if_pos hf]
      unfold fitsI at *
      have e2 : wrap64 (x + y) = x + y := by unfold wrap64; omega
      rw [e2, if_neg]
      by_cases h1 : x + y > x <;> by_cases h2 : y > 0 <;> simp [h1, h2] <;> omega
    · rw [if_neg hf]
      unfold fitsI at *
      have e2 : wrap64 (x + y) = if 0 < y then x + y - 18446744073709551616 else x + y + 18446744073709551616 := by unfold wrap64; split <;> omega
      rw [e2, if_pos]
      by_cases h2 : y > 0
      · rw [if_pos h2]
        have h1 : ¬ x + y - 18446744073709551616 > x := by omega
        simp [h1, h2]
      · rw [if_neg h2]
        have h1 : x + y + 18446744073709551616 > x := by omega
        simp [h1, h2]
  rw [if_neg h43, if_neg h43]
  by_cases h42 : op = 42
  · rw [if_pos h42, if_pos h42, product_eq _ hx hy]
    rfl
  rw [if_neg h42, if_neg h42]
  by_cases h0 : y = 0
  · rw [if_pos h0, if_pos h0]
  rw [if_neg h0, if_neg h0]
  by_cases h1 : y = -1
  · by_cases h37 : op = 37
    · simp [h1, h37, value_number.j0]
    · by_cases hm : x = -9223372036854775808
      · simp [h1, h37, hm, value_number.j0, value_number.j1]
      · by_cases h47 : op = 47 <;> simp [h1, h37, hm, h47, value_number.j0, value_number.j1]
  · by_cases h47 : op = 47 <;> simp [h1, h47, h0, value_number.j0, value_number.j1]
theorem opIdx : ∀ i : Fin 256, (Lib.indexByte [43, 45, 42, 47, 37] ((i.val : Int)).toNat.toUInt8 < 0) ↔ ¬ (i.val = 43 ∨ i.val = 45 ∨ i.val = 42 ∨ i.val = 47 ∨ i.val = 37) := by decide +kernel
/-- value.Reckon, told plainly. -/
def reckR (op : Int) (a b : S38) : S38 × Option Int :=
  if ¬ (op = 43 ∨ op = 45 ∨ op = 42 ∨ op = 47 ∨ op = 37) then (z38, some 3)
  else if ¬ (okK 1 a.f0 && okK 1 b.f0) = true then (z38, some 7)
  else if a.f0 = 0 ∨ b.f0 = 0 then (z38, none)
  else if (numR op a.f1 b.f1).2.isNone = true then (⟨1, (numR op a.f1 b.f1).1, ⟨#[]⟩, false⟩, none) else (z38, (numR op a.f1 b.f1).2)
def flat (v : S38) {α : Type} (e : α) : Int × Int × ByteArray × Bool × α := (v.f0, v.f1, v.f2, v.f3, e)
theorem reckon_eq (k : Nat) {op : Int} (a b : S38) (h0 : 0 ≤ op) (h1 : op ≤ 255) (ha : fitsI a.f1) (hb : fitsI b.f1) :
    value_Reckon.f (k + 3) op a.f0 a.f1 a.f2 a.f3 b.f0 b.f1 b.f2 b.f3 = some (flat (reckR op a b).1 (reckR op a b).2) := by
  have hi := opIdx ⟨op.toNat, by omega⟩
  simp only [Int.toNat_of_nonneg h0] at hi
  have hi2 : (Lib.indexByte [43, 45, 42, 47, 37] op.toNat.toUInt8 < 0) ↔ ¬ (op = 43 ∨ op = 45 ∨ op = 42 ∨ op = 47 ∨ op = 37) := hi.trans (by omega)
  unfold value_Reckon.f strings_IndexByte.f reckR flat
  simp only [Option.bind_some]
  by_cases h : (op = 43 ∨ op = 45 ∨ op = 42 ∨ op = 47 ∨ op = 37)
  · have c1 := fun hh => hi2.1 hh h
    have c2 : ¬ ¬ (op = 43 ∨ op = 45 ∨ op = 42 ∨ op = 47 ∨ op = 37) := fun hh => hh h
    rw [if_neg c1, if_neg c2]
    rw [is_two, null_two]
    simp only [Option.bind_some]
    by_cases hk : (okK 1 a.f0 && okK 1 b.f0) = true
    · have c3 : ¬ ¬ (okK 1 a.f0 && okK 1 b.f0) = true := fun hh => hh hk
      rw [if_pos hk, if_neg c3]
      by_cases hn : a.f0 = 0 ∨ b.f0 = 0
      · have c4 : (decide (a.f0 = 0) || decide (b.f0 = 0)) = true := by simp only [Bool.or_eq_true, decide_eq_true_eq]; exact hn
        rw [if_pos c4, if_pos hn]; rfl
      · have c4 : ¬ (decide (a.f0 = 0) || decide (b.f0 = 0)) = true := by simp only [Bool.or_eq_true, decide_eq_true_eq]; exact hn
        rw [if_neg c4, if_neg hn, number_eq k ha hb]
        simp only [Option.bind_some]
        by_cases hr : (numR op a.f1 b.f1).2.isNone = true
        · rw [if_pos hr, if_pos hr]; rfl
        · rw [if_neg hr, if_neg hr]
          obtain ⟨q, hq⟩ : ∃ q, (numR op a.f1 b.f1).2 = some q := by
            cases h : (numR op a.f1 b.f1).2 with
            | none => rw [h] at hr; exact absurd rfl hr
            | some q => exact ⟨q, rfl⟩
          rw [hq]; rfl
    · rw [if_neg hk, if_pos hk]; rfl
  · rw [if_pos (hi2.2 h), if_pos h]; rfl
/-! ### joining -/
theorem sure_ev : Ev (fun k => barbicanlaw05_sure.f k) true := by
  refine Ev.of (fun k => barbicanlaw05_sure.mono k) (k := 12) ?_
  kernel_rfl
end Go.Proofs.YtljadejgdbemoaaDoor.B
