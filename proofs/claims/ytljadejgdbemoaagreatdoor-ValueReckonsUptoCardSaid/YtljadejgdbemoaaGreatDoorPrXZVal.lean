/- What the walks of the layer of values compute (reckoning, joining), told plainly. -/
import Derived.Test.YtljadejgdbemoaaGreatDoorPrAx9
import Derived.Test.YtljadejgdbemoaaGreatDoorPrXMul
set_option linter.unusedVariables false
set_option linter.unusedSimpArgs false
namespace Go.Proofs.YtljadejgdbemoaaGreatDoor.A
open Go.RowKit Go.Proofs.YtljadejgdbemoaaGreatDoorW.PrintWords Go.Proofs.YtljadejgdbemoaaGreatDoorW.PrintLast Go.Proofs.YtljadejgdbemoaaGreatDoorX
theorem ev_at {α : Type} {g : Nat → Option α} {r : α} (n : Nat) (h : ∀ k, g (k + n) = some r) : Ev g r := ⟨n, fun k hk => by have := h (k - n); rwa [Nat.sub_add_cancel hk] at this⟩
def okK (c x : Int) : Bool := decide (x = c) || decide (x = 0)
theorem wr01 : wrap64 (0 + 1) = 1 := by unfold wrap64; omega
theorem wr12 : wrap64 (1 + 1) = 2 := by unfold wrap64; omega
theorem is_two (k : Nat) (c : Int) (A B : S23) : value_is.f (k + 3) c [A, B] = some (okK c A.f0 && okK c B.f0) := by
  have r0 : rd_T23 [A, B] 0 = A := rfl
  have r1 : rd_T23 [A, B] 1 = B := rfl
  simp only [value_is.f, value_is.l0, List.length_cons, List.length_nil, wr01, wr12, r0, r1, okK]
  by_cases a1 : A.f0 = c <;> by_cases a0 : A.f0 = 0 <;> by_cases b1 : B.f0 = c <;> by_cases b0 : B.f0 = 0 <;> simp [a1, a0, b1, b0]
theorem null_two (k : Nat) (A B : S23) : value_null.f (k + 3) [A, B] = some (decide (A.f0 = 0) || decide (B.f0 = 0)) := by
  have r0 : rd_T23 [A, B] 0 = A := rfl
  have r1 : rd_T23 [A, B] 1 = B := rfl
  simp only [value_null.f, value_null.l0, List.length_cons, List.length_nil, wr01, wr12, r0, r1]
  by_cases a0 : A.f0 = 0 <;> by_cases b0 : B.f0 = 0 <;> simp [a0, b0]
theorem size_eq {x : Int} (h : fitsI x) : value_size.f x = some (x.natAbs : Int) := by
  unfold fitsI at h
  unfold value_size.f
  by_cases hx : x < 0
  · rw [if_pos hx, u64_wrap, u64_wrap]; congr 1; omega
  · rw [if_neg hx, u64_wrap]; congr 1; omega
theorem mul64_eq {a b : Int} (ha : 0 ≤ a) (ha1 : a < 18446744073709551616) (hb : 0 ≤ b) (hb1 : b < 18446744073709551616) :
    bits_Mul64.f a b = some (a * b / 18446744073709551616, a * b % 18446744073709551616) := by
  have h1 := mulHi_eq ha ha1 hb hb1
  unfold mulHi at h1
  unfold bits_Mul64.f
  rw [h1, u64_wrap]
theorem abs_mul (x y : Int) : x * y = if (decide (x < 0) != decide (y < 0)) = true then -((x.natAbs : Int) * (y.natAbs : Int)) else (x.natAbs : Int) * (y.natAbs : Int) := by
  by_cases hx : x < 0 <;> by_cases hy : y < 0 <;> simp only [hx, hy, decide_true, decide_false, bne_self_eq_false, Bool.false_eq_true, if_false, if_true, show (true != false) = true from rfl, show (false != true) = true from rfl]
  · have e1 : (x.natAbs : Int) = -x := by omega
    have e2 : (y.natAbs : Int) = -y := by omega
    rw [e1, e2, Int.neg_mul_neg]
  · have e1 : (x.natAbs : Int) = -x := by omega
    have e2 : (y.natAbs : Int) = y := by omega
    rw [e1, e2, Int.neg_mul, Int.neg_neg]
  · have e1 : (x.natAbs : Int) = x := by omega
    have e2 : (y.natAbs : Int) = -y := by omega
    rw [e1, e2, Int.mul_neg, Int.neg_neg]
  · have e1 : (x.natAbs : Int) = x := by omega
    have e2 : (y.natAbs : Int) = y := by omega
    rw [e1, e2]
theorem product_eq (k : Nat) {x y : Int} (hx : fitsI x) (hy : fitsI y) : value_product.f (k + 1) x y = some (if fitsI (x * y) then (x * y, none) else (0, some 5)) := by
  have hxy := abs_mul x y
  unfold value_product.f
  rw [size_eq hx, size_eq hy]
  unfold fitsI at hx hy
  simp only [Option.bind_some]
  rw [mul64_eq (by omega) (by omega) (by omega) (by omega)]
  simp only [Option.bind_some]
  have hp : 0 ≤ (x.natAbs : Int) * (y.natAbs : Int) := Int.mul_nonneg (by omega) (by omega)
  generalize (x.natAbs : Int) * (y.natAbs : Int) = p at *
  generalize (decide (x < 0) != decide (y < 0)) = ng at *
  rw [hxy]
  unfold fitsI
  cases ng
  · simp only [Bool.false_eq_true, if_false, Bool.not_false]
    simp only [value_product.j0, Bool.false_eq_true, if_false, if_true]
    repeat' split
    all_goals first | rfl | (exfalso; omega) | (congr 2; unfold wrap64; omega)
  · simp only [if_true, Bool.not_true]
    simp only [value_product.j0, Bool.false_eq_true, if_false, if_true, u64_wrap]
    repeat' split
    all_goals first | rfl | (exfalso; omega) | (congr 2; unfold wrap64; omega)
theorem plus_eq {x y : Int} (hx : fitsI x) (hy : fitsI y) : barbicanref05_plus.f x y = some (if fitsI (x + y) then (x + y, true) else (0, false)) := by
  unfold barbicanref05_plus.f wrap64
  by_cases hf : fitsI (x + y)
  · rw [if_pos hf]
    unfold fitsI at *
    repeat' split
    all_goals first | rfl | (exfalso; omega) | (congr 2; omega)
  · rw [if_neg hf]
    unfold fitsI at *
    repeat' split
    all_goals first | rfl | (exfalso; omega) | (congr 2; omega)
/-- What a product is to be. -/
def isTimes (n : Int) (r : Int × Bool) : Prop := (fitsI n ∧ r = (n, true)) ∨ (¬ fitsI n ∧ r.2 = false)
theorem tdiv_two (y : Int) : y = 2 * Int.tdiv y 2 + Int.tmod y 2 ∧ (0 ≤ y → 0 ≤ Int.tdiv y 2 ∧ Int.tdiv y 2 ≤ y ∧ 0 ≤ Int.tmod y 2 ∧ Int.tmod y 2 ≤ 1) ∧ (y ≤ 0 → y ≤ Int.tdiv y 2 ∧ Int.tdiv y 2 ≤ 0 ∧ -1 ≤ Int.tmod y 2 ∧ Int.tmod y 2 ≤ 0) := by
  have h := Int.mul_tdiv_add_tmod y 2
  have h2 : ∀ m : Int, 0 ≤ m → 0 ≤ Int.tmod m 2 ∧ Int.tmod m 2 ≤ 1 := fun m hm => by rw [Int.tmod_eq_emod_of_nonneg hm]; omega
  have h3 : ∀ m : Int, m ≤ 0 → -1 ≤ Int.tmod m 2 ∧ Int.tmod m 2 ≤ 0 := fun m hm => by
    have := h2 (-m) (by omega)
    rw [Int.neg_tmod] at this; omega
  refine ⟨by omega, fun hy => ?_, fun hy => ?_⟩
  · have := h2 y hy; omega
  · have := h3 y hy; omega
theorem times_ev : ∀ (n : Nat) (x y : Int), y.natAbs ≤ n → fitsI x → fitsI y → ∃ r, Ev (fun k => barbicanref05_times.f k x y) r ∧ isTimes (x * y) r := by
  intro n
  induction n using Nat.strongRecOn with
  | ind n ih =>
    intro x y hn hx hy
    have hj : ∀ b : Bool, (b = true ↔ (x = 0 ∨ y = 0)) → ∃ r, Ev (fun k => barbicanref05_times.j0 k x y b) r ∧ isTimes (x * y) r := by
      intro b hb
      by_cases h0 : x = 0 ∨ y = 0
      · have hz : x * y = 0 := by rcases h0 with h | h <;> simp [h]
        refine ⟨(0, true), ev_step (fun _ => barbicanref05_times.j0.eq_2 ..) (ev_if_pos (hb.2 h0) (ev_some _)), Or.inl ⟨?_, ?_⟩⟩
        · rw [hz]; unfold fitsI; omega
        · rw [hz]
      have hb0 : ¬ b = true := fun h => h0 (hb.1 h)
      have x0 : x ≠ 0 := fun h => h0 (Or.inl h)
      have y0 : y ≠ 0 := fun h => h0 (Or.inr h)
      by_cases h1 : y = 1
      · exact ⟨(x, true), ev_step (fun _ => barbicanref05_times.j0.eq_2 ..) (ev_if_neg hb0 (ev_if_pos h1 (ev_some _))), Or.inl ⟨by rw [h1, Int.mul_one]; exact hx, by rw [h1, Int.mul_one]⟩⟩
      by_cases h2 : y = -1
      · refine ⟨_, ev_step (fun _ => barbicanref05_times.j0.eq_2 ..) (ev_if_neg hb0 (ev_if_neg h1 (ev_if_pos h2 (ev_some _)))), ?_⟩
        rw [h2, Int.mul_neg, Int.mul_one]
        unfold isTimes fitsI at *
        by_cases hl : x = -9223372036854775808
        · right; subst hl; exact ⟨by omega, by decide⟩
        · left; exact ⟨by omega, by unfold wrap64; rw [Prod.mk.injEq]; exact ⟨by omega, by simp [hl]⟩⟩
      have hd := tdiv_two y
      have hy' := hy
      have hx' := hx
      unfold fitsI at hy' hx'
      have wd : wrap64 (Int.tdiv y 2) = Int.tdiv y 2 := by unfold wrap64; omega
      have hlt : (Int.tdiv y 2).natAbs < y.natAbs := by omega
      have hmt : (Int.tmod y 2).natAbs < y.natAbs := by omega
      obtain ⟨r1, e1, s1⟩ := ih _ (by omega : (Int.tdiv y 2).natAbs < n) x (Int.tdiv y 2) (Nat.le_refl _) hx (by unfold fitsI; omega)
      obtain ⟨r2, e2, s2⟩ := ih _ (by omega : (Int.tmod y 2).natAbs < n) x (Int.tmod y 2) (Nat.le_refl _) hx (by unfold fitsI; omega)
      have hxy : x * y = 2 * (x * Int.tdiv y 2) + x * Int.tmod y 2 := by
        have : x * y = x * (2 * Int.tdiv y 2 + Int.tmod y 2) := by rw [← hd.1]
        rw [this, Int.mul_add, Int.mul_left_comm]
      -- all parts have one sign
      have sg : (0 ≤ x * Int.tdiv y 2 ∧ 0 ≤ x * Int.tmod y 2) ∨ (x * Int.tdiv y 2 ≤ 0 ∧ x * Int.tmod y 2 ≤ 0) := by
        rcases Int.le_total 0 x with hxs | hxs <;> rcases Int.le_total 0 y with hys | hys
        · exact Or.inl ⟨Int.mul_nonneg hxs (by omega), Int.mul_nonneg hxs (by omega)⟩
        · exact Or.inr ⟨Int.mul_nonpos_of_nonneg_of_nonpos hxs (by omega), Int.mul_nonpos_of_nonneg_of_nonpos hxs (by omega)⟩
        · exact Or.inr ⟨Int.mul_nonpos_of_nonpos_of_nonneg hxs (by omega), Int.mul_nonpos_of_nonpos_of_nonneg hxs (by omega)⟩
        · exact Or.inl ⟨Int.mul_nonneg_of_nonpos_of_nonpos hxs (by omega), Int.mul_nonneg_of_nonpos_of_nonpos hxs (by omega)⟩
      have hm3 : Int.tmod y 2 = 0 ∨ Int.tmod y 2 = 1 ∨ Int.tmod y 2 = -1 := by omega
      have hd1 : Int.tdiv y 2 ≠ 0 := by omega
      have hbig : x = -9223372036854775808 → ¬ fitsI (2 * (x * Int.tdiv y 2)) := by
        intro hl
        subst hl
        unfold fitsI
        omega
      have hrest : x ≠ -9223372036854775808 → fitsI (x * Int.tmod y 2) := by
        intro hl
        unfold fitsI
        rcases hm3 with h | h | h <;> rw [h] <;> omega
      generalize x * Int.tdiv y 2 = half at *
      generalize x * Int.tmod y 2 = rest at *
      rw [hxy]
      have hgo : ∀ r, Ev (fun k => ((barbicanref05_times.f k x (wrap64 (Int.tdiv y 2))).bind fun bt231 => (if bt231.2 = true then ((barbicanref05_plus.f bt231.1 bt231.1).bind fun bt233 => (if bt233.2 = true then ((barbicanref05_times.f k x (Int.tmod y 2)).bind fun bt235 => (if bt235.2 = true then ((barbicanref05_plus.f bt233.1 bt235.1).bind fun bt237 => (some (bt237.1, bt237.2))) else ((barbicanref05_plus.f bt233.1 9223372036854775807).bind fun bt239 => (if bt239.2 = true then ((barbicanref05_plus.f bt239.1 1).bind fun bt241 => (some (bt241.1, bt241.2))) else (some (0, false)))))) else (some (0, false)))) else (some (0, false))))) r → Ev (fun k => barbicanref05_times.j0 k x y b) r :=
        fun r h => ev_step (fun _ => barbicanref05_times.j0.eq_2 ..) (ev_if_neg hb0 (ev_if_neg h1 (ev_if_neg h2 h)))
      rw [wd] at hgo
      rcases s1 with ⟨f1, rfl⟩ | ⟨f1, g1⟩
      · have p1 := plus_eq f1 f1
        by_cases f2 : fitsI (half + half)
        · rw [if_pos f2] at p1
          have hl : x ≠ -9223372036854775808 := fun h => hbig h (by rw [show 2 * half = half + half by omega]; exact f2)
          rcases s2 with ⟨f3, rfl⟩ | ⟨f3, _⟩
          · have p2 := plus_eq f2 f3
            refine ⟨((if fitsI (half + half + rest) then (half + half + rest, true) else (0, false)).1, (if fitsI (half + half + rest) then (half + half + rest, true) else (0, false)).2), hgo _ (ev_bind e1 (ev_if_pos rfl ?_)), ?_⟩
            · rw [p1]
              refine ev_bind_some (ev_if_pos rfl (ev_bind e2 (ev_if_pos rfl ?_)))
              rw [p2]
              exact ev_bind_some (ev_some _)
            · by_cases f4 : fitsI (half + half + rest)
              · rw [if_pos f4]
                exact Or.inl ⟨by rw [show 2 * half + rest = half + half + rest by omega]; exact f4, by rw [show 2 * half + rest = half + half + rest by omega]⟩
              · rw [if_neg f4]
                exact Or.inr ⟨by rw [show 2 * half + rest = half + half + rest by omega]; exact f4, rfl⟩
          · exact absurd (hrest hl) f3
        · rw [if_neg f2] at p1
          refine ⟨(0, false), hgo _ (ev_bind e1 (ev_if_pos rfl ?_)), Or.inr ⟨?_, rfl⟩⟩
          · rw [p1]
            exact ev_bind_some (ev_if_neg (by decide) (ev_some _))
          · unfold fitsI at *; omega
      · refine ⟨(0, false), hgo _ (ev_bind e1 (ev_if_neg (by rw [g1]; decide) (ev_some _))), Or.inr ⟨?_, rfl⟩⟩
        unfold fitsI at *; omega
    by_cases hx0 : x = 0
    · obtain ⟨r, e, s⟩ := hj true (by simp [hx0])
      exact ⟨r, ev_step (fun _ => barbicanref05_times.f.eq_2 ..) (ev_if_pos hx0 e), s⟩
    · obtain ⟨r, e, s⟩ := hj (y == 0) (by simp [hx0])
      exact ⟨r, ev_step (fun _ => barbicanref05_times.f.eq_2 ..) (ev_if_neg hx0 e), s⟩
/-! ### value.number -/
/-- What comes of two numbers: the number, or the error. -/
def numR (op x y : Int) : Int × Option Int :=
  if op = 45 then (if fitsI (x - y) then (x - y, none) else (0, some 5))
  else if op = 43 then (if fitsI (x + y) then (x + y, none) else (0, some 5))
  else if op = 42 then (if fitsI (x * y) then (x * y, none) else (0, some 5))
  else if y = 0 then (0, some 6)
  else if y = -1 ∧ op = 37 then (0, none)
  else if y = -1 ∧ x = -9223372036854775808 then (0, some 5)
  else if op = 47 then (wrap64 (Int.tdiv x y), none) else (Int.tmod x y, none)
theorem number_eq (k : Nat) {op x y : Int} (hx : fitsI x) (hy : fitsI y) : value_number.f (k + 3) op x y = some (numR op x y) := by
  unfold value_number.f numR
  by_cases h45 : op = 45
  · rw [if_pos h45, if_pos h45]
    by_cases hf : fitsI (x - y)
    · rw [if_pos hf]
      unfold fitsI at *
      by_cases hm : y = -9223372036854775808
      · rw [if_pos hm, if_neg (by omega)]; congr 2; unfold wrap64; omega
      · rw [if_neg hm]
        have e1 : wrap64 (-y) = -y := by unfold wrap64; omega
        have e2 : wrap64 (x + -y) = x - y := by unfold wrap64; omega
        rw [e1, e2, if_neg]
        by_cases h1 : x - y > x <;> by_cases h2 : -y > 0 <;> simp [h1, h2] <;> omega
    · rw [if_neg hf]
      unfold fitsI at *
      by_cases hm : y = -9223372036854775808
      · rw [if_pos hm, if_pos (by omega)]
      · rw [if_neg hm]
        have e1 : wrap64 (-y) = -y := by unfold wrap64; omega
        have e2 : wrap64 (x + -y) = if 0 < -y then x - y - 18446744073709551616 else x - y + 18446744073709551616 := by unfold wrap64; split <;> omega
        rw [e1, e2, if_pos]
        by_cases h2 : -y > 0
        · rw [if_pos h2]
          have h1 : ¬ x - y - 18446744073709551616 > x := by omega
          rw [decide_eq_false h1, decide_eq_true h2]; rfl
        · rw [if_neg h2]
          have h1 : x - y + 18446744073709551616 > x := by omega
          rw [decide_eq_true h1, decide_eq_false h2]; rfl
  rw [if_neg h45, if_neg h45]
  by_cases h43 : op = 43
  · rw [if_pos h43, if_pos h43]
    by_cases hf : fitsI (x + y)
    · rw [if_pos hf]
      unfold fitsI at *
      have e2 : wrap64 (x + y) = x + y := by unfold wrap64; omega
      rw [e2, if_neg]
      by_cases h1 : x + y > x <;> by_cases h2 : y > 0 <;> simp [h1, h2] <;> omega
    · rw [if_neg hf]
      unfold fitsI at *
      have e2 : wrap64 (x + y) = if 0 < y then x + y - 18446744073709551616 else x + y + 18446744073709551616 := by unfold wrap64; split <;> omega
      rw [e2, if_pos]
      by_cases h2 : y > 0
      · rw [if_pos h2]
        have h1 : ¬ x + y - 18446744073709551616 > x := by omega
        simp [h1, h2]
      · rw [if_neg h2]
        have h1 : x + y + 18446744073709551616 > x := by omega
        simp [h1, h2]
  rw [if_neg h43, if_neg h43]
  by_cases h42 : op = 42
  · rw [if_pos h42, if_pos h42, product_eq _ hx hy]
    rfl
  rw [if_neg h42, if_neg h42]
  by_cases h0 : y = 0
  · rw [if_pos h0, if_pos h0]
  rw [if_neg h0, if_neg h0]
  by_cases h1 : y = -1
  · by_cases h37 : op = 37
    · simp [h1, h37, value_number.j0]
    · by_cases hm : x = -9223372036854775808
      · simp [h1, h37, hm, value_number.j0, value_number.j1]
      · by_cases h47 : op = 47 <;> simp [h1, h37, hm, h47, value_number.j0, value_number.j1]
  · by_cases h47 : op = 47 <;> simp [h1, h47, h0, value_number.j0, value_number.j1]
theorem opIdx : ∀ i : Fin 256, (Lib.indexByte [43, 45, 42, 47, 37] ((i.val : Int)).toNat.toUInt8 < 0) ↔ ¬ (i.val = 43 ∨ i.val = 45 ∨ i.val = 42 ∨ i.val = 47 ∨ i.val = 37) := by decide +kernel
/-- value.Reckon, told plainly. -/
def reckR (op : Int) (a b : S23) : S23 × Option Int :=
  if ¬ (op = 43 ∨ op = 45 ∨ op = 42 ∨ op = 47 ∨ op = 37) then (z23, some 3)
  else if ¬ (okK 1 a.f0 && okK 1 b.f0) = true then (z23, some 7)
  else if a.f0 = 0 ∨ b.f0 = 0 then (z23, none)
  else if (numR op a.f1 b.f1).2.isNone = true then (⟨1, (numR op a.f1 b.f1).1, ⟨#[]⟩, false⟩, none) else (z23, (numR op a.f1 b.f1).2)
def flat (v : S23) {α : Type} (e : α) : Int × Int × ByteArray × Bool × α := (v.f0, v.f1, v.f2, v.f3, e)
theorem reckon_eq (k : Nat) {op : Int} (a b : S23) (h0 : 0 ≤ op) (h1 : op ≤ 255) (ha : fitsI a.f1) (hb : fitsI b.f1) :
    value_Reckon.f (k + 3) op a.f0 a.f1 a.f2 a.f3 b.f0 b.f1 b.f2 b.f3 = some (flat (reckR op a b).1 (reckR op a b).2) := by
  have hi := opIdx ⟨op.toNat, by omega⟩
  simp only [Int.toNat_of_nonneg h0] at hi
  have hi2 : (Lib.indexByte [43, 45, 42, 47, 37] op.toNat.toUInt8 < 0) ↔ ¬ (op = 43 ∨ op = 45 ∨ op = 42 ∨ op = 47 ∨ op = 37) := hi.trans (by omega)
  unfold value_Reckon.f strings_IndexByte.f reckR flat
  simp only [Option.bind_some]
  by_cases h : (op = 43 ∨ op = 45 ∨ op = 42 ∨ op = 47 ∨ op = 37)
  · have c1 := fun hh => hi2.1 hh h
    have c2 : ¬ ¬ (op = 43 ∨ op = 45 ∨ op = 42 ∨ op = 47 ∨ op = 37) := fun hh => hh h
    rw [if_neg c1, if_neg c2]
    rw [is_two, null_two]
    simp only [Option.bind_some]
    by_cases hk : (okK 1 a.f0 && okK 1 b.f0) = true
    · have c3 : ¬ ¬ (okK 1 a.f0 && okK 1 b.f0) = true := fun hh => hh hk
      rw [if_pos hk, if_neg c3]
      by_cases hn : a.f0 = 0 ∨ b.f0 = 0
      · have c4 : (decide (a.f0 = 0) || decide (b.f0 = 0)) = true := by simp only [Bool.or_eq_true, decide_eq_true_eq]; exact hn
        rw [if_pos c4, if_pos hn]; rfl
      · have c4 : ¬ (decide (a.f0 = 0) || decide (b.f0 = 0)) = true := by simp only [Bool.or_eq_true, decide_eq_true_eq]; exact hn
        rw [if_neg c4, if_neg hn, number_eq k ha hb]
        simp only [Option.bind_some]
        by_cases hr : (numR op a.f1 b.f1).2.isNone = true
        · rw [if_pos hr, if_pos hr]; rfl
        · rw [if_neg hr, if_neg hr]
          obtain ⟨q, hq⟩ : ∃ q, (numR op a.f1 b.f1).2 = some q := by
            cases h : (numR op a.f1 b.f1).2 with
            | none => rw [h] at hr; exact absurd rfl hr
            | some q => exact ⟨q, rfl⟩
          rw [hq]; rfl
    · rw [if_neg hk, if_pos hk]; rfl
  · rw [if_pos (hi2.2 h), if_pos h]; rfl
/-! ### the reference's Reckon -/
def rOut (r : Int × Option Int) : Int × Int × ByteArray × Bool × Int := if r.2.isNone = true then (1, r.1, ⟨#[]⟩, false, 0) else (0, 0, ⟨#[]⟩, false, r.2.getD 0)
theorem fits_most : fitsI 9223372036854775807 := by unfold fitsI; omega
theorem fits_one : fitsI 1 := by unfold fitsI; omega
theorem refnum_ev {op x y : Int} (hop : op = 43 ∨ op = 45 ∨ op = 42 ∨ op = 47 ∨ op = 37) (hx : fitsI x) (hy : fitsI y) :
    Ev (fun k => barbicanref05_Reckon.j3 k op x y true (decide ((op = 47 ∨ op = 37) ∧ y = 0))) (rOut (numR op x y)) := by
  refine ev_step (fun _ => barbicanref05_Reckon.j3.eq_2 ..) ?_
  by_cases h43 : op = 43
  · subst h43
    have hn : numR 43 x y = if fitsI (x + y) then (x + y, none) else (0, some 5) := rfl
    refine ev_if_neg (by simp) (ev_if_pos rfl ?_)
    rw [plus_eq hx hy, hn]
    refine ev_bind_some ?_
    by_cases hf : fitsI (x + y)
    · rw [if_pos hf, if_pos hf]
      exact ev_if_pos rfl (ev_some _)
    · rw [if_neg hf, if_neg hf]
      exact ev_if_neg (by decide) (ev_some _)
  by_cases h45 : op = 45
  · subst h45
    have hn : numR 45 x y = if fitsI (x - y) then (x - y, none) else (0, some 5) := rfl
    refine ev_if_neg (by simp) (ev_if_neg (by decide) (ev_if_pos rfl ?_))
    rw [hn]
    by_cases hm : y = -9223372036854775808
    · subst hm
      refine ev_step (fun _ => barbicanref05_Reckon.j4.eq_2 ..) (ev_if_pos (by decide) ?_)
      rw [plus_eq hx fits_most]
      refine ev_bind_some ?_
      by_cases hf : fitsI (x + 9223372036854775807)
      · rw [if_pos hf]
        refine ev_if_pos rfl ?_
        rw [plus_eq hf fits_one]
        refine ev_bind_some ?_
        have e : x + 9223372036854775807 + 1 = x - -9223372036854775808 := by omega
        rw [e]
        by_cases hg : fitsI (x - -9223372036854775808)
        · rw [if_pos hg, if_pos hg]
          exact ev_if_pos rfl (ev_some _)
        · rw [if_neg hg, if_neg hg]
          exact ev_if_neg (by decide) (ev_some _)
      · have hg : ¬ fitsI (x - -9223372036854775808) := by unfold fitsI at *; omega
        rw [if_neg hf, if_neg hg]
        exact ev_if_neg (by decide) (ev_some _)
    · have hb : (y == -9223372036854775808) = false := by simpa using hm
      rw [hb]
      refine ev_step (fun _ => barbicanref05_Reckon.j4.eq_2 ..) (ev_if_neg (by decide) (ev_if_pos rfl ?_))
      have e1 : wrap64 (-y) = -y := by unfold fitsI at *; unfold wrap64; omega
      rw [e1, plus_eq hx (by unfold fitsI at *; omega)]
      refine ev_bind_some ?_
      have e : x + -y = x - y := by omega
      rw [e]
      by_cases hg : fitsI (x - y)
      · rw [if_pos hg, if_pos hg]
        exact ev_if_pos rfl (ev_some _)
      · rw [if_neg hg, if_neg hg]
        exact ev_if_neg (by decide) (ev_some _)
  by_cases h42 : op = 42
  · subst h42
    have hn : numR 42 x y = if fitsI (x * y) then (x * y, none) else (0, some 5) := rfl
    refine ev_if_neg (by simp) (ev_if_neg (by decide) (ev_if_neg (by decide) ?_))
    refine ev_step (fun _ => barbicanref05_Reckon.j4.eq_2 ..) (ev_if_neg (by decide) (ev_if_neg (by decide) (ev_if_pos rfl ?_)))
    obtain ⟨r, e, s⟩ := times_ev _ x y (Nat.le_refl _) hx hy
    rw [hn]
    refine ev_bind e ?_
    rcases s with ⟨hf, rfl⟩ | ⟨hf, hr⟩
    · rw [if_pos hf]
      exact ev_if_pos rfl (ev_some _)
    · rw [if_neg hf]
      exact ev_if_neg (by rw [hr]; decide) (ev_some _)
  have hop2 : op = 47 ∨ op = 37 := by omega
  by_cases h0 : y = 0
  · have hn : numR op x y = (0, some 6) := by unfold numR; rw [if_neg h45, if_neg h43, if_neg h42, if_pos h0]
    rw [hn]
    exact ev_if_pos (decide_eq_true ⟨hop2, h0⟩) (ev_some _)
  refine ev_if_neg (by simp [h0]) (ev_if_neg h43 (ev_if_neg h45 ?_))
  refine ev_step (fun _ => barbicanref05_Reckon.j4.eq_2 ..) (ev_if_neg (by decide) (ev_if_neg h45 (ev_if_neg h42 ?_)))
  have hn : numR op x y = if y = -1 ∧ op = 37 then (0, none) else if y = -1 ∧ x = -9223372036854775808 then (0, some 5) else if op = 47 then (wrap64 (Int.tdiv x y), none) else (Int.tmod x y, none) := by
    unfold numR
    rw [if_neg h45, if_neg h43, if_neg h42, if_neg h0]
  by_cases h1 : y = -1
  · refine ev_if_pos h1 ?_
    by_cases h37 : op = 37
    · have hn2 : numR op x y = (0, none) := by rw [hn, if_pos ⟨h1, h37⟩]
      rw [hn2]
      refine ev_step (fun _ => barbicanref05_Reckon.j5.eq_2 ..) (ev_if_pos (by simp [h37]) (ev_if_pos rfl (ev_some _)))
    · have h47 : op = 47 := by omega
      refine ev_step (fun _ => barbicanref05_Reckon.j5.eq_2 ..) (ev_if_neg (by simp [h37]) (ev_if_pos h1 ?_))
      by_cases hm : x = -9223372036854775808
      · have hn2 : numR op x y = (0, some 5) := by rw [hn, if_neg (fun h => h37 h.2), if_pos ⟨h1, hm⟩]
        rw [hn2]
        exact ev_if_pos hm (ev_some _)
      · have e : Int.tdiv x y = -x := by rw [h1, Int.tdiv_neg, Int.tdiv_one]
        have hn2 : numR op x y = (wrap64 (-x), none) := by rw [hn, if_neg (fun h => h37 h.2), if_neg (fun h => hm h.2), if_pos h47, e]
        rw [hn2]
        exact ev_if_neg hm (ev_some _)
  · refine ev_if_neg h1 ?_
    refine ev_step (fun _ => barbicanref05_Reckon.j5.eq_2 ..) (ev_if_neg (by decide) (ev_if_neg h1 ?_))
    by_cases h47 : op = 47
    · have hn2 : numR op x y = (wrap64 (Int.tdiv x y), none) := by rw [hn, if_neg (fun h => h1 h.1), if_neg (fun h => h1 h.1), if_pos h47]
      rw [hn2]
      exact ev_if_pos h47 (ev_if_neg h0 (ev_if_pos rfl (ev_some _)))
    · have hn2 : numR op x y = (Int.tmod x y, none) := by rw [hn, if_neg (fun h => h1 h.1), if_neg (fun h => h1 h.1), if_neg h47]
      rw [hn2]
      exact ev_if_neg h47 (ev_if_neg h0 (ev_if_pos rfl (ev_some _)))
theorem refReckon_ev {op : Int} (a b : S23) (ha : fitsI a.f1) (hb : fitsI b.f1) :
    Ev (fun k => barbicanref05_Reckon.f k op a.f0 a.f1 a.f2 a.f3 b.f0 b.f1 b.f2 b.f3) (flat (reckR op a b).1 ((reckR op a b).2.getD 0)) := by
  have hj2 : (op = 43 ∨ op = 45 ∨ op = 42 ∨ op = 47 ∨ op = 37) → (okK 1 a.f0 && okK 1 b.f0) = true → ∀ p : Bool, (p = true ↔ (a.f0 = 0 ∨ b.f0 = 0)) → Ev (fun k => barbicanref05_Reckon.j2 k op p a.f0 a.f1 a.f2 a.f3 b.f0 b.f1 b.f2 b.f3) (flat (reckR op a b).1 ((reckR op a b).2.getD 0)) := by
    intro hop hk p hp
    refine ev_step (fun _ => barbicanref05_Reckon.j2.eq_2 ..) ?_
    unfold reckR
    have c2 : ¬ ¬ (op = 43 ∨ op = 45 ∨ op = 42 ∨ op = 47 ∨ op = 37) := fun hh => hh hop
    have c3 : ¬ ¬ (okK 1 a.f0 && okK 1 b.f0) = true := fun hh => hh hk
    rw [if_neg c2, if_neg c3]
    by_cases hn : a.f0 = 0 ∨ b.f0 = 0
    · rw [if_pos hn]
      exact ev_if_pos (hp.2 hn) (ev_some _)
    · rw [if_neg hn]
      refine ev_if_neg (fun h => hn (hp.1 h)) ?_
      have hr := refnum_ev hop ha hb
      have e : flat (if (numR op a.f1 b.f1).2.isNone = true then ((⟨1, (numR op a.f1 b.f1).1, ⟨#[]⟩, false⟩ : S23), (none : Option Int)) else (z23, (numR op a.f1 b.f1).2)).1 ((if (numR op a.f1 b.f1).2.isNone = true then ((⟨1, (numR op a.f1 b.f1).1, ⟨#[]⟩, false⟩ : S23), (none : Option Int)) else (z23, (numR op a.f1 b.f1).2)).2.getD 0) = rOut (numR op a.f1 b.f1) := by
        unfold rOut
        by_cases h : (numR op a.f1 b.f1).2.isNone = true
        · rw [if_pos h, if_pos h]; rfl
        · rw [if_neg h, if_neg h]; rfl
      rw [e]
      by_cases h47 : op = 47
      · refine ev_if_pos h47 ?_
        have : decide ((op = 47 ∨ op = 37) ∧ b.f1 = 0) = (b.f1 == 0) := by rw [Bool.eq_iff_iff]; simp [h47]
        rw [this] at hr; exact hr
      · refine ev_if_neg h47 ?_
        by_cases h37 : op = 37
        · refine ev_if_pos h37 ?_
          have : decide ((op = 47 ∨ op = 37) ∧ b.f1 = 0) = (b.f1 == 0) := by rw [Bool.eq_iff_iff]; simp [h37]
          rw [this] at hr; exact hr
        · refine ev_if_neg h37 ?_
          have : decide ((op = 47 ∨ op = 37) ∧ b.f1 = 0) = false := by simp [h37, h47]
          rw [this] at hr; exact hr
  have hj1 : (op = 43 ∨ op = 45 ∨ op = 42 ∨ op = 47 ∨ op = 37) → ∀ p : Bool, (p = true ↔ ¬ (okK 1 a.f0 && okK 1 b.f0) = true) → Ev (fun k => barbicanref05_Reckon.j1 k op p a.f0 a.f1 a.f2 a.f3 b.f0 b.f1 b.f2 b.f3) (flat (reckR op a b).1 ((reckR op a b).2.getD 0)) := by
    intro hop p hp
    refine ev_step (fun _ => barbicanref05_Reckon.j1.eq_2 ..) ?_
    by_cases hk : (okK 1 a.f0 && okK 1 b.f0) = true
    · refine ev_if_neg (fun h => hp.1 h hk) ?_
      by_cases h0 : a.f0 = 0
      · exact ev_if_pos h0 (hj2 hop hk true (by simp [h0]))
      · exact ev_if_neg h0 (hj2 hop hk (b.f0 == 0) (by simp [h0]))
    · have c2 : ¬ ¬ (op = 43 ∨ op = 45 ∨ op = 42 ∨ op = 47 ∨ op = 37) := fun hh => hh hop
      unfold reckR
      rw [if_neg c2, if_pos hk]
      exact ev_if_pos (hp.2 hk) (ev_some _)
  have hj0 : (op = 43 ∨ op = 45 ∨ op = 42 ∨ op = 47 ∨ op = 37) → Ev (fun k => barbicanref05_Reckon.j0 k op false a.f0 a.f1 a.f2 a.f3 b.f0 b.f1 b.f2 b.f3) (flat (reckR op a b).1 ((reckR op a b).2.getD 0)) := by
    intro hop
    refine ev_step (fun _ => barbicanref05_Reckon.j0.eq_2 ..) (ev_if_neg (by decide) ?_)
    by_cases a0 : a.f0 = 0
    · refine ev_if_pos a0 ?_
      by_cases b0 : b.f0 = 0
      · exact ev_if_pos b0 (hj1 hop _ (by simp [okK, a0, b0]))
      · exact ev_if_neg b0 (hj1 hop _ (by simp [okK, a0, b0]))
    · refine ev_if_neg a0 ?_
      by_cases a1 : a.f0 = 1
      · refine ev_if_pos a1 ?_
        by_cases b0 : b.f0 = 0
        · exact ev_if_pos b0 (hj1 hop _ (by simp [okK, a1, b0]))
        · exact ev_if_neg b0 (hj1 hop _ (by simp [okK, a1, b0]))
      · exact ev_if_neg a1 (hj1 hop _ (by simp [okK, a0, a1]))
  unfold barbicanref05_Reckon.f
  by_cases h43 : op = 43
  · exact ev_if_pos h43 (hj0 (by omega))
  refine ev_if_neg h43 ?_
  by_cases h45 : op = 45
  · exact ev_if_pos h45 (hj0 (by omega))
  refine ev_if_neg h45 ?_
  by_cases h42 : op = 42
  · exact ev_if_pos h42 (hj0 (by omega))
  refine ev_if_neg h42 ?_
  by_cases h47 : op = 47
  · exact ev_if_pos h47 (hj0 (by omega))
  refine ev_if_neg h47 ?_
  by_cases h37 : op = 37
  · have : (op != 37) = false := by simp [h37]
    rw [this]; exact hj0 (by omega)
  · have : (op != 37) = true := by simpa using h37
    rw [this]
    refine ev_step (fun _ => barbicanref05_Reckon.j0.eq_2 ..) (ev_if_pos rfl ?_)
    unfold reckR
    rw [if_pos (by omega)]
    exact ev_some _
/-! ### joining -/
def joinR (a b : S23) : S23 × Option Int :=
  if ¬ (okK 2 a.f0 && okK 2 b.f0) = true then (z23, some 7)
  else if a.f0 = 0 ∨ b.f0 = 0 then (z23, none)
  else if a.f2.size + b.f2.size > 4096 then (z23, some 2) else (⟨2, 0, a.f2 ++ b.f2, false⟩, none)
theorem join_eq (k : Nat) (a b : S23) (hs : a.f2.size + b.f2.size ≤ 1048576) :
    value_Join.f (k + 3) a.f0 a.f1 a.f2 a.f3 b.f0 b.f1 b.f2 b.f3 = some (flat (joinR a b).1 (joinR a b).2) := by
  unfold value_Join.f joinR
  rw [is_two, null_two]
  simp only [Option.bind_some]
  by_cases hk : (okK 2 a.f0 && okK 2 b.f0) = true
  · have c3 : ¬ ¬ (okK 2 a.f0 && okK 2 b.f0) = true := fun hh => hh hk
    rw [if_pos hk, if_neg c3]
    by_cases hn : a.f0 = 0 ∨ b.f0 = 0
    · have c4 : (decide (a.f0 = 0) || decide (b.f0 = 0)) = true := by simp only [Bool.or_eq_true, decide_eq_true_eq]; exact hn
      rw [if_pos c4, if_pos hn]; rfl
    · have c4 : ¬ (decide (a.f0 = 0) || decide (b.f0 = 0)) = true := by simp only [Bool.or_eq_true, decide_eq_true_eq]; exact hn
      rw [if_neg c4, if_neg hn]
      have hw : wrap64 ((a.f2.size : Int) + (b.f2.size : Int)) = ((a.f2.size + b.f2.size : Nat) : Int) := by unfold wrap64; omega
      rw [hw]
      by_cases hl : a.f2.size + b.f2.size > 4096
      · rw [if_pos (by omega), if_pos hl]; rfl
      · rw [if_neg (by omega), if_neg hl, if_pos (by omega)]; rfl
  · rw [if_neg hk, if_pos hk]; rfl
theorem refJoin_ev (a b : S23) (hs : a.f2.size + b.f2.size ≤ 1048576) :
    Ev (fun k => barbicanref05_Join.f k a.f0 a.f1 a.f2 a.f3 b.f0 b.f1 b.f2 b.f3) (flat (joinR a b).1 ((joinR a b).2.getD 0)) := by
  have hj1 : (okK 2 a.f0 && okK 2 b.f0) = true → ∀ p : Bool, (p = true ↔ (a.f0 = 0 ∨ b.f0 = 0)) → Ev (fun k => barbicanref05_Join.j1 k p a.f0 a.f1 a.f2 a.f3 b.f0 b.f1 b.f2 b.f3) (flat (joinR a b).1 ((joinR a b).2.getD 0)) := by
    intro hk p hp
    refine ev_step (fun _ => barbicanref05_Join.j1.eq_2 ..) ?_
    unfold joinR
    have c3 : ¬ ¬ (okK 2 a.f0 && okK 2 b.f0) = true := fun hh => hh hk
    rw [if_neg c3]
    by_cases hn : a.f0 = 0 ∨ b.f0 = 0
    · rw [if_pos hn]
      exact ev_if_pos (hp.2 hn) (ev_some _)
    · rw [if_neg hn]
      refine ev_if_neg (fun h => hn (hp.1 h)) ?_
      have hw : wrap64 ((a.f2.size : Int) + (b.f2.size : Int)) = ((a.f2.size + b.f2.size : Nat) : Int) := by unfold wrap64; omega
      rw [hw]
      by_cases hl : a.f2.size + b.f2.size > 4096
      · rw [if_pos hl]
        exact ev_if_pos (by omega) (ev_some _)
      · rw [if_neg hl]
        exact ev_if_neg (by omega) (ev_if_pos (by omega) (ev_some _))
  have hj0 : ∀ p : Bool, (p = true ↔ ¬ (okK 2 a.f0 && okK 2 b.f0) = true) → Ev (fun k => barbicanref05_Join.j0 k p a.f0 a.f1 a.f2 a.f3 b.f0 b.f1 b.f2 b.f3) (flat (joinR a b).1 ((joinR a b).2.getD 0)) := by
    intro p hp
    refine ev_step (fun _ => barbicanref05_Join.j0.eq_2 ..) ?_
    by_cases hk : (okK 2 a.f0 && okK 2 b.f0) = true
    · refine ev_if_neg (fun h => hp.1 h hk) ?_
      by_cases h0 : a.f0 = 0
      · exact ev_if_pos h0 (hj1 hk true (by simp [h0]))
      · exact ev_if_neg h0 (hj1 hk (b.f0 == 0) (by simp [h0]))
    · unfold joinR
      rw [if_pos hk]
      exact ev_if_pos (hp.2 hk) (ev_some _)
  unfold barbicanref05_Join.f
  by_cases a0 : a.f0 = 0
  · refine ev_if_pos a0 ?_
    by_cases b0 : b.f0 = 0
    · exact ev_if_pos b0 (hj0 _ (by simp [okK, a0, b0]))
    · exact ev_if_neg b0 (hj0 _ (by simp [okK, a0, b0]))
  · refine ev_if_neg a0 ?_
    by_cases a1 : a.f0 = 2
    · refine ev_if_pos a1 ?_
      by_cases b0 : b.f0 = 0
      · exact ev_if_pos b0 (hj0 _ (by simp [okK, a1, b0]))
      · exact ev_if_neg b0 (hj0 _ (by simp [okK, a1, b0]))
    · exact ev_if_neg a1 (hj0 _ (by simp [okK, a0, a1]))
theorem num_ev (x : Option Int) : Ev (fun _ : Nat => barbicanlaw05_num.f x) (x.getD 0) := ⟨0, fun _ _ => rfl⟩
theorem sure_ev : Ev (fun k => barbicanlaw05_sure.f k) true := by
  refine Ev.of (fun k => barbicanlaw05_sure.mono k) (k := 12) ?_
  kernel_rfl
end Go.Proofs.YtljadejgdbemoaaGreatDoor.A
