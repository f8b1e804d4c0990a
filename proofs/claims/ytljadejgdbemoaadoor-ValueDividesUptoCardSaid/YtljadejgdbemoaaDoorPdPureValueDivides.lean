/- The law ValueDivides, told plainly. -/
import Derived.Test.YtljadejgdbemoaaDoorPdSaidValueDivides
import Derived.Test.YtljadejgdbemoaaDoorPdXZVa
set_option linter.unusedVariables false
set_option linter.unusedSimpArgs false
namespace Go.Proofs.YtljadejgdbemoaaDoor.B
open Go.RowKit Go.Proofs.YtljadejgdbemoaaDoorW.PrintWords Go.Proofs.YtljadejgdbemoaaDoorW.PrintLast Go.Proofs.YtljadejgdbemoaaDoorX
theorem num_ev (x : Option Int) : Ev (fun _ : Nat => barbicanlaw05_num.f x) (x.getD 0) := ⟨0, fun _ _ => rfl⟩

/-- The quotient and the rest. -/
theorem quot_rest {a b : Int} (ha : fitsI a) (hb : fitsI b) (h0 : b ≠ 0) (hm : ¬ (b = -1 ∧ a = -9223372036854775808)) :
    fitsI (Int.tdiv a b) ∧ Int.tdiv a b * b = a - Int.tmod a b ∧ (0 ≤ a → 0 ≤ Int.tmod a b ∧ Int.tmod a b ≤ a) ∧ (a ≤ 0 → Int.tmod a b ≤ 0 ∧ a ≤ Int.tmod a b) ∧ (0 < b → -b < Int.tmod a b ∧ Int.tmod a b < b) ∧ (b < 0 → b < Int.tmod a b ∧ Int.tmod a b < -b) := by
  have h1 := Int.mul_tdiv_add_tmod a b
  have h2 : Int.tdiv a b * b = a - Int.tmod a b := by rw [Int.mul_comm]; omega
  have hq : (Int.tdiv a b).natAbs = a.natAbs / b.natAbs := Int.natAbs_tdiv ..
  have hr : (Int.tmod a b).natAbs = a.natAbs % b.natAbs := Int.natAbs_tmod ..
  have hlt : a.natAbs % b.natAbs < b.natAbs := Nat.mod_lt _ (by omega)
  have hle : a.natAbs % b.natAbs ≤ a.natAbs := Nat.mod_le _ _
  have hqle : a.natAbs / b.natAbs ≤ a.natAbs := Nat.div_le_self _ _
  have hs : (0 ≤ a → 0 ≤ Int.tmod a b) ∧ (a ≤ 0 → Int.tmod a b ≤ 0) := by
    refine ⟨fun h => Int.tmod_nonneg _ h, fun h => ?_⟩
    have := Int.tmod_nonneg b (show 0 ≤ -a by omega)
    rw [Int.neg_tmod] at this; omega
  refine ⟨?_, h2, fun h => ?_, fun h => ?_, fun h => ?_, fun h => ?_⟩
  · unfold fitsI at *
    by_cases hb1 : b.natAbs = 1
    · have hb2 : b = 1 ∨ b = -1 := by omega
      rcases hb2 with rfl | rfl
      · rw [Int.tdiv_one]; exact ha
      · rw [Int.tdiv_neg, Int.tdiv_one]; omega
    · have : a.natAbs / b.natAbs ≤ a.natAbs / 2 := Nat.div_le_div_left (by omega) (by omega)
      omega
  · have := hs.1 h; omega
  · have := hs.2 h; omega
  · omega
  · omega
def vI (n : Int) : S38 := ⟨1, n, ⟨#[]⟩, false⟩
/-- What value.Reckon is at two numbers. -/
theorem reck_int {op : Int} (x y : Int) (hop : op = 43 ∨ op = 45 ∨ op = 42 ∨ op = 47 ∨ op = 37) (hx : fitsI x) (hy : fitsI y) :
    Ev (fun k => value_Reckon.f k op 1 x ⟨#[]⟩ false 1 y ⟨#[]⟩ false) (if (numR op x y).2.isNone = true then (1, (numR op x y).1, ⟨#[]⟩, false, none) else (0, 0, ⟨#[]⟩, false, (numR op x y).2)) := ev_at 3 fun k => by
  refine (reckon_eq k (vI x) (vI y) (by omega) (by omega) hx hy).trans ?_
  have c2 : ¬ ¬ (op = 43 ∨ op = 45 ∨ op = 42 ∨ op = 47 ∨ op = 37) := fun hh => hh hop
  unfold reckR
  rw [if_neg c2, if_neg (by simp [okK, vI]), if_neg (by simp [vI])]
  show some (flat (if (numR op x y).2.isNone = true then ((⟨1, (numR op x y).1, ⟨#[]⟩, false⟩ : S38), (none : Option Int)) else (z38, (numR op x y).2)).1 (if (numR op x y).2.isNone = true then ((⟨1, (numR op x y).1, ⟨#[]⟩, false⟩ : S38), (none : Option Int)) else (z38, (numR op x y).2)).2) = _
  by_cases h : (numR op x y).2.isNone = true
  · rw [if_pos h, if_pos h]; rfl
  · rw [if_neg h, if_neg h]; rfl
theorem reck_ok {op n : Int} (x y : Int) (hop : op = 43 ∨ op = 45 ∨ op = 42 ∨ op = 47 ∨ op = 37) (hx : fitsI x) (hy : fitsI y) (h : numR op x y = (n, none)) :
    Ev (fun k => value_Reckon.f k op 1 x ⟨#[]⟩ false 1 y ⟨#[]⟩ false) (1, n, ⟨#[]⟩, false, none) := by
  have := reck_int x y hop hx hy
  rw [h] at this; exact this
theorem reck_err {op n e : Int} (x y : Int) (hop : op = 43 ∨ op = 45 ∨ op = 42 ∨ op = 47 ∨ op = 37) (hx : fitsI x) (hy : fitsI y) (h : numR op x y = (n, some e)) :
    Ev (fun k => value_Reckon.f k op 1 x ⟨#[]⟩ false 1 y ⟨#[]⟩ false) (0, 0, ⟨#[]⟩, false, some e) := by
  have := reck_int x y hop hx hy
  rw [h] at this; exact this
theorem barbicanlaw05_ValueDivides_pure : barbicanlaw05_ValueDivides_Pure := by
  intro a b ha hb _
  have ha : fitsI a := wf_i64 ha
  have hb : fitsI b := wf_i64 hb
  have f0 : fitsI 0 := by unfold fitsI; omega
  have hint : ∀ x, Ev (fun _ : Nat => value_Int.f x) (1, x, ⟨#[]⟩, false) := fun x => ⟨0, fun _ _ => rfl⟩
  have hsure : Ev (fun k => (barbicanlaw05_sure.f k).bind fun t => some t) true := ev_bind sure_ev (ev_some _)
  have o43 : (43 : Int) = 43 ∨ (43 : Int) = 45 ∨ (43 : Int) = 42 ∨ (43 : Int) = 47 ∨ (43 : Int) = 37 := by omega
  have o45 : (45 : Int) = 43 ∨ (45 : Int) = 45 ∨ (45 : Int) = 42 ∨ (45 : Int) = 47 ∨ (45 : Int) = 37 := by omega
  have o42 : (42 : Int) = 43 ∨ (42 : Int) = 45 ∨ (42 : Int) = 42 ∨ (42 : Int) = 47 ∨ (42 : Int) = 37 := by omega
  have o47 : (47 : Int) = 43 ∨ (47 : Int) = 45 ∨ (47 : Int) = 42 ∨ (47 : Int) = 47 ∨ (47 : Int) = 37 := by omega
  have o37 : (37 : Int) = 43 ∨ (37 : Int) = 45 ∨ (37 : Int) = 42 ∨ (37 : Int) = 47 ∨ (37 : Int) = 37 := by omega
  refine ev_exists (g := fun k => barbicanlaw05_ValueDivides.f k a b) ?_
  unfold barbicanlaw05_ValueDivides.f
  refine ev_bind (hint a) (ev_bind (hint b) ?_)
  by_cases h0 : b = 0
  · subst h0
    refine ev_bind (reck_err a 0 o47 ha hb (show numR 47 a 0 = (0, some 6) from rfl)) (ev_bind (reck_err a 0 o37 ha hb (show numR 37 a 0 = (0, some 6) from rfl)) ?_)
    exact ev_if_pos rfl (ev_bind (num_ev _) (ev_if_pos rfl (ev_bind (num_ev _) (ev_if_pos rfl hsure))))
  -- the last part: adding, and taking away again
  have tail1 : Ev (fun k => barbicanlaw05_ValueDivides.j1 k false 1 a ⟨#[]⟩ false 1 b ⟨#[]⟩ false) true := by
    refine ev_step (fun _ => barbicanlaw05_ValueDivides.j1.eq_2 ..) (ev_if_neg (by decide) ?_)
    by_cases hf : fitsI (a + b)
    · have n1 : numR 43 a b = (a + b, none) := by show (if fitsI (a + b) then _ else _) = _; rw [if_pos hf]
      have e : a + b - b = a := by omega
      have n2 : numR 45 (a + b) b = (a, none) := by show (if fitsI (a + b - b) then (a + b - b, none) else _) = _; rw [e, if_pos ha]
      refine ev_bind (reck_ok a b o43 ha hb n1) (ev_if_pos rfl (ev_bind (reck_ok (a + b) b o45 hf hb n2) (ev_if_pos rfl (ev_if_pos (by simp) hsure))))
    · have n1 : numR 43 a b = (0, some 5) := by show (if fitsI (a + b) then _ else _) = _; rw [if_neg hf]
      exact ev_bind (reck_err a b o43 ha hb n1) (ev_if_neg (by simp) (ev_bind (num_ev _) (ev_if_pos rfl hsure)))
  have tail3 : Ev (fun k => barbicanlaw05_ValueDivides.j3 k false 1 a ⟨#[]⟩ false 1 b ⟨#[]⟩ false) true := by
    refine ev_step (fun _ => barbicanlaw05_ValueDivides.j3.eq_2 ..) (ev_if_neg (by decide) ?_)
    by_cases hf : fitsI (a + b)
    · have n1 : numR 43 a b = (a + b, none) := by show (if fitsI (a + b) then _ else _) = _; rw [if_pos hf]
      have e : a + b - b = a := by omega
      have n2 : numR 45 (a + b) b = (a, none) := by show (if fitsI (a + b - b) then (a + b - b, none) else _) = _; rw [e, if_pos ha]
      refine ev_bind (reck_ok a b o43 ha hb n1) (ev_if_pos rfl (ev_bind (reck_ok (a + b) b o45 hf hb n2) (ev_if_pos rfl (ev_if_pos (by simp) hsure))))
    · have n1 : numR 43 a b = (0, some 5) := by show (if fitsI (a + b) then _ else _) = _; rw [if_neg hf]
      exact ev_bind (reck_err a b o43 ha hb n1) (ev_if_neg (by simp) (ev_bind (num_ev _) (ev_if_pos rfl hsure)))
  by_cases hm : b = -1 ∧ a = -9223372036854775808
  · obtain ⟨rfl, rfl⟩ := hm
    refine ev_bind (reck_err _ _ o47 ha hb (show numR 47 (-9223372036854775808) (-1) = (0, some 5) from rfl)) (ev_bind (reck_ok _ _ o37 ha hb (show numR 37 (-9223372036854775808) (-1) = (0, none) from rfl)) (ev_if_neg (by decide) ?_))
    refine ev_if_neg (by simp) (ev_bind (num_ev _) (ev_if_pos rfl (ev_if_pos rfl ?_)))
    refine ev_if_neg (by decide) (ev_if_pos (by decide) (ev_if_neg (by decide) (ev_if_pos (by decide) ?_)))
    have hw : (decide (wrap64 (-0) > -1)) = true := by unfold wrap64; decide
    refine ev_step (fun _ => barbicanlaw05_ValueDivides.j2.eq_2 ..) (ev_if_pos rfl (ev_if_pos hw (ev_if_neg (by decide) (ev_if_neg (by decide) tail3))))
  obtain ⟨hq, hp, r1, r2, r3, r4⟩ := quot_rest ha hb h0 hm
  have hw : wrap64 (Int.tdiv a b) = Int.tdiv a b := by unfold fitsI at hq; unfold wrap64; omega
  have n47 : numR 47 a b = (Int.tdiv a b, none) := by
    unfold numR
    rw [if_neg (by decide), if_neg (by decide), if_neg (by decide), if_neg h0, if_neg (by omega), if_neg hm, if_pos rfl, hw]
  have n37 : numR 37 a b = (Int.tmod a b, none) := by
    unfold numR
    rw [if_neg (by decide), if_neg (by decide), if_neg (by decide), if_neg h0]
    by_cases h1 : b = -1
    · rw [if_pos ⟨h1, rfl⟩]
      have : Int.tmod a b = 0 := by have := r4 (by omega); omega
      rw [this]
    · rw [if_neg (fun h => h1 h.1), if_neg hm, if_neg (by decide)]
  refine ev_bind (reck_ok a b o47 ha hb n47) (ev_bind (reck_ok a b o37 ha hb n37) (ev_if_neg h0 ?_))
  generalize Int.tdiv a b = q at *
  generalize Int.tmod a b = r at *
  have fr : fitsI r := by unfold fitsI at *; omega
  have fp : fitsI (q * b) := by rw [hp]; unfold fitsI at *; omega
  have n42 : numR 42 q b = (q * b, none) := by show (if fitsI (q * b) then _ else _) = _; rw [if_pos fp]
  have n43 : numR 43 (q * b) r = (a, none) := by
    show (if fitsI (q * b + r) then (q * b + r, none) else _) = _
    rw [show q * b + r = a by omega, if_pos ha]
  refine ev_if_pos rfl (ev_bind (reck_ok q b o42 hq hb n42) (ev_bind (reck_ok (q * b) r o43 fp fr n43) (ev_if_pos rfl (ev_if_pos rfl (ev_if_neg (by simp) ?_)))))
  have j0 : ∀ p : Bool, p = true → Ev (fun k => barbicanlaw05_ValueDivides.j0 k a none p 1 a ⟨#[]⟩ false 1 b ⟨#[]⟩ false 1 r ⟨#[]⟩ false) true := by
    intro p hp
    refine ev_step (fun _ => barbicanlaw05_ValueDivides.j0.eq_2 ..) (ev_if_pos rfl (ev_if_pos hp ?_))
    by_cases g1 : r > 0
    · exact ev_if_pos g1 (ev_if_neg (by omega) (ev_if_neg (by omega) tail1))
    · refine ev_if_neg g1 ?_
      by_cases g2 : r < 0
      · refine ev_if_pos g2 ?_
        rw [show decide (a > 0) = false by simp; omega]
        exact tail1
      · exact ev_if_neg g2 tail1
  by_cases g1 : r < 0
  · refine ev_if_pos g1 ?_
    by_cases g2 : b < 0
    · exact ev_if_pos g2 (ev_if_pos (show r > b by omega) (j0 _ rfl))
    · refine ev_if_neg g2 (ev_if_pos (show b > 0 by omega) (ev_if_pos ?_ (j0 _ rfl)))
      have : wrap64 (-b) = -b := by unfold fitsI at hb; unfold wrap64; omega
      show r > wrap64 (-b)
      omega
  · refine ev_if_neg g1 (ev_if_pos (show r ≥ 0 by omega) ?_)
    by_cases g2 : b > 0
    · exact ev_if_pos g2 (ev_if_pos (show r < b by omega) (j0 _ rfl))
    · refine ev_if_neg g2 (ev_if_pos (show b < 0 by omega) (j0 _ ?_))
      have : wrap64 (-r) = -r := by unfold fitsI at fr; unfold wrap64; omega
      show decide (wrap64 (-r) > b) = true
      rw [this]; simp; omega
end Go.Proofs.YtljadejgdbemoaaDoor.B
