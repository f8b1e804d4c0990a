/- What the reference's walk of Decode computes. -/
import Derived.Test.YtljadejgdbemoaaDoorPyXRowR
set_option linter.unusedVariables false
set_option linter.unusedSimpArgs false
namespace Go.Proofs.YtljadejgdbemoaaDoor.R
open Go.RowKit Go.Proofs.YtljadejgdbemoaaDoorW.PrintWords Go.Proofs.YtljadejgdbemoaaDoorW.PrintLast Go.Proofs.YtljadejgdbemoaaDoorX

/-! ### numbers -/
theorem ru_step (k : Nat) (x : List Int) (hx : ∀ b ∈ x, 0 ≤ b ∧ b ≤ 255) (x5 x6 : Int) (p : Nat) (hp : p < x.length) (hl : x.length < 9223372036854775807) (b : Int) (hb : x[p]? = some b) : barbicanref03_Uint.l1 (k + 1) x x5 x6 (p : Int) = barbicanref03_Uint.l1 k x x5 ((x6 * 128 + b % 128) % 18446744073709551616) ((p : Int) - 1) := by
  have hbr := hx b (List.mem_of_getElem? hb)
  rw [barbicanref03_Uint.l1.eq_2]
  have e1 : Int.tmod b 128 = b % 128 := Int.tmod_eq_emod_of_nonneg hbr.1
  have e2 : wrap64 ((p : Int) - 1) = (p : Int) - 1 := by unfold wrap64; omega
  simp only [show (p : Int) ≥ 0 by omega, show 0 ≤ (p : Int) by omega, show (p : Int) < (x.length : Int) by omega, if_true, rdn_at hb, e1, e2]
  congr 1
  rw [u64_wrap, u64_wrap, u64_wrap]
  omega
theorem ru_any (x : List Int) (hx : ∀ b ∈ x, 0 ≤ b ∧ b ≤ 255) (x5 : Nat) (hl : x.length < 9223372036854775807) (h5 : x5 < x.length) : ∀ (p : Nat) (x6 : Int), p ≤ x.length → 0 ≤ x6 → x6 < 18446744073709551616 → ∃ r, 0 ≤ r ∧ r < 18446744073709551616 ∧ Ev (fun k => barbicanref03_Uint.l1 k x (x5 : Int) x6 ((p : Int) - 1)) (r, ((x5 + 1 : Nat) : Int), 0)
  | 0, x6, hp, h0, h1 => by
    refine ⟨x6, h0, h1, ev_step (fun _ => barbicanref03_Uint.l1.eq_2 ..) ?_⟩
    rw [wrap_succ (j := x5) (by omega)]
    exact ev_if_neg (by omega) (ev_some _)
  | p + 1, x6, hp, h0, h1 => by
    obtain ⟨b, hb⟩ : ∃ b, x[p]? = some b := ⟨x[p], List.getElem?_eq_getElem (by omega)⟩
    obtain ⟨r, r1, r2, r3⟩ := ru_any x hx x5 hl h5 p ((x6 * 128 + b % 128) % 18446744073709551616) (by omega) (by omega) (by omega)
    refine ⟨r, r1, r2, ?_⟩
    rw [show (((p + 1 : Nat) : Int) - 1) = (p : Int) by omega]
    exact ev_step (fun k => ru_step k x hx x5 x6 p (by omega) hl b hb) r3
theorem ru_read (x : List Int) (hx : ∀ b ∈ x, 0 ≤ b ∧ b ≤ 255) (x5 m : Nat) (hl : x.length < 9223372036854775807) (h5 : x5 < x.length) (hm : m < 18446744073709551616) : ∀ (p : Nat), p ≤ x.length → (∀ i, i < p → ∀ b, x[i]? = some b → b % 128 = ((m / 128 ^ i % 128 : Nat) : Int)) → Ev (fun k => barbicanref03_Uint.l1 k x (x5 : Int) ((m / 128 ^ p : Nat) : Int) ((p : Int) - 1)) ((m : Int), ((x5 + 1 : Nat) : Int), 0)
  | 0, hp, h => by
    refine ev_step (fun _ => barbicanref03_Uint.l1.eq_2 ..) ?_
    rw [wrap_succ (j := x5) (by omega), Nat.pow_zero, Nat.div_one]
    exact ev_if_neg (by omega) (ev_some _)
  | p + 1, hp, h => by
    obtain ⟨b, hb⟩ : ∃ b, x[p]? = some b := ⟨x[p], List.getElem?_eq_getElem (by omega)⟩
    have hbm := h p (by omega) b hb
    have ih := ru_read x hx x5 m hl h5 hm p (by omega) (fun i hi => h i (by omega))
    rw [show (((p + 1 : Nat) : Int) - 1) = (p : Int) by omega]
    refine ev_step (fun k => ru_step k x hx x5 _ p (by omega) hl b hb) ?_
    have e : ((((m / 128 ^ (p + 1) : Nat) : Int) * 128 + b % 128) % 18446744073709551616) = ((m / 128 ^ p : Nat) : Int) := by
      have e1 : m / 128 ^ (p + 1) = m / 128 ^ p / 128 := by rw [Nat.pow_succ, Nat.div_div_eq_div_mul]
      have e2 : m / 128 ^ p ≤ m := Nat.div_le_self ..
      rw [hbm, e1]
      generalize m / 128 ^ p = d at e2 ⊢
      omega
    rw [e]
    exact ih
theorem uvar_at : ∀ (m i : Nat) (rest : List Int), i < (uvar m).length → ∃ b, (uvar m ++ rest)[i]? = some b ∧ b % 128 = ((m / 128 ^ i % 128 : Nat) : Int) ∧ (i + 1 < (uvar m).length → 128 ≤ b) ∧ (i + 1 = (uvar m).length → b < 128 ∧ b = ((m / 128 ^ i : Nat) : Int) ∧ (0 < i → b ≠ 0)) := by
  intro m
  induction m using Nat.strongRecOn with
  | ind m ih =>
    intro i rest hi
    by_cases h : m < 128
    · rw [uvar_small h] at hi ⊢
      simp only [List.length_cons, List.length_nil] at hi ⊢
      have : i = 0 := by omega
      subst this
      exact ⟨m, rfl, by rw [Nat.pow_zero, Nat.div_one]; omega, fun h => by omega, fun _ => ⟨by omega, by rw [Nat.pow_zero, Nat.div_one], fun h => by omega⟩⟩
    · rw [uvar_big h] at hi ⊢
      simp only [List.length_cons] at hi ⊢
      have hpos : 0 < (uvar (m / 128)).length := by
        by_cases h2 : m / 128 < 128
        · rw [uvar_small h2]; exact Nat.zero_lt_one
        · rw [uvar_big h2]; exact Nat.succ_pos _
      cases i with
      | zero => exact ⟨_, rfl, by rw [Nat.pow_zero, Nat.div_one]; omega, fun _ => by omega, fun h => by omega⟩
      | succ i =>
        obtain ⟨b, h1, h2, h3, h4⟩ := ih (m / 128) (by omega) i rest (by omega)
        have e : m / 128 ^ (i + 1) = m / 128 / 128 ^ i := by rw [Nat.pow_succ, Nat.mul_comm, Nat.div_div_eq_div_mul]
        refine ⟨b, h1, by rw [e]; exact h2, fun h => h3 (by omega), fun h => ?_⟩
        obtain ⟨a1, a2, a3⟩ := h4 (by omega)
        refine ⟨a1, by rw [e]; exact a2, fun _ => ?_⟩
        by_cases hi0 : 0 < i
        · exact a3 hi0
        · have : i = 0 := by omega
          subst this
          rw [Nat.pow_zero, Nat.div_one] at a2
          omega
/-- Whatever stands there. -/
theorem ru_uint_any (x : List Int) (hx : ∀ b ∈ x, 0 ≤ b ∧ b ≤ 255) (hl : x.length < 9223372036854775807) : ∃ r n e, Ev (fun k => barbicanref03_Uint.f k x) (r, ((n : Nat) : Int), e) ∧ 0 ≤ r ∧ r < 18446744073709551616 ∧ n ≤ x.length := by
  have hj2 : ∀ p : Nat, p < x.length → ∃ r n e, Ev (fun k => barbicanref03_Uint.j2 k x (p : Int)) (r, ((n : Nat) : Int), e) ∧ 0 ≤ r ∧ r < 18446744073709551616 ∧ n ≤ x.length := by
    intro p hp
    obtain ⟨r, r1, r2, r3⟩ := ru_any x hx p hl hp (p + 1) 0 (by omega) (by omega) (by omega)
    rw [show (((p + 1 : Nat) : Int) - 1) = (p : Int) by omega] at r3
    exact ⟨r, p + 1, 0, ev_step (fun _ => barbicanref03_Uint.j2.eq_2 ..) r3, r1, r2, by omega⟩
  have bad : ∀ (g : Nat → Option (Int × Int × Int)) (e : Int), Ev g (0, 0, e) → ∃ r n e, Ev g (r, ((n : Nat) : Int), e) ∧ 0 ≤ r ∧ r < 18446744073709551616 ∧ n ≤ x.length := fun g e h => ⟨0, 0, e, h, by omega, by omega, by omega⟩
  have hj1 : ∀ p : Nat, p ≤ 10 → p ≤ x.length → ∃ r n e, Ev (fun k => barbicanref03_Uint.j1 k x (p : Int)) (r, ((n : Nat) : Int), e) ∧ 0 ≤ r ∧ r < 18446744073709551616 ∧ n ≤ x.length := by
    intro p h10 hp
    by_cases a1 : p = 10
    · exact bad _ 3 (ev_step (fun _ => barbicanref03_Uint.j1.eq_2 ..) (ev_if_pos (by omega) (ev_some _)))
    · by_cases a2 : p = x.length
      · exact bad _ 12 (ev_step (fun _ => barbicanref03_Uint.j1.eq_2 ..) (ev_if_neg (by omega) (ev_if_pos (by omega) (ev_some _))))
      · obtain ⟨r, n, e, h1, h2, h3, h4⟩ := hj2 p (by omega)
        have two : ∃ r n e, Ev (fun k => if (p : Int) > 0 then (if (rd x (p : Int)) = 0 then (some (0, 0, 3)) else (barbicanref03_Uint.j2 k x (p : Int))) else (barbicanref03_Uint.j2 k x (p : Int))) (r, ((n : Nat) : Int), e) ∧ 0 ≤ r ∧ r < 18446744073709551616 ∧ n ≤ x.length := by
          by_cases a3 : (p : Int) > 0
          · by_cases a4 : rd x (p : Int) = 0
            · exact bad _ 3 (ev_if_pos a3 (ev_if_pos a4 (ev_some _)))
            · exact ⟨r, n, e, ev_if_pos a3 (ev_if_neg a4 h1), h2, h3, h4⟩
          · exact ⟨r, n, e, ev_if_neg a3 h1, h2, h3, h4⟩
        by_cases a5 : (p : Int) = 9
        · by_cases a6 : rd x (p : Int) > 1
          · exact bad _ 3 (ev_step (fun _ => barbicanref03_Uint.j1.eq_2 ..) (ev_if_neg (by omega) (ev_if_neg (by omega) (ev_if_pos a5 (ev_if_pos (by omega) (ev_if_pos (by omega) (ev_if_pos a6 (ev_some _))))))))
          · obtain ⟨r', n', e', g1, g2⟩ := two
            exact ⟨r', n', e', ev_step (fun _ => barbicanref03_Uint.j1.eq_2 ..) (ev_if_neg (by omega) (ev_if_neg (by omega) (ev_if_pos a5 (ev_if_pos (by omega) (ev_if_pos (by omega) (ev_if_neg a6 g1)))))), g2⟩
        · obtain ⟨r', n', e', g1, g2⟩ := two
          refine ⟨r', n', e', ev_step (fun _ => barbicanref03_Uint.j1.eq_2 ..) (ev_if_neg (by omega) (ev_if_neg (by omega) (ev_if_neg a5 ?_))), g2⟩
          simp only [show 0 ≤ (p : Int) by omega, show (p : Int) < (x.length : Int) by omega, if_true]
          exact g1
  have scan : ∀ (bs : List Int) (p : Nat), x.drop p = bs → p ≤ 10 → p ≤ x.length → ∃ r n e, Ev (fun k => barbicanref03_Uint.l0 k x (p : Int)) (r, ((n : Nat) : Int), e) ∧ 0 ≤ r ∧ r < 18446744073709551616 ∧ n ≤ x.length := by
    intro bs
    induction bs with
    | nil =>
      intro p hd h10 hp
      have := drop_nil hd
      obtain ⟨r, n, e, h1, h2⟩ := hj1 p h10 hp
      exact ⟨r, n, e, ev_step (fun _ => barbicanref03_Uint.l0.eq_2 ..) (ev_if_neg (by omega) h1), h2⟩
    | cons b bs ih =>
      intro p hd h10 hp
      obtain ⟨d1, d2, d3⟩ := drop_cons hd
      obtain ⟨r, n, e, h1, h2⟩ := hj1 p h10 hp
      by_cases a1 : (p : Int) < 10
      · by_cases a2 : b ≥ 128
        · obtain ⟨r', n', e', g1, g2⟩ := ih (p + 1) d3 (by omega) (by omega)
          refine ⟨r', n', e', ev_step (fun _ => barbicanref03_Uint.l0.eq_2 ..) (ev_if_pos (by omega) (ev_if_pos a1 (ev_if_pos (by omega) ?_))), g2⟩
          rw [rdn_at d1, wrap_succ (j := p) (by omega)]
          exact ev_if_pos a2 g1
        · refine ⟨r, n, e, ev_step (fun _ => barbicanref03_Uint.l0.eq_2 ..) (ev_if_pos (by omega) (ev_if_pos a1 (ev_if_pos (by omega) ?_))), h2⟩
          rw [rdn_at d1]
          exact ev_if_neg a2 h1
      · exact ⟨r, n, e, ev_step (fun _ => barbicanref03_Uint.l0.eq_2 ..) (ev_if_pos (by omega) (ev_if_neg a1 h1)), h2⟩
  exact scan x 0 rfl (by omega) (by omega)
/-- A number that is there. -/
theorem ru_uint_read (m : Nat) (rest : List Int) (hm : m < 18446744073709551616) (hr : ∀ b ∈ rest, 0 ≤ b ∧ b ≤ 255) (hl : rest.length ≤ 1099511627776) : Ev (fun k => barbicanref03_Uint.f k (uvar m ++ rest)) ((m : Int), ((uvar m).length : Int), 0) := by
  have hx : ∀ b ∈ uvar m ++ rest, 0 ≤ b ∧ b ≤ 255 := fun b hb => (List.mem_append.1 hb).elim (uvar_range m b) (hr b)
  have h10 := uvar_len64 hm
  have hlen : (uvar m ++ rest).length = (uvar m).length + rest.length := List.length_append
  have hpos : 0 < (uvar m).length := by
    by_cases h2 : m < 128
    · rw [uvar_small h2]; exact Nat.zero_lt_one
    · rw [uvar_big h2]; exact Nat.succ_pos _
  have scan : ∀ (d p : Nat), p + d + 1 = (uvar m).length → Ev (fun k => barbicanref03_Uint.l0 k (uvar m ++ rest) (p : Int)) ((m : Int), ((uvar m).length : Int), 0) := by
    intro d
    induction d with
    | zero =>
      intro p hp
      obtain ⟨b, b1, b2, b3, b4⟩ := uvar_at m p rest (by omega)
      obtain ⟨c1, c2, c3⟩ := b4 (by omega)
      have hd : m / 128 ^ (p + 1) = 0 := by
        rw [Nat.pow_succ, ← Nat.div_div_eq_div_mul]
        generalize m / 128 ^ p = d at c2 ⊢
        omega
      have hread := ru_read (uvar m ++ rest) hx p m (by omega) (by omega) hm (p + 1) (by omega) (fun i hi b' hb' => by
        obtain ⟨b'', q1, q2, _, _⟩ := uvar_at m i rest (by omega)
        rw [q1] at hb'
        rw [← Option.some.inj hb']; exact q2)
      rw [hd, show (((p + 1 : Nat) : Int) - 1) = (p : Int) by omega, show p + 1 = (uvar m).length by omega] at hread
      have hj2 : Ev (fun k => barbicanref03_Uint.j2 k (uvar m ++ rest) (p : Int)) ((m : Int), ((uvar m).length : Int), 0) := ev_step (fun _ => barbicanref03_Uint.j2.eq_2 ..) hread
      refine ev_step (fun _ => barbicanref03_Uint.l0.eq_2 ..) ?_
      refine ev_if_pos (by omega) (ev_if_pos (by omega) (ev_if_pos (by omega) ?_))
      rw [rdn_at b1]
      refine ev_if_neg (by omega) ?_
      refine ev_step (fun _ => barbicanref03_Uint.j1.eq_2 ..) ?_
      refine ev_if_neg (by omega) (ev_if_neg (by omega) ?_)
      rw [rdn_at b1]
      have two : Ev (fun k => if (p : Int) > 0 then (if b = 0 then (some (0, 0, 3)) else (barbicanref03_Uint.j2 k (uvar m ++ rest) (p : Int))) else (barbicanref03_Uint.j2 k (uvar m ++ rest) (p : Int))) ((m : Int), ((uvar m).length : Int), 0) := by
        by_cases a3 : (p : Int) > 0
        · exact ev_if_pos a3 (ev_if_neg (c3 (by omega)) hj2)
        · exact ev_if_neg a3 hj2
      by_cases a5 : (p : Int) = 9
      · have : ¬ (b > 1) := by
          have e9 : (128 : Nat) ^ 9 = 9223372036854775808 := by decide
          have : p = 9 := by omega
          subst this
          rw [c2, e9]
          omega
        exact ev_if_pos a5 (ev_if_pos (by omega) (ev_if_pos (by omega) (ev_if_neg this two)))
      · refine ev_if_neg a5 ?_
        simp only [show 0 ≤ (p : Int) by omega, show (p : Int) < ((uvar m ++ rest).length : Int) by omega, if_true]
        exact two
    | succ d ih =>
      intro p hp
      obtain ⟨b, b1, b2, b3, b4⟩ := uvar_at m p rest (by omega)
      refine ev_step (fun _ => barbicanref03_Uint.l0.eq_2 ..) ?_
      refine ev_if_pos (by omega) (ev_if_pos (by omega) (ev_if_pos (by omega) ?_))
      rw [rdn_at b1, wrap_succ (j := p) (by omega)]
      exact ev_if_pos (b3 (by omega)) (ih (p + 1) (by omega))
  exact scan ((uvar m).length - 1) 0 (by omega)
theorem ref_unzz {v : Nat} (h : v < 18446744073709551616) : (if (Int.tmod (v : Int) 2) = 1 then wrap64 ((wrap64 (-(wrap64 (IntKind.u64.wrap (Int.tdiv (v : Int) 2))))) - 1) else wrap64 (IntKind.u64.wrap (Int.tdiv (v : Int) 2))) = unzz v := by
  rw [Int.tmod_eq_emod_of_nonneg (by omega), Int.tdiv_eq_ediv_of_nonneg (by omega), u64_wrap]
  unfold unzz wrap64
  split <;> split <;> omega
theorem ref_int_any (x : List Int) (hx : ∀ b ∈ x, 0 ≤ b ∧ b ≤ 255) (hl : x.length < 9223372036854775807) : ∃ (a : Int) (n : Nat) (e : Int), Ev (fun k => barbicanref03_Int.f k x) (a, (n : Int), e) ∧ (-9223372036854775808 ≤ a ∧ a ≤ 9223372036854775807) ∧ n ≤ x.length := by
  obtain ⟨r, n, e, h1, h2, h3, h4⟩ := ru_uint_any x hx hl
  obtain ⟨v, rfl⟩ : ∃ v : Nat, r = (v : Int) := ⟨r.toNat, by omega⟩
  have hz := ref_unzz (v := v) (by omega)
  refine ⟨unzz v, n, e, ?_, unzz_range (by omega), h4⟩
  unfold barbicanref03_Int.f
  refine ev_bind h1 ?_
  by_cases h : Int.tmod (v : Int) 2 = 1
  · rw [if_pos h] at hz; rw [← hz]; exact ev_if_pos h (ev_some _)
  · rw [if_neg h] at hz; rw [← hz]; exact ev_if_neg h (ev_some _)
theorem ref_int_read (a : Int) (rest : List Int) (ha : -9223372036854775808 ≤ a ∧ a ≤ 9223372036854775807) (hr : ∀ b ∈ rest, 0 ≤ b ∧ b ≤ 255) (hl : rest.length ≤ 1099511627776) : Ev (fun k => barbicanref03_Int.f k (uvar (zz a) ++ rest)) (a, ((uvar (zz a)).length : Int), 0) := by
  have hz := ref_unzz (zz_lt ha.1 ha.2)
  rw [unzz_zz] at hz
  unfold barbicanref03_Int.f
  refine ev_bind (ru_uint_read (zz a) rest (zz_lt ha.1 ha.2) hr hl) ?_
  by_cases h : Int.tmod ((zz a : Nat) : Int) 2 = 1
  · rw [if_pos h] at hz; rw [hz]; exact ev_if_pos h (ev_some _)
  · rw [if_neg h] at hz; rw [hz]; exact ev_if_neg h (ev_some _)
/-- A text's length is there, and the text. -/
theorem ref_text_of (x : List Int) (r : Int) (n : Nat) (e : Int) (h0 : 0 ≤ r) (h1 : r < 18446744073709551616) (hn : n ≤ x.length) (hl : x.length ≤ 1099511627776) (hu : Ev (fun k => barbicanref03_Uint.f k x) (r, (n : Int), e)) :
    ∃ (s : ByteArray) (m : Nat) (e' : Int), Ev (fun k => barbicanref03_Text.f k x 4096) (s, (m : Int), e') ∧ s.size ≤ 4096 ∧ m ≤ x.length ∧ (e = 0 → r ≤ 4096 → n + r.toNat ≤ x.length → s = strOfNums ((x.take (n + r.toNat)).drop n) ∧ m = n + r.toNat) := by
  have e1 : IntKind.u64.wrap (4096 : Int) = 4096 := by decide
  have e2 : wrap64 ((x.length : Int) - (n : Int)) = ((x.length - n : Nat) : Int) := by unfold wrap64; omega
  have e3 : IntKind.u64.wrap ((x.length - n : Nat) : Int) = ((x.length - n : Nat) : Int) := u64_wrap_id (by omega) (by omega)
  unfold barbicanref03_Text.f
  have hnil : (⟨#[]⟩ : ByteArray).size ≤ 4096 := by decide
  by_cases he : e = 0
  · by_cases a1 : r > 4096
    · refine ⟨⟨#[]⟩, 0, 2, ev_if_neg (by decide) (ev_bind hu (ev_if_pos he (ev_if_pos (by rw [e1]; exact a1) (ev_some _)))), hnil, by omega, fun _ h => absurd h (by omega)⟩
    · by_cases a2 : r > ((x.length - n : Nat) : Int)
      · refine ⟨⟨#[]⟩, 0, 12, ev_if_neg (by decide) (ev_bind hu (ev_if_pos he (ev_if_neg (by rw [e1]; exact a1) (ev_if_pos (by rw [e2, e3]; exact a2) (ev_some _))))), hnil, by omega, fun _ _ h => absurd h (by omega)⟩
      · have e4 : wrap64 r = r := by unfold wrap64; omega
        have e5 : wrap64 ((n : Int) + r) = ((n + r.toNat : Nat) : Int) := by unfold wrap64; omega
        refine ⟨strOfNums ((x.take (n + r.toNat)).drop n), n + r.toNat, 0, ev_if_neg (by decide) (ev_bind hu (ev_if_pos he (ev_if_neg (by rw [e1]; exact a1) (ev_if_neg (by rw [e2, e3]; exact a2) ?_)))), ?_, by omega, fun _ _ _ => ⟨rfl, rfl⟩⟩
        · simp only [e4, e5, show (0 : Int) ≤ (n : Int) by omega, show (n : Int) ≤ ((n + r.toNat : Nat) : Int) by omega, show ((n + r.toNat : Nat) : Int) ≤ (x.length : Int) by omega, if_true, Int.toNat_natCast]
          exact ev_some _
        · rw [str_size, List.length_drop, List.length_take]; omega
  · exact ⟨⟨#[]⟩, 0, e, ev_if_neg (by decide) (ev_bind hu (ev_if_neg he (ev_some _))), hnil, by omega, fun h => absurd h he⟩
theorem ref_text_any (x : List Int) (hx : ∀ b ∈ x, 0 ≤ b ∧ b ≤ 255) (hl : x.length ≤ 1099511627776) : ∃ (s : ByteArray) (m : Nat) (e : Int), Ev (fun k => barbicanref03_Text.f k x 4096) (s, (m : Int), e) ∧ s.size ≤ 4096 ∧ m ≤ x.length := by
  obtain ⟨r, n, e, h1, h2, h3, h4⟩ := ru_uint_any x hx (by omega)
  obtain ⟨s, m, e', a1, a2, a3, _⟩ := ref_text_of x r n e h2 h3 h4 hl h1
  exact ⟨s, m, e', a1, a2, a3⟩
theorem ref_text_read (s : ByteArray) (rest : List Int) (hs : s.size ≤ 4096) (hr : ∀ b ∈ rest, 0 ≤ b ∧ b ≤ 255) (hl : rest.length ≤ 1000000000000) : ∃ e, Ev (fun k => barbicanref03_Text.f k (uvar s.size ++ (bytesOf s ++ rest)) 4096) (s, (((uvar s.size).length + s.size : Nat) : Int), e) := by
  have h10 := uvar_len64 (n := s.size) (by omega)
  have hlen : (uvar s.size ++ (bytesOf s ++ rest)).length = (uvar s.size).length + (s.size + rest.length) := by simp only [List.length_append, bytesOf_length]
  have hu := ru_uint_read s.size (bytesOf s ++ rest) (by omega) (fun b hb => (List.mem_append.1 hb).elim (bytesOf_range s b) (hr b)) (by rw [List.length_append, bytesOf_length]; omega)
  obtain ⟨t, m, e', a1, _, _, a4⟩ := ref_text_of (uvar s.size ++ (bytesOf s ++ rest)) (s.size : Int) (uvar s.size).length 0 (by omega) (by omega) (by omega) (by omega) hu
  obtain ⟨q1, q2⟩ := a4 rfl (by omega) (by omega)
  have e6 : ((uvar s.size ++ (bytesOf s ++ rest)).take ((uvar s.size).length + s.size)).drop (uvar s.size).length = bytesOf s := by
    rw [List.take_length_add_append, List.drop_left' rfl, List.take_append_of_le_length (by rw [bytesOf_length]; omega), List.take_of_length_le (by rw [bytesOf_length]; omega)]
  rw [Int.toNat_natCast, e6, str_bytes] at q1
  rw [Int.toNat_natCast] at q2
  rw [q1, q2] at a1
  exact ⟨e', a1⟩
end Go.Proofs.YtljadejgdbemoaaDoor.R
