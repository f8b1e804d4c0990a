/- What the walk of the reference's One computes, told plainly. -/
import Derived.Test.YtaffmgphcmmdhaaGreatDoorPyXLxQ
set_option linter.unusedVariables false
set_option linter.unusedSimpArgs false
namespace Go.Proofs.YtaffmgphcmmdhaaGreatDoor.Q
open Go.RowKit Go.Proofs.YtaffmgphcmmdhaaGreatDoorW.PrintWords Go.Proofs.YtaffmgphcmmdhaaGreatDoorW.PrintLast Go.Proofs.YtaffmgphcmmdhaaGreatDoorX
open Go.Proofs.YtaffmgphcmmdhaaGreatDoorX.Lx
theorem rletter_eq : ∀ c : UInt8, barbicanref18_letter.f (c.toNat : Int) = some (isL c) := all_u8 (by decide +kernel)
theorem rdigit_eq : ∀ c : UInt8, barbicanref18_digit.f (c.toNat : Int) = some (isD c) := all_u8 (by decide +kernel)
theorem low_nat : ∀ c : UInt8, 65 ≤ c.toNat ∧ c.toNat ≤ 90 → ((c.toNat : Int) + 32) % 256 = ((low c).toNat : Int) := all_u8 (by decide +kernel)
theorem low_id : ∀ c : UInt8, ¬ (65 ≤ c.toNat ∧ c.toNat ≤ 90) → low c = c := all_u8 (by decide +kernel)
theorem ne39 {c : UInt8} (h : c ≠ 39) : ¬ (c.toNat : Int) = 39 := fun e => h (UInt8.toNat_inj.1 (by have : ((39 : UInt8).toNat : Int) = 39 := rfl; omega))
theorem rword_go (s : ByteArray) (hz : s.size ≤ 4194304) (a : Int) : ∀ (l : List UInt8) (i : Nat) (x : List UInt8), s.data.toList.drop i = l → x.length ≤ i →
    Ev (fun k => barbicanref18_word.l0 k s a (numsB x) (i : Int)) (1, ⟨(x ++ (l.takeWhile isW).map low).toArray⟩, 0, a, ((i + (l.takeWhile isW).length : Nat) : Int), 0)
  | [], i, x, h, hx => by
    have h1 := drop_nil h
    rw [size_data] at h1
    refine ev_step (fun _ => barbicanref18_word.l0.eq_2 ..) (ev_if_neg (by omega) (ev_step (fun _ => barbicanref18_word.j1.eq_2 ..) (ev_if_neg (by decide) ?_)))
    rw [str_nums, List.takeWhile_nil, List.map_nil, List.append_nil]
    exact ev_some _
  | c :: l, i, x, h, hx => by
    obtain ⟨_, h2, h3⟩ := drop_cons h
    rw [size_data] at h2
    have hj : Ev (fun k => barbicanref18_word.j1 k s a (numsB x) (i : Int) (isW c)) (1, ⟨(x ++ ((c :: l).takeWhile isW).map low).toArray⟩, 0, a, ((i + ((c :: l).takeWhile isW).length : Nat) : Int), 0) := by
      refine ev_step (fun _ => barbicanref18_word.j1.eq_2 ..) ?_
      rw [List.takeWhile_cons]
      by_cases hc : isW c = true
      · rw [if_pos hc]
        refine ev_if_pos hc (ev_if_pos (by omega) (ev_if_pos (by omega) ?_))
        rw [bt_at h, wsucc (by omega)]
        have hlen : (numsB x).length < 140737488355328 := by rw [numsB_length]; omega
        have ih := rword_go s hz a l (i + 1) (x ++ [low c]) h3 (by rw [List.length_append]; simp only [List.length_cons, List.length_nil]; omega)
        rw [numsB_app] at ih
        have e1 : x ++ [low c] ++ (l.takeWhile isW).map low = x ++ (c :: l.takeWhile isW).map low := by simp
        rw [e1] at ih
        rw [List.length_cons, show i + ((l.takeWhile isW).length + 1) = i + 1 + (l.takeWhile isW).length by omega]
        by_cases h65 : (c.toNat : Int) ≥ 65
        · refine ev_if_pos h65 ?_
          by_cases h90 : (c.toNat : Int) ≤ 90
          · refine ev_if_pos h90 (ev_if_pos hlen ?_)
            rw [low_nat c ⟨by omega, by omega⟩]
            exact ih
          · refine ev_if_neg h90 (ev_if_pos hlen ?_)
            have e2 := low_id c (fun hh => h90 (by omega))
            rw [e2] at ih
            rw [e2] at *
            exact ih
        · refine ev_if_neg h65 (ev_if_pos hlen ?_)
          have e2 := low_id c (fun hh => h65 (by omega))
          rw [e2] at ih
          exact ih
      · rw [if_neg hc]
        refine ev_if_neg hc ?_
        rw [str_nums, List.map_nil, List.append_nil]
        exact ev_some _
    refine ev_step (fun _ => barbicanref18_word.l0.eq_2 ..) (ev_if_pos (by omega) (ev_if_pos (by omega) ?_))
    rw [bt_at h, rletter_eq]
    refine ev_bind_some ?_
    have hw : isW c = (isL c || isD c || decide (c = 95)) := rfl
    cases hL : isL c with
    | true =>
      rw [hL] at hw
      rw [hw] at hj
      exact ev_if_pos rfl hj
    | false =>
      refine ev_if_neg (by decide) ?_
      rw [rdigit_eq]
      refine ev_bind_some ?_
      cases hD : isD c with
      | true =>
        rw [hL, hD] at hw
        rw [hw] at hj
        exact ev_if_pos rfl hj
      | false =>
        refine ev_if_neg (by decide) ?_
        have e : ((c.toNat : Int) == 95) = isW c := by
          rw [hw, hL, hD, Bool.false_or, Bool.false_or, Bool.eq_iff_iff, beq_iff_eq, decide_eq_true_eq]
          exact ⟨fun h => UInt8.toNat_inj.1 (by have : ((95 : UInt8).toNat : Int) = 95 := rfl; omega), fun h => by rw [h]; rfl⟩
        rw [e]
        exact hj
def numR (a : Int) (j : Nat) (z : Nat × Bool) : Int × ByteArray × Int × Int × Int × Int := if z.2 = true then (0, ⟨#[]⟩, 0, 0, a, 5) else (2, ⟨#[]⟩, (z.1 : Int), a, (j : Int), 0)
theorem rnumber_go (s : ByteArray) (hz : s.size ≤ 4194304) (a : Int) : ∀ (l : List UInt8) (i : Nat) (n : Nat) (o : Bool), s.data.toList.drop i = l → n ≤ 9223372036854775807 →
    Ev (fun k => barbicanref18_number.l0 k s a (n : Int) (i : Int) o) (numR a (i + (l.takeWhile isD).length) (refN n o (l.takeWhile isD)))
  | [], i, n, o, h, hn => by
    have h1 := drop_nil h
    rw [size_data] at h1
    refine ev_step (fun _ => barbicanref18_number.l0.eq_2 ..) (ev_if_neg (by omega) (ev_step (fun _ => barbicanref18_number.j1.eq_2 ..) (ev_if_neg (by decide) ?_)))
    rw [List.takeWhile_nil]
    unfold numR refN
    cases o with
    | true => exact ev_if_pos rfl (ev_some _)
    | false =>
      refine ev_if_neg (by decide) ?_
      have : wrap64 (n : Int) = (n : Int) := by unfold wrap64; omega
      rw [this]
      exact ev_some _
  | c :: l, i, n, o, h, hn => by
    obtain ⟨_, h2, h3⟩ := drop_cons h
    rw [size_data] at h2
    refine ev_step (fun _ => barbicanref18_number.l0.eq_2 ..) (ev_if_pos (by omega) (ev_if_pos (by omega) ?_))
    rw [bt_at h, rdigit_eq]
    refine ev_bind_some (ev_step (fun _ => barbicanref18_number.j1.eq_2 ..) ?_)
    rw [List.takeWhile_cons]
    by_cases hc : isD c = true
    · rw [if_pos hc]
      refine ev_if_pos hc (ev_if_pos (by omega) (ev_if_pos (by omega) ?_))
      have hd : 48 ≤ c.toNat ∧ c.toNat ≤ 57 := by unfold isD at hc; rwa [decide_eq_true_eq] at hc
      rw [bt_at h, wsucc (by omega), List.length_cons, show i + ((l.takeWhile isD).length + 1) = i + 1 + (l.takeWhile isD).length by omega, refN]
      have ed : ((c.toNat : Int) - 48) % 256 = ((c.toNat - 48 : Nat) : Int) := by omega
      rw [ed]
      cases o with
      | true =>
        rw [if_pos (.inl rfl)]
        exact ev_if_pos rfl (rnumber_go s hz a l (i + 1) n true h3 hn)
      | false =>
        refine ev_if_neg (by decide) ?_
        by_cases hb : n > (9223372036854775807 - (c.toNat - 48)) / 10
        · rw [if_pos (.inr hb)]
          exact ev_if_pos (by omega) (rnumber_go s hz a l (i + 1) n true h3 hn)
        · have hno : ¬ (false = true ∨ n > (9223372036854775807 - (c.toNat - 48)) / 10) := fun h => h.elim (fun h => by cases h) hb
          rw [if_neg hno]
          refine ev_if_neg (by omega) ?_
          have e : IntKind.u64.wrap (IntKind.u64.wrap (10 * (n : Int)) + ((c.toNat - 48 : Nat) : Int)) = ((10 * n + (c.toNat - 48) : Nat) : Int) := by
            rw [u64_wrap, u64_wrap]; omega
          rw [e]
          exact rnumber_go s hz a l (i + 1) (10 * n + (c.toNat - 48)) false h3 (by omega)
    · rw [if_neg hc]
      refine ev_if_neg hc ?_
      unfold numR refN
      cases o with
      | true => exact ev_if_pos rfl (ev_some _)
      | false =>
        refine ev_if_neg (by decide) ?_
        have : wrap64 (n : Int) = (n : Int) := by unfold wrap64; omega
        rw [this]
        exact ev_some _
def rtxtR (a : Int) (x : List UInt8) (i : Nat) : Option (List UInt8 × Nat) → Int × ByteArray × Int × Int × Int × Int
  | some (t, n) => (3, ⟨(x ++ t).toArray⟩, 0, a, ((i + n : Nat) : Int), 0)
  | none => (0, ⟨#[]⟩, 0, 0, a, 3)
theorem rtext_go (s : ByteArray) (hz : s.size ≤ 4194304) (a : Int) : ∀ (n : Nat) (l : List UInt8) (i : Nat) (x : List UInt8), l.length ≤ n → s.data.toList.drop i = l → x.length ≤ i →
    Ev (fun k => barbicanref18_text.l0 k s a (numsB x) (i : Int)) (rtxtR a x i (txt l)) := by
  intro n
  induction n with
  | zero =>
    intro l i x hn hl hx
    cases l with
    | nil =>
      have h1 := drop_nil hl
      rw [size_data] at h1
      exact ev_step (fun _ => barbicanref18_text.l0.eq_2 ..) (ev_if_neg (by omega) (ev_some _))
    | cons c l => simp at hn
  | succ n ih =>
    intro l i x hn hl hx
    cases l with
    | nil =>
      have h1 := drop_nil hl
      rw [size_data] at h1
      exact ev_step (fun _ => barbicanref18_text.l0.eq_2 ..) (ev_if_neg (by omega) (ev_some _))
    | cons c l =>
      obtain ⟨_, h2, h3⟩ := drop_cons hl
      rw [size_data] at h2
      simp only [List.length_cons] at hn
      have hlen : (numsB x).length < 140737488355328 := by rw [numsB_length]; omega
      have hb : ∀ (q : Bool), (q = true ↔ (c.toNat < 32 ∨ 126 < c.toNat)) → Ev (fun k => barbicanref18_text.j1 k s a (numsB x) (i : Int) q) (rtxtR a x i (txt (c :: l))) := by
        intro q hq
        refine ev_step (fun _ => barbicanref18_text.j1.eq_2 ..) ?_
        by_cases hbad : c.toNat < 32 ∨ 126 < c.toNat
        · refine ev_if_pos (hq.2 hbad) ?_
          have e : txt (c :: l) = none := by cases l <;> rw [txt, if_pos hbad]
          rw [e]; exact ev_some _
        · refine ev_if_neg (fun h => hbad (hq.1 h)) (ev_if_pos (by omega) (ev_if_pos (by omega) ?_))
          rw [bt_at hl, wsucc (by omega)]
          by_cases h39 : c = 39
          · subst h39
            refine ev_if_pos (by decide) ?_
            cases l with
            | nil =>
              have h4 := drop_nil h3
              rw [size_data] at h4
              refine ev_if_neg (by omega) ?_
              rw [str_nums]
              have e : txt [39] = some ([], 1) := rfl
              rw [e]
              simp only [rtxtR, List.append_nil]
              exact ev_some _
            | cons d r =>
              obtain ⟨_, g2, g3⟩ := drop_cons h3
              rw [size_data] at g2
              simp only [List.length_cons] at hn
              refine ev_if_pos (by omega) (ev_if_pos (by omega) ?_)
              rw [bt_at h3]
              by_cases hd : d = 39
              · subst hd
                refine ev_if_pos (by decide) (ev_if_pos hlen ?_)
                rw [wsucc (by omega), txt_qq]
                have := ih r (i + 1 + 1) (x ++ [39]) (by omega) g3 (by rw [List.length_append]; simp only [List.length_cons, List.length_nil]; omega)
                rw [numsB_app] at this
                cases ht : txt r with
                | none => rw [ht] at this; exact this
                | some z =>
                  obtain ⟨t, m⟩ := z
                  rw [ht] at this
                  simp only [rtxtR, Option.map_some] at this ⊢
                  rw [show i + (m + 2) = i + 1 + 1 + m by omega, show x ++ 39 :: t = x ++ [39] ++ t by simp]
                  exact this
              · refine ev_if_neg (ne39 hd) ?_
                rw [str_nums, txt_qn hd]
                simp only [rtxtR, List.append_nil]
                exact ev_some _
          · refine ev_if_neg (ne39 h39) (ev_if_pos hlen ?_)
            have := ih l (i + 1) (x ++ [c]) (by omega) h3 (by rw [List.length_append]; simp only [List.length_cons, List.length_nil]; omega)
            rw [numsB_app] at this
            have e : txt (c :: l) = (txt l).map (fun r => (c :: r.1, r.2 + 1)) := by
              cases l with
              | nil =>
                have e0 : txt [c] = none := by rw [txt, if_neg hbad, if_neg h39]
                rw [e0]; rfl
              | cons d r => rw [txt, if_neg hbad, if_neg h39]
            rw [e]
            cases ht : txt l with
            | none => rw [ht] at this; exact this
            | some z =>
              obtain ⟨t, m⟩ := z
              rw [ht] at this
              simp only [rtxtR, Option.map_some] at this ⊢
              rw [show i + (m + 1) = i + 1 + m by omega, show x ++ c :: t = x ++ [c] ++ t by simp]
              exact this
      refine ev_step (fun _ => barbicanref18_text.l0.eq_2 ..) (ev_if_pos (by omega) (ev_if_pos (by omega) ?_))
      rw [bt_at hl]
      by_cases h32 : (c.toNat : Int) < 32
      · exact ev_if_pos h32 (hb true (by simp only [true_iff]; omega))
      · refine ev_if_neg h32 (hb _ ?_)
        rw [decide_eq_true_eq]; omega
/-! ### signs -/
def isS (c : UInt8) : Bool := decide (c = 40 ∨ c = 41 ∨ c = 44 ∨ c = 42 ∨ c = 43 ∨ c = 45 ∨ c = 47 ∨ c = 37 ∨ c = 61 ∨ c = 60 ∨ c = 62)
theorem single_13 : ∀ c : UInt8, barbicanref18_single.f 13 (c.toNat : Int) = some (isS c) := all_u8 (by decide +kernel)
theorem single_ev (c : UInt8) : Ev (fun k => barbicanref18_single.f k (c.toNat : Int)) (isS c) := Ev.of (fun k => barbicanref18_single.mono _ k) (single_13 c)
def tokQ (a : Nat) : Except Int (Tok × Nat) → Int × ByteArray × Int × Int × Int × Int
  | .ok ((k, t, v), n) => (k, ⟨t.toArray⟩, v, (a : Int), ((a + n : Nat) : Int), 0)
  | .error e => (0, ⟨#[]⟩, 0, 0, (a : Int), e)
theorem One_ev (s : ByteArray) (hz : s.size ≤ 4194304) (a : Nat) {c : UInt8} {r : List UInt8} (hl : s.data.toList.drop a = c :: r) : Ev (fun k => barbicanref18_One.f k s (a : Int)) (tokQ a (one (c :: r))) := by
  obtain ⟨_, h2, h3⟩ := drop_cons hl
  have hlen := congrArg List.length hl
  rw [List.length_drop, List.length_cons] at hlen
  rw [size_data] at h2 hlen
  unfold barbicanref18_One.f
  refine ev_if_pos (by omega) (ev_if_pos (by omega) ?_)
  rw [bt_at hl, rletter_eq]
  refine ev_bind_some ?_
  by_cases hL : isL c = true
  · refine ev_if_pos hL ?_
    have := rword_go s hz (a : Int) (c :: r) a [] hl (Nat.zero_le _)
    rw [List.nil_append] at this
    refine ev_bind this ?_
    rw [one, if_pos hL]
    exact ev_some _
  · refine ev_if_neg hL ?_
    rw [rdigit_eq]
    refine ev_bind_some ?_
    by_cases hD : isD c = true
    · refine ev_if_pos hD ?_
      have := rnumber_go s hz (a : Int) (c :: r) a 0 false hl (by omega)
      refine ev_bind this ?_
      rw [one, if_neg hL, if_pos hD]
      have hall : ∀ x ∈ (c :: r).takeWhile isD, isD x = true := fun x hx => tw_all isD _ x hx
      obtain ⟨e1, e2⟩ := refN_eq _ 0 hall (by omega)
      by_cases hv : valN 0 ((c :: r).takeWhile isD) ≤ 9223372036854775807
      · rw [if_pos hv, e1 hv]
        exact ev_some _
      · rw [if_neg hv]
        unfold numR
        rw [if_pos (e2 hv)]
        exact ev_some _
    · refine ev_if_neg hD ?_
      by_cases hq : c = 39
      · subst hq
        refine ev_if_pos (by decide) ?_
        have : Ev (fun k => barbicanref18_text.f k s (a : Int)) (rtxtR (a : Int) [] (a + 1) (txt r)) := by
          unfold barbicanref18_text.f
          rw [wsucc (by omega)]
          exact rtext_go s hz (a : Int) r.length r (a + 1) [] (Nat.le_refl _) h3 (Nat.zero_le _)
        refine ev_bind this ?_
        rw [one, if_neg hL, if_neg hD, if_pos rfl]
        cases ht : txt r with
        | none => exact ev_some _
        | some z =>
          obtain ⟨t, m⟩ := z
          simp only [rtxtR, List.nil_append, tokQ]
          rw [show a + (m + 1) = a + 1 + m by omega]
          exact ev_some _
      · refine ev_if_neg (ne39 hq) ?_
        have w2 : wrap64 ((a : Int) + 2) = ((a + 2 : Nat) : Int) := by unfold wrap64; omega
        rw [w2]
        rw [one, if_neg hL, if_neg hD, if_neg hq]
        have hj0 : ∀ q : Bool, (q = true → ∃ d r', r = d :: r' ∧ sgn c r.head? = some [c, d]) → (q = false → sgn c r.head? = if isS c = true then some [c] else none) →
            Ev (fun k => barbicanref18_One.j0 k s (a : Int) (c.toNat : Int) q) (tokQ a (match sgn c r.head? with | some x => .ok ((4, x, 0), x.length) | none => .error 3)) := by
          intro q hq1 hq2
          refine ev_step (fun _ => barbicanref18_One.j0.eq_2 ..) ?_
          cases q with
          | true =>
            obtain ⟨d, r', rfl, hs⟩ := hq1 rfl
            simp only [List.length_cons] at hlen
            rw [hs, w2]
            refine ev_if_pos rfl (ev_if_pos (by omega) (ev_if_pos (by omega) (ev_if_pos (by omega) ?_)))
            rw [Int.toNat_natCast, Int.toNat_natCast]
            have hx : s.extract a (a + 2) = ⟨[c, d].toArray⟩ := by
              apply ba_ext
              rw [ext_data, List.drop_take, hl, show a + 2 - a = 2 by omega]; rfl
            rw [hx]
            exact ev_some _
          | false =>
            refine ev_if_neg (by decide) (ev_bind (single_ev c) ?_)
            have w1 : wrap64 ((a : Int) + 1) = ((a + 1 : Nat) : Int) := wsucc (by omega)
            rw [w1]
            by_cases hS : isS c = true
            · rw [show sgn c r.head? = some [c] by rw [hq2 rfl, if_pos hS]]
              refine ev_if_pos hS (ev_if_pos (by omega) (ev_if_pos (by omega) (ev_if_pos (by omega) ?_)))
              rw [Int.toNat_natCast, Int.toNat_natCast]
              have hx : s.extract a (a + 1) = ⟨[c].toArray⟩ := by
                apply ba_ext
                rw [ext_data, List.drop_take, hl, show a + 1 - a = 1 by omega]; rfl
              rw [hx]
              exact ev_some _
            · rw [show sgn c r.head? = none by rw [hq2 rfl, if_neg hS]]
              exact ev_if_neg hS (ev_some _)
        cases r with
        | nil =>
          simp only [List.length_nil] at hlen
          refine ev_if_neg (by omega) (hj0 false (fun h => by cases h) fun _ => ?_)
          unfold sgn isS
          simp
        | cons d r' =>
          simp only [List.length_cons] at hlen
          refine ev_if_pos (by omega) (ev_if_pos (by omega) ?_)
          rw [Int.toNat_natCast, Int.toNat_natCast]
          have hx : (s.extract a (a + 2)).toList = [c, d] := by
            rw [toList_data, ext_data, List.drop_take, hl, show a + 2 - a = 2 by omega]; rfl
          have hp : barbicanref18_pair.f (s.extract a (a + 2)) = some (decide ((c = 60 ∧ d = 62) ∨ (c = 60 ∧ d = 61) ∨ (c = 62 ∧ d = 61) ∨ (c = 124 ∧ d = 124))) := by
            unfold barbicanref18_pair.f
            rw [hx]
            simp only [List.cons.injEq, and_true]
            by_cases e1 : c = 60 ∧ d = 62
            · rw [if_pos e1, decide_eq_true (.inl e1)]
            rw [if_neg e1]
            by_cases e2 : c = 60 ∧ d = 61
            · rw [if_pos e2, decide_eq_true (.inr (.inl e2))]
            rw [if_neg e2]
            by_cases e3 : c = 62 ∧ d = 61
            · rw [if_pos e3, decide_eq_true (.inr (.inr (.inl e3)))]
            rw [if_neg e3]
            congr 1
            rw [Bool.eq_iff_iff, beq_iff_eq, decide_eq_true_eq]
            simp [e1, e2, e3]
          rw [hp]
          refine ev_bind_some (hj0 _ (fun h => ⟨d, r', rfl, ?_⟩) fun h => ?_)
          · rw [decide_eq_true_eq] at h
            unfold sgn
            rw [List.head?_cons]
            rcases h with ⟨rfl, rfl⟩ | ⟨rfl, rfl⟩ | ⟨rfl, rfl⟩ | ⟨rfl, rfl⟩ <;> rfl
          · rw [decide_eq_false_iff_not] at h
            simp only [not_or] at h
            unfold sgn isS
            simp only [List.head?_cons, Option.some.injEq, decide_eq_true_eq]
            rw [if_neg h.1, if_neg h.2.1, if_neg h.2.2.1, if_neg h.2.2.2]
end Go.Proofs.YtaffmgphcmmdhaaGreatDoor.Q
