/- What the walks of package lex compute, told plainly: one token, all tokens. -/
import Derived.Test.YtaffmgphcmmdhaaGreatDoorPyQx
import Derived.Test.YtaffmgphcmmdhaaGreatDoorPyXLn
import Derived.Test.YtaffmgphcmmdhaaGreatDoorPyXLc
import Derived.Lib.Case
set_option linter.unusedVariables false
set_option linter.unusedSimpArgs false
namespace Go.Proofs.YtaffmgphcmmdhaaGreatDoor.Q
open Go.RowKit Go.Proofs.YtaffmgphcmmdhaaGreatDoorW.PrintWords Go.Proofs.YtaffmgphcmmdhaaGreatDoorW.PrintLast Go.Proofs.YtaffmgphcmmdhaaGreatDoorX
open Go.Proofs.YtaffmgphcmmdhaaGreatDoorX.Lx
theorem drop_cons {α : Type} {xs : List α} {j : Nat} {c : α} {cs : List α} (h : xs.drop j = c :: cs) : xs[j]? = some c ∧ j < xs.length ∧ xs.drop (j + 1) = cs := by
  have hj : j < xs.length := by
    rcases Nat.lt_or_ge j xs.length with hj | hj
    · exact hj
    · rw [List.drop_eq_nil_of_le hj] at h; cases h
  rw [List.drop_eq_getElem_cons hj] at h
  injection h with h1 h2
  exact ⟨by rw [List.getElem?_eq_getElem hj, h1], hj, h2⟩
theorem drop_nil {α : Type} {xs : List α} {j : Nat} (h : xs.drop j = []) : xs.length ≤ j := List.drop_eq_nil_iff.1 h
theorem bt_at {s : ByteArray} {i : Nat} {c : UInt8} {cs : List UInt8} (h : s.data.toList.drop i = c :: cs) : bt s (i : Int) = (c.toNat : Int) := by
  obtain ⟨h1, h2, _⟩ := drop_cons h
  have hi : i < s.size := by rw [← size_data]; exact h2
  have e : s[i]'hi = c := by
    show s.data[i]'_ = c
    rw [← Array.getElem_toList]
    have := List.getElem?_eq_getElem h2
    rw [this] at h1
    exact Option.some.inj h1
  unfold bt
  rw [Int.toNat_natCast, dif_pos hi, e]
theorem ext_data (s : ByteArray) (i j : Nat) : (s.extract i j).data.toList = (s.data.toList.take j).drop i := by
  rw [ByteArray.data_extract, Array.toList_extract, List.extract_eq_take_drop, List.drop_take]
theorem ext_drop (s : ByteArray) (i : Nat) : (s.extract i s.size).data.toList = s.data.toList.drop i := by
  rw [ext_data, ← size_data, List.take_length]
theorem take_tw (p : UInt8 → Bool) (l : List UInt8) : l.take (l.takeWhile p).length = l.takeWhile p := (List.prefix_iff_eq_take.1 (List.takeWhile_prefix p)).symm
/-! ### bytes -/
theorem letter_eq : ∀ c : UInt8, lex_letter.f (c.toNat : Int) = some (isL c) := all_u8 (by decide +kernel)
theorem digit_eq : ∀ c : UInt8, lex_digit.f (c.toNat : Int) = some (isD c) := all_u8 (by decide +kernel)
theorem word_eq : ∀ c : UInt8, lex_one_1.f (c.toNat : Int) = some (isW c) := all_u8 (by decide +kernel)
theorem wsucc {j : Nat} (h : j < 9223372036854775807) : wrap64 ((j : Int) + 1) = ((j + 1 : Nat) : Int) := by unfold wrap64; omega
/-! ### how many bytes are so -/
theorem while_word (s : ByteArray) (hz : s.size ≤ 4194304) : ∀ (l : List UInt8) (i : Nat), s.data.toList.drop i = l → Ev (fun k => lex_while_of_one_1.l0 k s (i : Int)) (((i + (l.takeWhile isW).length : Nat)) : Int)
  | [], i, h => by
    have h1 := drop_nil h
    rw [size_data] at h1
    refine ev_step (fun _ => lex_while_of_one_1.l0.eq_2 ..) (ev_if_neg (by omega) (ev_some _))
  | c :: l, i, h => by
    obtain ⟨_, h2, h3⟩ := drop_cons h
    rw [size_data] at h2
    refine ev_step (fun _ => lex_while_of_one_1.l0.eq_2 ..) (ev_if_pos (by omega) (ev_if_pos (by omega) ?_))
    rw [bt_at h, word_eq]
    refine ev_bind_some ?_
    rw [List.takeWhile_cons]
    by_cases hc : isW c = true
    · rw [if_pos hc]
      refine ev_if_pos hc ?_
      rw [wsucc (by omega)]
      have := while_word s hz l (i + 1) h3
      rw [List.length_cons, show i + ((l.takeWhile isW).length + 1) = i + 1 + (l.takeWhile isW).length by omega]
      exact this
    · rw [if_neg hc]
      exact ev_if_neg hc (ev_some _)
theorem while_digit (s : ByteArray) (hz : s.size ≤ 4194304) : ∀ (l : List UInt8) (i : Nat), s.data.toList.drop i = l → Ev (fun k => lex_while_of_digit.l0 k s (i : Int)) (((i + (l.takeWhile isD).length : Nat)) : Int)
  | [], i, h => by
    have h1 := drop_nil h
    rw [size_data] at h1
    refine ev_step (fun _ => lex_while_of_digit.l0.eq_2 ..) (ev_if_neg (by omega) (ev_some _))
  | c :: l, i, h => by
    obtain ⟨_, h2, h3⟩ := drop_cons h
    rw [size_data] at h2
    refine ev_step (fun _ => lex_while_of_digit.l0.eq_2 ..) (ev_if_pos (by omega) (ev_if_pos (by omega) ?_))
    rw [bt_at h, digit_eq]
    refine ev_bind_some ?_
    rw [List.takeWhile_cons]
    by_cases hc : isD c = true
    · rw [if_pos hc]
      refine ev_if_pos hc ?_
      rw [wsucc (by omega)]
      have := while_digit s hz l (i + 1) h3
      rw [List.length_cons, show i + ((l.takeWhile isD).length + 1) = i + 1 + (l.takeWhile isD).length by omega]
      exact this
    · rw [if_neg hc]
      exact ev_if_neg hc (ev_some _)
/-! ### a text -/
def txtR (x : List UInt8) (i : Nat) : Option (List UInt8 × Nat) → ByteArray × Int
  | some (t, n) => (⟨(x ++ t).toArray⟩, ((i + n : Nat) : Int))
  | none => (⟨#[]⟩, 0)
theorem text_go (s : ByteArray) (hz : s.size ≤ 4194304) : ∀ (n : Nat) (l : List UInt8) (i : Nat) (x : List UInt8), l.length ≤ n → s.data.toList.drop i = l → x.length ≤ i →
    Ev (fun k => lex_text.l0 k s (numsB x) (i : Int)) (txtR x i (txt l)) := by
  intro n
  induction n with
  | zero =>
    intro l i x hn hl hx
    cases l with
    | nil =>
      have h1 := drop_nil hl
      rw [size_data] at h1
      exact ev_step (fun _ => lex_text.l0.eq_2 ..) (ev_if_neg (by omega) (ev_some _))
    | cons c l => simp at hn
  | succ n ih =>
    intro l i x hn hl hx
    cases l with
    | nil =>
      have h1 := drop_nil hl
      rw [size_data] at h1
      exact ev_step (fun _ => lex_text.l0.eq_2 ..) (ev_if_neg (by omega) (ev_some _))
    | cons c l =>
      obtain ⟨_, h2, h3⟩ := drop_cons hl
      rw [size_data] at h2
      simp only [List.length_cons] at hn
      have hb : ∀ (q : Bool), (q = true ↔ (c.toNat < 32 ∨ 126 < c.toNat)) → Ev (fun k => lex_text.j1 k s (numsB x) (i : Int) (c.toNat : Int) q) (txtR x i (txt (c :: l))) := by
        intro q hq
        refine ev_step (fun _ => lex_text.j1.eq_2 ..) ?_
        by_cases hbad : c.toNat < 32 ∨ 126 < c.toNat
        · refine ev_if_pos (hq.2 hbad) ?_
          have e : txt (c :: l) = none := by cases l <;> rw [txt, if_pos hbad]
          rw [e]; exact ev_some _
        · refine ev_if_neg (fun h => hbad (hq.1 h)) ?_
          have j2 : ∀ q2 : Bool, (q2 = true ↔ (c = 39 ∧ ∃ r, l = 39 :: r)) → Ev (fun k => lex_text.j2 k s (numsB x) (i : Int) (c.toNat : Int) q2) (txtR x i (txt (c :: l))) := by
            intro q2 h2q
            refine ev_step (fun _ => lex_text.j2.eq_2 ..) ?_
            have hlen : (numsB x).length < 140737488355328 := by rw [numsB_length]; omega
            have e1 : numsB x ++ [(c.toNat : Int)] = numsB (x ++ [c]) := by rw [numsB_app]; rfl
            by_cases hq2 : q2 = true
            · refine ev_if_pos hq2 (ev_if_pos hlen ?_)
              obtain ⟨rfl, r, rfl⟩ := h2q.1 hq2
              rw [wsucc (by omega), wsucc (by omega), e1]
              have hr : s.data.toList.drop (i + 1 + 1) = r := (drop_cons h3).2.2
              simp only [List.length_cons] at hn
              have := ih r (i + 1 + 1) (x ++ [39]) (by omega) hr (by rw [List.length_append]; simp only [List.length_cons, List.length_nil]; omega)
              rw [txt_qq]
              cases ht : txt r with
              | none => rw [ht] at this; exact this
              | some z =>
                obtain ⟨t, m⟩ := z
                rw [ht] at this
                simp only [txtR, Option.map_some] at this ⊢
                rw [show i + (m + 2) = i + 1 + 1 + m by omega, show x ++ 39 :: t = x ++ [39] ++ t by simp]
                exact this
            · refine ev_if_neg hq2 ?_
              by_cases h39 : c = 39
              · subst h39
                refine ev_if_pos (by decide) ?_
                rw [wsucc (by omega), str_nums]
                have e : txt (39 :: l) = some ([], 1) := by
                  cases l with
                  | nil => rfl
                  | cons d r => exact txt_qn (fun h => hq2 (h2q.2 ⟨rfl, r, by rw [h]⟩)) r
                rw [e]
                simp only [txtR, List.append_nil]
                exact ev_some _
              · refine ev_if_neg (fun h => h39 (UInt8.toNat_inj.1 (by have : ((39 : UInt8).toNat : Int) = 39 := rfl; omega))) (ev_if_pos hlen ?_)
                rw [wsucc (by omega), e1]
                have := ih l (i + 1) (x ++ [c]) (by omega) h3 (by rw [List.length_append]; simp only [List.length_cons, List.length_nil]; omega)
                have e : txt (c :: l) = (txt l).map (fun r => (c :: r.1, r.2 + 1)) := by
                  cases l with
                  | nil =>
                    have e0 : txt [c] = none := by rw [txt, if_neg hbad, if_neg h39]
                    rw [e0]; rfl
                  | cons d r => rw [txt, if_neg hbad, if_neg h39]
                rw [e]
                cases ht : txt l with
                | none => rw [ht] at this; exact this
                | some z =>
                  obtain ⟨t, m⟩ := z
                  rw [ht] at this
                  simp only [txtR, Option.map_some] at this ⊢
                  rw [show i + (m + 1) = i + 1 + m by omega, show x ++ c :: t = x ++ [c] ++ t by simp]
                  exact this
          by_cases h39 : c = 39
          · subst h39
            refine ev_if_pos (by decide) ?_
            rw [wsucc (by omega)]
            refine ev_if_pos (by omega) (ev_if_pos (by omega) ?_)
            rw [Int.toNat_natCast]
            unfold strings_HasPrefix.f
            refine ev_bind_some (j2 _ ?_)
            rw [ext_drop, h3]
            show List.isPrefixOf [39] l = true ↔ _
            cases l with
            | nil => simp
            | cons d r =>
              show ((39 : UInt8) == d && true) = true ↔ _
              rw [Bool.and_true, beq_iff_eq]
              constructor
              · intro h; exact ⟨rfl, r, by rw [← h]⟩
              · rintro ⟨_, r', h⟩
                injection h with h _
                exact h.symm
          · refine ev_if_neg (fun h => h39 (UInt8.toNat_inj.1 (by have : ((39 : UInt8).toNat : Int) = 39 := rfl; omega))) (j2 false ?_)
            simp [h39]
      refine ev_step (fun _ => lex_text.l0.eq_2 ..) (ev_if_pos (by omega) (ev_if_pos (by omega) ?_))
      rw [bt_at hl]
      by_cases h32 : (c.toNat : Int) < 32
      · exact ev_if_pos h32 (hb true (by simp only [true_iff]; omega))
      · refine ev_if_neg h32 (hb _ ?_)
        rw [decide_eq_true_eq]; omega
/-! ### one token -/
def tokR : Except Int (Tok × Nat) → Int × ByteArray × Int × Int × Int × Option Int
  | .ok ((k, t, v), n) => (k, ⟨t.toArray⟩, v, 0, (n : Int), none)
  | .error e => (0, ⟨#[]⟩, 0, 0, 0, some e)
def signL : List ByteArray := [(⟨#[60, 62]⟩ : ByteArray), (⟨#[60, 61]⟩ : ByteArray), (⟨#[62, 61]⟩ : ByteArray), (⟨#[124, 124]⟩ : ByteArray), (⟨#[40]⟩ : ByteArray), (⟨#[41]⟩ : ByteArray), (⟨#[44]⟩ : ByteArray), (⟨#[42]⟩ : ByteArray), (⟨#[43]⟩ : ByteArray), (⟨#[45]⟩ : ByteArray), (⟨#[47]⟩ : ByteArray), (⟨#[37]⟩ : ByteArray), (⟨#[61]⟩ : ByteArray), (⟨#[60]⟩ : ByteArray), (⟨#[62]⟩ : ByteArray)]
theorem signs_eq : lex_signs.f = some signL := rfl
def signR : Option ByteArray → Int × ByteArray × Int × Int × Int × Option Int
  | some x => (4, x, 0, 0, (x.size : Int), none)
  | none => (0, ⟨#[]⟩, 0, 0, 0, some 3)
theorem rdOf_at {xs : List ByteArray} {j : Nat} {x : ByteArray} (h : xs[j]? = some x) : rdOf ByteArray.empty xs (j : Int) = x := by
  unfold rdOf; rw [Int.toNat_natCast, List.getD_eq_getElem?_getD, h]; rfl
theorem sign_go (s : ByteArray) : ∀ (l : List ByteArray) (i : Nat), signL.drop i = l → Ev (fun k => lex_one.l0 k s signL ((signL.length : Nat) : Int) (i : Int)) (signR (l.find? (fun x => Lib.hasPrefix s.data.toList x.data.toList)))
  | [], i, h => by
    have h1 := drop_nil h
    exact ev_step (fun _ => lex_one.l0.eq_2 ..) (ev_if_neg (by omega) (ev_some _))
  | x :: l, i, h => by
    obtain ⟨h1, h2, h3⟩ := drop_cons h
    have hlen : signL.length = 15 := rfl
    refine ev_step (fun _ => lex_one.l0.eq_2 ..) (ev_if_pos (by omega) (ev_if_pos (by omega) (ev_if_pos (by omega) ?_)))
    rw [rdOf_at h1]
    unfold strings_HasPrefix.f
    refine ev_bind_some ?_
    rw [List.find?_cons]
    cases hp : Lib.hasPrefix s.data.toList x.data.toList with
    | true => exact ev_if_pos rfl (ev_some _)
    | false =>
      refine ev_if_neg (by decide) ?_
      rw [wsucc (by omega)]
      exact sign_go s l (i + 1) h3
theorem sign_find (c : UInt8) (r : List UInt8) : signL.find? (fun x => Lib.hasPrefix (c :: r) x.data.toList) = (sgn c r.head?).map (fun x => (⟨x.toArray⟩ : ByteArray)) := by
  have two : ∀ a b : UInt8, Lib.hasPrefix (c :: r) [a, b] = decide (c = a ∧ r.head? = some b) := by
    intro a b
    show (a == c && [b].isPrefixOf r) = _
    rw [Bool.eq_iff_iff, Bool.and_eq_true, beq_iff_eq, decide_eq_true_eq]
    cases r with
    | nil => simp
    | cons d r =>
      show a = c ∧ (b == d && true) = true ↔ _
      rw [Bool.and_true, beq_iff_eq, List.head?_cons, Option.some.injEq]
      exact ⟨fun h => ⟨h.1.symm, h.2.symm⟩, fun h => ⟨h.1.symm, h.2.symm⟩⟩
  have one1 : ∀ a : UInt8, Lib.hasPrefix (c :: r) [a] = decide (c = a) := by
    intro a
    show (a == c && true) = _
    rw [Bool.and_true, Bool.eq_iff_iff, beq_iff_eq, decide_eq_true_eq]
    exact ⟨Eq.symm, Eq.symm⟩
  unfold signL sgn
  simp only [List.find?_cons, List.find?_nil, mk_list, two, one1, show ∀ a b : UInt8, (⟨#[a, b]⟩ : ByteArray).data.toList = [a, b] from fun _ _ => rfl, show ∀ a : UInt8, (⟨#[a]⟩ : ByteArray).data.toList = [a] from fun _ => rfl]
  by_cases e1 : c = 60 ∧ r.head? = some 62
  · simp only [e1, and_self, decide_true, if_true, Option.map_some] <;> rfl
  by_cases e2 : c = 60 ∧ r.head? = some 61
  · simp only [e1, e2, and_self, decide_true, decide_false, if_true, if_false, Option.map_some] <;> rfl
  by_cases e3 : c = 62 ∧ r.head? = some 61
  · simp only [e1, e2, e3, and_self, decide_true, decide_false, if_true, if_false, Option.map_some] <;> rfl
  by_cases e4 : c = 124 ∧ r.head? = some 124
  · simp only [e1, e2, e3, e4, and_self, decide_true, decide_false, if_true, if_false, Option.map_some] <;> rfl
  simp only [e1, e2, e3, e4, decide_false, if_false]
  by_cases h : c = 40 ∨ c = 41 ∨ c = 44 ∨ c = 42 ∨ c = 43 ∨ c = 45 ∨ c = 47 ∨ c = 37 ∨ c = 61 ∨ c = 60 ∨ c = 62
  · rw [if_pos h]
    rcases h with rfl | rfl | rfl | rfl | rfl | rfl | rfl | rfl | rfl | rfl | rfl <;> rfl
  · rw [if_neg h]
    simp only [not_or] at h
    obtain ⟨a1, a2, a3, a4, a5, a6, a7, a8, a9, a10, a11⟩ := h
    simp only [a1, a2, a3, a4, a5, a6, a7, a8, a9, a10, a11, decide_false, Option.map_none]
theorem j0_ev (s : ByteArray) {c : UInt8} {r : List UInt8} (hl : s.data.toList = c :: r) : Ev (fun k => lex_one.j0 k s) (signR ((sgn c r.head?).map (fun x => (⟨x.toArray⟩ : ByteArray)))) := by
  refine ev_step (fun _ => lex_one.j0.eq_2 ..) ?_
  rw [signs_eq]
  refine ev_bind_some ?_
  have := sign_go s signL 0 rfl
  rw [hl, sign_find] at this
  exact this
theorem W_ascii : ∀ c : UInt8, isW c = true → c.toNat < 128 := all_u8 (by decide +kernel)
theorem low_lower : ∀ c : UInt8, Lib.lowerB c = low c := all_u8 (by decide +kernel)
theorem one_ev (s : ByteArray) (hz : s.size ≤ 4194304) (hne : s.data.toList ≠ []) : Ev (fun k => lex_one.f k s) (tokR (one s.data.toList)) := by
  cases hl : s.data.toList with
  | nil => exact absurd hl hne
  | cons c r =>
    have hs : s.size = r.length + 1 := by rw [← size_data, hl]; rfl
    have h0 : bt s 0 = (c.toNat : Int) := by
      have := bt_at (s := s) (i := 0) (c := c) (cs := r) (by rw [List.drop_zero]; exact hl)
      simpa using this
    unfold lex_one.f
    refine ev_if_pos (by omega) ?_
    rw [h0, letter_eq]
    refine ev_bind_some ?_
    by_cases hL : isL c = true
    · refine ev_if_pos hL ?_
      have hw : Ev (fun k => lex_while_of_one_1.f k s) ((((c :: r).takeWhile isW).length : Nat) : Int) := by
        have := while_word s hz s.data.toList 0 List.drop_zero
        rw [hl, Nat.zero_add] at this
        exact this
      refine ev_bind hw ?_
      have hn := tw_len isW (c :: r)
      simp only [List.length_cons] at hn
      refine ev_if_pos (by omega) (ev_if_pos (by omega) ?_)
      rw [Int.toNat_natCast]
      have hx : (s.extract 0 ((c :: r).takeWhile isW).length).data.toList = (c :: r).takeWhile isW := by rw [ext_data, List.drop_zero, hl, take_tw]
      have hsz : (s.extract 0 ((c :: r).takeWhile isW).length).size = ((c :: r).takeWhile isW).length := by rw [← size_data, hx]
      have hlow : strings_ToLower.f (s.extract 0 ((c :: r).takeWhile isW).length) = some ⟨(((c :: r).takeWhile isW).map low).toArray⟩ := by
        unfold strings_ToLower.f
        have hall : ((c :: r).takeWhile isW).all (fun b => decide (b.toNat < 128)) = true := List.all_eq_true.2 fun b hb => decide_eq_true (W_ascii b (tw_all isW _ b hb))
        rw [hx, if_pos ⟨by rw [hsz]; omega, hall⟩]
        unfold Lib.toLowerA
        rw [List.map_congr_left (f := Lib.lowerB) (g := low) (fun x _ => low_lower x)]
      rw [hlow, one, if_pos hL]
      exact ev_bind_some (ev_some _)
    · refine ev_if_neg hL ?_
      rw [digit_eq]
      refine ev_bind_some ?_
      by_cases hD : isD c = true
      · refine ev_if_pos hD ?_
        have hw : Ev (fun k => lex_while_of_digit.f k s) ((((c :: r).takeWhile isD).length : Nat) : Int) := by
          have := while_digit s hz s.data.toList 0 List.drop_zero
          rw [hl, Nat.zero_add] at this
          exact this
        refine ev_bind hw ?_
        have hn := tw_len isD (c :: r)
        have hn1 : 1 ≤ ((c :: r).takeWhile isD).length := by rw [List.takeWhile_cons, if_pos hD]; simp
        have htk := take_tw isD (c :: r)
        have hall : ∀ x ∈ (c :: r).takeWhile isD, isD x = true := fun x hx => tw_all isD _ x hx
        simp only [List.length_cons] at hn
        have hone : one (c :: r) = (if valN 0 ((c :: r).takeWhile isD) ≤ 9223372036854775807 then .ok ((2, [], (valN 0 ((c :: r).takeWhile isD) : Int)), ((c :: r).takeWhile isD).length) else .error 5) := by rw [one, if_neg hL, if_pos hD]
        rw [hone]
        generalize (c :: r).takeWhile isD = w at hn hn1 htk hall ⊢
        have hw1 : wrap64 (((w.length : Nat) : Int) - 1) = ((w.length - 1 : Nat) : Int) := by unfold wrap64; omega
        rw [hw1]
        refine ev_if_pos (by omega) (ev_if_pos (by omega) ?_)
        rw [Int.toNat_natCast, Int.toNat_natCast]
        have hx1 : (s.extract 0 (w.length - 1)).data.toList = w.take (w.length - 1) := by
          rw [ext_data, List.drop_zero, hl, ← htk, List.take_take, List.length_take, List.length_cons]
          congr 1; omega
        have hx2 : (s.extract (w.length - 1) w.length).data.toList = w.drop (w.length - 1) := by rw [ext_data, hl, htk]
        have htrim : strings_TrimLeft.f (s.extract 0 (w.length - 1)) (⟨#[48]⟩ : ByteArray) = some ⟨(Lib.trimLeftB (w.take (w.length - 1)) 48).toArray⟩ := by
          unfold strings_TrimLeft.f; rw [if_pos rfl, hx1]
        rw [htrim]
        have ht1 : (Lib.trimLeftB (w.take (w.length - 1)) 48).length ≤ w.length := by
          have h1 := (List.dropWhile_suffix (l := w.take (w.length - 1)) (· == 48)).length_le
          have h2 := List.length_take_le (w.length - 1) w
          unfold Lib.trimLeftB; omega
        have hs2 : (s.extract (w.length - 1) w.length).size ≤ 1 := by rw [← size_data, hx2, List.length_drop]; omega
        refine ev_bind_some (ev_if_pos (by omega) (ev_if_pos (by omega) (ev_if_pos (by rw [mk_size]; omega) ?_)))
        have hd : ((⟨(Lib.trimLeftB (w.take (w.length - 1)) 48).toArray⟩ : ByteArray) ++ s.extract (w.length - 1) w.length).data.toList = Lib.trimLeftB (w.take (w.length - 1)) 48 ++ w.drop (w.length - 1) := by
          rw [ByteArray.data_append, Array.toList_append, hx2]
        have hpu : strconv_ParseUint.f ((⟨(Lib.trimLeftB (w.take (w.length - 1)) 48).toArray⟩ : ByteArray) ++ s.extract (w.length - 1) w.length) 10 64 = (if valN 0 w ≤ 18446744073709551615 then some ((valN 0 w : Int), none) else some (18446744073709551615, some 4)) := by
          unfold strconv_ParseUint.f
          rw [if_pos ⟨rfl, rfl, by rw [size_app, mk_size]; omega⟩, hd, parse_digits w hall (by intro h; rw [h] at hn1; simp at hn1)]
          by_cases hv : valN 0 w ≤ 18446744073709551615
          · rw [if_pos hv, if_pos hv]
          · rw [if_neg hv, if_neg hv]
        rw [hpu]
        by_cases hv : valN 0 w ≤ 18446744073709551615
        · rw [if_pos hv]
          refine ev_bind_some (ev_if_pos rfl ?_)
          by_cases hv2 : valN 0 w ≤ 9223372036854775807
          · rw [if_pos hv2]
            refine ev_if_neg (by simp only []; omega) ?_
            have : wrap64 ((valN 0 w : Nat) : Int) = ((valN 0 w : Nat) : Int) := by unfold wrap64; omega
            simp only [this]
            exact ev_some _
          · rw [if_neg hv2]
            exact ev_if_pos (by simp only []; omega) (ev_some _)
        · rw [if_neg hv, if_neg (by omega)]
          exact ev_bind_some (ev_if_neg (by simp) (ev_some _))
      · refine ev_if_neg hD ?_
        have hj := j0_ev s hl
        by_cases hq : c = 39
        · subst hq
          refine ev_if_pos (by decide) ?_
          have ht : Ev (fun k => lex_text.f k s) (txtR [] 1 (txt r)) := by
            have hd1 : s.data.toList.drop 1 = r := by rw [hl]; rfl
            exact text_go s hz r.length r 1 [] (Nat.le_refl _) hd1 (Nat.zero_le _)
          refine ev_bind ht ?_
          rw [one, if_neg hL, if_neg hD, if_pos rfl]
          cases hx : txt r with
          | none =>
            refine ev_if_neg (by decide) ?_
            have hsg : sgn 39 r.head? = none := by
              unfold sgn
              simp
            rw [hsg] at hj
            exact hj
          | some z =>
            obtain ⟨t, n⟩ := z
            simp only [txtR, List.nil_append, tokR]
            refine ev_if_pos (by omega) ?_
            rw [show n + 1 = 1 + n by omega]
            exact ev_some _
        · refine ev_if_neg (fun h => hq (UInt8.toNat_inj.1 (by have : ((39 : UInt8).toNat : Int) = 39 := rfl; omega))) ?_
          rw [one, if_neg hL, if_neg hD, if_neg hq]
          cases hg : sgn c r.head? with
          | none => rw [hg] at hj; exact hj
          | some x =>
            rw [hg] at hj
            simp only [Option.map_some, signR, mk_size] at hj
            exact hj
end Go.Proofs.YtaffmgphcmmdhaaGreatDoor.Q
