/- What the walks of lex.Lex, lex.Same compute, told plainly. -/
import Derived.Test.YtaffmgphcmmdhaaGreatDoorPzXLwC
set_option linter.unusedVariables false
set_option linter.unusedSimpArgs false
namespace Go.Proofs.YtaffmgphcmmdhaaGreatDoor.C
open Go.RowKit Go.Proofs.YtaffmgphcmmdhaaGreatDoorW.PrintWords Go.Proofs.YtaffmgphcmmdhaaGreatDoorW.PrintLast Go.Proofs.YtaffmgphcmmdhaaGreatDoorX
open Go.Proofs.YtaffmgphcmmdhaaGreatDoorX.Lx
theorem sure_ev : Ev (fun k => barbicanlaw18_sure.f k) true := by
  refine Ev.of (fun k => barbicanlaw18_sure.mono k) (k := 40) ?_
  kernel_rfl
abbrev TK := S47
def tk (z : Tok × Nat) : TK := ⟨z.1.1, ⟨z.1.2.1.toArray⟩, z.1.2.2, (z.2 : Int)⟩
theorem lexL_nil' (N a : Nat) : lexL N [] a = ([], a, 0) := by cases N <;> rfl
def lexP (acc : List TK) (z : List (Tok × Nat) × Nat × Int) : List TK × Int × Option Int :=
  if z.2.2 = 0 then (acc ++ z.1.map tk, (z.2.1 : Int), none) else ([], (z.2.1 : Int), some z.2.2)
def lexR (s : ByteArray) : List (Tok × Nat) × Nat × Int := if s.size > 65536 then ([], 0, 2) else lexL s.size s.data.toList 0
theorem len_app1 {α : Type} {acc : List α} {x : α} {i j : Nat} (ha : acc.length ≤ i) (hj : i < j) : (acc ++ [x]).length ≤ j := by
  rw [List.length_append]; simp only [List.length_cons, List.length_nil]; omega
theorem dw_head (p : UInt8 → Bool) : ∀ (l : List UInt8) (c : UInt8) (r : List UInt8), l.dropWhile p = c :: r → p c = false
  | [], c, r, h => by cases h
  | d :: l, c, r, h => by
    rw [List.dropWhile_cons] at h
    split at h
    · exact dw_head p l c r h
    · rename_i hd
      injection h with h _
      rw [← h]; simpa using hd
theorem Lex_go (s : ByteArray) (hz : s.size ≤ 65536) : ∀ (n : Nat) (l : List UInt8) (i : Nat) (acc : List TK) (N : Nat), l.length ≤ n → l.length ≤ N → s.data.toList.drop i = l → i + l.length = s.size → acc.length ≤ i →
    Ev (fun k => lex_Lex.l0 k s acc (i : Int)) (lexP acc (lexL N l i)) := by
  intro n
  induction n with
  | zero =>
    intro l i acc N hn hN hl hi ha
    cases l with
    | cons c l => simp at hn
    | nil =>
      simp only [List.length_nil, Nat.add_zero] at hi
      refine ev_step (fun _ => lex_Lex.l0.eq_2 ..) (ev_if_pos (by omega) (ev_if_pos (by omega) ?_))
      have hw : Ev (fun k => lex_while_of_Lex_1.f k (s.extract ((i : Int)).toNat s.size)) (((0 : Nat)) : Int) := by
        rw [Int.toNat_natCast]
        have hd := ext_drop s i
        rw [hl] at hd
        have hsz : (s.extract i s.size).size ≤ 1048576 := by rw [← size_data, hd]; simp
        have := while_blank (s.extract i s.size) hsz _ 0 List.drop_zero
        rw [hd] at this
        exact this
      refine ev_bind hw ?_
      have hwr : wrap64 ((i : Int) + ((0 : Nat) : Int)) = (i : Int) := by unfold wrap64; omega
      rw [hwr, lexL_nil']
      refine ev_if_pos (by omega) ?_
      simp only [lexP, List.map_nil, List.append_nil, if_true]
      exact ev_some _
  | succ n ih =>
    intro l i acc N hn hN hl hi ha
    refine ev_step (fun _ => lex_Lex.l0.eq_2 ..) (ev_if_pos (by omega) (ev_if_pos (by omega) ?_))
    have hw : Ev (fun k => lex_while_of_Lex_1.f k (s.extract ((i : Int)).toNat s.size)) (((l.takeWhile isB).length : Nat) : Int) := by
      rw [Int.toNat_natCast]
      have hd := ext_drop s i
      rw [hl] at hd
      have hsz : (s.extract i s.size).size ≤ 1048576 := by rw [← size_data, hd]; omega
      have := while_blank (s.extract i s.size) hsz _ 0 List.drop_zero
      rw [hd, Nat.zero_add] at this
      exact this
    refine ev_bind hw ?_
    have hcat : l.takeWhile isB ++ l.dropWhile isB = l := List.takeWhile_append_dropWhile
    have hlen := congrArg List.length hcat
    rw [List.length_append] at hlen
    have hbl : ∀ c ∈ l.takeWhile isB, isB c = true := fun c hc => tw_all isB l c hc
    have hskip : lexL N l i = lexL (N - (l.takeWhile isB).length) (l.dropWhile isB) (i + (l.takeWhile isB).length) := by
      have := lexL_skip (l.takeWhile isB) (l.dropWhile isB) N i hbl (by omega)
      rw [hcat] at this
      exact this
    have hdrop : s.data.toList.drop (i + (l.takeWhile isB).length) = l.dropWhile isB := by
      rw [← List.drop_drop, hl]
      have := congrArg (List.drop (l.takeWhile isB).length) hcat
      rw [List.drop_left] at this
      exact this.symm
    have hhead := dw_head isB l
    have hwr : wrap64 ((i : Int) + (((l.takeWhile isB).length : Nat) : Int)) = ((i + (l.takeWhile isB).length : Nat) : Int) := by unfold wrap64; omega
    rw [hwr, hskip]
    generalize (l.takeWhile isB).length = b at *
    generalize l.dropWhile isB = u at *
    cases u with
    | nil =>
      simp only [List.length_nil, Nat.add_zero] at hlen
      rw [lexL_nil']
      refine ev_if_pos (by omega) ?_
      simp only [lexP, List.map_nil, List.append_nil, if_true]
      exact ev_some _
    | cons c r =>
      have hcB : isB c = false := hhead c r rfl
      simp only [List.length_cons] at hlen
      refine ev_if_neg (by omega) (ev_if_pos (by omega) (ev_if_pos (by omega) ?_))
      rw [Int.toNat_natCast]
      have hd := ext_drop s (i + b)
      rw [hdrop] at hd
      have hsz : (s.extract (i + b) s.size).size ≤ 1048576 := by rw [← size_data, hd]; simp only [List.length_cons]; omega
      have h1 := one_ev (s.extract (i + b) s.size) hsz (by rw [hd]; simp)
      rw [hd] at h1
      refine ev_bind h1 ?_
      obtain ⟨M, hM⟩ : ∃ M, N - b = M + 1 := ⟨N - b - 1, by omega⟩
      rw [hM, lexL, hcB, if_neg (by decide)]
      cases ho : one (c :: r) with
      | error e =>
        have he : ¬ e = 0 := by rcases one_err ho with rfl | rfl <;> decide
        refine ev_if_neg (by simp [tokR]) ?_
        simp only [lexP, tokR, if_neg he, Option.getD_some]
        exact ev_some _
      | ok z =>
        obtain ⟨⟨k, t, v⟩, m⟩ := z
        have hm := one_len ho
        simp only [List.length_cons] at hm
        refine ev_if_pos rfl (ev_if_pos (by omega) ?_)
        have hwr2 : wrap64 (((i + b : Nat) : Int) + ((m : Nat) : Int)) = ((i + b + m : Nat) : Int) := by unfold wrap64; omega
        have hr : s.data.toList.drop (i + b + m) = (c :: r).drop m := by rw [← List.drop_drop, hdrop]
        have hrl : ((c :: r).drop m).length = r.length + 1 - m := by rw [List.length_drop, List.length_cons]
        have := ih ((c :: r).drop m) (i + b + m) (acc ++ [tk ((k, t, v), i + b)]) M (by omega) (by omega) hr (by omega) (len_app1 ha (by omega))
        simp only [tokR]
        rw [hwr2]
        have e : lexP (acc ++ [tk ((k, t, v), i + b)]) (lexL M ((c :: r).drop m) (i + b + m)) = lexP acc (if (lexL M ((c :: r).drop m) (i + b + m)).2.2 = 0 then (((k, t, v), i + b) :: (lexL M ((c :: r).drop m) (i + b + m)).1, (lexL M ((c :: r).drop m) (i + b + m)).2) else ([], (lexL M ((c :: r).drop m) (i + b + m)).2)) := by
          by_cases hz0 : (lexL M ((c :: r).drop m) (i + b + m)).2.2 = 0
          · rw [if_pos hz0]
            unfold lexP
            rw [if_pos hz0, if_pos hz0, List.map_cons, List.append_assoc]; rfl
          · rw [if_neg hz0]
            unfold lexP
            rw [if_neg hz0, if_neg hz0]
        rw [e] at this
        exact this
theorem Lex_ev (s : ByteArray) : Ev (fun k => lex_Lex.f k s) (lexP [] (lexR s)) := by
  unfold lex_Lex.f lexR
  by_cases h : s.size > 65536
  · rw [if_pos h]
    exact ev_if_pos (by omega) (ev_some _)
  · rw [if_neg h]
    refine ev_if_neg (by omega) ?_
    exact Lex_go s (by omega) s.size s.data.toList 0 [] s.size (by rw [size_data]; exact Nat.le_refl _) (by rw [size_data]; exact Nat.le_refl _) rfl (by rw [size_data]; omega) (Nat.le_refl _)
theorem lexL_count : ∀ (N : Nat) (l : List UInt8) (a : Nat), (lexL N l a).1.length ≤ N
  | 0, l, a => by rw [lexL]; exact Nat.le_refl _
  | N + 1, [], a => Nat.zero_le _
  | N + 1, c :: r, a => by
    rw [lexL]
    by_cases hb : isB c = true
    · rw [if_pos hb]
      exact Nat.le_succ_of_le (lexL_count N r (a + 1))
    · rw [if_neg hb]
      cases one (c :: r) with
      | error e => exact Nat.zero_le _
      | ok z =>
        obtain ⟨t, m⟩ := z
        simp only []
        have := lexL_count N ((c :: r).drop m) (a + m)
        split
        · simp only [List.length_cons]; omega
        · exact Nat.zero_le _
theorem lexR_count (s : ByteArray) : (lexR s).1.length ≤ 65536 := by
  unfold lexR
  split
  · exact Nat.zero_le _
  · have := lexL_count s.size s.data.toList 0
    omega
/-! ### the same tokens -/
def core (x : TK) : Int × List UInt8 × Int := (x.f0, x.f1.data.toList, x.f2)
theorem rdT_at {xs : List TK} {j : Nat} {x : TK} (h : xs[j]? = some x) : rd_T47 xs (j : Int) = x := by
  unfold rd_T47
  rw [Int.toNat_natCast]
  first | (rw [List.getD_eq_getElem?_getD, h]; rfl) | simp [h]
end Go.Proofs.YtaffmgphcmmdhaaGreatDoor.C
