/- What a name is, and the bytes of what is let down, for both. -/
import Derived.Test.YtddkbhglbkfelaaDoorPsXSbE
import Derived.Lib.IndexMore
set_option linter.unusedVariables false
set_option linter.unusedSimpArgs false
namespace Go.Proofs.YtddkbhglbkfelaaDoor.E
open Go.RowKit Go.Proofs.YtddkbhglbkfelaaDoorW.PrintWords Go.Proofs.YtddkbhglbkfelaaDoorW.PrintLast Go.Proofs.YtddkbhglbkfelaaDoorX

/-! ### names -/
theorem index_infix (s sub : List UInt8) : 0 ≤ Lib.index s sub ↔ ∃ p q, s = p ++ (sub ++ q) := by
  rcases Lib.index_spec s sub with ⟨h1, h2⟩ | ⟨i, h1, h2, h3, _⟩
  · refine ⟨fun h => by omega, ?_⟩
    rintro ⟨p, q, rfl⟩
    have := h2 p.length (by rw [List.length_append]; omega)
    rw [Lib.occAt, List.drop_left' rfl] at this
    rw [List.isPrefixOf_iff_prefix.2 (List.prefix_append sub q)] at this
    cases this
  · refine ⟨fun _ => ?_, fun _ => by omega⟩
    obtain ⟨q, hq⟩ := List.isPrefixOf_iff_prefix.1 h3
    exact ⟨s.take i, q, by rw [hq, List.take_append_drop]⟩
def wordsB : List ByteArray := (barbicanref15_Words.f).getD []
def wordsL : List (List UInt8) := wordsB.map (·.data.toList)
def resv (a : ByteArray) : Bool := decide (a.data.toList ∈ wordsL)
theorem word_split : ∀ (w a t q : List UInt8), (32 : UInt8) ∉ w → (32 : UInt8) ∉ a → w ++ 32 :: t = a ++ 32 :: q → w = a
  | [], [], _, _, _, _, _ => rfl
  | [], c :: a, _, _, _, ha, h => by
    rw [List.nil_append, List.cons_append] at h
    injection h with h _
    exact absurd (h ▸ List.mem_cons_self) ha
  | c :: w, [], _, _, hw, _, h => by
    rw [List.nil_append, List.cons_append] at h
    injection h with h _
    exact absurd (h.symm ▸ List.mem_cons_self) hw
  | c :: w, d :: a, t, q, hw, ha, h => by
    rw [List.cons_append, List.cons_append] at h
    injection h with h1 h2
    rw [h1, word_split w a t q (fun m => hw (List.mem_cons_of_mem _ m)) (fun m => ha (List.mem_cons_of_mem _ m)) h2]
theorem infix_words (a : List UInt8) (ha : (32 : UInt8) ∉ a) : ∀ (ws : List (List UInt8)), (∀ w ∈ ws, (32 : UInt8) ∉ w) → ((∃ p q, 32 :: (ws.flatMap (· ++ [32])) = p ++ ((32 :: (a ++ [32])) ++ q)) ↔ a ∈ ws)
  | [], _ => by
    refine ⟨?_, fun h => by cases h⟩
    rintro ⟨p, q, h⟩
    have := congrArg List.length h
    simp at this
    omega
  | w :: ws, hws => by
    have hw := hws w List.mem_cons_self
    have ih := infix_words a ha ws (fun x hx => hws x (List.mem_cons_of_mem _ hx))
    have hsp : 32 :: ((w :: ws).flatMap (· ++ [32])) = 32 :: (w ++ (32 :: (ws.flatMap (· ++ [32])))) := by simp
    rw [hsp]
    constructor
    · rintro ⟨p, q, h⟩
      cases p with
      | nil =>
        simp only [List.nil_append, List.cons_append, List.append_assoc] at h
        injection h with _ h
        exact List.mem_cons.2 (Or.inl (word_split w a _ _ hw ha h).symm)
      | cons c p =>
        rw [List.cons_append] at h
        injection h with _ h
        rcases List.append_eq_append_iff.1 h with ⟨p', h1, h2⟩ | ⟨c', h1, h2⟩
        · exact List.mem_cons_of_mem _ (ih.1 ⟨p', q, h2⟩)
        · cases c' with
          | nil => exact List.mem_cons_of_mem _ (ih.1 ⟨[], q, by simpa using h2.symm⟩)
          | cons d c' =>
            simp only [List.cons_append] at h2
            injection h2 with h2 _
            exact absurd (by rw [h1, ← h2]; simp) hw
    · intro h
      rcases List.mem_cons.1 h with rfl | h
      · exact ⟨[], ws.flatMap (· ++ [32]), by simp⟩
      · obtain ⟨p, q, e⟩ := ih.2 h
        exact ⟨32 :: (w ++ p), q, by rw [e]; simp⟩
theorem words_clean : ∀ w ∈ wordsL, (32 : UInt8) ∉ w := by decide +kernel
theorem resv_eq (a : ByteArray) (hs : a.size ≤ 1048576) : table_Reserved.f a = some (resv a) := by
  unfold table_Reserved.f strings_Contains.f strings_Index.f resv
  have e0 : (([] : List UInt8) ∈ wordsL) = False := by simp only [eq_iff_iff, iff_false]; decide +kernel
  rw [toList_data]
  by_cases h0 : a.data.toList = []
  · rw [if_pos h0]
    simp only [h0, e0, decide_false]
  · rw [if_neg h0, if_pos (show a.size < 4294967281 by omega)]
    simp only [Option.bind_some]
    by_cases h1 : (32 : UInt8) ∈ a.data.toList
    · have hi : Lib.index a.data.toList (⟨#[32]⟩ : ByteArray).data.toList ≥ 0 := by
        refine (index_infix _ _).2 ?_
        obtain ⟨p, q, e⟩ := List.append_of_mem h1
        exact ⟨p, q, by rw [e]; rfl⟩
      rw [if_pos (decide_eq_true hi)]
      have : ¬ a.data.toList ∈ wordsL := fun h => words_clean _ h h1
      rw [decide_eq_false this]
    · have hi : ¬ Lib.index a.data.toList (⟨#[32]⟩ : ByteArray).data.toList ≥ 0 := by
        intro h
        obtain ⟨p, q, e⟩ := (index_infix _ _).1 h
        exact h1 (by rw [e]; show _ ∈ p ++ ([32] ++ q); simp)
      rw [if_neg (by rw [decide_eq_false hi]; decide)]
      have es : ((⟨#[32]⟩ : ByteArray) ++ a).size = 1 + a.size := by rw [ByteArray.size_append]; rfl
      rw [if_pos (by omega), if_pos (by rw [es]; omega)]
      split
      case isFalse hJ => exact absurd (by decide +kernel) hJ
      simp only [Option.bind_some]
      congr 1
      refine decide_eq_decide.2 ?_
      rw [ge_iff_le, index_infix, ← infix_words _ h1 wordsL words_clean]
      have eJ : ∀ (J : List UInt8), J = 32 :: (wordsL.flatMap (· ++ [32])) → ((∃ p q, J = p ++ ((((⟨#[32]⟩ : ByteArray) ++ a) ++ (⟨#[32]⟩ : ByteArray)).data.toList ++ q)) ↔ ∃ p q, 32 :: (wordsL.flatMap (· ++ [32])) = p ++ ((32 :: (a.data.toList ++ [32])) ++ q)) := by
        intro J hJ
        rw [hJ, ByteArray.data_append, ByteArray.data_append, Array.toList_append, Array.toList_append]
        rfl
      refine eJ _ ?_
      decide +kernel
def nmOk : Nat → List UInt8 → Bool
  | _, [] => true
  | i, c :: cs => ((97 ≤ c.toNat && c.toNat ≤ 122) || (decide (0 < i) && (c.toNat == 95 || (48 ≤ c.toNat && c.toNat ≤ 57)))) && nmOk (i + 1) cs
def nameOk (a : ByteArray) : Bool := decide (1 ≤ a.size) && decide (a.size ≤ 32) && !(resv a) && nmOk 0 a.data.toList
theorem name_loop (a : ByteArray) (hs : a.size ≤ 1048576) : ∀ (cs : List UInt8) (i : Nat), a.data.toList.drop i = cs → Ev (fun k => table_Name.l0 k a (a.size : Int) (i : Int)) (nmOk i cs)
  | [], i, hd => by
    have := drop_nil hd
    rw [size_data] at this
    exact ev_step (fun _ => table_Name.l0.eq_2 ..) (ev_if_neg (by omega) (ev_some _))
  | c :: cs, i, hd => by
    obtain ⟨h1, h2, h3⟩ := drop_cons hd
    rw [size_data] at h2
    have ih := name_loop a hs cs (i + 1) h3
    refine ev_step (fun _ => table_Name.l0.eq_2 ..) (ev_if_pos (by omega) (ev_if_pos (by omega) (ev_if_pos (by omega) ?_)))
    rw [bt_at hd, wrap_succ (j := i) (by omega)]
    unfold nmOk
    have tail : ¬ (97 ≤ c.toNat ∧ c.toNat ≤ 122) → Ev (fun k => if (i : Int) = 0 then (some false) else (if (c.toNat : Int) = 95 then (table_Name.l0 k a (a.size : Int) ((i + 1 : Nat) : Int)) else (if (c.toNat : Int) < 48 then (some false) else (if (c.toNat : Int) > 57 then (some false) else (table_Name.l0 k a (a.size : Int) ((i + 1 : Nat) : Int)))))) (((97 ≤ c.toNat && c.toNat ≤ 122) || (decide (0 < i) && (c.toNat == 95 || (48 ≤ c.toNat && c.toNat ≤ 57)))) && nmOk (i + 1) cs) := by
      intro hn
      have en : (decide (97 ≤ c.toNat) && decide (c.toNat ≤ 122)) = false := by rw [← Bool.decide_and]; exact decide_eq_false hn
      rw [en, Bool.false_or]
      by_cases i0 : i = 0
      · subst i0; exact ev_if_pos rfl (ev_some _)
      · refine ev_if_neg (by omega) ?_
        rw [decide_eq_true (show 0 < i by omega), Bool.true_and]
        by_cases c95 : c.toNat = 95
        · rw [show (c.toNat == 95) = true from beq_iff_eq.2 c95, Bool.true_or, Bool.true_and]
          exact ev_if_pos (by omega) ih
        · rw [show (c.toNat == 95) = false from beq_eq_false_iff_ne.2 c95, Bool.false_or]
          refine ev_if_neg (by omega) ?_
          by_cases c48 : c.toNat < 48
          · rw [decide_eq_false (show ¬ 48 ≤ c.toNat by omega), Bool.false_and, Bool.false_and]
            exact ev_if_pos (by omega) (ev_some _)
          · refine ev_if_neg (by omega) ?_
            rw [decide_eq_true (show 48 ≤ c.toNat by omega), Bool.true_and]
            by_cases c57 : c.toNat > 57
            · rw [decide_eq_false (show ¬ c.toNat ≤ 57 by omega), Bool.false_and]
              exact ev_if_pos (by omega) (ev_some _)
            · rw [decide_eq_true (show c.toNat ≤ 57 by omega), Bool.true_and]
              exact ev_if_neg (by omega) ih
    by_cases c97 : (c.toNat : Int) ≥ 97
    · refine ev_if_pos c97 ?_
      by_cases c122 : (c.toNat : Int) ≤ 122
      · refine ev_if_pos c122 ?_
        rw [decide_eq_true (show 97 ≤ c.toNat by omega), decide_eq_true (show c.toNat ≤ 122 by omega), Bool.and_self, Bool.true_or, Bool.true_and]
        exact ih
      · exact ev_if_neg c122 (tail (by omega))
    · exact ev_if_neg c97 (tail (by omega))
theorem name_ev (a : ByteArray) (hs : a.size ≤ 1048576) : Ev (fun k => table_Name.f k a) (nameOk a) := by
  unfold table_Name.f nameOk
  by_cases h1 : (a.size : Int) < 1
  · rw [decide_eq_false (show ¬ 1 ≤ a.size by omega), Bool.false_and, Bool.false_and, Bool.false_and]
    exact ev_if_pos h1 (ev_step (fun _ => table_Name.j0.eq_2 ..) (ev_if_pos rfl (ev_some _)))
  · rw [decide_eq_true (show 1 ≤ a.size by omega), Bool.true_and]
    refine ev_if_neg h1 ?_
    by_cases h2 : (a.size : Int) > 32
    · rw [decide_eq_false (show ¬ a.size ≤ 32 by omega), Bool.false_and, Bool.false_and]
      exact ev_if_pos h2 (ev_step (fun _ => table_Name.j0.eq_2 ..) (ev_if_pos rfl (ev_some _)))
    · rw [decide_eq_true (show a.size ≤ 32 by omega), Bool.true_and]
      refine ev_if_neg h2 ?_
      rw [resv_eq a hs]
      simp only [Option.bind_some]
      cases h : resv a with
      | true => exact ev_step (fun _ => table_Name.j0.eq_2 ..) (ev_if_pos rfl (ev_some _))
      | false => exact ev_step (fun _ => table_Name.j0.eq_2 ..) (ev_if_neg (by decide) (name_loop a hs _ 0 rfl))
theorem rdOf_at {xs : List ByteArray} {j : Nat} {x : ByteArray} (h : xs[j]? = some x) : rdOf ByteArray.empty xs (j : Int) = x := by
  unfold rdOf; rw [Int.toNat_natCast, List.getD_eq_getElem?_getD, h]; rfl
theorem ref_resv_loop (a : ByteArray) (W : List ByteArray) (hW : W.length ≤ 1000) : ∀ (ws : List ByteArray) (j : Nat), W.drop j = ws → Ev (fun k => barbicanref15_Reserved.l0 k a W (j : Int)) (decide (a.data.toList ∈ ws.map (·.data.toList)))
  | [], j, hd => by
    have := drop_nil hd
    exact ev_step (fun _ => barbicanref15_Reserved.l0.eq_2 ..) (ev_if_neg (by omega) (ev_some _))
  | w :: ws, j, hd => by
    obtain ⟨h1, h2, h3⟩ := drop_cons hd
    refine ev_step (fun _ => barbicanref15_Reserved.l0.eq_2 ..) (ev_if_pos (by omega) (ev_if_pos (by omega) ?_))
    rw [rdOf_at h1, toList_data, toList_data]
    by_cases e : w.data.toList = a.data.toList
    · rw [decide_eq_true (show a.data.toList ∈ (w :: ws).map (·.data.toList) by rw [List.map_cons, e]; exact List.mem_cons_self)]
      exact ev_if_pos e (ev_some _)
    · rw [show decide (a.data.toList ∈ (w :: ws).map (·.data.toList)) = decide (a.data.toList ∈ ws.map (·.data.toList)) from decide_eq_decide.2 (by rw [List.map_cons, List.mem_cons]; exact ⟨fun h => h.elim (fun h => absurd h.symm e) id, Or.inr⟩)]
      refine ev_if_neg e ?_
      rw [wrap_succ (j := j) (by omega)]
      exact ref_resv_loop a W hW ws (j + 1) h3
theorem ref_resv_ev (a : ByteArray) : Ev (fun k => barbicanref15_Reserved.f k a) (resv a) := by
  unfold barbicanref15_Reserved.f resv wordsL
  have e : barbicanref15_Words.f = some wordsB := rfl
  rw [e]
  exact ev_bind_some (ref_resv_loop a wordsB (by decide +kernel) wordsB 0 rfl)
theorem ref_name_loop (a : ByteArray) (hs : a.size ≤ 1048576) : ∀ (cs : List UInt8) (i : Nat), a.data.toList.drop i = cs → Ev (fun k => barbicanref15_Name.l0 k a (i : Int)) (nmOk i cs && (decide (1 ≤ a.size) && decide (a.size ≤ 32) && !(resv a)))
  | [], i, hd => by
    have := drop_nil hd
    rw [size_data] at this
    refine ev_step (fun _ => barbicanref15_Name.l0.eq_2 ..) (ev_if_neg (by omega) ?_)
    unfold nmOk
    rw [Bool.true_and]
    by_cases h1 : (a.size : Int) > 0
    · refine ev_if_pos h1 ?_
      rw [decide_eq_true (show 1 ≤ a.size by omega), Bool.true_and]
      by_cases h2 : (a.size : Int) ≤ 32
      · rw [decide_eq_true (show a.size ≤ 32 by omega), Bool.true_and]
        exact ev_if_pos h2 (ev_bind (ref_resv_ev a) (ev_some _))
      · rw [decide_eq_false (show ¬ a.size ≤ 32 by omega), Bool.false_and]
        exact ev_if_neg h2 (ev_some _)
    · rw [decide_eq_false (show ¬ 1 ≤ a.size by omega), Bool.false_and, Bool.false_and]
      exact ev_if_neg h1 (ev_some _)
  | c :: cs, i, hd => by
    obtain ⟨h1, h2, h3⟩ := drop_cons hd
    rw [size_data] at h2
    have ih := ref_name_loop a hs cs (i + 1) h3
    refine ev_step (fun _ => barbicanref15_Name.l0.eq_2 ..) (ev_if_pos (by omega) (ev_if_pos (by omega) ?_))
    rw [bt_at hd, wrap_succ (j := i) (by omega)]
    have yes : ((97 ≤ c.toNat && c.toNat ≤ 122) || (decide (0 < i) && (c.toNat == 95 || (48 ≤ c.toNat && c.toNat ≤ 57)))) = true → Ev (fun k => barbicanref15_Name.l0 k a ((i + 1 : Nat) : Int)) (nmOk i (c :: cs) && (decide (1 ≤ a.size) && decide (a.size ≤ 32) && !(resv a))) := by
      intro h; rw [nmOk, h, Bool.true_and]; exact ih
    have no : ((97 ≤ c.toNat && c.toNat ≤ 122) || (decide (0 < i) && (c.toNat == 95 || (48 ≤ c.toNat && c.toNat ≤ 57)))) = false → Ev (fun _ : Nat => some false) (nmOk i (c :: cs) && (decide (1 ≤ a.size) && decide (a.size ≤ 32) && !(resv a))) := by
      intro h; rw [nmOk, h, Bool.false_and, Bool.false_and]; exact ev_some _
    by_cases b1 : (c.toNat : Int) ≥ 97 <;> by_cases b2 : (c.toNat : Int) ≥ 48 <;> by_cases b3 : (c.toNat : Int) ≤ 57 <;> by_cases b4 : (c.toNat : Int) ≤ 122 <;> by_cases b5 : (c.toNat : Int) = 95 <;> by_cases b6 : (i : Int) > 0 <;>
      first
      | omega
      | (simp only [b1, b2, b3, b4, b5, b6, if_true, if_false]
         first
         | exact yes (by simp; omega)
         | exact no (by simp; omega))
theorem ref_name_ev (a : ByteArray) (hs : a.size ≤ 1048576) : Ev (fun k => barbicanref15_Name.f k a) (nameOk a) := by
  unfold barbicanref15_Name.f nameOk
  rw [Bool.and_comm]
  exact ref_name_loop a hs _ 0 rfl
end Go.Proofs.YtddkbhglbkfelaaDoor.E
