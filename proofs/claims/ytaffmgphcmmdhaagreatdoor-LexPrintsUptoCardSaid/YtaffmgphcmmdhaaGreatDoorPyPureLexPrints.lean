/- LexPrints: the text of all tokens, or the error; whether two lists of them say the same. -/
import Derived.Test.YtaffmgphcmmdhaaGreatDoorPySaidLexPrints
import Derived.Test.YtaffmgphcmmdhaaGreatDoorPyXLmQ
import Derived.Test.YtaffmgphcmmdhaaGreatDoorPyXLq
import Derived.Test.YtaffmgphcmmdhaaGreatDoorPyXLtQ
import Derived.Test.YtaffmgphcmmdhaaGreatDoorPyXDgQ
import Derived.Lib.ReplaceLaws
set_option linter.unusedVariables false
set_option linter.unusedSimpArgs false
namespace Go.Proofs.YtaffmgphcmmdhaaGreatDoor.Q
open Go.RowKit Go.Proofs.YtaffmgphcmmdhaaGreatDoorW.PrintWords Go.Proofs.YtaffmgphcmmdhaaGreatDoorW.PrintLast Go.Proofs.YtaffmgphcmmdhaaGreatDoorX
open Go.Proofs.YtaffmgphcmmdhaaGreatDoorX.Lx
abbrev RK := S50
def gv (x : RK) : TK := ⟨x.f0, x.f1, x.f2, x.f3⟩
def tok (x : RK) : Tok := (x.f0, x.f1.data.toList, x.f2)
def pt (x : RK) : List UInt8 := pr (tok x)
def PT (x : RK) : ByteArray := ⟨(pt x).toArray⟩
def fits (x : RK) : Prop := (-9223372036854775808 ≤ x.f2 ∧ x.f2 ≤ 9223372036854775807) ∧ x.f1.size ≤ 1048576
def okT (x : RK) : Bool := decide (pt x ≠ []) && match one (pt x) with
  | .ok (t, n) => decide (n = (pt x).length) && decide (t = tok x)
  | .error _ => false
theorem rdR_at {xs : List RK} {j : Nat} {x : RK} (h : xs[j]? = some x) : rd_T50 xs (j : Int) = x := by
  unfold rd_T50
  rw [Int.toNat_natCast]
  first | (rw [List.getD_eq_getElem?_getD, h]; rfl) | simp [h]
/-! ### tokens as the program's -/
theorem give_go (xs : List RK) (hz : xs.length ≤ 1048576) : ∀ (l : List RK) (i : Nat) (acc : List TK), xs.drop i = l → acc ++ l.map gv = xs.map gv →
    Ev (fun k => barbicanlaw18_give.l0 k xs acc (i : Int)) (xs.map gv)
  | [], i, acc, h, ha => by
    have h1 := drop_nil h
    rw [List.map_nil, List.append_nil] at ha
    rw [← ha]
    exact ev_step (fun _ => barbicanlaw18_give.l0.eq_2 ..) (ev_if_neg (by omega) (ev_some _))
  | x :: l, i, acc, h, ha => by
    obtain ⟨h1, h2, h3⟩ := drop_cons h
    have hacc : acc.length ≤ 1048576 := by have := congrArg List.length ha; rw [List.length_append, List.length_map] at this; rw [List.length_map] at this; omega
    refine ev_step (fun _ => barbicanlaw18_give.l0.eq_2 ..) (ev_if_pos (by omega) (ev_if_pos (by omega) (ev_if_pos (by omega) ?_)))
    rw [rdR_at h1, wsucc (by omega)]
    exact give_go xs hz l (i + 1) (acc ++ [gv x]) h3 (by rw [List.append_assoc]; exact ha)
theorem give_ev (xs : List RK) (hz : xs.length ≤ 1048576) : Ev (fun k => barbicanlaw18_give.f k xs) (xs.map gv) := by
  unfold barbicanlaw18_give.f
  exact give_go xs hz xs 0 [] rfl rfl
/-! ### one token's text -/
theorem pt_len {x : RK} (h : fits x) : (pt x).length ≤ 2 * x.f1.size + 21 := by
  have hs := size_data x.f1
  unfold pt pr tok
  simp only []
  split
  · have := itoa_len h.1.1 h.1.2; omega
  · split
    · have := dbl_len x.f1.data.toList
      simp only [List.length_cons, List.length_append, List.length_nil]; omega
    · omega
theorem print_pt {x : RK} (h : fits x) : lex_Token_print.f x.f0 x.f1 x.f2 x.f3 = some (PT x) := by
  obtain ⟨k, t, v, a⟩ := x
  obtain ⟨⟨h1, h2⟩, hs⟩ := h
  simp only at h1 h2 hs
  have hsz := size_data t
  unfold lex_Token_print.f PT pt pr tok
  simp only []
  by_cases c2 : k = 2
  · rw [if_pos c2, if_pos c2]
    unfold strconv_Itoa.f
    rw [if_pos ⟨h1, h2⟩]; rfl
  rw [if_neg c2, if_neg c2]
  by_cases c3 : k = 3
  · rw [if_pos c3, if_pos c3]
    unfold strings_ReplaceAll.f
    have hc : Lib.countB t ⟨#[39]⟩ ≤ t.size := Lib.countB_le _ (by decide) _ _ (Nat.le_refl _)
    have hs1 : (⟨#[39]⟩ : ByteArray).size = 1 := rfl
    have hs2 : (⟨#[39, 39]⟩ : ByteArray).size = 2 := rfl
    rw [if_pos ⟨by omega, by rw [hs1]; omega, by rw [hs2]; omega⟩]
    have e : Lib.replaceAll t.data.toList (⟨#[39]⟩ : ByteArray).data.toList (⟨#[39, 39]⟩ : ByteArray).data.toList = dbl t.data.toList := repl_quote _
    rw [e]
    have hl := dbl_len t.data.toList
    have z1 : (⟨(dbl t.data.toList).toArray⟩ : ByteArray).size = (dbl t.data.toList).length := mk_size _
    simp only [Option.bind_some]
    rw [if_pos (by rw [z1]; omega)]
    have e1 : (⟨#[39]⟩ : ByteArray) ++ (⟨(dbl t.data.toList).toArray⟩ : ByteArray) = ⟨(39 :: dbl t.data.toList).toArray⟩ := app_mk [39] _
    rw [e1, mk_size, if_pos (by simp only [List.length_cons]; omega)]
    have e2 : (⟨(39 :: dbl t.data.toList).toArray⟩ : ByteArray) ++ (⟨#[39]⟩ : ByteArray) = ⟨((39 :: dbl t.data.toList) ++ [39]).toArray⟩ := app_mk _ [39]
    rw [e2]; rfl
  · rw [if_neg c3, if_neg c3]
theorem told_go (t : ByteArray) (hs : t.size ≤ 1048576) (k v a : Int) : ∀ (cs : List UInt8) (i : Nat) (x : List UInt8), t.data.toList.drop i = cs → x.length ≤ 2 * i → i ≤ t.size →
    Ev (fun n => barbicanref18_told.l0 n (numsB x) (i : Int) k t v a) ⟨(39 :: ((x ++ dbl cs) ++ [39])).toArray⟩
  | [], i, x, h, hx, hi => by
    have h1 := drop_nil h
    rw [size_data] at h1
    have hxl : (strOfNums (numsB x)).size = x.length := by rw [str_nums, mk_size]
    refine ev_step (fun _ => barbicanref18_told.l0.eq_2 ..) (ev_if_neg (by omega) ?_)
    by_cases hb : x.length ≤ 9223372036854775000
    · refine ev_if_pos (by rw [hxl]; omega) ?_
      rw [str_nums]
      have e1 : (⟨#[39]⟩ : ByteArray) ++ (⟨x.toArray⟩ : ByteArray) = ⟨(39 :: x).toArray⟩ := app_mk [39] _
      rw [e1]
      refine ev_if_pos (by rw [mk_size]; simp only [List.length_cons]; omega) ?_
      have e2 : (⟨(39 :: x).toArray⟩ : ByteArray) ++ (⟨#[39]⟩ : ByteArray) = ⟨((39 :: x) ++ [39]).toArray⟩ := app_mk _ [39]
      rw [e2]
      simp only [dbl, List.append_nil, List.cons_append]
      exact ev_some _
    · exact absurd hx (by omega)
  | c :: cs, i, x, h, hx, hi => by
    obtain ⟨_, h2, h3⟩ := drop_cons h
    rw [size_data] at h2
    refine ev_step (fun _ => barbicanref18_told.l0.eq_2 ..) (ev_if_pos (by omega) (ev_if_pos (by omega) (ev_if_pos (by rw [numsB_length]; omega) (ev_bind_some ?_))))
    rw [bt_at h, wsucc (by omega)]
    have e1 : numsB x ++ [(c.toNat : Int)] = numsB (x ++ [c]) := (numsB_app x [c]).symm
    rw [e1]
    by_cases hc : c = 39
    · subst hc
      refine ev_if_pos (by decide) (ev_if_pos (by rw [numsB_length, List.length_append]; simp only [List.length_cons, List.length_nil]; omega) ?_)
      have e2 : numsB (x ++ [39]) ++ [39] = numsB (x ++ [39] ++ [39]) := by rw [numsB_app (x ++ [39]) [39]]; rfl
      rw [e2]
      have := told_go t hs k v a cs (i + 1) (x ++ [39] ++ [39]) h3 (by simp only [List.length_append, List.length_cons, List.length_nil]; omega) h2
      have e3 : x ++ [39] ++ [39] ++ dbl cs = x ++ dbl (39 :: cs) := by simp [dbl]
      rw [e3] at this
      exact this
    · refine ev_if_neg (ne39 hc) ?_
      have := told_go t hs k v a cs (i + 1) (x ++ [c]) h3 (by simp only [List.length_append, List.length_cons, List.length_nil]; omega) h2
      have e3 : x ++ [c] ++ dbl cs = x ++ dbl (c :: cs) := by simp [dbl, hc]
      rw [e3] at this
      exact this
theorem told_ev {x : RK} (h : fits x) : Ev (fun n => barbicanref18_told.f n x.f0 x.f1 x.f2 x.f3) (PT x) := by
  obtain ⟨k, t, v, a⟩ := x
  obtain ⟨⟨h1, h2⟩, hs⟩ := h
  simp only at h1 h2 hs
  unfold barbicanref18_told.f PT pt pr tok
  simp only []
  by_cases c2 : k = 2
  · rw [if_pos c2]
    exact ev_if_pos c2 (ev_bind (digits_ev h1 h2) (ev_some _))
  rw [if_neg c2]
  refine ev_if_neg c2 ?_
  by_cases c3 : k = 3
  · rw [if_pos c3]
    have := told_go t hs k v a t.data.toList 0 [] rfl (Nat.zero_le _) (Nat.zero_le _)
    rw [List.nil_append] at this
    exact ev_if_pos c3 this
  · rw [if_neg c3]
    exact ev_if_neg c3 (ev_some _)
/-! ### the program's print -/
def resP (b : Bool) (s : List UInt8) : ByteArray × Option Int := if b = true then (⟨s.toArray⟩, none) else (⟨#[]⟩, some 3)
def resQ (b : Bool) (s : List UInt8) : ByteArray × Int := if b = true then (⟨s.toArray⟩, 0) else (⟨#[]⟩, 3)
theorem resP_false (s : List UInt8) : resP false s = (⟨#[]⟩, some 3) := rfl
theorem resQ_false (s : List UInt8) : resQ false s = (⟨#[]⟩, 3) := rfl
theorem PT_list (x : RK) : (PT x).data.toList = pt x := rfl
theorem PT_size (x : RK) : (PT x).size = (pt x).length := mk_size _
theorem print_go (xs : List RK) (hz : xs.length ≤ 1048576) (hf : ∀ x ∈ xs, fits x) (hJ : (Lib.join ((xs.map PT).map (·.data.toList)) [32]).length ≤ 140737488355328) (hL : ∀ x ∈ xs, (pt x).length ≤ 4194304) :
    ∀ (l : List RK) (i : Nat) (acc : List ByteArray), xs.drop i = l → acc ++ l.map PT = xs.map PT →
    Ev (fun k => lex_Print.l0 k acc (xs.map gv) ((xs.length : Nat) : Int) (i : Int)) (resP (l.all okT) (Lib.join ((xs.map PT).map (·.data.toList)) [32]))
  | [], i, acc, h, ha => by
    have h1 := drop_nil h
    rw [List.map_nil, List.append_nil] at ha
    rw [← ha] at hJ ⊢
    have hacc : acc.length ≤ 1048576 := by rw [ha, List.length_map]; exact hz
    refine ev_step (fun _ => lex_Print.l0.eq_2 ..) (ev_if_neg (by omega) ?_)
    unfold strings_Join.f
    have hc : acc.length ≤ 140737488355328 ∧ (Lib.join (acc.map (·.data.toList)) (⟨#[32]⟩ : ByteArray).data.toList).length ≤ 140737488355328 := ⟨by omega, hJ⟩
    rw [if_pos hc]
    exact ev_bind_some (ev_some _)
  | x :: l, i, acc, h, ha => by
    obtain ⟨h1, h2, h3⟩ := drop_cons h
    have hm := List.mem_of_getElem? h1
    have hx := hf x hm
    have hacc : acc.length ≤ 1048576 := by have := congrArg List.length ha; rw [List.length_append, List.length_map, List.length_map] at this; omega
    refine ev_step (fun _ => lex_Print.l0.eq_2 ..) (ev_if_pos (by omega) (ev_if_pos (by omega) (ev_if_pos (by rw [List.length_map]; omega) ?_)))
    rw [rdT_at (x := gv x) (by rw [List.getElem?_map, h1]; rfl)]
    rw [show lex_Token_print.f (gv x).f0 (gv x).f1 (gv x).f2 (gv x).f3 = some (PT x) from print_pt hx]
    refine ev_bind_some ?_
    rw [List.all_cons]
    by_cases hne : pt x = []
    · have e : okT x = false := by unfold okT; rw [decide_eq_false (fun h => h hne)]; rfl
      rw [e, Bool.false_and, resP_false]
      exact ev_if_pos (by rw [toList_data, PT_list]; exact hne) (ev_some _)
    refine ev_if_neg (by rw [toList_data, PT_list]; exact hne) ?_
    have h1e := one_ev (PT x) (by rw [PT_size]; exact hL x hm) (by rw [PT_list]; exact hne)
    rw [PT_list] at h1e
    refine ev_bind h1e ?_
    cases ho : one (pt x) with
    | error e =>
      have e : okT x = false := by unfold okT; rw [ho, Bool.and_false]
      rw [e, Bool.false_and, resP_false]
      exact ev_if_neg (by simp [tokR]) (ev_some _)
    | ok z =>
      obtain ⟨⟨k, t, v⟩, n⟩ := z
      refine ev_if_pos rfl ?_
      have e0 : okT x = (decide (n = (pt x).length) && decide ((k, t, v) = tok x)) := by unfold okT; rw [ho, decide_eq_true hne, Bool.true_and]
      rw [e0]
      by_cases hn : n = (pt x).length
      · rw [decide_eq_true hn, Bool.true_and]
        refine ev_if_pos (by rw [PT_size, ← hn]; rfl) ?_
        unfold lex_Token_bare.f
        refine ev_bind_some ?_
        have hcond : ((!((tokR (.ok ((k, t, v), n))).1 == (gv x).f0) || (!((tokR (.ok ((k, t, v), n))).2.1.toList == (gv x).f1.toList) || (!((tokR (.ok ((k, t, v), n))).2.2.1 == (gv x).f2) || (!((tokR (.ok ((k, t, v), n))).2.2.2.1 == 0))))) = true) ↔ ¬ (k, t, v) = tok x := by
          simp only [tokR, gv, tok, toList_data, Bool.or_eq_true, Bool.not_eq_true', beq_eq_false_iff_ne, ne_eq, Prod.mk.injEq, not_true_eq_false, or_false, beq_self_eq_true, Bool.true_eq_false]
          by_cases a1 : k = x.f0 <;> by_cases a2 : t = x.f1.data.toList <;> by_cases a3 : v = x.f2 <;> simp [a1, a2, a3]
        by_cases ht : (k, t, v) = tok x
        · rw [decide_eq_true ht, Bool.true_and]
          refine ev_if_neg (fun h => (hcond.1 h) ht) (ev_if_pos (by omega) ?_)
          rw [wsucc (by omega)]
          exact print_go xs hz hf hJ hL l (i + 1) (acc ++ [PT x]) h3 (by rw [List.append_assoc]; exact ha)
        · rw [decide_eq_false ht, Bool.false_and, resP_false]
          exact ev_if_pos (hcond.2 ht) (ev_some _)
      · rw [decide_eq_false hn, Bool.false_and, Bool.false_and, resP_false]
        exact ev_if_neg (by rw [PT_size]; simp only [tokR]; omega) (ev_some _)
/-! ### the reference's -/
theorem jn_snoc : ∀ (ps : List (List UInt8)) (p : List UInt8), ps ≠ [] → jn (ps ++ [p]) = jn ps ++ 32 :: p
  | [], p, h => absurd rfl h
  | [q], p, _ => rfl
  | q :: r :: ps, p, _ => by
    have := jn_snoc (r :: ps) p (by simp)
    show q ++ 32 :: jn ((r :: ps) ++ [p]) = (q ++ 32 :: jn (r :: ps)) ++ 32 :: p
    rw [this]; simp
theorem jn_mono : ∀ (ps qs : List (List UInt8)), (jn ps).length ≤ (jn (ps ++ qs)).length
  | [], qs => Nat.zero_le _
  | [p], [] => Nat.le_refl _
  | [p], q :: qs => by show p.length ≤ (p ++ 32 :: jn (q :: qs)).length; rw [List.length_append]; omega
  | p :: q :: ps, qs => by
    have := jn_mono (q :: ps) qs
    show (p ++ 32 :: jn (q :: ps)).length ≤ (p ++ 32 :: jn ((q :: ps) ++ qs)).length
    rw [List.length_append, List.length_append, List.length_cons, List.length_cons]; omega
theorem rprint_go (xs : List RK) (hz : xs.length ≤ 1048576) (hf : ∀ x ∈ xs, fits x) (hJ : (jn (xs.map pt)).length ≤ 140737488355328) (hL : ∀ x ∈ xs, (pt x).length ≤ 4194304) :
    ∀ (l : List RK) (i : Nat) (d : List (List UInt8)), xs.drop i = l → d.length = i → d ++ l.map pt = xs.map pt →
    Ev (fun k => barbicanref18_Print.l0 k xs ⟨(jn d).toArray⟩ (i : Int)) (resQ (l.all okT) (jn (xs.map pt)))
  | [], i, d, h, hd, ha => by
    have h1 := drop_nil h
    rw [List.map_nil, List.append_nil] at ha
    rw [← ha]
    exact ev_step (fun _ => barbicanref18_Print.l0.eq_2 ..) (ev_if_neg (by omega) (ev_some _))
  | x :: l, i, d, h, hd, ha => by
    obtain ⟨h1, h2, h3⟩ := drop_cons h
    have hm := List.mem_of_getElem? h1
    have hx := hf x hm
    have hjd : (jn d).length ≤ 140737488355328 := by have := jn_mono d ((x :: l).map pt); rw [ha] at this; omega
    refine ev_step (fun _ => barbicanref18_Print.l0.eq_2 ..) (ev_if_pos (by omega) (ev_if_pos (by omega) ?_))
    rw [rdR_at h1]
    refine ev_bind (told_ev hx) ?_
    rw [List.all_cons]
    by_cases hne : pt x = []
    · have e : okT x = false := by unfold okT; rw [decide_eq_false (fun h => h hne)]; rfl
      rw [e, Bool.false_and, resQ_false]
      exact ev_if_pos (by rw [toList_data, PT_list]; exact hne) (ev_some _)
    refine ev_if_neg (by rw [toList_data, PT_list]; exact hne) ?_
    have h1e : Ev (fun k => barbicanref18_One.f k (PT x) 0) (tokQ 0 (one (pt x))) := by
      cases hp : pt x with
      | nil => exact absurd hp hne
      | cons c r =>
        have := One_ev (PT x) (by rw [PT_size]; exact hL x hm) 0 (c := c) (r := r) (by rw [List.drop_zero, PT_list]; exact hp)
        exact this
    refine ev_bind h1e ?_
    have step : ∀ b : Bool, b = !okT x → Ev (fun k => barbicanref18_Print.j1 k xs ⟨(jn d).toArray⟩ (i : Int) (PT x) b) (resQ (okT x && l.all okT) (jn (xs.map pt))) := by
      intro b hb
      refine ev_step (fun _ => barbicanref18_Print.j1.eq_2 ..) ?_
      cases hok : okT x with
      | false =>
        rw [hok] at hb
        rw [Bool.false_and, resQ_false]
        exact ev_if_pos (by rw [hb]; rfl) (ev_some _)
      | true =>
        rw [hok] at hb
        rw [Bool.true_and]
        refine ev_if_neg (by rw [hb]; decide) ?_
        have hjd2 : (jn (d ++ [pt x])).length ≤ 140737488355328 := by
          have := jn_mono (d ++ [pt x]) (l.map pt)
          rw [List.append_assoc] at this
          rw [show [pt x] ++ l.map pt = (x :: l).map pt from rfl, ha] at this
          omega
        have ih := rprint_go xs hz hf hJ hL l (i + 1) (d ++ [pt x]) h3 (by rw [List.length_append, hd]; rfl) (by rw [List.append_assoc]; exact ha)
        rw [← wsucc (by omega)] at ih
        by_cases hi : (i : Int) > 0
        · have hd0 : d ≠ [] := fun h => by rw [h] at hd; simp only [List.length_nil] at hd; omega
          rw [jn_snoc d (pt x) hd0] at ih hjd2
          rw [List.length_append, List.length_cons] at hjd2
          have e1 : (⟨(jn d).toArray⟩ : ByteArray) ++ (⟨#[32]⟩ : ByteArray) = ⟨(jn d ++ [32]).toArray⟩ := app_mk _ [32]
          refine ev_if_pos hi (ev_if_pos (by rw [mk_size]; omega) ?_)
          rw [e1]
          have e2 : (⟨(jn d ++ [32]).toArray⟩ : ByteArray) ++ PT x = ⟨(jn d ++ 32 :: pt x).toArray⟩ := by
            have := app_mk (jn d ++ [32]) (pt x)
            rw [List.append_assoc] at this
            exact this
          refine ev_if_pos (by rw [mk_size, PT_size, List.length_append]; simp only [List.length_cons, List.length_nil]; omega) ?_
          rw [e2]
          exact ih
        · have hd0 : d = [] := List.eq_nil_of_length_eq_zero (by omega)
          subst hd0
          refine ev_if_neg hi (ev_if_pos (by rw [mk_size, PT_size]; have := hL x hm; omega) ?_)
          have e2 : (⟨(jn []).toArray⟩ : ByteArray) ++ PT x = ⟨(jn ([] ++ [pt x])).toArray⟩ := app_mk [] (pt x)
          rw [e2]
          exact ih
    cases ho : one (pt x) with
    | error e =>
      have he : ¬ e = 0 := by rcases one_err ho with rfl | rfl <;> decide
      have e0 : okT x = false := by unfold okT; rw [ho, Bool.and_false]
      exact ev_if_neg (by simp only [tokQ]; exact he) (step true (by rw [e0]; rfl))
    | ok z =>
      obtain ⟨⟨k, t, v⟩, n⟩ := z
      refine ev_if_pos rfl ?_
      have e0 : okT x = (decide (n = (pt x).length) && decide ((k, t, v) = tok x)) := by unfold okT; rw [ho, decide_eq_true hne, Bool.true_and]
      by_cases hn : n = (pt x).length
      · refine ev_if_pos (by rw [PT_size, ← hn]; simp only [tokQ]; omega) (step _ ?_)
        rw [e0, decide_eq_true hn, Bool.true_and]
        rw [Bool.eq_iff_iff]
        simp only [tokQ, tok, toList_data, Bool.or_eq_true, Bool.not_eq_true', beq_eq_false_iff_ne, ne_eq, decide_eq_false_iff_not, Prod.mk.injEq, Int.natCast_zero, Int.ofNat_zero, not_true_eq_false, or_false]
        by_cases a1 : k = x.f0 <;> by_cases a2 : t = x.f1.data.toList <;> by_cases a3 : v = x.f2 <;> simp [a1, a2, a3]
      · exact ev_if_neg (by rw [PT_size]; simp only [tokQ]; omega) (step true (by rw [e0, decide_eq_false hn]; rfl))
/-! ### the same tokens -/
theorem rsame_go (A B : List RK) (hl : A.length = B.length) (hz : A.length ≤ 1048576) : ∀ (a : List RK) (i : Nat) (b : List RK), A.drop i = a → B.drop i = b →
    Ev (fun k => barbicanref18_Same.l0 k A B (i : Int)) (decide (a.map tok = b.map tok))
  | [], i, b, ha, hb => by
    have h1 := drop_nil ha
    have hb' : b = [] := by rw [← hb]; exact List.drop_eq_nil_of_le (by omega)
    subst hb'
    exact ev_step (fun _ => barbicanref18_Same.l0.eq_2 ..) (ev_if_neg (by omega) (ev_some _))
  | x :: a, i, b, ha, hb => by
    obtain ⟨h1, h2, h3⟩ := drop_cons ha
    cases b with
    | nil => have := drop_nil hb; omega
    | cons y b =>
      obtain ⟨g1, g2, g3⟩ := drop_cons hb
      refine ev_step (fun _ => barbicanref18_Same.l0.eq_2 ..) (ev_if_pos (by omega) (ev_if_pos (by omega) (ev_if_pos (by omega) ?_)))
      rw [rdR_at h1, rdR_at g1]
      have no : tok x ≠ tok y → decide ((x :: a).map tok = (y :: b).map tok) = false := fun h => by
        rw [decide_eq_false_iff_not, List.map_cons, List.map_cons, List.cons.injEq]; exact fun e => h e.1
      by_cases a1 : x.f0 = y.f0
      · refine ev_if_pos a1 ?_
        by_cases a2 : x.f1.toList = y.f1.toList
        · refine ev_if_pos a2 ?_
          rw [toList_data, toList_data] at a2
          by_cases a3 : x.f2 = y.f2
          · refine ev_if_pos a3 ?_
            have hc : tok x = tok y := by unfold tok; rw [a1, a2, a3]
            rw [wsucc (by omega)]
            have := rsame_go A B hl hz a (i + 1) b h3 g3
            rw [show decide ((x :: a).map tok = (y :: b).map tok) = decide (a.map tok = b.map tok) by
              have : ((x :: a).map tok = (y :: b).map tok) ↔ (a.map tok = b.map tok) := by
                rw [List.map_cons, List.map_cons, hc, List.cons.injEq]
                exact ⟨fun h => h.2, fun h => ⟨rfl, h⟩⟩
              rw [Bool.eq_iff_iff, decide_eq_true_eq, decide_eq_true_eq]; exact this]
            exact this
          · rw [no (fun h => a3 (by unfold tok at h; exact (Prod.mk.inj (Prod.mk.inj h).2).2))]
            exact ev_if_neg a3 (ev_some _)
        · rw [no (fun h => a2 (by rw [toList_data, toList_data]; unfold tok at h; exact (Prod.mk.inj (Prod.mk.inj h).2).1))]
          exact ev_if_neg a2 (ev_some _)
      · rw [no (fun h => a1 (by unfold tok at h; exact (Prod.mk.inj h).1))]
        exact ev_if_neg a1 (ev_some _)
theorem rsame_ev (A B : List RK) (hz : A.length ≤ 1048576) : Ev (fun k => barbicanref18_Same.f k A B) (decide (A.map tok = B.map tok)) := by
  unfold barbicanref18_Same.f
  by_cases hl : A.length = B.length
  · exact ev_if_pos (by omega) (rsame_go A B hl hz A 0 B rfl rfl)
  · have e : decide (A.map tok = B.map tok) = false := by
      rw [decide_eq_false_iff_not]
      intro h
      have := congrArg List.length h
      rw [List.length_map, List.length_map] at this
      exact hl this
    rw [e]
    exact ev_if_neg (by omega) (ev_some _)
theorem core_gv (l : List RK) : (l.map gv).map core = l.map tok := by rw [List.map_map]; rfl
/-! ### bounds -/
theorem sum_ge : ∀ (l : List RK) (x : RK), x ∈ l → T50 x ≤ (l.map fun e_ => T50 e_).sum
  | [], x, h => by cases h
  | y :: l, x, h => by
    rw [List.map_cons, List.sum_cons]
    rcases List.mem_cons.1 h with rfl | h
    · omega
    · have := sum_ge l x h; omega
theorem len_le : ∀ l : List RK, l.length ≤ (l.map fun e_ => T50 e_).sum
  | [] => Nat.le_refl _
  | y :: l => by
    have := len_le l
    rw [List.map_cons, List.sum_cons, List.length_cons]
    unfold T50 at *
    omega
theorem all_fit (l : List RK) (hw : ∀ e_ ∈ l, W50 e_) (hs : (l.map fun e_ => T50 e_).sum ≤ 1048576) : ∀ x ∈ l, fits x := fun x hx => by
  have h1 := sum_ge l x hx
  have h2 := wf_i64 (hw x hx).2.2.1
  have h3 : T50 x = 1 + ((x.f1.size + 1) + (1 + (1))) + 1 := rfl
  exact ⟨h2, by omega⟩
theorem barbicanlaw18_LexPrints_pure : barbicanlaw18_LexPrints_Pure := by
  intro l0 l1 w0 w1 hb
  have n0 := len_le l0
  have n1 := len_le l1
  have f0 := all_fit l0 w0 (by omega)
  have hL : ∀ x ∈ l0, (pt x).length ≤ 4194304 := fun x hx => by
    have h1 := pt_len (f0 x hx)
    have h2 := (f0 x hx).2
    omega
  have hJ : (jn (l0.map pt)).length ≤ 140737488355328 := by
    have := jn_len 4194304 (l0.map pt) (fun p hp => by obtain ⟨x, hx, rfl⟩ := List.mem_map.1 hp; exact hL x hx)
    rw [List.length_map] at this
    have h3 : (4194304 + 1) * l0.length ≤ (4194304 + 1) * 1048576 := Nat.mul_le_mul (Nat.le_refl _) (by omega)
    omega
  have hJe : Lib.join ((l0.map PT).map (·.data.toList)) [32] = jn (l0.map pt) := by rw [jn_join, List.map_map]; rfl
  refine ev_exists ?_
  have tailE : Ev (fun k => ((barbicanlaw18_give.f k l0).bind fun t275 => ((barbicanlaw18_give.f k l1).bind fun t278 => ((lex_Same.f k t275 t278).bind fun t281 => ((barbicanref18_Same.f k l0 l1).bind fun t282 => (if (t281 == t282) = true then ((barbicanlaw18_sure.f k).bind fun t283 => (some t283)) else (none))))))) true := by
    have hs := Same_ev (l0.map gv) (l1.map gv) (by rw [List.length_map]; omega) (by rw [List.length_map]; omega)
    rw [core_gv, core_gv] at hs
    exact ev_bind (give_ev l0 (by omega)) (ev_bind (give_ev l1 (by omega)) (ev_bind hs (ev_bind (rsame_ev l0 l1 (by omega)) (ev_if_pos (beq_self_eq_true _) (ev_bind sure_ev (ev_some _))))))
  have hp : Ev (fun k => lex_Print.f k (l0.map gv)) (resP (l0.all okT) (jn (l0.map pt))) := by
    have := print_go l0 (by omega) f0 (by rw [hJe]; exact hJ) hL l0 0 [] rfl rfl
    rw [hJe] at this
    unfold lex_Print.f
    rw [List.length_map]
    exact this
  have hq : Ev (fun k => barbicanref18_Print.f k l0) (resQ (l0.all okT) (jn (l0.map pt))) := by
    unfold barbicanref18_Print.f
    exact rprint_go l0 (by omega) f0 hJ hL l0 0 [] rfl rfl rfl
  unfold barbicanlaw18_LexPrints.f
  generalize l0.all okT = b at hp hq
  refine ev_bind (give_ev l0 (by omega)) (ev_bind hp (ev_bind hq ?_))
  cases b
  · exact ev_if_pos rfl (ev_bind_some (ev_if_pos rfl tailE))
  · exact ev_if_pos rfl (ev_bind_some (ev_if_pos rfl tailE))
end Go.Proofs.YtaffmgphcmmdhaaGreatDoor.Q
