/- What the walks of order.Encode (of one value), plan.bound, plan.Range compute, as far as the law asks. -/
import Derived.Test.YtddkbhglbkfelaaPnXPtP
import Derived.KernelRfl
set_option linter.unusedVariables false
set_option linter.unusedSimpArgs false
namespace Go.Proofs.Ytddkbhglbkfelaa.P
open Go.RowKit Go.Proofs.YtddkbhglbkfelaaW.PrintWords Go.Proofs.YtddkbhglbkfelaaW.PrintLast Go.Proofs.YtddkbhglbkfelaaX
theorem str_size (xs : List Int) : (strOfNums xs).size = xs.length := by
  unfold strOfNums
  rw [← size_data]
  simp
theorem valid_ex (a b : Int) (s : ByteArray) (t : Bool) : ∃ e, Ev (fun k => value_Valid.f k a b s t) e ∧ (e = none → s.size ≤ 4096) := by
  have hj1 : ∀ (q : Bool), ∃ e, (∀ k, value_Valid.j1 (k + 1) q a b s t = some e) ∧ (e = none → s.size ≤ 4096) := by
    intro q
    cases q with
    | true => exact ⟨some 3, fun k => by simp [value_Valid.j1], fun h => by cases h⟩
    | false =>
      by_cases h2 : (s.size : Int) > 4096
      · exact ⟨some 2, fun k => by simp only [value_Valid.j1, Bool.false_eq_true, if_false, if_pos h2], fun h => by cases h⟩
      · by_cases h3 : (Lib.idxFunc nonPrint true s : Int) ≥ 0
        · exact ⟨some 3, fun k => by simp only [value_Valid.j1, Bool.false_eq_true, if_false, if_neg h2, strings_IndexFunc_Valid.f, Option.bind_some, if_pos h3], fun h => by cases h⟩
        · exact ⟨none, fun k => by simp only [value_Valid.j1, Bool.false_eq_true, if_false, if_neg h2, strings_IndexFunc_Valid.f, Option.bind_some, if_neg h3], fun _ => by omega⟩
  have hk : ∃ nm, value_Kind.f a = some nm := by
    unfold value_Kind.f
    repeat' split
    all_goals exact ⟨_, rfl⟩
  obtain ⟨nm, hn⟩ := hk
  have hj0 : ∀ (c0 c1 : Int) (c2 : ByteArray) (c3 : Bool), ∃ e, (∀ k, value_Valid.j0 (k + 2) a b s t c0 c1 c2 c3 = some e) ∧ (e = none → s.size ≤ 4096) := by
    intro c0 c1 c2 c3
    by_cases he : nm.toList = ([] : List UInt8)
    · obtain ⟨e, h1, h2⟩ := hj1 true
      exact ⟨e, fun k => by simp only [value_Valid.j0, hn, Option.bind_some, if_pos he]; exact h1 k, h2⟩
    · obtain ⟨e, h1, h2⟩ := hj1 (!(c0 == a) || (!(c1 == 0) || (!(c2.toList == ([] : List UInt8)) || (c3))))
      exact ⟨e, fun k => by simp only [value_Valid.j0, hn, Option.bind_some, if_neg he]; exact h1 k, h2⟩
  unfold value_Valid.f
  by_cases h1 : a = 1
  · obtain ⟨e, g1, g2⟩ := hj0 a 0 s t
    exact ⟨e, ev_if_pos h1 (ev_at 2 g1), g2⟩
  by_cases h2 : a = 2
  · obtain ⟨e, g1, g2⟩ := hj0 a b ⟨#[]⟩ t
    exact ⟨e, ev_if_neg h1 (ev_if_pos h2 (ev_at 2 g1)), g2⟩
  by_cases h3 : a = 3
  · obtain ⟨e, g1, g2⟩ := hj0 a b s false
    exact ⟨e, ev_if_neg h1 (ev_if_neg h2 (ev_if_pos h3 (ev_at 2 g1))), g2⟩
  · obtain ⟨e, g1, g2⟩ := hj0 a b s t
    exact ⟨e, ev_if_neg h1 (ev_if_neg h2 (ev_if_neg h3 (ev_at 2 g1))), g2⟩
theorem word_ex (x : Int) : ∀ (n : Nat) (l : List Int), n ≤ 8 → l.length + n < 100000 → ∃ t, t.length = l.length + n ∧ Ev (fun k => order_word.l0 k l x (8 * (n : Int) - 8)) t
  | 0, l, _, _ => ⟨l, rfl, ev_step (fun _ => order_word.l0.eq_2 ..) (ev_if_neg (by omega) (ev_some _))⟩
  | n + 1, l, hn, hl => by
    obtain ⟨t, h1, h2⟩ := word_ex x n (l ++ [(shr .u64 x (IntKind.u64.wrap (8 * ((n + 1 : Nat) : Int) - 8))) % 256]) (by omega) (by rw [List.length_append]; simp only [List.length_cons, List.length_nil]; omega)
    refine ⟨t, by rw [h1, List.length_append]; simp only [List.length_cons, List.length_nil]; omega, ev_step (fun _ => order_word.l0.eq_2 ..) (ev_if_pos (by omega) (ev_if_pos ?_ (ev_if_pos (by omega) ?_)))⟩
    · rw [u64_wrap]; omega
    · have e : wrap64 (8 * ((n + 1 : Nat) : Int) - 8 - 8) = 8 * (n : Int) - 8 := by unfold wrap64; omega
      rw [e]
      exact h2
theorem encode_ex (v : S24) : ∃ s e, Ev (fun k => order_Encode.f k [v]) (s, e) ∧ s.size ≤ 5000 := by
  have r0 : rd_T24 [v] 0 = v := rfl
  have h1 : (([v] : List S24).length : Int) = 1 := rfl
  have w1 : wrap64 (0 + 1) = 1 := by unfold wrap64; omega
  obtain ⟨er, hv, hs⟩ := valid_ex v.f0 v.f1 v.f2 v.f3
  unfold order_Encode.f
  cases er with
  | some q =>
    refine ⟨⟨#[]⟩, some q, ev_step (fun _ => order_Encode.l0.eq_2 ..) (ev_if_pos (by rw [h1]; decide) (ev_if_pos (by decide) (ev_if_pos (by rw [h1]; decide) ?_))), by decide⟩
    rw [r0]
    exact ev_bind hv (ev_if_neg (by simp) (ev_some _))
  | none =>
    have hsz := hs rfl
    have goal : ∃ s e, Ev (fun k => order_Encode.l1 k ([] : List Int) [v] ((([v] : List S24).length : Nat) : Int) 0) (s, e) ∧ s.size ≤ 5000 := by
      have fin : ∀ l : List Int, l.length ≤ 5000 → ∃ s e, Ev (fun k => order_Encode.l1 k l [v] ((([v] : List S24).length : Nat) : Int) 1) (s, e) ∧ s.size ≤ 5000 := fun l hl =>
        ⟨strOfNums l, none, ev_step (fun _ => order_Encode.l1.eq_2 ..) (ev_if_neg (by rw [h1]; decide) (ev_some _)), by rw [str_size]; exact hl⟩
      have hb : (bytesOf v.f2).length = v.f2.size := bytesOf_length v.f2
      by_cases k1 : v.f0 = 1
      · obtain ⟨t, t1, t2⟩ := word_ex (Go.bits .xor .u64 (IntKind.u64.wrap v.f1) 9223372036854775808) 8 (([] : List Int) ++ [(v.f0 + 1) % 256]) (by decide) (by simp)
        obtain ⟨s, e, g1, g2⟩ := fin t (by rw [t1]; simp)
        refine ⟨s, e, ev_step (fun _ => order_Encode.l1.eq_2 ..) (ev_if_pos (by rw [h1]; decide) (ev_if_pos (by decide) (ev_if_pos (by rw [h1]; decide) (ev_if_pos (by decide) (ev_bind_some ?_))))), g2⟩
        rw [r0, w1]
        exact ev_if_pos k1 (ev_bind t2 g1)
      by_cases k2 : v.f0 = 2
      · obtain ⟨s, e, g1, g2⟩ := fin ((([] : List Int) ++ [(v.f0 + 1) % 256]) ++ bytesOf v.f2 ++ [0]) (by simp only [List.length_append, List.length_cons, List.length_nil]; omega)
        refine ⟨s, e, ev_step (fun _ => order_Encode.l1.eq_2 ..) (ev_if_pos (by rw [h1]; decide) (ev_if_pos (by decide) (ev_if_pos (by rw [h1]; decide) (ev_if_pos (by decide) (ev_bind_some ?_))))), g2⟩
        rw [r0, w1]
        exact ev_if_neg k1 (ev_if_pos k2 (ev_if_pos (by simp only [List.length_append, List.length_cons, List.length_nil]; omega) (ev_bind_some (ev_if_pos (by simp only [List.length_append, List.length_cons, List.length_nil]; omega) g1))))
      by_cases k3 : v.f0 = 3
      · cases hb3 : v.f3 with
        | true =>
          obtain ⟨s, e, g1, g2⟩ := fin ((([] : List Int) ++ [(v.f0 + 1) % 256]) ++ [1]) (by simp)
          refine ⟨s, e, ev_step (fun _ => order_Encode.l1.eq_2 ..) (ev_if_pos (by rw [h1]; decide) (ev_if_pos (by decide) (ev_if_pos (by rw [h1]; decide) (ev_if_pos (by decide) (ev_bind_some ?_))))), g2⟩
          rw [r0, w1]
          exact ev_if_neg k1 (ev_if_neg k2 (ev_if_pos k3 (ev_if_pos hb3 (ev_if_pos (by simp) g1))))
        | false =>
          obtain ⟨s, e, g1, g2⟩ := fin ((([] : List Int) ++ [(v.f0 + 1) % 256]) ++ [0]) (by simp)
          refine ⟨s, e, ev_step (fun _ => order_Encode.l1.eq_2 ..) (ev_if_pos (by rw [h1]; decide) (ev_if_pos (by decide) (ev_if_pos (by rw [h1]; decide) (ev_if_pos (by decide) (ev_bind_some ?_))))), g2⟩
          rw [r0, w1]
          exact ev_if_neg k1 (ev_if_neg k2 (ev_if_pos k3 (ev_if_neg (by rw [hb3]; decide) (ev_if_pos (by simp) g1))))
      · obtain ⟨s, e, g1, g2⟩ := fin (([] : List Int) ++ [(v.f0 + 1) % 256]) (by simp)
        refine ⟨s, e, ev_step (fun _ => order_Encode.l1.eq_2 ..) (ev_if_pos (by rw [h1]; decide) (ev_if_pos (by decide) (ev_if_pos (by rw [h1]; decide) (ev_if_pos (by decide) (ev_bind_some ?_))))), g2⟩
        rw [r0, w1]
        exact ev_if_neg k1 (ev_if_neg k2 (ev_if_neg k3 g1))
    obtain ⟨s, e, g1, g2⟩ := goal
    refine ⟨s, e, ev_step (fun _ => order_Encode.l0.eq_2 ..) (ev_if_pos (by rw [h1]; decide) (ev_if_pos (by decide) (ev_if_pos (by rw [h1]; decide) ?_))), g2⟩
    rw [r0]
    refine ev_bind hv (ev_if_pos rfl ?_)
    rw [w1]
    exact ev_step (fun _ => order_Encode.l0.eq_2 ..) (ev_if_neg (by rw [h1]; decide) (ev_if_neg (by rw [h1]; decide) g1))
/-! ### bound -/
abbrev R7 := ByteArray × ByteArray × Bool × Bool × Bool × Bool × Bool
theorem j3_ex (x s : ByteArray) (hs : s.size ≤ 5000) (b : Bool) : ∃ r, Ev (fun k => plan_bound.j3 k x s b) r := by
  cases b with
  | true => exact ⟨_, ev_step (fun _ => plan_bound.j3.eq_2 ..) (ev_if_pos rfl (by unfold plan_nowhere.f; exact ev_bind_some (ev_some _)))⟩
  | false =>
    have hp : ∃ r, cursor_Prefix.f s = some r := by
      unfold cursor_Prefix.f order_Next.f
      rw [if_pos (by omega)]
      simp only [Option.bind_some]
      split <;> exact ⟨_, rfl⟩
    obtain ⟨r, hr⟩ := hp
    by_cases c1 : x.toList = ([60] : List UInt8)
    · exact ⟨_, ev_step (fun _ => plan_bound.j3.eq_2 ..) (ev_if_neg (by decide) (by rw [hr]; exact ev_bind_some (ev_if_pos c1 (ev_some _))))⟩
    by_cases c2 : x.toList = ([60, 61] : List UInt8)
    · exact ⟨_, ev_step (fun _ => plan_bound.j3.eq_2 ..) (ev_if_neg (by decide) (by rw [hr]; exact ev_bind_some (ev_if_neg c1 (ev_if_pos c2 (ev_some _)))))⟩
    by_cases c3 : x.toList = ([62, 61] : List UInt8)
    · exact ⟨_, ev_step (fun _ => plan_bound.j3.eq_2 ..) (ev_if_neg (by decide) (by rw [hr]; exact ev_bind_some (ev_if_neg c1 (ev_if_neg c2 (ev_if_pos c3 (ev_some _))))))⟩
    by_cases c4 : x.toList = ([62] : List UInt8)
    · exact ⟨_, ev_step (fun _ => plan_bound.j3.eq_2 ..) (ev_if_neg (by decide) (by rw [hr]; exact ev_bind_some (ev_if_neg c1 (ev_if_neg c2 (ev_if_neg c3 (ev_if_pos c4 (ev_some _)))))))⟩
    · exact ⟨_, ev_step (fun _ => plan_bound.j3.eq_2 ..) (ev_if_neg (by decide) (by rw [hr]; exact ev_bind_some (ev_if_neg c1 (ev_if_neg c2 (ev_if_neg c3 (ev_if_neg c4 (ev_some _)))))))⟩
theorem j2_ex (kind : Int) (x : ByteArray) (b : Bool) (o : ByteArray) (i1 i2 : Int) (v : S24) (l : List S43) : ∃ r, Ev (fun k => plan_bound.j2 k kind x b o i1 i2 v.f0 v.f1 v.f2 v.f3 l) r := by
  cases b with
  | true => exact ⟨_, ev_step (fun _ => plan_bound.j2.eq_2 ..) (ev_if_pos rfl (ev_some _))⟩
  | false =>
    obtain ⟨s, e, h1, h2⟩ := encode_ex v
    cases e with
    | none =>
      obtain ⟨r, hr⟩ := j3_ex x s h2 (v.f0 != kind)
      exact ⟨r, ev_step (fun _ => plan_bound.j2.eq_2 ..) (ev_if_neg (by decide) (ev_bind h1 (ev_if_pos rfl hr)))⟩
    | some q =>
      obtain ⟨r, hr⟩ := j3_ex x s h2 true
      exact ⟨r, ev_step (fun _ => plan_bound.j2.eq_2 ..) (ev_if_neg (by decide) (ev_bind h1 (ev_if_neg (by simp) hr)))⟩
theorem j1_ex (col kind : Int) (x : ByteArray) (a b : S43) : ∃ r, Ev (fun k => plan_bound.j1 k col kind x a.f0 a.f1 a.f2 a.f3.f0 a.f3.f1 a.f3.f2 a.f3.f3 a.f4 b.f0 b.f1 b.f2 b.f3.f0 b.f3.f1 b.f3.f2 b.f3.f3 b.f4) r := by
  by_cases c1 : a.f0.toList = ([99, 111, 108] : List UInt8)
  · by_cases c2 : b.f0.toList = ([108, 105, 116] : List UInt8)
    · obtain ⟨r, hr⟩ := j2_ex kind x (a.f2 != col) b.f0 b.f1 b.f2 b.f3 b.f4
      exact ⟨r, ev_step (fun _ => plan_bound.j1.eq_2 ..) (ev_if_pos c1 (ev_if_pos c2 hr))⟩
    · obtain ⟨r, hr⟩ := j2_ex kind x true b.f0 b.f1 b.f2 b.f3 b.f4
      exact ⟨r, ev_step (fun _ => plan_bound.j1.eq_2 ..) (ev_if_pos c1 (ev_if_neg c2 hr))⟩
  · obtain ⟨r, hr⟩ := j2_ex kind x true b.f0 b.f1 b.f2 b.f3 b.f4
    exact ⟨r, ev_step (fun _ => plan_bound.j1.eq_2 ..) (ev_if_neg c1 hr)⟩
theorem j0_ex (col kind : Int) (b : Bool) (y : S43) (hb : b = false → (y.f4.length : Int) = 2) : ∃ r, Ev (fun k => plan_bound.j0 k col kind b y.f0 y.f1 y.f2 y.f3.f0 y.f3.f1 y.f3.f2 y.f3.f3 y.f4) r := by
  cases b with
  | true => exact ⟨_, ev_step (fun _ => plan_bound.j0.eq_2 ..) (ev_if_pos rfl (ev_some _))⟩
  | false =>
    have h2 := hb rfl
    by_cases c : ((rd_T43 y.f4 1).f0).toList = ([99, 111, 108] : List UInt8)
    · have ht : ∃ z, plan_turned.f y.f0 = some z := by
        unfold plan_turned.f
        repeat' split
        all_goals exact ⟨_, rfl⟩
      obtain ⟨z, hz⟩ := ht
      obtain ⟨r, hr⟩ := j1_ex col kind z (rd_T43 y.f4 1) (rd_T43 y.f4 0)
      exact ⟨r, ev_step (fun _ => plan_bound.j0.eq_2 ..) (ev_if_neg (by decide) (ev_if_pos (by omega) (ev_if_pos (by omega) (ev_if_pos c (by rw [hz]; exact ev_bind_some hr)))))⟩
    · obtain ⟨r, hr⟩ := j1_ex col kind y.f0 (rd_T43 y.f4 0) (rd_T43 y.f4 1)
      exact ⟨r, ev_step (fun _ => plan_bound.j0.eq_2 ..) (ev_if_neg (by decide) (ev_if_pos (by omega) (ev_if_pos (by omega) (ev_if_neg c hr))))⟩
theorem bound_ex (y : S43) (hy : y.f0.size ≤ 4194304) (col kind : Int) : ∃ r : R7, Ev (fun k => plan_bound.f k y.f0 y.f1 y.f2 y.f3.f0 y.f3.f1 y.f3.f2 y.f3.f3 y.f4 col kind) r := by
  unfold plan_bound.f
  by_cases h2 : (y.f4.length : Int) = 2
  · have hc : ∃ b, strings_Contains.f (⟨#[32, 61, 32, 60, 32, 60, 61, 32, 62, 32, 62, 61, 32]⟩ : ByteArray) (((⟨#[32]⟩ : ByteArray) ++ y.f0) ++ (⟨#[32]⟩ : ByteArray)) = some b := by
      unfold strings_Contains.f strings_Index.f
      rw [if_pos (by decide)]
      exact ⟨_, rfl⟩
    obtain ⟨b, hb⟩ := hc
    obtain ⟨r, hr⟩ := j0_ex col kind (!b) y (fun _ => h2)
    have hs1 : (⟨#[32]⟩ : ByteArray).size = 1 := rfl
    exact ⟨r, ev_if_pos h2 (ev_if_pos (by omega) (ev_if_pos (by rw [ByteArray.size_append, hs1]; omega) (by rw [hb]; exact ev_bind_some hr)))⟩
  · obtain ⟨r, hr⟩ := j0_ex col kind true y (fun h => by cases h)
    exact ⟨r, ev_if_neg h2 hr⟩
noncomputable def bd (y : S43) : R7 := Classical.epsilon (fun r => Ev (fun k => plan_bound.f k y.f0 y.f1 y.f2 y.f3.f0 y.f3.f1 y.f3.f2 y.f3.f3 y.f4 0 1) r)
theorem bd_ev (y : S43) (hy : y.f0.size ≤ 4194304) : Ev (fun k => plan_bound.f k y.f0 y.f1 y.f2 y.f3.f0 y.f3.f1 y.f3.f2 y.f3.f3 y.f4 0 1) (bd y) := Classical.epsilon_spec (bound_ex y hy 0 1)
/-! ### Range -/
def six (r : R7) : R6 := (r.1, r.2.1, r.2.2.1, r.2.2.2.1, r.2.2.2.2.1, r.2.2.2.2.2.1)
noncomputable def stepR (r : R6) (y : S43) : R6 := if (bd y).2.2.2.2.2.2 = true then meet r (six (bd y)) else r
def r00 : R6 := (⟨#[]⟩, ⟨#[]⟩, false, false, false, false)
noncomputable def rng (l : List S43) : R6 := (partsL l).foldl stepR r00
def cols : List S30 := [(⟨(⟨#[97]⟩ : ByteArray), 1, true, false⟩ : S30), (⟨(⟨#[98]⟩ : ByteArray), 2, false, false⟩ : S30), (⟨(⟨#[99]⟩ : ByteArray), 1, false, false⟩ : S30), (⟨(⟨#[100]⟩ : ByteArray), 3, false, false⟩ : S30)]
theorem keys_ev : Ev (fun k => row_Keys.f k (⟨#[116]⟩ : ByteArray) cols) [0] := by
  refine Ev.of (fun k => row_Keys.mono _ _ k) (k := 12) ?_
  kernel_rfl
theorem Range_ev (l : List S43) (hl : M43L l ≤ 4194304) : Ev (fun k => plan_Range.f k (⟨#[116]⟩ : ByteArray) cols l) (rng l) := by
  have hlen := partsL_len l
  have hsz := partsL_size l
  have go : ∀ (ps : List S43) (i : Nat) (r : R6), (partsL l).drop i = ps → Ev (fun k => plan_Range.l0 k [0] (partsL l) (((partsL l).length : Nat) : Int) (i : Int) (⟨#[116]⟩ : ByteArray) cols r.1 r.2.1 r.2.2.1 r.2.2.2.1 r.2.2.2.2.1 r.2.2.2.2.2) (ps.foldl stepR r) := by
    intro ps
    induction ps with
    | nil =>
      intro i r hd
      have h1 := drop_nil hd
      exact ev_step (fun _ => plan_Range.l0.eq_2 ..) (ev_if_neg (by omega) (ev_some _))
    | cons y ps ih =>
      intro i r hd
      obtain ⟨h1, h2, h3⟩ := drop_cons hd
      have hy := hsz y (List.mem_of_getElem? h1)
      have h0 : rd ([0] : List Int) 0 = 0 := rfl
      refine ev_step (fun _ => plan_Range.l0.eq_2 ..) (ev_if_pos (by omega) (ev_if_pos (by omega) (ev_if_pos (by omega) (ev_if_pos (by decide) (ev_if_pos (by rw [h0]; decide) (ev_if_pos (by rw [h0]; decide) ?_))))))
      rw [rd43_at h1, h0]
      have hk : (rd_T30 cols 0).f1 = 1 := rfl
      rw [hk, wsucc (by omega)]
      refine ev_bind (bd_ev y (by omega)) ?_
      rw [List.foldl_cons]
      by_cases c : (bd y).2.2.2.2.2.2 = true
      · have e : stepR r y = meet r (six (bd y)) := by unfold stepR; rw [if_pos c]
        rw [e]
        exact ev_if_pos c (ev_bind (meet_ev r (six (bd y))) (ih (i + 1) (meet r (six (bd y))) h3))
      · have e : stepR r y = r := by unfold stepR; rw [if_neg c]
        rw [e]
        exact ev_if_neg c (ih (i + 1) r h3)
  unfold plan_Range.f
  exact ev_bind keys_ev (ev_if_neg (by decide) (ev_bind (Parts_ev 4194304 l (by omega) (Nat.le_refl _)) (go (partsL l) 0 r00 rfl)))
theorem has_fold (k : ByteArray) : ∀ (ps : List S43) (r : R6), hasB (ps.foldl stepR r) k = (hasB r k && ps.all (fun y => !(bd y).2.2.2.2.2.2 || hasB (six (bd y)) k))
  | [], r => by simp
  | y :: ps, r => by
    rw [List.foldl_cons, has_fold k ps, List.all_cons]
    unfold stepR
    cases hb : (bd y).2.2.2.2.2.2 with
    | true => rw [if_pos rfl, has_meet]; simp [Bool.and_assoc]
    | false => rw [if_neg (by decide)]; simp
theorem has_rng (k : ByteArray) (l : List S43) : hasB (rng l) k = (partsL l).all (fun y => !(bd y).2.2.2.2.2.2 || hasB (six (bd y)) k) := by
  unfold rng
  rw [has_fold]
  rfl
theorem sure_ev : Ev (fun k => barbicanlaw22_sure.f k) true := by
  refine Ev.of (fun k => barbicanlaw22_sure.mono k) (k := 60) ?_
  kernel_rfl
end Go.Proofs.Ytddkbhglbkfelaa.P
