/- Trees of conditions: as the program's, their parts. -/
import Derived.Test.YtddkbhglbkfelaaPnXPlP
set_option linter.unusedVariables false
set_option linter.unusedSimpArgs false
namespace Go.Proofs.Ytddkbhglbkfelaa.P
open Go.RowKit Go.Proofs.YtddkbhglbkfelaaW.PrintWords Go.Proofs.YtddkbhglbkfelaaW.PrintLast Go.Proofs.YtddkbhglbkfelaaX
mutual
def M26 : S26 → Nat
  | ⟨a, _, _, _, l⟩ => a.size + 1 + M26L l
def M26L : List S26 → Nat
  | [] => 0
  | x :: r => M26 x + M26L r
end
mutual
def M43 : S43 → Nat
  | ⟨a, _, _, _, l⟩ => a.size + 1 + M43L l
def M43L : List S43 → Nat
  | [] => 0
  | x :: r => M43 x + M43L r
end
mutual
def gv : S26 → S43
  | ⟨a, b, c, v, l⟩ => ⟨a, b, c, v, gvL l⟩
def gvL : List S26 → List S43
  | [] => []
  | x :: r => gv x :: gvL r
end
mutual
def parts : S43 → List S43
  | ⟨a, b, c, v, l⟩ => if a.toList = ([97, 110, 100] : List UInt8) then partsL l else [⟨a, b, c, v, l⟩]
def partsL : List S43 → List S43
  | [] => []
  | x :: r => parts x ++ partsL r
end
theorem M26_eq (x : S26) : M26 x = x.f0.size + 1 + M26L x.f4 := by cases x; rw [M26]
theorem M43_eq (x : S43) : M43 x = x.f0.size + 1 + M43L x.f4 := by cases x; rw [M43]
theorem M26_mem : ∀ (l : List S26) (x : S26), x ∈ l → M26 x ≤ M26L l
  | [], x, h => by cases h
  | y :: l, x, h => by
    rw [M26L]
    rcases List.mem_cons.1 h with rfl | h
    · omega
    · have := M26_mem l x h; omega
theorem M43_mem : ∀ (l : List S43) (x : S43), x ∈ l → M43 x ≤ M43L l
  | [], x, h => by cases h
  | y :: l, x, h => by
    rw [M43L]
    rcases List.mem_cons.1 h with rfl | h
    · omega
    · have := M43_mem l x h; omega
theorem M26_len : ∀ l : List S26, l.length ≤ M26L l
  | [] => Nat.zero_le _
  | x :: l => by have := M26_len l; have h := M26_eq x; rw [M26L, List.length_cons]; omega
theorem M43_len : ∀ l : List S43, l.length ≤ M43L l
  | [] => Nat.zero_le _
  | x :: l => by have := M43_len l; have h := M43_eq x; rw [M43L, List.length_cons]; omega
theorem gvL_map : ∀ l : List S26, gvL l = l.map gv
  | [] => by rw [gvL]; rfl
  | x :: l => by rw [gvL, gvL_map l]; rfl
theorem gv_eq (x : S26) : gv x = ⟨x.f0, x.f1, x.f2, x.f3, x.f4.map gv⟩ := by cases x; rw [gv, gvL_map]
mutual
theorem M43_gv : ∀ x : S26, M43 (gv x) = M26 x
  | ⟨a, b, c, v, l⟩ => by rw [gv, M43, M26, M43_gvL l]
theorem M43_gvL : ∀ l : List S26, M43L (gvL l) = M26L l
  | [] => by rw [gvL, M43L, M26L]
  | x :: r => by rw [gvL, M43L, M26L, M43_gv x, M43_gvL r]
end
theorem partsL_append : ∀ a b : List S43, partsL (a ++ b) = partsL a ++ partsL b
  | [], b => by rw [partsL]; rfl
  | x :: a, b => by rw [List.cons_append, partsL, partsL, partsL_append a b, List.append_assoc]
theorem M26L_append : ∀ a b : List S26, M26L (a ++ b) = M26L a + M26L b
  | [], b => by rw [M26L, List.nil_append]; omega
  | x :: a, b => by rw [List.cons_append, M26L, M26L, M26L_append a b]; omega
mutual
theorem parts_len : ∀ x : S43, (parts x).length ≤ M43 x
  | ⟨a, b, c, v, l⟩ => by
    rw [parts, M43]
    split
    · have := partsL_len l; omega
    · simp only [List.length_cons, List.length_nil]; omega
theorem partsL_len : ∀ l : List S43, (partsL l).length ≤ M43L l
  | [] => by rw [partsL, M43L]; exact Nat.le_refl _
  | x :: r => by rw [partsL, M43L, List.length_append]; have := parts_len x; have := partsL_len r; omega
end
mutual
theorem parts_size : ∀ x : S43, ∀ z ∈ parts x, z.f0.size ≤ M43 x
  | ⟨a, b, c, v, l⟩ => by
    intro z hz
    rw [parts] at hz
    rw [M43]
    split at hz
    · have := partsL_size l z hz; omega
    · rw [List.mem_singleton.1 hz]; simp only []; omega
theorem partsL_size : ∀ l : List S43, ∀ z ∈ partsL l, z.f0.size ≤ M43L l
  | [] => by intro z hz; rw [partsL] at hz; cases hz
  | x :: r => by
    intro z hz
    rw [partsL] at hz
    rw [M43L]
    rcases List.mem_append.1 hz with h | h
    · have := parts_size x z h; omega
    · have := partsL_size r z h; omega
end
/-! ### few, light -/
theorem few_ev : ∀ (n : Nat) (x : S26), M26 x ≤ n → n ≤ 4194304 → ∀ a1 a2 : Int, ∃ r, Ev (fun k => barbicanlaw22_few.f k x.f0 x.f1 x.f2 x.f3.f0 x.f3.f1 x.f3.f2 x.f3.f3 x.f4 a1 a2) r := by
  intro n
  induction n with
  | zero => intro x h; have := M26_eq x; omega
  | succ n ih =>
    intro x h hn a1 a2
    have hm := M26_eq x
    have hlen := M26_len x.f4
    by_cases c : a1 > 100
    · exact ⟨a2, ev_step (fun _ => barbicanlaw22_few.f.eq_2 ..) (ev_if_pos c (ev_some _))⟩
    · have go : ∀ (l : List S26) (i : Nat) (x7 : Int), x.f4.drop i = l → ∃ r, Ev (fun k => barbicanlaw22_few.l0 k a1 a2 x7 (i : Int) x.f0 x.f1 x.f2 x.f3.f0 x.f3.f1 x.f3.f2 x.f3.f3 x.f4) r := by
        intro l
        induction l with
        | nil =>
          intro i x7 hd
          have h1 := drop_nil hd
          exact ⟨x7, ev_step (fun _ => barbicanlaw22_few.l0.eq_2 ..) (ev_if_neg (by omega) (ev_some _))⟩
        | cons y l ihl =>
          intro i x7 hd
          obtain ⟨h1, h2, h3⟩ := drop_cons hd
          by_cases c2 : x7 < a2
          · have hy := M26_mem _ _ (List.mem_of_getElem? h1)
            obtain ⟨r1, hr1⟩ := ih y (by omega) (by omega) (wrap64 (a1 + 1)) (wrap64 (a2 - x7))
            obtain ⟨r, hr⟩ := ihl (i + 1) (wrap64 (x7 + r1)) h3
            rw [← wsucc (by omega)] at hr
            refine ⟨r, ev_step (fun _ => barbicanlaw22_few.l0.eq_2 ..) (ev_if_pos (by omega) (ev_if_pos c2 (ev_if_pos (by omega) ?_)))⟩
            rw [rd26_at h1]
            exact ev_bind hr1 hr
          · exact ⟨x7, ev_step (fun _ => barbicanlaw22_few.l0.eq_2 ..) (ev_if_pos (by omega) (ev_if_neg c2 (ev_some _)))⟩
      obtain ⟨r, hr⟩ := go x.f4 0 1 rfl
      exact ⟨r, ev_step (fun _ => barbicanlaw22_few.f.eq_2 ..) (ev_if_neg c hr)⟩
theorem light_ev (xs : List S26) (hn : M26L xs ≤ 4194304) : ∃ b, Ev (fun k => barbicanlaw22_light.f k xs) b := by
  have hlen := M26_len xs
  have go : ∀ (l : List S26) (i : Nat), xs.drop i = l → ∃ b, Ev (fun k => barbicanlaw22_light.l0 k xs (i : Int)) b := by
    intro l
    induction l with
    | nil =>
      intro i hd
      have h1 := drop_nil hd
      exact ⟨true, ev_step (fun _ => barbicanlaw22_light.l0.eq_2 ..) (ev_if_neg (by omega) (ev_some _))⟩
    | cons y l ihl =>
      intro i hd
      obtain ⟨h1, h2, h3⟩ := drop_cons hd
      by_cases c : (i : Int) > 50
      · exact ⟨false, ev_step (fun _ => barbicanlaw22_light.l0.eq_2 ..) (ev_if_pos (by omega) (ev_if_pos c (ev_some _)))⟩
      · have hy := M26_mem _ _ (List.mem_of_getElem? h1)
        obtain ⟨r1, hr1⟩ := few_ev 4194304 y (by omega) (Nat.le_refl _) 0 1000
        by_cases c2 : r1 ≥ 1000
        · refine ⟨false, ev_step (fun _ => barbicanlaw22_light.l0.eq_2 ..) (ev_if_pos (by omega) (ev_if_neg c (ev_if_pos (by omega) ?_)))⟩
          rw [rd26_at h1]
          exact ev_bind hr1 (ev_if_pos c2 (ev_some _))
        · obtain ⟨b, hb⟩ := ihl (i + 1) h3
          rw [← wsucc (by omega)] at hb
          refine ⟨b, ev_step (fun _ => barbicanlaw22_light.l0.eq_2 ..) (ev_if_pos (by omega) (ev_if_neg c (ev_if_pos (by omega) ?_)))⟩
          rw [rd26_at h1]
          exact ev_bind hr1 (ev_if_neg c2 hb)
  exact go xs 0 rfl
/-! ### give, gives -/
def flat (y : S43) : ByteArray × Int × Int × Int × Int × ByteArray × Bool × List S43 := (y.f0, y.f1, y.f2, y.f3.f0, y.f3.f1, y.f3.f2, y.f3.f3, y.f4)
theorem flat_back (g : S43) : (⟨(flat g).1, (flat g).2.1, (flat g).2.2.1, (⟨(flat g).2.2.2.1, (flat g).2.2.2.2.1, (flat g).2.2.2.2.2.1, (flat g).2.2.2.2.2.2.1⟩ : S24), (flat g).2.2.2.2.2.2.2⟩ : S43) = g := by cases g; rfl
theorem eta43 (y : S43) : (⟨y.f0, y.f1, y.f2, (⟨y.f3.f0, y.f3.f1, y.f3.f2, y.f3.f3⟩ : S24), y.f4⟩ : S43) = y := by cases y; rfl
theorem give_ev : ∀ (n : Nat) (x : S26), M26 x ≤ n → n ≤ 4194304 → Ev (fun k => barbicanlaw22_give.f k x.f0 x.f1 x.f2 x.f3.f0 x.f3.f1 x.f3.f2 x.f3.f3 x.f4) (flat (gv x)) := by
  intro n
  induction n with
  | zero => intro x h; have := M26_eq x; omega
  | succ n ih =>
    intro x h hn
    have hm := M26_eq x
    have hlen := M26_len x.f4
    have go : ∀ (l : List S26) (i : Nat) (acc : List S43), x.f4.drop i = l → acc ++ l.map gv = x.f4.map gv → Ev (fun k => barbicanlaw22_give.l0 k (i : Int) x.f0 x.f1 x.f2 x.f3.f0 x.f3.f1 x.f3.f2 x.f3.f3 x.f4 x.f0 x.f1 x.f2 x.f3.f0 x.f3.f1 x.f3.f2 x.f3.f3 acc) (flat (gv x)) := by
      intro l
      induction l with
      | nil =>
        intro i acc hd ha
        have h1 := drop_nil hd
        rw [List.map_nil, List.append_nil] at ha
        refine ev_step (fun _ => barbicanlaw22_give.l0.eq_2 ..) (ev_if_neg (by omega) ?_)
        rw [ha, gv_eq]
        exact ev_some _
      | cons y l ihl =>
        intro i acc hd ha
        obtain ⟨h1, h2, h3⟩ := drop_cons hd
        have hy := M26_mem _ _ (List.mem_of_getElem? h1)
        have hacc : acc.length ≤ x.f4.length := by have := congrArg List.length ha; simp only [List.length_append, List.length_map] at this; omega
        refine ev_step (fun _ => barbicanlaw22_give.l0.eq_2 ..) (ev_if_pos (by omega) (ev_if_pos (by omega) ?_))
        rw [rd26_at h1]
        refine ev_bind (ih y (by omega) (by omega)) (ev_if_pos (by omega) ?_)
        rw [wsucc (by omega), flat_back]
        exact ihl (i + 1) (acc ++ [gv y]) h3 (by rw [List.append_assoc]; exact ha)
    exact ev_step (fun _ => barbicanlaw22_give.f.eq_2 ..) (go x.f4 0 [] rfl rfl)
theorem gives_ev (xs : List S26) (hn : M26L xs ≤ 4194304) : Ev (fun k => barbicanlaw22_gives.f k xs) (gvL xs) := by
  have hlen := M26_len xs
  rw [gvL_map]
  have go : ∀ (l : List S26) (i : Nat) (acc : List S43), xs.drop i = l → acc ++ l.map gv = xs.map gv → Ev (fun k => barbicanlaw22_gives.l0 k xs acc (i : Int)) (xs.map gv) := by
    intro l
    induction l with
    | nil =>
      intro i acc hd ha
      have h1 := drop_nil hd
      rw [List.map_nil, List.append_nil] at ha
      rw [← ha]
      exact ev_step (fun _ => barbicanlaw22_gives.l0.eq_2 ..) (ev_if_neg (by omega) (ev_some _))
    | cons y l ihl =>
      intro i acc hd ha
      obtain ⟨h1, h2, h3⟩ := drop_cons hd
      have hy := M26_mem _ _ (List.mem_of_getElem? h1)
      have hacc : acc.length ≤ xs.length := by have := congrArg List.length ha; simp only [List.length_append, List.length_map] at this; omega
      refine ev_step (fun _ => barbicanlaw22_gives.l0.eq_2 ..) (ev_if_pos (by omega) (ev_if_pos (by omega) ?_))
      rw [rd26_at h1]
      refine ev_bind (give_ev 4194304 y (by omega) (Nat.le_refl _)) (ev_if_pos (by omega) ?_)
      rw [wsucc (by omega), flat_back]
      exact ihl (i + 1) (acc ++ [gv y]) h3 (by rw [List.append_assoc]; exact ha)
  exact go xs 0 [] rfl rfl
/-! ### Parts -/
theorem parts_pos {y : S43} (h : y.f0.toList = ([97, 110, 100] : List UInt8)) : parts y = partsL y.f4 := by cases y; rw [parts, if_pos h]
theorem parts_neg {y : S43} (h : ¬ y.f0.toList = ([97, 110, 100] : List UInt8)) : parts y = [y] := by cases y; rw [parts, if_neg h]
theorem Parts_ev : ∀ (n : Nat) (ys : List S43), M43L ys ≤ n → n ≤ 4194304 → Ev (fun k => plan_Parts.f k ys) (partsL ys) := by
  intro n
  induction n with
  | zero =>
    intro ys h hn
    have hl : ys = [] := List.eq_nil_of_length_eq_zero (by have := M43_len ys; omega)
    subst hl
    rw [partsL]
    exact ev_step (fun _ => plan_Parts.f.eq_2 ..) (ev_step (fun _ => plan_Parts.l0.eq_2 ..) (ev_if_neg (by decide) (ev_some _)))
  | succ n ih =>
    intro ys h hn
    have hlen := M43_len ys
    have hpl := partsL_len ys
    have go : ∀ (l : List S43) (i : Nat) (acc : List S43), ys.drop i = l → acc ++ partsL l = partsL ys → Ev (fun k => plan_Parts.l0 k acc ys ((ys.length : Nat) : Int) (i : Int)) (partsL ys) := by
      intro l
      induction l with
      | nil =>
        intro i acc hd ha
        have h1 := drop_nil hd
        rw [partsL, List.append_nil] at ha
        rw [← ha]
        exact ev_step (fun _ => plan_Parts.l0.eq_2 ..) (ev_if_neg (by omega) (ev_some _))
      | cons y l ihl =>
        intro i acc hd ha
        obtain ⟨h1, h2, h3⟩ := drop_cons hd
        have hy := M43_mem _ _ (List.mem_of_getElem? h1)
        have hm := M43_eq y
        have hacc := congrArg List.length ha
        rw [partsL, List.length_append, List.length_append] at hacc
        refine ev_step (fun _ => plan_Parts.l0.eq_2 ..) (ev_if_pos (by omega) (ev_if_pos (by omega) (ev_if_pos (by omega) ?_)))
        rw [rd43_at h1]
        by_cases c : y.f0.toList = ([97, 110, 100] : List UInt8)
        · have hp := parts_pos c
          rw [hp] at hacc
          refine ev_if_pos c (ev_bind (ih y.f4 (by omega) (by omega)) (ev_if_pos (by omega) ?_))
          rw [wsucc (by omega)]
          exact ihl (i + 1) (acc ++ partsL y.f4) h3 (by rw [List.append_assoc, ← hp, ← partsL]; exact ha)
        · have hp := parts_neg c
          rw [hp] at hacc
          simp only [List.length_cons, List.length_nil] at hacc
          refine ev_if_neg c (ev_if_pos (by omega) ?_)
          rw [wsucc (by omega), eta43]
          exact ihl (i + 1) (acc ++ [y]) h3 (by rw [List.append_assoc, ← hp, ← partsL]; exact ha)
    exact ev_step (fun _ => plan_Parts.f.eq_2 ..) (go ys 0 [] rfl rfl)
end Go.Proofs.Ytddkbhglbkfelaa.P
