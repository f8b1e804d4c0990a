/- The law StoreBack, told plainly: what is written down comes back. -/
import Derived.Test.YtddkbhglbkfelaaGreatDoorPkSaidStoreBack
import Derived.Test.YtddkbhglbkfelaaGreatDoorPkXThT
set_option linter.unusedVariables false
set_option linter.unusedSimpArgs false
namespace Go.Proofs.YtddkbhglbkfelaaGreatDoor.T
open Go.RowKit Go.Proofs.YtddkbhglbkfelaaGreatDoorW.PrintWords Go.Proofs.YtddkbhglbkfelaaGreatDoorW.PrintLast Go.Proofs.YtddkbhglbkfelaaGreatDoorX
theorem se_row {V : List S63} (hw : ∀ v ∈ V, W63 v) (ht : (V.map fun e_ => T63 e_).sum ≤ 1048576) : LOK V := by
  have hs : ∀ (V : List S63), V.length ≤ (V.map fun e_ => T63 e_).sum ∧ bulk V ≤ 12 * (V.map fun e_ => T63 e_).sum ∧ ∀ v ∈ V, v.f2.size ≤ (V.map fun e_ => T63 e_).sum := by
    intro V
    induction V with
    | nil => simp [bulk]
    | cons v vs ih =>
      simp only [List.map_cons, List.sum_cons, List.length_cons, bulk, List.mem_cons]
      have : T63 v = 5 + v.f2.size := by unfold T63; omega
      refine ⟨by omega, by omega, ?_⟩
      rintro x (rfl | hx)
      · omega
      · have := ih.2.2 x hx; omega
  obtain ⟨h1, h2, h3⟩ := hs V
  exact ⟨fun v hv => ⟨wf_i64 (hw v hv).2.1, by have := h3 v hv; omega⟩, by omega, by omega⟩
theorem se_rows : ∀ (L : List (List S63)), (∀ e_ ∈ L, ∀ e1_ ∈ e_, W63 e1_) → (L.map fun e_ => ((e_.map fun e1_ => T63 e1_).sum + 1)).sum ≤ 1048576 → L.length ≤ 1048576 ∧ ∀ V ∈ L, LOK V := by
  have hs : ∀ (L : List (List S63)), L.length ≤ (L.map fun e_ => ((e_.map fun e1_ => T63 e1_).sum + 1)).sum ∧ ∀ V ∈ L, (V.map fun e1_ => T63 e1_).sum ≤ (L.map fun e_ => ((e_.map fun e1_ => T63 e1_).sum + 1)).sum := by
    intro L
    induction L with
    | nil => simp
    | cons V L ih =>
      simp only [List.map_cons, List.sum_cons, List.length_cons, List.mem_cons]
      refine ⟨by omega, ?_⟩
      rintro x (rfl | hx)
      · omega
      · have := ih.2 x hx; omega
  intro L hw ht
  obtain ⟨h1, h2⟩ := hs L
  exact ⟨by omega, fun V hV => se_row (hw V hV) (by have := h2 V hV; omega)⟩
theorem se_entry_loop (a : ByteArray) (L : List (List S63)) (hb : L.length ≤ 1048576) (hL : ∀ V ∈ L, LOK V) : ∀ (r : List (List S63)) (j : Nat) (acc : List (List S63)), L.drop j = r → acc.length + r.length ≤ 1048576 → Ev (fun k => barbicanlaw26_entry.l0 k (j : Int) a L a acc) (a, acc ++ r)
  | [], j, acc, hd, _ => by
    have := drop_nil hd
    rw [List.append_nil]
    exact ev_step (fun _ => barbicanlaw26_entry.l0.eq_2 ..) (ev_if_neg (by omega) (ev_some _))
  | V :: r, j, acc, hd, hl => by
    obtain ⟨h1, h2, h3⟩ := drop_cons hd
    have hV := hL V (List.mem_of_getElem? h1)
    have hV2 := hV.2.1
    rw [List.length_cons] at hl
    refine ev_step (fun _ => barbicanlaw26_entry.l0.eq_2 ..) (ev_if_pos (by omega) (ev_if_pos (by omega) ?_))
    rw [rdL_at h1, wrap_succ (j := j) (by omega)]
    refine ev_bind (g := fun _ => barbicanlaw26_twin2.f V) (a := V) ?_ (ev_if_pos (by omega) ?_)
    · unfold barbicanlaw26_twin2.f
      rw [List.nil_append]
      exact ev_if_pos (by rw [List.length_nil]; omega) (ev_some _)
    · have := se_entry_loop a L hb hL r (j + 1) (acc ++ [V]) h3 (by rw [List.length_append]; simp; omega)
      rwa [List.append_assoc, List.singleton_append] at this
theorem se_values_loop (V : List S63) (hb : V.length ≤ 1048576) : ∀ (r : List S63) (j : Nat), V.drop j = r → Ev (fun k => barbicanlaw26_values.l0 k V V (j : Int)) true
  | [], j, hd => by
    have := drop_nil hd
    exact ev_step (fun _ => barbicanlaw26_values.l0.eq_2 ..) (ev_if_neg (by omega) (ev_some _))
  | v :: r, j, hd => by
    obtain ⟨h1, h2, h3⟩ := drop_cons hd
    refine ev_step (fun _ => barbicanlaw26_values.l0.eq_2 ..) (ev_if_pos (by omega) (ev_if_pos (by omega) (ev_if_pos (by omega) (ev_if_neg (by simp) ?_))))
    rw [wrap_succ (j := j) (by omega)]
    exact se_values_loop V hb r (j + 1) h3
theorem se_lists_loop (L : List (List S63)) (hb : L.length ≤ 1048576) (hL : ∀ V ∈ L, LOK V) : ∀ (r : List (List S63)) (j : Nat), L.drop j = r → Ev (fun k => barbicanlaw26_lists.l0 k L L (j : Int)) true
  | [], j, hd => by
    have := drop_nil hd
    exact ev_step (fun _ => barbicanlaw26_lists.l0.eq_2 ..) (ev_if_neg (by omega) (ev_some _))
  | V :: r, j, hd => by
    obtain ⟨h1, h2, h3⟩ := drop_cons hd
    have hV := hL V (List.mem_of_getElem? h1)
    refine ev_step (fun _ => barbicanlaw26_lists.l0.eq_2 ..) (ev_if_pos (by omega) (ev_if_pos (by omega) (ev_if_pos (by omega) ?_)))
    rw [rdL_at h1, wrap_succ (j := j) (by omega)]
    refine ev_bind (a := true) ?_ (ev_if_pos rfl (se_lists_loop L hb hL r (j + 1) h3))
    unfold barbicanlaw26_values.f
    exact ev_if_pos rfl (se_values_loop V hV.2.1 V 0 rfl)
theorem se_sure : Ev (fun k => barbicanlaw26_sure.f k) true := by
  refine Ev.of (fun k => barbicanlaw26_sure.mono k) (k := 40) ?_
  kernel_rfl
theorem sb_ints_loop (L : List Int) (hb : L.length ≤ 1048576) : ∀ (r : List Int) (j : Nat), L.drop j = r → Ev (fun k => barbicanlaw26_ints.l0 k L L (j : Int)) true
  | [], j, hd => by
    have := drop_nil hd
    exact ev_step (fun _ => barbicanlaw26_ints.l0.eq_2 ..) (ev_if_neg (by omega) (ev_some _))
  | x :: r, j, hd => by
    obtain ⟨h1, h2, h3⟩ := drop_cons hd
    refine ev_step (fun _ => barbicanlaw26_ints.l0.eq_2 ..) (ev_if_pos (by omega) (ev_if_pos (by omega) (ev_if_pos (by omega) (ev_if_pos rfl ?_))))
    rw [wrap_succ (j := j) (by omega)]
    exact sb_ints_loop L hb r (j + 1) h3
theorem sb_writes_loop (L : List S68) (hb : L.length ≤ 1048576) (hL : ∀ w ∈ L, WOK w) : ∀ (r : List S68) (j : Nat), L.drop j = r → Ev (fun k => barbicanlaw26_writes.l0 k L L (j : Int)) true
  | [], j, hd => by
    have := drop_nil hd
    exact ev_step (fun _ => barbicanlaw26_writes.l0.eq_2 ..) (ev_if_neg (by omega) (ev_some _))
  | w :: r, j, hd => by
    obtain ⟨h1, h2, h3⟩ := drop_cons hd
    have hw := hL w (List.mem_of_getElem? h1)
    refine ev_step (fun _ => barbicanlaw26_writes.l0.eq_2 ..) (ev_if_pos (by omega) (ev_if_pos (by omega) (ev_if_pos (by omega) (ev_if_pos rfl (ev_if_neg (by simp) ?_)))))
    rw [rd68_at h1, wrap_succ (j := j) (by omega)]
    refine ev_bind (a := true) ?_ (ev_if_pos rfl (sb_writes_loop L hb hL r (j + 1) h3))
    unfold barbicanlaw26_values.f
    exact ev_if_pos rfl (se_values_loop w.f2 hw.2.2.1 w.f2 0 rfl)
theorem sb_done_loop (lab num : Int) (D : List Int) (L : List S68) (hb : L.length ≤ 1048576) (hL : ∀ w ∈ L, WOK w) : ∀ (r : List S68) (j : Nat) (acc : List S68), L.drop j = r → acc.length + r.length ≤ 1048576 → Ev (fun k => barbicanlaw26_done.l0 k (j : Int) lab num D L lab num D acc) (lab, num, D, acc ++ r)
  | [], j, acc, hd, _ => by
    have := drop_nil hd
    rw [List.append_nil]
    exact ev_step (fun _ => barbicanlaw26_done.l0.eq_2 ..) (ev_if_neg (by omega) (ev_some _))
  | w :: r, j, acc, hd, hl => by
    obtain ⟨h1, h2, h3⟩ := drop_cons hd
    have hw := hL w (List.mem_of_getElem? h1)
    have hw2 := hw.2.2.1
    rw [List.length_cons] at hl
    refine ev_step (fun _ => barbicanlaw26_done.l0.eq_2 ..) (ev_if_pos (by omega) (ev_if_pos (by omega) ?_))
    rw [rd68_at h1, wrap_succ (j := j) (by omega)]
    refine ev_bind (g := fun _ => barbicanlaw26_twin2.f w.f2) (a := w.f2) ?_ (ev_if_pos (by omega) ?_)
    · unfold barbicanlaw26_twin2.f
      rw [List.nil_append]
      exact ev_if_pos (by rw [List.length_nil]; omega) (ev_some _)
    · have := sb_done_loop lab num D L hb hL r (j + 1) (acc ++ [w]) h3 (by rw [List.length_append]; simp; omega)
      rwa [List.append_assoc, List.singleton_append] at this
theorem sum_ge {α : Type} (f : α → Nat) : ∀ (l : List α), (∀ x ∈ l, f x ≤ (l.map f).sum) ∧ ((∀ x, 1 ≤ f x) → l.length ≤ (l.map f).sum)
  | [] => ⟨fun _ h => (by cases h), fun _ => Nat.le_refl _⟩
  | a :: l => by
    obtain ⟨h1, h2⟩ := sum_ge f l
    simp only [List.map_cons, List.sum_cons, List.length_cons]
    refine ⟨fun x hx => ?_, fun h => ?_⟩
    · rcases List.mem_cons.1 hx with rfl | hx
      · omega
      · have := h1 x hx; omega
    · have := h2 h; have := h a; omega
theorem sb_tables (l : List S59) (h : (l.map fun e_ => T59 e_).sum ≤ 1048576) : l.length ≤ 1048576 ∧ ∀ t ∈ l, TOK t := by
  obtain ⟨h1, h2⟩ := sum_ge (fun e_ => T59 e_) l
  refine ⟨Nat.le_trans (h2 fun x => by unfold T59; omega) h, fun t ht => ?_⟩
  have a := Nat.le_trans (h1 t ht) h
  simp only [T59] at a
  obtain ⟨g1, g2⟩ := sum_ge (fun e_ => T118 e_) t.f1
  have b := g2 fun x => by unfold T118; omega
  refine ⟨by omega, by omega, fun c hc => ?_⟩
  have d := g1 c hc
  simp only [T118] at d a
  omega
theorem sb_bulk : ∀ (V : List S63), bulk V ≤ 12 * (V.map fun e_ => T63 e_).sum
  | [] => Nat.le_refl _
  | v :: V => by
    have := sb_bulk V
    simp only [List.map_cons, List.sum_cons, bulk]
    have : T63 v = 5 + v.f2.size := by unfold T63; omega
    omega
theorem sb_wsum : ∀ (l : List S68), wsum l ≤ 70112 * (l.map fun e_ => T68 e_).sum
  | [] => Nat.zero_le _
  | w :: l => by
    have := sb_wsum l
    have := sb_bulk w.f2
    simp only [List.map_cons, List.sum_cons, wsum, wsz]
    have : T68 w = 4 + w.f0.size + (w.f2.map fun e_ => T63 e_).sum := by unfold T68; omega
    omega
theorem sb_writes (l : List S68) (hw : ∀ e_ ∈ l, W68 e_) (h : (l.map fun e_ => T68 e_).sum ≤ 1048576) : l.length ≤ 1048576 ∧ (∀ w ∈ l, WOK w) ∧ wsum l ≤ 137438953472 := by
  obtain ⟨h1, h2⟩ := sum_ge (fun e_ => T68 e_) l
  refine ⟨Nat.le_trans (h2 fun x => by unfold T68; omega) h, fun w hm => ?_, by have := sb_wsum l; omega⟩
  have a := Nat.le_trans (h1 w hm) h
  simp only [T68] at a
  exact ⟨by omega, se_row (hw w hm).2.2 (by omega)⟩
theorem barbicanlaw26_StoreBack_pure : barbicanlaw26_StoreBack_Pure := by
  intro tl lab num D wr view L hT hlab hnum hD hW hview hL ht
  have hlen : (D.map fun _ => 1).sum = D.length := by
    have : ∀ l : List Int, (l.map fun _ => 1).sum = l.length := by
      intro l; induction l with
      | nil => rfl
      | cons x l ih => rw [List.map_cons, List.sum_cons, ih, List.length_cons]; omega
    exact this D
  obtain ⟨t1, t2⟩ := sb_tables tl (by omega)
  obtain ⟨w1, w2, w3⟩ := sb_writes wr hW (by omega)
  obtain ⟨r1, r2⟩ := se_rows L hL (by omega)
  have hv : view.size ≤ 1048576 := by omega
  have hDl : D.length ≤ 1048576 := by omega
  have hD64 : ∀ d ∈ D, I64 d := fun d hd => wf_i64 (hD d hd)
  clear ht
  obtain ⟨ok, ⟨K1, e1⟩, h32⟩ := law_cat tl t2 t1
  obtain ⟨K2, e2⟩ := se_sure
  cases ok with
  | false => exact ⟨max K1 K2, storeBack_f ⟨false, e1 _ (by omega), fun _ => e2 _ (by omega), (fun h => by cases h)⟩⟩
  | true =>
    have h32 := h32 rfl
    obtain ⟨K3, e3⟩ : Ev (fun k => barbicanlaw26_entry.f k view L) (view, L) := by
      unfold barbicanlaw26_entry.f
      have := se_entry_loop view L r1 r2 L 0 [] rfl (by rw [List.length_nil]; omega)
      rwa [List.nil_append] at this
    obtain ⟨K4, e4⟩ := enc_ev view L hv r2 r1
    obtain ⟨K5, e5⟩ : Ev (fun k => barbicanlaw26_lists.f k L L) true := by
      unfold barbicanlaw26_lists.f
      exact ev_if_pos rfl (se_lists_loop L r1 r2 L 0 rfl)
    obtain ⟨K6, e6⟩ : Ev (fun k => barbicanlaw26_done.f k lab num D wr) (lab, num, D, wr) := by
      unfold barbicanlaw26_done.f
      refine ev_if_pos (by rw [List.length_nil]; omega) ?_
      rw [List.nil_append]
      have := sb_done_loop lab num D wr w1 w2 wr 0 [] rfl (by rw [List.length_nil]; omega)
      rwa [List.nil_append] at this
    obtain ⟨K7, e7⟩ : Ev (fun k => barbicanlaw26_ints.f k D D) true := by
      unfold barbicanlaw26_ints.f
      exact ev_if_pos rfl (sb_ints_loop D hDl D 0 rfl)
    obtain ⟨K8, e8⟩ : Ev (fun k => barbicanlaw26_writes.f k wr wr) true := by
      unfold barbicanlaw26_writes.f
      exact ev_if_pos rfl (sb_writes_loop wr w1 w2 wr 0 rfl)
    obtain ⟨R, ⟨K9, e9⟩, hR⟩ := done_both tl t2 h32 lab num D wr (wf_i64 hnum) hD64 hDl w2 w1 w3
    -- the record's way back
    obtain ⟨K10, e10⟩ : ∃ K, ∀ k, K ≤ k → (R.2 = none → ∃ y1 y3 y4, store_DecodeDone.f k tl R.1 = some (y1, num, y3, y4, none) ∧ (∃ q1 q2, store_DecodeEntry.f k R.1 = some (q1, q2, some 3)) ∧ y3 = D ∧ y4 = wr) := by
      by_cases hn : R.2 = none
      · obtain ⟨⟨Ka, ea⟩, z, hz, hzb, hzl⟩ := hR hn
        obtain ⟨Kb, eb⟩ := entry_one z hzb hzl
        rw [← hz] at eb
        exact ⟨max Ka Kb, fun k hk _ => ⟨0, D, wr, ea k (by omega), ⟨_, _, eb k (by omega)⟩, rfl, rfl⟩⟩
      · exact ⟨0, fun k _ h => absurd h hn⟩
    -- what is let down, and back
    obtain ⟨K11, e11⟩ : ∃ K, ∀ k, K ≤ k → ((encE view L).2 = none → ∃ l2, store_DecodeEntry.f k (encE view L).1 = some (view, l2, none) ∧ l2 = L ∧ ∃ y1 y2 y3 y4, store_DecodeDone.f k tl (encE view L).1 = some (y1, y2, y3, y4, some 3)) := by
      by_cases hn : (encE view L).2 = none
      · obtain ⟨⟨Ka, ea⟩, z, hz, hzb, hzl⟩ := entry_back view L hv r2 r1 hn
        obtain ⟨Kb, eb⟩ := done_two tl z hzb
        rw [← hz] at eb
        exact ⟨max Ka Kb, fun k hk _ => ⟨L, ea k (by omega), rfl, _, _, _, _, eb k (by omega)⟩⟩
      · exact ⟨0, fun k _ h => absurd h hn⟩
    have hbad : (encE view L).2.isSome = true → ((encE view L).1.length : Int) = 0 := by
      intro h
      unfold encE at h ⊢
      split at h
      · rename_i hn
        rw [if_pos hn, encLs_bad _ _ h]; rfl
      · rename_i hn
        rw [if_neg hn]; rfl
    have f10 := e10 (K1 + K2 + K3 + K4 + K5 + K6 + K7 + K8 + K9 + K10 + K11) (by omega)
    have f11 := e11 (K1 + K2 + K3 + K4 + K5 + K6 + K7 + K8 + K9 + K10 + K11) (by omega)
    refine ⟨K1 + K2 + K3 + K4 + K5 + K6 + K7 + K8 + K9 + K10 + K11, storeBack_f ?_⟩
    refine ⟨true, e1 _ (by omega), (fun h => by cases h), fun _ => ⟨?_, lab, num, D, wr, e6 _ (by omega), R.1, R.2, e9 _ (by omega), fun hn => ?_⟩⟩
    · refine ⟨view, L, e3 _ (by omega), (encE view L).1, (encE view L).2, e4 _ (by omega), e2 _ (by omega), hbad, fun hn => ?_⟩
      obtain ⟨l2, a1, rfl, a2⟩ := f11 hn
      exact ⟨l2, a1, e5 _ (by omega), a2⟩
    · obtain ⟨y1, y3, y4, a1, a2, rfl, rfl⟩ := f10 hn
      exact ⟨y1, y3, y4, a1, a2, e7 _ (by omega), e8 _ (by omega)⟩
end Go.Proofs.YtddkbhglbkfelaaGreatDoor.T
