/- The law StoreEntries, told plainly: what is let down, as bytes; and of all bytes what was let down: both answer alike. -/
import Derived.Test.YtddkbhglbkfelaaDoorPsSaidStoreEntries
import Derived.Test.YtddkbhglbkfelaaDoorPsXShE
set_option linter.unusedVariables false
set_option linter.unusedSimpArgs false
namespace Go.Proofs.YtddkbhglbkfelaaDoor.E
open Go.RowKit Go.Proofs.YtddkbhglbkfelaaDoorW.PrintWords Go.Proofs.YtddkbhglbkfelaaDoorW.PrintLast Go.Proofs.YtddkbhglbkfelaaDoorX

theorem se_row {V : List S72} (hw : ∀ v ∈ V, W72 v) (ht : (V.map fun e_ => T72 e_).sum ≤ 1048576) : LOK V := by
  have hs : ∀ (V : List S72), V.length ≤ (V.map fun e_ => T72 e_).sum ∧ bulk V ≤ 12 * (V.map fun e_ => T72 e_).sum ∧ ∀ v ∈ V, v.f2.size ≤ (V.map fun e_ => T72 e_).sum := by
    intro V
    induction V with
    | nil => simp [bulk]
    | cons v vs ih =>
      simp only [List.map_cons, List.sum_cons, List.length_cons, bulk, List.mem_cons]
      have : T72 v = 5 + v.f2.size := by unfold T72; omega
      refine ⟨by omega, by omega, ?_⟩
      rintro x (rfl | hx)
      · omega
      · have := ih.2.2 x hx; omega
  obtain ⟨h1, h2, h3⟩ := hs V
  exact ⟨fun v hv => ⟨wf_i64 (hw v hv).2.1, by have := h3 v hv; omega⟩, by omega, by omega⟩
theorem se_rows : ∀ (L : List (List S72)), (∀ e_ ∈ L, ∀ e1_ ∈ e_, W72 e1_) → (L.map fun e_ => ((e_.map fun e1_ => T72 e1_).sum + 1)).sum ≤ 1048576 → L.length ≤ 1048576 ∧ ∀ V ∈ L, LOK V := by
  have hs : ∀ (L : List (List S72)), L.length ≤ (L.map fun e_ => ((e_.map fun e1_ => T72 e1_).sum + 1)).sum ∧ ∀ V ∈ L, (V.map fun e1_ => T72 e1_).sum ≤ (L.map fun e_ => ((e_.map fun e1_ => T72 e1_).sum + 1)).sum := by
    intro L
    induction L with
    | nil => simp
    | cons V L ih =>
      simp only [List.map_cons, List.sum_cons, List.length_cons, List.mem_cons]
      refine ⟨by omega, ?_⟩
      rintro x (rfl | hx)
      · omega
      · have := ih.2 x hx; omega
  intro L hw ht
  obtain ⟨h1, h2⟩ := hs L
  exact ⟨by omega, fun V hV => se_row (hw V hV) (by have := h2 V hV; omega)⟩
theorem se_bytes : ∀ (l : List Int), (∀ e_ ∈ l, (Lit.int .u8 e_).wf = true) → Bytes l := fun l h b hb => by
  have := h b hb
  simp [Lit.wf, IntKind.min, IntKind.max, IntKind.bits, IntKind.signed] at this
  omega
theorem se_entry_loop (a : ByteArray) (L : List (List S72)) (hb : L.length ≤ 1048576) (hL : ∀ V ∈ L, LOK V) : ∀ (r : List (List S72)) (j : Nat) (acc : List (List S72)), L.drop j = r → acc.length + r.length ≤ 1048576 → Ev (fun k => barbicanlaw26_entry.l0 k (j : Int) a L a acc) (a, acc ++ r)
  | [], j, acc, hd, _ => by
    have := drop_nil hd
    rw [List.append_nil]
    exact ev_step (fun _ => barbicanlaw26_entry.l0.eq_2 ..) (ev_if_neg (by omega) (ev_some _))
  | V :: r, j, acc, hd, hl => by
    obtain ⟨h1, h2, h3⟩ := drop_cons hd
    have hV := hL V (List.mem_of_getElem? h1)
    have hV2 := hV.2.1
    rw [List.length_cons] at hl
    refine ev_step (fun _ => barbicanlaw26_entry.l0.eq_2 ..) (ev_if_pos (by omega) (ev_if_pos (by omega) ?_))
    rw [rdL_at h1, wrap_succ (j := j) (by omega)]
    refine ev_bind (g := fun _ => barbicanlaw26_twin2.f V) (a := V) ?_ (ev_if_pos (by omega) ?_)
    · unfold barbicanlaw26_twin2.f
      rw [List.nil_append]
      exact ev_if_pos (by rw [List.length_nil]; omega) (ev_some _)
    · have := se_entry_loop a L hb hL r (j + 1) (acc ++ [V]) h3 (by rw [List.length_append]; simp; omega)
      rwa [List.append_assoc, List.singleton_append] at this
theorem se_values_loop (V : List S72) (hb : V.length ≤ 1048576) : ∀ (r : List S72) (j : Nat), V.drop j = r → Ev (fun k => barbicanlaw26_values.l0 k V V (j : Int)) true
  | [], j, hd => by
    have := drop_nil hd
    exact ev_step (fun _ => barbicanlaw26_values.l0.eq_2 ..) (ev_if_neg (by omega) (ev_some _))
  | v :: r, j, hd => by
    obtain ⟨h1, h2, h3⟩ := drop_cons hd
    refine ev_step (fun _ => barbicanlaw26_values.l0.eq_2 ..) (ev_if_pos (by omega) (ev_if_pos (by omega) (ev_if_pos (by omega) (ev_if_neg (by simp) ?_))))
    rw [wrap_succ (j := j) (by omega)]
    exact se_values_loop V hb r (j + 1) h3
theorem se_lists_loop (L : List (List S72)) (hb : L.length ≤ 1048576) (hL : ∀ V ∈ L, LOK V) : ∀ (r : List (List S72)) (j : Nat), L.drop j = r → Ev (fun k => barbicanlaw26_lists.l0 k L L (j : Int)) true
  | [], j, hd => by
    have := drop_nil hd
    exact ev_step (fun _ => barbicanlaw26_lists.l0.eq_2 ..) (ev_if_neg (by omega) (ev_some _))
  | V :: r, j, hd => by
    obtain ⟨h1, h2, h3⟩ := drop_cons hd
    have hV := hL V (List.mem_of_getElem? h1)
    refine ev_step (fun _ => barbicanlaw26_lists.l0.eq_2 ..) (ev_if_pos (by omega) (ev_if_pos (by omega) (ev_if_pos (by omega) ?_)))
    rw [rdL_at h1, wrap_succ (j := j) (by omega)]
    refine ev_bind (a := true) ?_ (ev_if_pos rfl (se_lists_loop L hb hL r (j + 1) h3))
    unfold barbicanlaw26_values.f
    exact ev_if_pos rfl (se_values_loop V hV.2.1 V 0 rfl)
theorem se_sure : Ev (fun k => barbicanlaw26_sure.f k) true := by
  refine Ev.of (fun k => barbicanlaw26_sure.mono k) (k := 40) ?_
  kernel_rfl
theorem barbicanlaw26_StoreEntries_pure : barbicanlaw26_StoreEntries_Pure := by
  intro a L l hA hL hl ht
  have hrows := se_rows L hL (by omega)
  have hlen : ∀ l : List Int, (l.map fun _ => 1).sum = l.length := by
    intro l; induction l with
    | nil => rfl
    | cons x l ih => rw [List.map_cons, List.sum_cons, ih, List.length_cons]; omega
  rw [hlen l] at ht
  have ha : a.size ≤ 1048576 := by omega
  have hl2 : l.length < 1048576 := by omega
  clear ht
  obtain ⟨R, d1, d2, d3, d4⟩ := decode_both l (se_bytes l hl) hl2
  have e1 := enc_ev a L ha hrows.2 hrows.1
  have e2 := ref_enc_ev a L ha hrows.2 hrows.1
  refine ev_exists (r := true) ?_
  unfold barbicanlaw26_StoreEntries.f
  refine ev_bind (a := (a, L)) ?_ ?_
  · unfold barbicanlaw26_entry.f
    have := se_entry_loop a L hrows.1 hrows.2 L 0 [] rfl (by rw [List.length_nil]; have := hrows.1; omega)
    rwa [List.nil_append] at this
  refine ev_bind e1 (ev_bind e2 (ev_if_pos (by rw [List.length_nil]; omega) ?_))
  rw [List.nil_append]
  refine ev_bind d1 (ev_bind d2 (ev_if_pos rfl ?_))
  refine ev_bind (g := fun _ => barbicanlaw26_num.f (encE a L).2) (a := (encE a L).2.getD 0) (ev_some _) (ev_if_pos rfl (ev_if_pos rfl ?_))
  refine ev_bind (a := true) ?_ (ev_if_pos rfl ?_)
  · unfold barbicanlaw26_lists.f
    exact ev_if_pos rfl (se_lists_loop R.2.1 d3 d4 R.2.1 0 rfl)
  refine ev_bind (g := fun _ => barbicanlaw26_num.f R.2.2) (a := R.2.2.getD 0) (ev_some _) (ev_if_pos rfl ?_)
  exact ev_bind se_sure (ev_some _)
end Go.Proofs.YtddkbhglbkfelaaDoor.E
