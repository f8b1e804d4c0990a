/- A record, there and back. -/
import Derived.Test.YtddkbhglbkfelaaGreatDoorPkXTgT
set_option linter.unusedVariables false
set_option linter.unusedSimpArgs false
namespace Go.Proofs.YtddkbhglbkfelaaGreatDoor.T
open Go.RowKit Go.Proofs.YtddkbhglbkfelaaGreatDoorW.PrintWords Go.Proofs.YtddkbhglbkfelaaGreatDoorW.PrintLast Go.Proofs.YtddkbhglbkfelaaGreatDoorX

theorem rd68_at {xs : List S68} {j : Nat} {c : S68} (h : xs[j]? = some c) : rd_T68 xs (j : Int) = c := by
  unfold rd_T68; rw [Int.toNat_natCast, List.getD_eq_getElem?_getD, h]; rfl
def nats (ds : List Int) : List Int := ds.flatMap fun d => uvar d.toNat
theorem nats_cons (d : Int) (ds : List Int) : nats (d :: ds) = uvar d.toNat ++ nats ds := rfl
theorem nats_bytes : ∀ ds : List Int, Bytes (nats ds)
  | [], _, h => by cases h
  | d :: ds, b, h => by
    rw [nats_cons] at h
    rcases List.mem_append.1 h with h | h
    · exact uvar_range _ b h
    · exact nats_bytes ds b h
def I64 (d : Int) : Prop := -9223372036854775808 ≤ d ∧ d ≤ 9223372036854775807
theorem nats_len : ∀ ds : List Int, (∀ d ∈ ds, I64 d) → (nats ds).length ≤ 10 * ds.length
  | [], _ => Nat.zero_le _
  | d :: ds, h => by
    have a := nats_len ds (fun e he => h e (List.mem_cons_of_mem _ he))
    have b := (h d List.mem_cons_self).2
    have c := uvar_len64 (n := d.toNat) (by omega)
    rw [nats_cons, List.length_append, List.length_cons]; omega
def wsum : List S68 → Nat
  | [] => 0
  | w :: ws => wsz w + wsum ws
/-- What is known of a write. -/
def WOK (w : S68) : Prop := w.f0.size ≤ 1048576 ∧ LOK w.f2
theorem writes_both (tl : List S59) (htl : ∀ t ∈ tl, TOK t) (h32 : tl.length ≤ 32) (W : List S68) (hW : ∀ w ∈ W, WOK w) (hb : W.length ≤ 1048576) : ∀ (ws : List S68) (j : Nat) (x : List Int), W.drop j = ws → x.length + wsum ws ≤ 274877906944 →
    ∃ R, Ev (fun k => store_EncodeDone.l1 k tl x W (W.length : Int) (j : Int)) R ∧ (R.2.isSome = true ∨ R.2 = none ∧ ∃ e, R.1 = x ++ e ∧ Bytes e ∧ ws.length ≤ e.length ∧ e.length ≤ wsum ws ∧
      ∀ (acc : List S68), acc.length + ws.length ≤ 1048576 → j + ws.length = W.length → Ev (fun k => dd_l2 tl (W.length : Int) k (j : Int) e false acc) ([], false, acc ++ ws))
  | [], j, x, hd, hx => by
    have := drop_nil hd
    refine ⟨(x, none), ev_step (fun _ => store_EncodeDone.l1.eq_2 ..) (ev_if_neg (by omega) (ev_some _)), Or.inr ⟨rfl, [], (List.append_nil x).symm, fun _ h => (by cases h), Nat.le_refl _, Nat.zero_le _, fun acc _ _ => ?_⟩⟩
    rw [List.append_nil]
    exact ev_step (fun _ => dd_l2.eq_2 ..) (ev_if_neg (by omega) (ev_some _))
  | w :: ws, j, x, hd, hx => by
    obtain ⟨h1, h2, h3⟩ := drop_cons hd
    have hw := hW w (List.mem_of_getElem? h1)
    rw [wsum] at hx
    obtain ⟨⟨R1, R2⟩, g1, g2⟩ := write_both tl htl h32 w hw.1 hw.2 x (by omega)
    have st : ∀ {R : List Int × Option Int}, Ev (fun k => if R2.isNone = true then (store_EncodeDone.l1 k tl R1 W (W.length : Int) ((j + 1 : Nat) : Int)) else (some (([] : List Int), some (R2.getD 0)))) R → Ev (fun k => store_EncodeDone.l1 k tl x W (W.length : Int) (j : Int)) R := by
      intro R hR
      refine ev_step (fun _ => store_EncodeDone.l1.eq_2 ..) (ev_if_pos (by omega) (ev_if_pos (by omega) (ev_if_pos (by omega) ?_)))
      rw [rd68_at h1, wrap_succ (j := j) (by omega)]
      exact ev_bind g1 hR
    rcases g2 with g2 | ⟨g2, e1, g3, hb1, hp1, hs1, hd1⟩
    · cases R2 with
      | none => cases g2
      | some q => exact ⟨_, st (ev_if_neg (by simp) (ev_some _)), Or.inl rfl⟩
    · simp only at g2 g3
      subst g2; subst g3
      obtain ⟨R, i1, i2⟩ := writes_both tl htl h32 W hW hb ws (j + 1) (x ++ e1) h3 (by rw [List.length_append]; omega)
      refine ⟨R, st (ev_if_pos rfl i1), ?_⟩
      rcases i2 with i2 | ⟨i2, e2, i3, hb2, hp2, hs2, hd2⟩
      · exact Or.inl i2
      · refine Or.inr ⟨i2, e1 ++ e2, by rw [i3, List.append_assoc], bytes_app hb1 hb2, by rw [List.length_append, List.length_cons]; omega, by rw [List.length_append, wsum]; omega, fun acc ha hj => ?_⟩
        rw [List.length_cons] at ha hj
        refine ev_step (fun _ => dd_l2.eq_2 ..) (ev_if_pos (by omega) (ev_if_neg (by decide) (ev_if_pos (by omega) (ev_bind (hd1 e2 hb2 (by rw [List.length_append]; omega)) ?_))))
        rw [wrap_succ (j := j) (by omega)]
        have := hd2 (acc ++ [w]) (by rw [List.length_append, List.length_singleton]; omega) (by omega)
        rwa [List.append_assoc, List.singleton_append] at this
theorem deps_both (tl : List S59) (lab num : Int) (D : List Int) (wr : List S68) (hD : ∀ d ∈ D, I64 d) (hb : D.length ≤ 1048576) : ∀ (ds : List Int) (j : Nat) (x : List Int), D.drop j = ds → x.length + 10 * ds.length ≤ 274877906944 →
    ((∃ d ∈ ds, d < 0) ∧ Ev (fun k => store_EncodeDone.l0 k tl x D (D.length : Int) (j : Int) lab num D wr) ([], some 1)) ∨ ((∀ d ∈ ds, 0 ≤ d) ∧ ∀ R, Ev (fun k => (store_count.f k (x ++ nats ds) (wr.length : Int)).bind fun t => store_EncodeDone.l1 k tl t wr (wr.length : Int) 0) R → Ev (fun k => store_EncodeDone.l0 k tl x D (D.length : Int) (j : Int) lab num D wr) R)
  | [], j, x, hd, hx => by
    have := drop_nil hd
    refine Or.inr ⟨fun _ h => (by cases h), fun R hR => ?_⟩
    rw [show nats [] = [] from rfl, List.append_nil] at hR
    exact ev_step (fun _ => store_EncodeDone.l0.eq_2 ..) (ev_if_neg (by omega) hR)
  | d :: ds, j, x, hd, hx => by
    obtain ⟨h1, h2, h3⟩ := drop_cons hd
    have hd64 := hD d (List.mem_of_getElem? h1)
    rw [List.length_cons] at hx
    by_cases hn : d < 0
    · refine Or.inl ⟨⟨d, List.mem_cons_self, hn⟩, ev_step (fun _ => store_EncodeDone.l0.eq_2 ..) (ev_if_pos (by omega) (ev_if_pos (by omega) (ev_if_pos (by omega) (ev_if_pos (by rw [rdn_at h1]; exact hn) (ev_some _)))))⟩
    · have h10 := uvar_len64 (n := d.toNat) (by have := hd64.2; omega)
      have hc := count_ev d.toNat x (by have := hd64.2; omega) (by omega)
      rw [show ((d.toNat : Nat) : Int) = d by omega] at hc
      have st : ∀ {R}, Ev (fun k => store_EncodeDone.l0 k tl (x ++ uvar d.toNat) D (D.length : Int) ((j + 1 : Nat) : Int) lab num D wr) R → Ev (fun k => store_EncodeDone.l0 k tl x D (D.length : Int) (j : Int) lab num D wr) R := by
        intro R hR
        refine ev_step (fun _ => store_EncodeDone.l0.eq_2 ..) (ev_if_pos (by omega) (ev_if_pos (by omega) (ev_if_pos (by omega) (ev_if_neg (by rw [rdn_at h1]; exact hn) ?_))))
        rw [rdn_at h1, wrap_succ (j := j) (by omega)]
        exact ev_bind hc hR
      rcases deps_both tl lab num D wr hD hb ds (j + 1) (x ++ uvar d.toNat) h3 (by rw [List.length_append]; omega) with ⟨⟨e, he, hl⟩, h⟩ | ⟨h4, h5⟩
      · exact Or.inl ⟨⟨e, List.mem_cons_of_mem _ he, hl⟩, st h⟩
      · refine Or.inr ⟨fun e he => ?_, fun R hR => st (h5 R ?_)⟩
        · rcases List.mem_cons.1 he with rfl | he
          · omega
          · exact h4 e he
        · rw [List.append_assoc, ← nats_cons]; exact hR
theorem deps_dec (n : Nat) (hn : n ≤ 1048576) : ∀ (ds : List Int) (j : Nat) (acc r : List Int), j + ds.length = n → acc.length + ds.length ≤ 1048576 → (∀ d ∈ ds, 0 ≤ d) → (∀ d ∈ ds, I64 d) → Bytes r → Ev (fun k => dd_l1 (n : Int) k (j : Int) (nats ds ++ r) false acc) (r, false, acc ++ ds)
  | [], j, acc, r, hj, ha, _, _, hr => by
    rw [List.append_nil]
    exact ev_step (fun _ => dd_l1.eq_2 ..) (ev_if_neg (by simp at hj; omega) (ev_some _))
  | d :: ds, j, acc, r, hj, ha, h0, h64, hr => by
    rw [List.length_cons] at hj ha
    have d0 := h0 d List.mem_cons_self
    have d1 := (h64 d List.mem_cons_self).2
    have hu := ruint_dec d.toNat (nats ds ++ r) 9223372036854775807 (by omega) (by omega) (bytes_app (nats_bytes ds) hr)
    rw [show ((d.toNat : Nat) : Int) = d by omega] at hu
    refine ev_step (fun _ => dd_l1.eq_2 ..) (ev_if_pos (by omega) (ev_if_pos (by omega) ?_))
    rw [nats_cons, List.append_assoc, wrap_succ (j := j) (by omega)]
    refine ev_bind hu ?_
    have := deps_dec n hn ds (j + 1) (acc ++ [d]) r (by omega) (by rw [List.length_append, List.length_singleton]; omega) (fun e he => h0 e (List.mem_cons_of_mem _ he)) (fun e he => h64 e (List.mem_cons_of_mem _ he)) hr
    rwa [List.append_assoc, List.singleton_append] at this
theorem done_two (tl : List S59) (z : List Int) (hz : Bytes z) : Ev (fun k => store_DecodeDone.f k tl (2 :: z)) (0, 0, [], [], some 3) := by
  have e : rd_byte (2 :: z) false 1 = (2 :: z, true, 0) := by
    unfold rd_byte
    rw [if_neg (by decide), if_neg (by simp only [List.length_cons]; omega), if_pos (by show (2 : Int) > 1; decide)]
  have hb : Bytes (2 :: z) := bcons (by decide) (by decide) hz
  unfold store_DecodeDone.f
  rw [e]
  refine ev_bind (a := (2 :: z, true, 0)) (ruint_bad _ _ hb) (ev_bind (ruint_bad _ _ hb) (ev_bind (a := (2 :: z, true, [])) ?_ (ev_bind (ruint_bad _ _ hb) (ev_bind (a := (2 :: z, true, [])) ?_ (ev_if_pos rfl (ev_some _))))))
  · exact ev_step (fun _ => dd_l1.eq_2 ..) (ev_if_neg (show ¬ (0 : Int) < 0 by decide) (ev_some _))
  · exact ev_step (fun _ => dd_l2.eq_2 ..) (ev_if_neg (show ¬ (0 : Int) < 0 by decide) (ev_some _))
theorem done_both (tl : List S59) (htl : ∀ t ∈ tl, TOK t) (h32 : tl.length ≤ 32) (lab num : Int) (D : List Int) (W : List S68) (hnum : I64 num) (hD : ∀ d ∈ D, I64 d) (hDb : D.length ≤ 1048576) (hW : ∀ w ∈ W, WOK w) (hWb : W.length ≤ 1048576) (hs : wsum W ≤ 137438953472) :
    ∃ R, Ev (fun k => store_EncodeDone.f k tl lab num D W) R ∧ (R.2 = none → Ev (fun k => store_DecodeDone.f k tl R.1) (0, num, D, W, none) ∧ ∃ z, R.1 = 1 :: z ∧ Bytes z ∧ z.length ≤ 1099511627776) := by
  have bad : Ev (fun k => store_EncodeDone.j0 k tl true lab num D W) ([], some 1) := ev_step (fun _ => store_EncodeDone.j0.eq_2 ..) (ev_if_pos rfl (ev_some _))
  unfold store_EncodeDone.f
  by_cases h1 : num < 1
  · exact ⟨_, ev_if_pos h1 bad, fun h => by cases h⟩
  by_cases h16 : (D.length : Int) > 16
  · exact ⟨_, ev_if_neg h1 (by rw [decide_eq_true h16]; exact bad), fun h => by cases h⟩
  have n64 := hnum.2
  have u1 := uvar_len64 (n := num.toNat) (by omega)
  have u2 := uvar_len64 (n := D.length) (by omega)
  have u3 := uvar_len64 (n := W.length) (by omega)
  have uD := nats_len D hD
  have c1 := count_ev num.toNat [1] (by omega) (by simp)
  rw [show ((num.toNat : Nat) : Int) = num by omega] at c1
  have c2 := count_ev D.length ([1] ++ uvar num.toNat) (by omega) (by rw [List.length_append, List.length_singleton]; omega)
  have st : ∀ {R}, Ev (fun k => store_EncodeDone.l0 k tl ([1] ++ uvar num.toNat ++ uvar D.length) D (D.length : Int) 0 lab num D W) R → Ev (fun k => if num < 1 then (store_EncodeDone.j0 k tl true lab num D W) else (store_EncodeDone.j0 k tl (decide ((D.length : Int) > 16)) lab num D W)) R := by
    intro R hR
    refine ev_if_neg h1 ?_
    rw [decide_eq_false h16]
    exact ev_step (fun _ => store_EncodeDone.j0.eq_2 ..) (ev_if_neg (by decide) (ev_bind c1 (ev_bind c2 hR)))
  rcases deps_both tl lab num D W hD hDb D 0 ([1] ++ uvar num.toNat ++ uvar D.length) rfl (by simp only [List.length_append, List.length_singleton]; omega) with ⟨_, h⟩ | ⟨h0, hR⟩
  · exact ⟨_, st h, fun h => by cases h⟩
  · have c3 := count_ev W.length ([1] ++ uvar num.toNat ++ uvar D.length ++ nats D) (by omega) (by simp only [List.length_append, List.length_singleton]; omega)
    obtain ⟨R, g1, g2⟩ := writes_both tl htl h32 W hW hWb W 0 ([1] ++ uvar num.toNat ++ uvar D.length ++ nats D ++ uvar W.length) rfl (by simp only [List.length_append, List.length_singleton]; omega)
    refine ⟨R, st (hR R (ev_bind c3 g1)), fun hn => ?_⟩
    rcases g2 with g2 | ⟨_, e, g3, hb, hp, hse, hd⟩
    · rw [hn] at g2; cases g2
    · have hz : R.1 = 1 :: (uvar num.toNat ++ (uvar D.length ++ (nats D ++ (uvar W.length ++ e)))) := by
        rw [g3]; simp only [List.append_assoc, List.singleton_append, List.cons_append, List.nil_append]
      have b4 : Bytes (uvar W.length ++ e) := bytes_app (uvar_range _) hb
      have b3 : Bytes (nats D ++ (uvar W.length ++ e)) := bytes_app (nats_bytes D) b4
      have b2 : Bytes (uvar D.length ++ (nats D ++ (uvar W.length ++ e))) := bytes_app (uvar_range _) b3
      have b1 : Bytes (uvar num.toNat ++ (uvar D.length ++ (nats D ++ (uvar W.length ++ e)))) := bytes_app (uvar_range _) b2
      refine ⟨?_, _, hz, b1, by simp only [List.length_append]; omega⟩
      rw [hz]
      have r1 := ruint_dec num.toNat _ 9223372036854775807 (by omega) (by omega) b2
      rw [show ((num.toNat : Nat) : Int) = num by omega] at r1
      unfold store_DecodeDone.f
      rw [byte_dec 1 _ (Int.le_refl _)]
      refine ev_bind r1 (ev_bind (ruint_dec D.length _ 16 (by omega) (by omega) b3) (ev_bind (a := (uvar W.length ++ e, false, D)) ?_ (ev_bind (ruint_dec W.length e _ ?_ (by omega) hb) (ev_bind (a := ([], false, W)) ?_ (ev_if_neg (show ¬ (false = true) by decide) (ev_if_pos rfl (ev_if_neg h1 (ev_some _))))))))
      · have := deps_dec D.length hDb D 0 [] (uvar W.length ++ e) (by omega) (by rw [List.length_nil]; omega) h0 hD b4
        rwa [List.nil_append] at this
      · show (W.length : Int) ≤ ((uvar W.length ++ e).length : Int)
        rw [List.length_append]; omega
      · have := hd [] (by rw [List.length_nil]; omega) (by omega)
        rwa [List.nil_append] at this
end Go.Proofs.YtddkbhglbkfelaaGreatDoor.T
