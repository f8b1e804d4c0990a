/- What was let down, of bytes: for both. -/
import Derived.Test.YtddkbhglbkfelaaDoorPsXSfE
set_option linter.unusedVariables false
set_option linter.unusedSimpArgs false
namespace Go.Proofs.YtddkbhglbkfelaaDoor.E
open Go.RowKit Go.Proofs.YtddkbhglbkfelaaDoorW.PrintWords Go.Proofs.YtddkbhglbkfelaaDoorW.PrintLast Go.Proofs.YtddkbhglbkfelaaDoorX

def Bytes (l : List Int) : Prop := ∀ b ∈ l, 0 ≤ b ∧ b ≤ 255
def tx (s : ByteArray) : List Int := uvar s.size ++ bytesOf s
theorem tx_pos (s : ByteArray) : 1 ≤ (tx s).length := by
  unfold tx
  rw [List.length_append]
  have : 1 ≤ (uvar s.size).length := by rw [uvar]; split <;> simp
  omega
theorem tx_eq (s : ByteArray) (r : List Int) : uvar s.size ++ (bytesOf s ++ r) = tx s ++ r := by rw [tx, List.append_assoc]
theorem tx_len (s : ByteArray) : (((uvar s.size).length + s.size : Nat) : Int) = ((tx s).length : Int) := by rw [tx, List.length_append, bytesOf_length]
/-- A text at the head, for both readers. -/
theorem rtext_both (x : List Int) (hx : Bytes x) (hl : x.length ≤ 1099511627776) :
    (Ev (fun k => rd_text k x false) (x, true, (⟨#[]⟩ : ByteArray)) ∧ Ev (fun k => barbicanref26_Read_text.f k x false) ([], true, (⟨#[]⟩ : ByteArray))) ∨
    ∃ (s : ByteArray) (r : List Int), x = tx s ++ r ∧ Ev (fun k => rd_text k x false) (r, false, s) ∧ Ev (fun k => barbicanref26_Read_text.f k x false) (r, false, s) := by
  rcases text_both x hx hl with ⟨q, e, h1, h2, h3⟩ | ⟨s, r, hxe, h1, h2⟩
  · left
    refine ⟨?_, ?_⟩
    · unfold rd_text
      exact ev_bind h1 (ev_if_neg (by decide) (ev_if_neg (by simp) (ev_some _)))
    · unfold barbicanref26_Read_text.f
      exact ev_bind h2 (ev_if_neg (by decide) (ev_if_neg h3 (ev_some _)))
  · right
    rw [tx_eq] at hxe
    rw [tx_len] at h1 h2
    have hlen : (tx s).length ≤ x.length := by rw [hxe, List.length_append]; omega
    have hd : x.drop (((tx s).length : Nat) : Int).toNat = r := by rw [Int.toNat_natCast, hxe, List.drop_left' rfl]
    refine ⟨s, r, hxe, ?_, ?_⟩
    · unfold rd_text
      refine ev_bind h1 (ev_if_neg (by decide) (ev_if_pos rfl (ev_if_pos (show (0 : Int) ≤ ((tx s).length : Int) by omega) (ev_if_pos (show ((tx s).length : Int) ≤ (x.length : Int) by omega) ?_))))
      show Ev (fun _ => some (x.drop (((tx s).length : Nat) : Int).toNat, false, s)) _
      rw [hd]; exact ev_some _
    · unfold barbicanref26_Read_text.f
      refine ev_bind h2 (ev_if_neg (by decide) (ev_if_pos rfl (ev_if_pos (show (0 : Int) ≤ ((tx s).length : Int) by omega) (ev_if_pos (show ((tx s).length : Int) ≤ (x.length : Int) by omega) ?_))))
      show Ev (fun _ => some (x.drop (((tx s).length : Nat) : Int).toNat, false, s)) _
      rw [hd]; exact ev_some _
theorem rtext_bad (x : List Int) (hx : Bytes x) (hl : x.length ≤ 1099511627776) : Ev (fun k => rd_text k x true) (x, true, (⟨#[]⟩ : ByteArray)) := by
  unfold rd_text
  rcases text_both x hx hl with ⟨q, e, h1, _, _⟩ | ⟨s, r, _, h1, _⟩
  · exact ev_bind h1 (ev_if_pos rfl (ev_some _))
  · exact ev_bind h1 (ev_if_pos rfl (ev_some _))
theorem ruint_bad (x : List Int) (most : Int) (hx : Bytes x) (hl : x.length ≤ 1099511627776) : Ev (fun k => rd_uint k x true most) (x, true, 0) ∧ Ev (fun k => barbicanref26_Read_uint.f k x true most) ([], true, 0) := by
  unfold rd_uint barbicanref26_Read_uint.f
  rcases uint_both x hx hl with ⟨q, e, h1, h2, _⟩ | ⟨m, r, _, _, h1, h2⟩
  · exact ⟨ev_bind h1 (ev_if_pos rfl (ev_some _)), ev_bind h2 (ev_if_pos rfl (ev_some _))⟩
  · exact ⟨ev_bind h1 (ev_if_pos rfl (ev_some _)), ev_bind h2 (ev_if_pos rfl (ev_some _))⟩
/-! ### the lines -/
def FL : ByteArray × List (List S72) × Int := ((⟨#[]⟩ : ByteArray), [], 3)
theorem tail_bad (k : Nat) (l : List Int) (view : ByteArray) (acc : List (List S72)) : rd_tail k l true view acc = some (l, true, view, acc) := if_pos rfl
theorem loop_bad (n : Nat) (view : ByteArray) (i : Nat) (l : List Int) (acc : List (List S72)) : Ev (fun k => rd_loop (n : Int) view k (i : Int) l true acc) (l, true, view, acc) := by
  refine ev_step (fun _ => rd_loop.eq_2 ..) ?_
  by_cases h : (i : Int) < (n : Int)
  · refine ev_if_pos h (ev_if_pos rfl ?_); simp only [tail_bad]; exact ev_some _
  · refine ev_if_neg h ?_; simp only [tail_bad]; exact ev_some _
/-- The reference's end: it encodes what it read. -/
theorem end_bad (x0 : List Int) (n i : Int) (view : ByteArray) (acc : List (List S72)) (l : List Int) (hv : view.size ≤ 1048576) (hL : ∀ V ∈ acc, LOK V) (hb : acc.length ≤ 1048576) : Ev (fun k => barbicanref26_DecodeEntry.j2 k x0 n i false view acc l true) FL :=
  ev_step (fun _ => barbicanref26_DecodeEntry.j2.eq_2 ..) (ev_if_neg (by decide) (ev_bind (ref_enc_ev view acc hv hL hb) (ev_if_pos rfl (ev_some _))))
theorem ref_bad (x0 : List Int) (n i : Int) (view : ByteArray) (acc : List (List S72)) (l : List Int) (hv : view.size ≤ 1048576) (hL : ∀ V ∈ acc, LOK V) (hb : acc.length ≤ 1048576) : Ev (fun k => barbicanref26_DecodeEntry.l0 k x0 n i view acc l true) FL := by
  refine ev_step (fun _ => barbicanref26_DecodeEntry.l0.eq_2 ..) ?_
  by_cases h : i < n
  · exact ev_if_pos h (end_bad x0 n i view acc l hv hL hb)
  · exact ev_if_neg h (end_bad x0 n i view acc l hv hL hb)
theorem tx0 : txOk (⟨#[]⟩ : ByteArray) ∧ txV (⟨#[]⟩ : ByteArray) = [] := ⟨⟨rfl, by decide, rfl⟩, rfl⟩
theorem LOK_nil : LOK [] := ⟨fun _ h => (by cases h), by decide, by decide⟩
def lines (Vs : List (List S72)) : List Int := Vs.flatMap fun V => tx (ordR V).1
theorem lines_cons (V : List S72) (Vs : List (List S72)) : lines (V :: Vs) = tx (ordR V).1 ++ lines Vs := rfl
theorem lines_len : ∀ Vs : List (List S72), Vs.length ≤ (lines Vs).length
  | [] => Nat.zero_le _
  | V :: Vs => by
    have := lines_len Vs
    have := tx_pos (ordR V).1
    rw [lines_cons, List.length_append, List.length_cons]; omega
theorem loop_both (x0 : List Int) (view : ByteArray) (hview : view.size ≤ 1048576) (n : Nat) (hn : n ≤ 1099511627776) : ∀ (c i : Nat) (l : List Int) (acc : List (List S72)), i + c = n → Bytes l → acc.length + l.length < 1048576 → (∀ V ∈ acc, LOK V) →
    ((∃ l' acc', Ev (fun k => rd_loop (n : Int) view k (i : Int) l false acc) (l', true, view, acc')) ∧ Ev (fun k => barbicanref26_DecodeEntry.l0 k x0 (n : Int) (i : Int) view acc l false) FL) ∨
    ∃ (Vs : List (List S72)) (l2 : List Int), l = lines Vs ++ l2 ∧ Vs.length = c ∧ (∀ V ∈ Vs, (ordR V).2 = none ∧ LOK V) ∧
      (∀ R, Ev (fun k => rd_tail k l2 false view (acc ++ Vs)) R → Ev (fun k => rd_loop (n : Int) view k (i : Int) l false acc) R) ∧
      (∀ R, Ev (fun k => barbicanref26_DecodeEntry.j2 k x0 (n : Int) (n : Int) false view (acc ++ Vs) l2 false) R → Ev (fun k => barbicanref26_DecodeEntry.l0 k x0 (n : Int) (i : Int) view acc l false) R)
  | 0, i, l, acc, hi, hx, hl, hL => by
    right
    obtain rfl : i = n := by omega
    refine ⟨[], l, rfl, rfl, fun _ h => (by cases h), fun R hR => ?_, fun R hR => ?_⟩
    · rw [List.append_nil] at hR
      exact ev_step (fun _ => rd_loop.eq_2 ..) (ev_if_neg (by omega) hR)
    · rw [List.append_nil] at hR
      exact ev_step (fun _ => barbicanref26_DecodeEntry.l0.eq_2 ..) (ev_if_neg (by omega) hR)
  | c + 1, i, l, acc, hi, hx, hl, hL => by
    have hin : (i : Int) < (n : Int) := by omega
    have store : ∀ {R : List Int × Bool × ByteArray × List (List S72)} {t : List Int × Bool × List S72}, Ev (fun k => rd_values k l false) t → Ev (fun k => rd_loop (n : Int) view k ((i + 1 : Nat) : Int) t.1 t.2.1 (acc ++ [t.2.2])) R → Ev (fun k => rd_loop (n : Int) view k (i : Int) l false acc) R := by
      intro R t h1 h2
      refine ev_step (fun _ => rd_loop.eq_2 ..) (ev_if_pos hin (ev_if_neg (by decide) (ev_if_pos (by omega) (ev_bind h1 ?_))))
      rw [wrap_succ (j := i) (by omega)]
      exact h2
    have ref : ∀ {R : ByteArray × List (List S72) × Int} {t : List Int × Bool × ByteArray} {d : List S72 × Int}, Ev (fun k => barbicanref26_Read_text.f k l false) t → Ev (fun k => barbicanref06_Decode.f k t.2.2) d → Ev (fun k => if d.2 = 0 then (if acc.length < 5864062014805 then barbicanref26_DecodeEntry.l0 k x0 (n : Int) ((i + 1 : Nat) : Int) view (acc ++ [d.1]) t.1 t.2.1 else none) else some FL) R → Ev (fun k => barbicanref26_DecodeEntry.l0 k x0 (n : Int) (i : Int) view acc l false) R := by
      intro R t d h1 h2 h3
      refine ev_step (fun _ => barbicanref26_DecodeEntry.l0.eq_2 ..) (ev_if_pos hin (ev_step (fun _ => barbicanref26_DecodeEntry.j2.eq_2 ..) (ev_if_pos rfl (ev_bind h1 (ev_bind h2 ?_)))))
      rw [wrap_succ (j := i) (by omega)]
      exact h3
    rcases rtext_both l hx (by omega) with ⟨g1, g2⟩ | ⟨s, r, rfl, g1, g2⟩
    · left
      refine ⟨⟨_, _, store (t := (l, true, [])) ?_ (loop_bad n view (i + 1) l (acc ++ [[]]))⟩, ?_⟩
      · unfold rd_values
        have hd := decode_ev (⟨#[]⟩ : ByteArray) (by decide)
        rw [if_pos tx0.1, tx0.2] at hd
        exact ev_bind g1 (ev_bind hd (ev_some _))
      · have hd := ref_decode_ev (⟨#[]⟩ : ByteArray) (by decide)
        have e : decR (⟨#[]⟩ : ByteArray) (txV (⟨#[]⟩ : ByteArray)) = ([], 0) := by
          have := (tx_iff (⟨#[]⟩ : ByteArray)).1 tx0.1
          rw [show decR (⟨#[]⟩ : ByteArray) (txV (⟨#[]⟩ : ByteArray)) = (txV (⟨#[]⟩ : ByteArray), 0) from if_pos this, tx0.2]
        rw [e] at hd
        refine ref g2 hd (ev_if_pos rfl (ev_if_pos (by omega) (ref_bad x0 _ _ view _ _ hview (fun V hV => ?_) (by rw [List.length_append]; simp; omega))))
        rcases List.mem_append.1 hV with h | h
        · exact hL V h
        · rw [List.mem_singleton.1 h]; exact LOK_nil
    · have hlen : (tx s).length = (uvar s.size).length + s.size := by rw [tx, List.length_append, bytesOf_length]
      have hp := tx_pos s
      rw [List.length_append] at hl
      have hs : s.size ≤ 1048576 := by omega
      have hd := decode_ev s hs
      have hd2 := ref_decode_ev s hs
      have hr : Bytes r := fun b hb => hx b (List.mem_append_right _ hb)
      by_cases hk : txOk s
      · rw [if_pos hk] at hd
        have hk2 := (tx_iff s).1 hk
        rw [show decR s (txV s) = (txV s, 0) from if_pos hk2] at hd2
        have hLV := tx_LOK s hs
        have hvals : Ev (fun k => rd_values k (tx s ++ r) false) (r, false, txV s) := by
          unfold rd_values
          exact ev_bind g1 (ev_bind hd (ev_some _))
        rcases loop_both x0 view hview n hn c (i + 1) r (acc ++ [txV s]) (by omega) hr (by rw [List.length_append]; simp; omega) (fun V hV => by
          rcases List.mem_append.1 hV with h | h
          · exact hL V h
          · rw [List.mem_singleton.1 h]; exact hLV) with ⟨⟨l', acc', q1⟩, q2⟩ | ⟨Vs, l2, rfl, e2, e3, q1, q2⟩
        · left
          exact ⟨⟨l', acc', store hvals q1⟩, ref g2 hd2 (ev_if_pos rfl (ev_if_pos (by omega) q2))⟩
        · right
          refine ⟨txV s :: Vs, l2, by rw [lines_cons, hk2.2, List.append_assoc], by rw [List.length_cons, e2], fun V hV => ?_, fun R hR => store hvals (q1 R ?_), fun R hR => ref g2 hd2 (ev_if_pos rfl (ev_if_pos (by omega) (q2 R ?_)))⟩
          · rcases List.mem_cons.1 hV with rfl | h
            · exact ⟨hk2.1, hLV⟩
            · exact e3 V h
          · rw [List.append_assoc, List.singleton_append]; exact hR
          · rw [List.append_assoc, List.singleton_append]; exact hR
      · left
        rw [if_neg hk] at hd
        rw [show decR s (txV s) = ([], 3) from if_neg (fun h => hk ((tx_iff s).2 h))] at hd2
        have hvals : Ev (fun k => rd_values k (tx s ++ r) false) (r, true, []) := by
          unfold rd_values
          exact ev_bind g1 (ev_bind hd (ev_some _))
        exact ⟨⟨_, _, store hvals (loop_bad n view (i + 1) r (acc ++ [[]]))⟩, ref g2 hd2 (ev_if_neg (by decide) (ev_some _))⟩
end Go.Proofs.YtddkbhglbkfelaaDoor.E
/- What was let down, of bytes: both answer alike. -/
set_option linter.unusedVariables false
set_option linter.unusedSimpArgs false
namespace Go.Proofs.YtddkbhglbkfelaaDoor.E
open Go.RowKit Go.Proofs.YtddkbhglbkfelaaDoorW.PrintWords Go.Proofs.YtddkbhglbkfelaaDoorW.PrintLast Go.Proofs.YtddkbhglbkfelaaDoorX

def FS : ByteArray × List (List S72) × Option Int := ((⟨#[]⟩ : ByteArray), [], some 3)
/-- The store's answer out of what its reader left. -/
theorem store_of {b : List Int} {t : List Int × Bool × ByteArray × List (List S72)} (h : Ev (fun k => rd_entry k b false) t) : Ev (fun k => store_DecodeEntry.f k b) (if t.2.1 = true then FS else if (t.1.length : Int) = 0 then (t.2.2.1, t.2.2.2, none) else FS) := by
  unfold store_DecodeEntry.f
  refine ev_bind h ?_
  by_cases h1 : t.2.1 = true
  · rw [show (if t.2.1 = true then FS else if (t.1.length : Int) = 0 then (t.2.2.1, t.2.2.2, none) else FS) = FS from if_pos h1]; exact ev_if_pos h1 (ev_some _)
  · by_cases h2 : (t.1.length : Int) = 0
    · rw [show (if t.2.1 = true then FS else if (t.1.length : Int) = 0 then (t.2.2.1, t.2.2.2, none) else FS) = (t.2.2.1, t.2.2.2, none) from (if_neg h1).trans (if_pos h2)]; exact ev_if_neg h1 (ev_if_pos h2 (ev_some _))
    · rw [show (if t.2.1 = true then FS else if (t.1.length : Int) = 0 then (t.2.2.1, t.2.2.2, none) else FS) = FS from (if_neg h1).trans (if_neg h2)]; exact ev_if_neg h1 (ev_if_neg h2 (ev_some _))
theorem store_bad {b : List Int} {t : List Int × Bool × ByteArray × List (List S72)} (h : Ev (fun k => rd_entry k b false) t) (hb : t.2.1 = true) : Ev (fun k => store_DecodeEntry.f k b) FS := by
  have := store_of h
  rwa [if_pos hb] at this
/-- The reader went wrong ahead of the text. -/
theorem entry_bad0 (b : List Int) (hx : Bytes (rd_byte b false 2).1) (hl : (rd_byte b false 2).1.length ≤ 1099511627776) (hb : (if (rd_byte b false 2).2.2 = 2 then (rd_byte b false 2).2.1 else true) = true) : Ev (fun k => store_DecodeEntry.f k b) FS := by
  refine store_bad (t := ((rd_byte b false 2).1, true, (⟨#[]⟩ : ByteArray), [])) ?_ rfl
  unfold rd_entry
  rw [hb]
  refine ev_bind (rtext_bad _ hx hl) (ev_bind (ruint_bad _ _ hx hl).1 ?_)
  exact loop_bad 0 _ 0 _ []
theorem encLs_ok : ∀ (Vs : List (List S72)) (x : List Int), (∀ V ∈ Vs, (ordR V).2 = none) → encLs Vs x = (x ++ lines Vs, none)
  | [], x, _ => by rw [encLs, lines, List.flatMap_nil, List.append_nil]
  | V :: Vs, x, h => by
    rw [encLs, h V List.mem_cons_self]
    show encLs Vs (x ++ tx (ordR V).1) = _
    rw [encLs_ok Vs _ (fun W hW => h W (List.mem_cons_of_mem _ hW)), lines_cons, List.append_assoc]
theorem decode_both (b : List Int) (hx : Bytes b) (hl : b.length < 1048576) : ∃ R : ByteArray × List (List S72) × Option Int, Ev (fun k => store_DecodeEntry.f k b) R ∧ Ev (fun k => barbicanref26_DecodeEntry.f k b) (R.1, R.2.1, R.2.2.getD 0) ∧ R.2.1.length ≤ 1048576 ∧ ∀ V ∈ R.2.1, LOK V := by
  have fail : Ev (fun k => store_DecodeEntry.f k b) FS → Ev (fun k => barbicanref26_DecodeEntry.f k b) FL → ∃ R : ByteArray × List (List S72) × Option Int, Ev (fun k => store_DecodeEntry.f k b) R ∧ Ev (fun k => barbicanref26_DecodeEntry.f k b) (R.1, R.2.1, R.2.2.getD 0) ∧ R.2.1.length ≤ 1048576 ∧ ∀ V ∈ R.2.1, LOK V :=
    fun h1 h2 => ⟨FS, h1, h2, by decide, fun _ h => (by cases h)⟩
  cases b with
  | nil =>
    refine fail (entry_bad0 [] (fun _ h => (by cases h)) (by decide) rfl) ?_
    unfold barbicanref26_DecodeEntry.f
    exact ev_if_pos rfl (ev_step (fun _ => barbicanref26_DecodeEntry.j0.eq_2 ..) (ev_if_pos rfl (ev_some _)))
  | cons b0 b1 =>
    have hb0 := hx b0 List.mem_cons_self
    have hx1 : Bytes b1 := fun c hc => hx c (List.mem_cons_of_mem _ hc)
    have hrd : rd (b0 :: b1) 0 = b0 := rfl
    have hlen : ((b0 :: b1).length : Int) = (b1.length : Int) + 1 := by rw [List.length_cons]; omega
    rw [List.length_cons] at hl
    by_cases h2 : b0 = 2
    · subst h2
      have hbyte : rd_byte (2 :: b1) false 2 = (b1, false, 2) := by
        unfold rd_byte
        rw [if_neg (by decide), if_neg (by omega), hrd, if_neg (by decide)]
        rfl
      have store1 : ∀ {t : List Int × Bool × ByteArray} {R : List Int × Bool × ByteArray × List (List S72)}, Ev (fun k => rd_text k b1 false) t → Ev (fun k => (rd_uint k t.1 t.2.1 (t.1.length : Int)).bind fun m => rd_loop m.2.2 t.2.2 k 0 m.1 m.2.1 []) R → Ev (fun k => rd_entry k (2 :: b1) false) R := by
        intro t R h1 h3
        unfold rd_entry
        rw [hbyte]
        exact ev_bind h1 h3
      have ref1 : ∀ {t : List Int × Bool × ByteArray} {R : ByteArray × List (List S72) × Int}, Ev (fun k => barbicanref26_Read_text.f k b1 false) t → Ev (fun k => (barbicanref26_Read_uint.f k t.1 t.2.1 (IntKind.u64.wrap (((2 :: b1 : List Int).length : Int)))).bind fun m => barbicanref26_DecodeEntry.l0 k (2 :: b1) m.2.2 0 t.2.2 [] m.1 m.2.1) R → Ev (fun k => barbicanref26_DecodeEntry.f k (2 :: b1)) R := by
        intro t R h1 h3
        unfold barbicanref26_DecodeEntry.f
        refine ev_if_neg (by omega) (ev_if_pos (by omega) ?_)
        rw [show ((rd (2 :: b1) 0) != 2) = false by rw [hrd]; decide]
        refine ev_step (fun _ => barbicanref26_DecodeEntry.j0.eq_2 ..) (ev_if_neg (by decide) (ev_if_pos (by omega) ?_))
        exact ev_bind h1 h3
      have hwl : IntKind.u64.wrap (((2 :: b1 : List Int).length : Int)) = (b1.length : Int) + 1 := by rw [hlen, u64_wrap]; omega
      rcases rtext_both b1 hx1 (by omega) with ⟨g1, g2⟩ | ⟨view, b2, hbe, g1, g2⟩
      · refine fail (store_bad (store1 g1 (ev_bind (ruint_bad b1 _ hx1 (by omega)).1 (loop_bad 0 _ 0 _ []))) rfl) (ref1 g2 (ev_bind (ruint_bad [] _ (fun _ h => (by cases h)) (by decide)).2 ?_))
        exact ref_bad _ 0 0 _ [] _ (by decide) (fun _ h => (by cases h)) (by decide)
      · have hlb : b1.length = (tx view).length + b2.length := by rw [hbe, List.length_append]
        have hx2 : Bytes b2 := fun c hc => hx1 c (by rw [hbe]; exact List.mem_append_right _ hc)
        have htl : (tx view).length = (uvar view.size).length + view.size := by rw [tx, List.length_append, bytesOf_length]
        have htp := tx_pos view
        have hview : view.size ≤ 1048576 := by omega
        have rfail : Ev (fun k => barbicanref26_DecodeEntry.l0 k (2 :: b1) 0 0 view [] [] true) FL := ref_bad _ 0 0 _ [] _ hview (fun _ h => (by cases h)) (by decide)
        rcases uint_both b2 hx2 (by omega) with ⟨q, e, u1, u2, u3⟩ | ⟨m, b3, hb2, hm, u1, u2⟩
        · refine fail (store_bad (store1 g1 (ev_bind (a := (b2, true, 0)) ?_ (loop_bad 0 _ 0 _ []))) rfl) (ref1 g2 (ev_bind (a := ([], true, 0)) ?_ rfail))
          · unfold rd_uint
            exact ev_bind u1 (ev_if_neg Bool.false_ne_true (ev_if_neg (by simp) (ev_some _)))
          · unfold barbicanref26_Read_uint.f
            exact ev_bind u2 (ev_if_neg Bool.false_ne_true (ev_if_neg u3 (ev_some _)))
        · clear hm
          have hl2 : b2.length = (uvar m).length + b3.length := by rw [hb2, List.length_append]
          have hx3 : Bytes b3 := fun c hc => hx2 c (by rw [hb2]; exact List.mem_append_right _ hc)
          have hd : b2.drop (((uvar m).length : Nat) : Int).toNat = b3 := by rw [Int.toNat_natCast, hb2, List.drop_left' rfl]
          have hup : 1 ≤ (uvar m).length := by rw [uvar]; split <;> simp
          have hl3 : b3.length < 1048576 := by omega
          by_cases hbig : (m : Int) > (b1.length : Int) + 1
          · refine fail (store_bad (store1 g1 (ev_bind (a := (b2, true, 0)) ?_ (loop_bad 0 _ 0 _ []))) rfl) (ref1 g2 (ev_bind (a := ([], true, 0)) ?_ rfail))
            · unfold rd_uint
              exact ev_bind u1 (ev_if_neg Bool.false_ne_true (ev_if_pos rfl (ev_if_pos (show (m : Int) > (b2.length : Int) by omega) (ev_some _))))
            · unfold barbicanref26_Read_uint.f
              exact ev_bind u2 (ev_if_neg Bool.false_ne_true (ev_if_pos rfl (ev_if_pos (by rw [hwl]; exact hbig) (ev_some _))))
          · have hm1 : m ≤ 1048576 := by omega
            have hwm : wrap64 (m : Int) = (m : Int) := by unfold wrap64; omega
            have ru : Ev (fun k => barbicanref26_Read_uint.f k b2 false (IntKind.u64.wrap (((2 :: b1 : List Int).length : Int)))) (b3, false, (m : Int)) := by
              unfold barbicanref26_Read_uint.f
              refine ev_bind u2 (ev_if_neg Bool.false_ne_true (ev_if_pos rfl (ev_if_neg (by rw [hwl]; exact hbig) (ev_if_pos (show (0 : Int) ≤ ((uvar m).length : Int) by omega) (ev_if_pos (show ((uvar m).length : Int) ≤ (b2.length : Int) by omega) ?_)))))
              show Ev (fun _ => some (b2.drop (((uvar m).length : Nat) : Int).toNat, false, wrap64 (m : Int))) _
              rw [hd, hwm]; exact ev_some _
            have hloop := loop_both (2 :: b1) view hview m (Nat.le_trans hm1 (by decide)) m 0 b3 [] (Nat.zero_add m) hx3 (by rw [List.length_nil, Nat.zero_add]; exact hl3) (fun _ h => (by cases h))
            by_cases hmid : (m : Int) > (b2.length : Int)
            · have hs : Ev (fun k => store_DecodeEntry.f k (2 :: b1)) FS := by
                refine store_bad (store1 g1 (ev_bind (a := (b2, true, 0)) ?_ (loop_bad 0 _ 0 _ []))) rfl
                unfold rd_uint
                exact ev_bind u1 (ev_if_neg Bool.false_ne_true (ev_if_pos rfl (ev_if_pos hmid (ev_some _))))
              rcases hloop with ⟨_, q2⟩ | ⟨Vs, l2, e1, e2, _⟩
              · exact fail hs (ref1 g2 (ev_bind ru q2))
              · have h7 : m ≤ b3.length := by rw [← e2]; exact Nat.le_trans (lines_len Vs) (by rw [e1, List.length_append]; exact Nat.le_add_right _ _)
                have h8 : b3.length ≤ b2.length := by rw [hl2]; exact Nat.le_add_left _ _
                exact absurd (Int.ofNat_le.2 (Nat.le_trans h7 h8)) (Int.not_le.2 hmid)
            · have su : Ev (fun k => rd_uint k b2 false (b2.length : Int)) (b3, false, (m : Int)) := by
                unfold rd_uint
                refine ev_bind u1 (ev_if_neg Bool.false_ne_true (ev_if_pos rfl (ev_if_neg hmid (ev_if_pos (show (0 : Int) ≤ ((uvar m).length : Int) by omega) (ev_if_pos (show ((uvar m).length : Int) ≤ (b2.length : Int) by omega) ?_)))))
                show Ev (fun _ => some (b2.drop (((uvar m).length : Nat) : Int).toNat, false, wrap64 (m : Int))) _
                rw [hd, hwm]; exact ev_some _
              rcases hloop with ⟨⟨l', acc', q1⟩, q2⟩ | ⟨Vs, b4, e1, e2, e3, q1, q2⟩
              · exact fail (store_bad (store1 g1 (ev_bind su q1)) rfl) (ref1 g2 (ev_bind ru q2))
              · have hVn : Vs.length ≤ 1048576 := by rw [e2]; exact hm1
                have hVL : ∀ V ∈ Vs, LOK V := fun V hV => (e3 V hV).2
                have henc := encLs_ok Vs ([2] ++ (uvar view.size ++ bytesOf view) ++ uvar Vs.length) (fun V hV => (e3 V hV).1)
                have s1 := q1 (b4, !(nameOk view), view, Vs) (by
                  unfold rd_tail
                  exact ev_if_neg (by decide) (ev_bind (name_ev view hview) (ev_some _)))
                have s2 := store_of (store1 g1 (ev_bind su s1))
                have hR : ∀ {R : ByteArray × List (List S72) × Int}, Ev (fun k => if (encE view Vs).2.getD 0 = 0 then (if (strOfNums (encE view Vs).1).toList = (strOfNums (2 :: b1)).toList then (some (view, Vs, 0)) else some FL) else some FL) R → Ev (fun k => barbicanref26_DecodeEntry.f k (2 :: b1)) R := by
                  intro R h
                  refine ref1 g2 (ev_bind ru (q2 R ?_))
                  exact ev_step (fun _ => barbicanref26_DecodeEntry.j2.eq_2 ..) (ev_if_neg (by decide) (ev_bind (ref_enc_ev view Vs hview hVL hVn) (ev_if_neg (by decide) h)))
                cases hn : nameOk view with
                | false =>
                  rw [hn] at s2
                  refine fail s2 (hR (ev_if_neg ?_ (ev_some _)))
                  rw [show encE view Vs = ([], some 30) from if_neg (by rw [hn]; decide)]
                  decide
                | true =>
                  rw [hn] at s2
                  have hE : encE view Vs = ([2] ++ (uvar view.size ++ bytesOf view) ++ uvar Vs.length ++ lines Vs, none) := by
                    rw [show encE view Vs = encLs Vs ([2] ++ (uvar view.size ++ bytesOf view) ++ uvar Vs.length) from if_pos hn]
                    exact henc
                  rw [hE] at hR
                  have hb : (2 :: b1 : List Int) = ([2] ++ (uvar view.size ++ bytesOf view) ++ uvar Vs.length ++ lines Vs) ++ b4 := by
                    rw [hbe, hb2, e1, e2, tx]; simp only [List.append_assoc, List.singleton_append, List.cons_append, List.nil_append]
                  by_cases h4 : b4 = []
                  · subst h4
                    refine ⟨(view, Vs, none), s2, hR (ev_if_pos rfl (ev_if_pos ?_ (ev_some _))), hVn, hVL⟩
                    rw [hb, List.append_nil]
                  · have hl4 : ¬ (b4.length : Int) = 0 := fun h => h4 (List.length_eq_zero_iff.1 (by omega))
                    have s3 : Ev (fun k => store_DecodeEntry.f k (2 :: b1)) FS := by
                      have e : (if (!true) = true then FS else if (b4.length : Int) = 0 then (view, Vs, none) else FS) = FS := by rw [if_neg (by decide), if_neg hl4]
                      rw [← e]; exact s2
                    refine fail s3 (hR (ev_if_pos rfl (ev_if_neg ?_ (ev_some _))))
                    intro h
                    have hxe : Bytes ([2] ++ (uvar view.size ++ bytesOf view) ++ uvar Vs.length ++ lines Vs) := fun c hc => hx c (by rw [hb]; exact List.mem_append_left _ hc)
                    have h5 := strOfNums_inj hxe hx h
                    rw [hb] at h5
                    have h6 : ([2] ++ (uvar view.size ++ bytesOf view) ++ uvar Vs.length ++ lines Vs) ++ b4 = ([2] ++ (uvar view.size ++ bytesOf view) ++ uvar Vs.length ++ lines Vs) ++ [] := by rw [List.append_nil]; exact h5.symm
                    exact h4 (List.append_cancel_left h6)
    · refine fail ?_ ?_
      · have hby : rd_byte (b0 :: b1) false 2 = if b0 > 2 then (b0 :: b1, true, 0) else (b1, false, b0) := by
          unfold rd_byte
          rw [if_neg Bool.false_ne_true, if_neg (show ¬ ((b0 :: b1).length : Int) = 0 by omega), hrd]
          rfl
        have hb' : (if (rd_byte (b0 :: b1) false 2).2.2 = 2 then (rd_byte (b0 :: b1) false 2).2.1 else true) = true ∧ ((rd_byte (b0 :: b1) false 2).1 = b0 :: b1 ∨ (rd_byte (b0 :: b1) false 2).1 = b1) := by
          rw [hby]
          by_cases h3 : b0 > 2
          · rw [if_pos h3]; exact ⟨rfl, Or.inl rfl⟩
          · rw [if_neg h3]; exact ⟨if_neg h2, Or.inr rfl⟩
        rcases hb'.2 with e | e
        · exact entry_bad0 _ (by rw [e]; exact hx) (by rw [e, List.length_cons]; omega) hb'.1
        · exact entry_bad0 _ (by rw [e]; exact hx1) (by rw [e]; omega) hb'.1
      · unfold barbicanref26_DecodeEntry.f
        refine ev_if_neg (by omega) (ev_if_pos (by omega) ?_)
        rw [show ((rd (b0 :: b1) 0) != 2) = true by rw [hrd]; exact bne_iff_ne.2 h2]
        exact ev_step (fun _ => barbicanref26_DecodeEntry.j0.eq_2 ..) (ev_if_pos rfl (ev_some _))
end Go.Proofs.YtddkbhglbkfelaaDoor.E
