/- What the walks of row.Check, row.Encode, row.Key compute, told plainly. -/
import Derived.Test.YtljadejgdbemoaaDoorPyRx5
import Derived.Test.YtljadejgdbemoaaDoorPyXBits
set_option linter.unusedVariables false
set_option linter.unusedSimpArgs false
namespace Go.Proofs.YtljadejgdbemoaaDoor.R
open Go.RowKit Go.Proofs.YtljadejgdbemoaaDoorW.PrintWords Go.Proofs.YtljadejgdbemoaaDoorW.PrintLast Go.Proofs.YtljadejgdbemoaaDoorX

theorem ev_at {α : Type} {g : Nat → Option α} {r : α} (n : Nat) (h : ∀ k, g (k + n) = some r) : Ev g r := ⟨n, fun k hk => by have := h (k - n); rwa [Nat.sub_add_cancel hk] at this⟩
theorem drop_cons {α : Type} {xs : List α} {j : Nat} {c : α} {cs : List α} (h : xs.drop j = c :: cs) : xs[j]? = some c ∧ j < xs.length ∧ xs.drop (j + 1) = cs := by
  have hl : j < xs.length := by
    rcases Nat.lt_or_ge j xs.length with h1 | h1
    · exact h1
    · rw [List.drop_eq_nil_of_le h1] at h; cases h
  rw [List.drop_eq_getElem_cons hl] at h
  injection h with h1 h2
  exact ⟨by rw [List.getElem?_eq_getElem hl, h1], hl, h2⟩
theorem drop_nil {α : Type} {xs : List α} {j : Nat} (h : xs.drop j = []) : xs.length ≤ j := List.drop_eq_nil_iff.1 h
theorem rd36_at {xs : List S36} {j : Nat} {c : S36} (h : xs[j]? = some c) : rd_T36 xs (j : Int) = c := by
  unfold rd_T36; rw [Int.toNat_natCast, List.getD_eq_getElem?_getD, h]; rfl
theorem rd38_at {xs : List S38} {j : Nat} {c : S38} (h : xs[j]? = some c) : r8 xs (j : Int) = c := by
  unfold r8; rw [Int.toNat_natCast, List.getD_eq_getElem?_getD, h]; rfl
theorem rdn_at {xs : List Int} {j : Nat} {c : Int} (h : xs[j]? = some c) : rd xs (j : Int) = c := by
  unfold rd; rw [Int.toNat_natCast, List.getD_eq_getElem?_getD, h]; rfl

/-! ### value.Valid -/
def vErr (a b : Int) (s : ByteArray) (t : Bool) : Option Int :=
  if ¬ (a = 0 ∨ a = 1 ∨ a = 2 ∨ a = 3) ∨ (a ≠ 1 ∧ b ≠ 0) ∨ (a ≠ 2 ∧ s.toList ≠ []) ∨ (a ≠ 3 ∧ t = true) then some 3
  else if (s.size : Int) > 4096 then some 2 else if plainT s = false then some 3 else none
theorem valid_j1 (k : Nat) (x : Bool) (a b : Int) (s : ByteArray) (t : Bool) : value_Valid.j1 (k + 1) x a b s t = some (if x = true then some 3 else if (s.size : Int) > 4096 then some 2 else if plainT s = false then some 3 else none) := by
  have hi : (0 ≤ Lib.idxFunc nonPrint true s) ↔ plainT s = false := idx_plain s
  simp only [value_Valid.j1, strings_IndexFunc_Valid.f, Option.bind_some, ge_iff_le]
  by_cases hx : x = true
  · simp only [hx, if_true]
  · simp only [hx, if_false]
    by_cases h2 : (s.size : Int) > 4096
    · simp only [h2, if_true]; rfl
    · rw [if_neg h2, if_neg h2]
      by_cases h3 : plainT s = false
      · rw [if_pos h3, if_pos (hi.2 h3)]; rfl
      · rw [if_neg h3, if_neg (fun h => h3 (hi.1 h))]; rfl
theorem valid_eq (k : Nat) (a b : Int) (s : ByteArray) (t : Bool) : value_Valid.f (k + 2) a b s t = some (vErr a b s t) := by
  have hk : ∀ (x : Int), ∃ nm, value_Kind.f x = some nm ∧ (nm.toList = [] ↔ ¬ (x = 0 ∨ x = 1 ∨ x = 2 ∨ x = 3)) := by
    intro x
    unfold value_Kind.f
    by_cases h0 : x = 0
    · subst h0; exact ⟨_, rfl, by rw [toList_data]; decide⟩
    by_cases h1 : x = 1
    · subst h1; exact ⟨_, rfl, by rw [toList_data]; decide⟩
    by_cases h2 : x = 2
    · subst h2; exact ⟨_, rfl, by rw [toList_data]; decide⟩
    by_cases h3 : x = 3
    · subst h3; exact ⟨_, rfl, by rw [toList_data]; decide⟩
    simp only [h0, h1, h2, h3, if_false, or_self, not_false_eq_true, iff_true]
    exact ⟨_, rfl, by rw [toList_data]⟩
  obtain ⟨nm, hn, hne⟩ := hk a
  have hj : ∀ (c0 c1 : Int) (c2 : ByteArray) (c3 : Bool), value_Valid.j0 (k + 2) a b s t c0 c1 c2 c3 = some (if ¬ (a = 0 ∨ a = 1 ∨ a = 2 ∨ a = 3) ∨ c0 ≠ a ∨ c1 ≠ 0 ∨ c2.toList ≠ [] ∨ c3 = true then some 3 else if (s.size : Int) > 4096 then some 2 else if plainT s = false then some 3 else none) := by
    intro c0 c1 c2 c3
    simp only [value_Valid.j0, hn, Option.bind_some, valid_j1]
    by_cases he : nm.toList = []
    · simp only [he, if_true, hne.1 he, true_or, not_false_eq_true]
    · have hx : (a = 0 ∨ a = 1 ∨ a = 2 ∨ a = 3) := Classical.not_not.1 fun h => he (hne.2 h)
      simp only [he, if_false, hx, not_true_eq_false, false_or]
      congr 1
      have : ((!(c0 == a) || (!(c1 == 0) || (!(c2.toList == ([] : List UInt8)) || c3))) = true) ↔ (c0 ≠ a ∨ c1 ≠ 0 ∨ c2.toList ≠ [] ∨ c3 = true) := by
        simp only [Bool.or_eq_true, Bool.not_eq_true', beq_eq_false_iff_ne, ne_eq]
      simp only [this]
  unfold value_Valid.f vErr
  have hnil : (⟨#[]⟩ : ByteArray).toList = [] := by rw [toList_data]
  by_cases h1 : a = 1
  · subst h1; simp [hj, hnil]
  by_cases h2 : a = 2
  · subst h2; simp [hj, hnil]
  by_cases h3 : a = 3
  · subst h3; simp [hj, hnil]
  simp only [h1, h2, h3, if_false, hj]
  simp [h1, h2, h3]
theorem valid_ev (a b : Int) (s : ByteArray) (t : Bool) : Ev (fun k => value_Valid.f k a b s t) (vErr a b s t) := ev_at 2 fun k => valid_eq k a b s t

/-! ### row.Check -/
def fitErr (c : S36) (v : S38) : Option Int :=
  match vErr v.f0 v.f1 v.f2 v.f3 with
  | some e => some e
  | none => if v.f0 = 0 then (if c.f2 = true then some 33 else if c.f3 = true then none else some 33) else if v.f0 = c.f1 then none else some 7
theorem fits_ev (c : S36) (v : S38) : Ev (fun k => row_fits.f k c.f0 c.f1 c.f2 c.f3 v.f0 v.f1 v.f2 v.f3) (fitErr c v) := by
  refine ev_bind (valid_ev _ _ _ _) ?_
  unfold fitErr
  cases h : vErr v.f0 v.f1 v.f2 v.f3 with
  | some e => exact ev_some _
  | none =>
    simp only [Option.isNone_none, if_true]
    by_cases h0 : v.f0 = 0
    · simp only [h0, if_true]
      by_cases h2 : c.f2 = true
      · simp only [h2, if_true]; exact ev_some _
      · simp only [h2, if_false]
        by_cases h3 : c.f3 = true
        · simp only [h3, if_true]; exact ev_some _
        · simp only [h3]; exact ev_some _
    · simp only [h0, if_false]
      by_cases h1 : v.f0 = c.f1
      · simp only [h1, if_true]; exact ev_some _
      · simp only [h1, if_false]; exact ev_some _
def chkL : List S36 → List S38 → Option Int
  | c :: cs, v :: vs => match fitErr c v with | some e => some e | none => chkL cs vs
  | _, _ => none
def chk (cs : List S36) (vs : List S38) : Option Int := if vs.length = cs.length then chkL cs vs else some 1
theorem check_loop (C : List S36) (V : List S38) (hb : C.length < 9223372036854775807) : ∀ (cs : List S36) (vs : List S38) (j : Nat), C.drop j = cs → V.drop j = vs → vs.length = cs.length → Ev (fun k => row_Check.l0 k V C (C.length : Int) (j : Int)) (chkL cs vs)
  | [], vs, j, hc, hv, hl => by
    have := drop_nil hc
    refine ev_step (fun _ => row_Check.l0.eq_2 ..) ?_
    simp only [show ¬ ((j : Int) < (C.length : Int)) by omega, if_false]
    cases vs with
    | nil => exact ev_some _
    | cons _ _ => cases hl
  | c :: cs, [], j, hc, hv, hl => by cases hl
  | c :: cs, v :: vs, j, hc, hv, hl => by
    obtain ⟨c1, c2, c3⟩ := drop_cons hc
    obtain ⟨v1, v2, v3⟩ := drop_cons hv
    refine ev_step (fun _ => row_Check.l0.eq_2 ..) ?_
    simp only [show ((j : Int) < (C.length : Int)) by omega, show (0 ≤ (j : Int)) by omega, show ((j : Int) < (V.length : Int)) by omega, if_true, rd36_at c1, rd38_at v1]
    refine ev_bind (fits_ev c v) ?_
    cases h : fitErr c v with
    | some e => simp only [Option.isNone_some, Bool.false_eq_true, if_false, Option.getD_some, chkL, h]; exact ev_some _
    | none =>
      simp only [Option.isNone_none, if_true, wrap_succ (j := j) (by omega), chkL, h]
      exact check_loop C V hb cs vs (j + 1) c3 v3 (by simpa using hl)
theorem check_ev (n : ByteArray) (C : List S36) (V : List S38) (hb : C.length < 9223372036854775807) : Ev (fun k => row_Check.f k n C V) (chk C V) := by
  unfold row_Check.f chk
  by_cases h : V.length = C.length
  · simp only [h, if_true]
    exact check_loop C V hb C V 0 rfl rfl h
  · simp only [h, if_false, show ¬ ((V.length : Int) = (C.length : Int)) by omega]
    exact ev_some _

/-! ### pack -/
theorem uint_loop : ∀ (n : Nat) (x : List Int), x.length + (uvar n).length ≤ 140737488355328 → Ev (fun k => pack_AppendUint.l0 k (n : Int) x) (x ++ uvar n) := by
  intro n
  induction n using Nat.strongRecOn with
  | ind n ih =>
    intro x hx
    refine ev_step (fun _ => pack_AppendUint.l0.eq_2 ..) ?_
    by_cases h : n < 128
    · rw [uvar_small h] at hx ⊢
      simp only [List.length_cons, List.length_nil] at hx
      simp only [show ¬ ((n : Int) ≥ 128) by omega, if_false, show x.length < 140737488355328 by omega, if_true, show (n : Int) % 256 = (n : Int) by omega]
      exact ev_some _
    · rw [uvar_big h] at hx ⊢
      simp only [List.length_cons] at hx
      simp only [show ((n : Int) ≥ 128) by omega, if_true, show x.length < 140737488355328 by omega, show (n : Int) / 128 = ((n / 128 : Nat) : Int) by omega]
      rw [u8or128 (by omega) (by omega)]
      have := ih (n / 128) (by omega) (x ++ [((n : Int) % 256) % 128 + 128]) (by simp only [List.length_append, List.length_cons, List.length_nil]; omega)
      rw [show ((n % 128 + 128 : Nat) : Int) = ((n : Int) % 256) % 128 + 128 by omega]
      rw [List.append_assoc] at this
      exact this
theorem uint_ev (n : Nat) (x : List Int) (hn : n < 18446744073709551616) (hx : x.length ≤ 1099511627776) : Ev (fun k => pack_AppendUint.f k x (n : Int)) (x ++ uvar n) := by
  have h10 := uvar_len64 hn
  have hw : wrap64 ((x.length : Int) + 10) = (x.length : Int) + 10 := by unfold wrap64; omega
  unfold pack_AppendUint.f
  simp only [hw, show (0 : Int) ≤ (x.length : Int) + 10 by omega, show (((x.length : Int) + 10 : Int)).toNat ≤ 281474976710656 by omega, if_true, Option.bind_some, List.length_nil, List.nil_append, show 0 + x.length < 140737488355328 by omega]
  exact uint_loop n x (by omega)
theorem int_ev (a : Int) (x : List Int) (ha : -9223372036854775808 ≤ a ∧ a ≤ 9223372036854775807) (hx : x.length ≤ 1099511627776) : Ev (fun k => pack_AppendInt.f k x a) (x ++ uvar (zz a)) := by
  unfold pack_AppendInt.f
  rw [zz_bits ha.1 ha.2]
  exact ev_bind (uint_ev (zz a) x (zz_lt ha.1 ha.2) hx) (ev_some _)
theorem text_ev (s : ByteArray) (x : List Int) (hs : s.size ≤ 1099511627776) (hx : x.length ≤ 1099511627776) : Ev (fun k => pack_AppendText.f k x s) (x ++ (uvar s.size ++ bytesOf s)) := by
  unfold pack_AppendText.f
  rw [u64_wrap_id (by omega) (by omega)]
  refine ev_bind (uint_ev s.size x (by omega) hx) ?_
  have h10 := uvar_len64 (n := s.size) (by omega)
  simp only [List.length_append, show x.length + (uvar s.size).length + s.size < 140737488355328 by omega, if_true, List.append_assoc]
  exact ev_some _

/-! ### row.Encode -/
def encV (v : S38) : List Int :=
  if v.f0 = 0 then [0] else 1 :: (if v.f0 = 1 then uvar (zz v.f1) else if v.f0 = 2 then uvar v.f2.size ++ bytesOf v.f2 else if v.f3 = true then [1] else [0])
def encL : List S38 → List Int
  | [] => []
  | v :: vs => encV v ++ encL vs
/-- What holds of a value at hand: its whole numbers are such, and its text is no longer than the bulk. -/
def OKv (v : S38) : Prop := (-9223372036854775808 ≤ v.f1 ∧ v.f1 ≤ 9223372036854775807) ∧ v.f2.size ≤ 1048576
theorem encV_length {v : S38} (h : OKv v) : (encV v).length ≤ 12 + v.f2.size := by
  unfold encV
  by_cases h0 : v.f0 = 0
  · simp only [h0, if_true]; simp only [List.length_cons, List.length_nil]; omega
  · have a := uvar_len64 (zz_lt h.1.1 h.1.2)
    have b := uvar_len64 (n := v.f2.size) (by have := h.2; omega)
    simp only [h0, if_false]
    split
    · simp only [List.length_cons]; omega
    · split
      · simp only [List.length_cons, List.length_append, bytesOf_length]; omega
      · split <;> (simp only [List.length_cons, List.length_nil]; omega)
def bulk : List S38 → Nat
  | [] => 0
  | v :: vs => 12 + v.f2.size + bulk vs
theorem encL_length : ∀ (vs : List S38), (∀ v ∈ vs, OKv v) → (encL vs).length ≤ bulk vs
  | [], _ => by simp [encL, bulk]
  | v :: vs, h => by
    have a := encV_length (h v List.mem_cons_self)
    have b := encL_length vs (fun x hx => h x (List.mem_cons_of_mem _ hx))
    simp only [encL, bulk, List.length_append]; omega
theorem encode_loop (V : List S38) (hV : ∀ v ∈ V, OKv v) (hb : V.length < 9223372036854775807) : ∀ (vs : List S38) (j : Nat) (x : List Int), V.drop j = vs → x.length + bulk vs ≤ 1099511627776 → Ev (fun k => row_Encode.l0 k x V (V.length : Int) (j : Int)) (x ++ encL vs, none)
  | [], j, x, hd, hx => by
    have := drop_nil hd
    refine ev_step (fun _ => row_Encode.l0.eq_2 ..) ?_
    simp only [show ¬ ((j : Int) < (V.length : Int)) by omega, if_false, encL, List.append_nil]
    exact ev_some _
  | v :: vs, j, x, hd, hx => by
    obtain ⟨v1, v2, v3⟩ := drop_cons hd
    have hv := hV v (List.mem_of_getElem? v1)
    have hl := encV_length hv
    simp only [bulk] at hx
    refine ev_step (fun _ => row_Encode.l0.eq_2 ..) ?_
    simp only [show ((j : Int) < (V.length : Int)) by omega, show (0 ≤ (j : Int)) by omega, if_true, rd38_at v1, wrap_succ (j := j) (by omega), show x.length < 140737488355328 by omega]
    have go : ∀ (e : List Int), encV v = e → Ev (fun k => row_Encode.l0 k (x ++ e) V (V.length : Int) ((j + 1 : Nat) : Int)) (x ++ encL (v :: vs), none) := by
      intro e he
      subst he
      have := encode_loop V hV hb vs (j + 1) (x ++ encV v) v3 (by rw [List.length_append]; omega)
      rw [List.append_assoc] at this
      exact this
    by_cases h0 : v.f0 = 0
    · simp only [h0, if_true]
      exact go [0] (by unfold encV; simp only [h0, if_true])
    · simp only [h0, if_false, Option.bind_some]
      by_cases h1 : v.f0 = 1
      · simp only [h1, if_true]
        refine ev_bind (int_ev v.f1 (x ++ [1]) hv.1 (by simp only [List.length_append, List.length_cons, List.length_nil]; omega)) ?_
        rw [List.append_assoc]
        exact go _ (by unfold encV; simp only [h0, h1, if_true, if_false]; rfl)
      · simp only [h1, if_false]
        by_cases h2 : v.f0 = 2
        · simp only [h2, if_true]
          refine ev_bind (text_ev v.f2 (x ++ [1]) (by have := hv.2; omega) (by simp only [List.length_append, List.length_cons, List.length_nil]; omega)) ?_
          rw [List.append_assoc]
          exact go _ (by unfold encV; simp only [h0, h1, h2, if_true, if_false]; rfl)
        · simp only [h2, if_false, List.length_append, List.length_cons, List.length_nil, show x.length + (0 + 1) < 140737488355328 by omega, if_true, List.append_assoc]
          by_cases h3 : v.f3 = true
          · simp only [h3, if_true]
            exact go _ (by unfold encV; simp only [h0, h1, h2, h3, if_true, if_false]; rfl)
          · simp only [h3]
            exact go _ (by unfold encV; simp only [h0, h1, h2, h3, if_false]; rfl)
/-- row.Encode's answer. -/
def encR (cs : List S36) (vs : List S38) : List Int × Option Int := match chk cs vs with | some e => ([], some e) | none => (encL vs, none)
theorem encode_ev (n : ByteArray) (C : List S36) (V : List S38) (hC : C.length < 9223372036854775807) (hV : ∀ v ∈ V, OKv v) (hb : V.length < 9223372036854775807) (hk : bulk V ≤ 1099511627776) : Ev (fun k => row_Encode.f k n C V) (encR C V) := by
  unfold row_Encode.f encR
  refine ev_bind (check_ev n C V hC) ?_
  cases h : chk C V with
  | some e => simp only [Option.isNone_some, Bool.false_eq_true, if_false, Option.getD_some]; exact ev_some _
  | none =>
    simp only [Option.isNone_none, if_true]
    exact encode_loop V hV hb V 0 [] rfl (by simpa using hk)
end Go.Proofs.YtljadejgdbemoaaDoor.R
