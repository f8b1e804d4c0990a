/- What the walks of value.Valid, row.Check, pack's writers, row.Encode and order.Encode compute, told plainly. -/
import Derived.Test.YtddkbhglbkfelaaGreatDoorPkXNwT
import Derived.Test.YtddkbhglbkfelaaGreatDoorPkXPlain
set_option linter.unusedVariables false
set_option linter.unusedSimpArgs false
namespace Go.Proofs.YtddkbhglbkfelaaGreatDoor.T
open Go.RowKit Go.Proofs.YtddkbhglbkfelaaGreatDoorW.PrintWords Go.Proofs.YtddkbhglbkfelaaGreatDoorW.PrintLast Go.Proofs.YtddkbhglbkfelaaGreatDoorX
theorem ev_at {α : Type} {g : Nat → Option α} {r : α} (n : Nat) (h : ∀ k, g (k + n) = some r) : Ev g r := ⟨n, fun k hk => by have := h (k - n); rwa [Nat.sub_add_cancel hk] at this⟩
theorem drop_cons {α : Type} {xs : List α} {j : Nat} {c : α} {cs : List α} (h : xs.drop j = c :: cs) : xs[j]? = some c ∧ j < xs.length ∧ xs.drop (j + 1) = cs := by
  have hl : j < xs.length := by
    rcases Nat.lt_or_ge j xs.length with h1 | h1
    · exact h1
    · rw [List.drop_eq_nil_of_le h1] at h; cases h
  rw [List.drop_eq_getElem_cons hl] at h
  injection h with h1 h2
  exact ⟨by rw [List.getElem?_eq_getElem hl, h1], hl, h2⟩
theorem drop_nil {α : Type} {xs : List α} {j : Nat} (h : xs.drop j = []) : xs.length ≤ j := List.drop_eq_nil_iff.1 h
theorem rd36_at {xs : List S118} {j : Nat} {c : S118} (h : xs[j]? = some c) : rd_T118 xs (j : Int) = c := by
  unfold rd_T118; rw [Int.toNat_natCast, List.getD_eq_getElem?_getD, h]; rfl
theorem rd38_at {xs : List S63} {j : Nat} {c : S63} (h : xs[j]? = some c) : rd_T63 xs (j : Int) = c := by
  unfold rd_T63; rw [Int.toNat_natCast, List.getD_eq_getElem?_getD, h]; rfl
theorem rdn_at {xs : List Int} {j : Nat} {c : Int} (h : xs[j]? = some c) : rd xs (j : Int) = c := by
  unfold rd; rw [Int.toNat_natCast, List.getD_eq_getElem?_getD, h]; rfl
def vErr (a b : Int) (s : ByteArray) (t : Bool) : Option Int :=
  if ¬ (a = 0 ∨ a = 1 ∨ a = 2 ∨ a = 3) ∨ (a ≠ 1 ∧ b ≠ 0) ∨ (a ≠ 2 ∧ s.toList ≠ []) ∨ (a ≠ 3 ∧ t = true) then some 3
  else if (s.size : Int) > 4096 then some 2 else if plainT s = false then some 3 else none
theorem valid_j1 (k : Nat) (x : Bool) (a b : Int) (s : ByteArray) (t : Bool) : value_Valid.j1 (k + 1) x a b s t = some (if x = true then some 3 else if (s.size : Int) > 4096 then some 2 else if plainT s = false then some 3 else none) := by
  have hi : (0 ≤ Lib.idxFunc nonPrint true s) ↔ plainT s = false := idx_plain s
  simp only [value_Valid.j1, strings_IndexFunc_Valid.f, Option.bind_some, ge_iff_le]
  by_cases hx : x = true
  · simp only [hx, if_true]
  · simp only [hx, if_false]
    by_cases h2 : (s.size : Int) > 4096
    · simp only [h2, if_true]; rfl
    · rw [if_neg h2, if_neg h2]
      by_cases h3 : plainT s = false
      · rw [if_pos h3, if_pos (hi.2 h3)]; rfl
      · rw [if_neg h3, if_neg (fun h => h3 (hi.1 h))]; rfl
theorem valid_eq (k : Nat) (a b : Int) (s : ByteArray) (t : Bool) : value_Valid.f (k + 2) a b s t = some (vErr a b s t) := by
  have hk : ∀ (x : Int), ∃ nm, value_Kind.f x = some nm ∧ (nm.toList = [] ↔ ¬ (x = 0 ∨ x = 1 ∨ x = 2 ∨ x = 3)) := by
    intro x
    unfold value_Kind.f
    by_cases h0 : x = 0
    · subst h0; exact ⟨_, rfl, by rw [toList_data]; decide⟩
    by_cases h1 : x = 1
    · subst h1; exact ⟨_, rfl, by rw [toList_data]; decide⟩
    by_cases h2 : x = 2
    · subst h2; exact ⟨_, rfl, by rw [toList_data]; decide⟩
    by_cases h3 : x = 3
    · subst h3; exact ⟨_, rfl, by rw [toList_data]; decide⟩
    simp only [h0, h1, h2, h3, if_false, or_self, not_false_eq_true, iff_true]
    exact ⟨_, rfl, by rw [toList_data]⟩
  obtain ⟨nm, hn, hne⟩ := hk a
  have hj : ∀ (c0 c1 : Int) (c2 : ByteArray) (c3 : Bool), value_Valid.j0 (k + 2) a b s t c0 c1 c2 c3 = some (if ¬ (a = 0 ∨ a = 1 ∨ a = 2 ∨ a = 3) ∨ c0 ≠ a ∨ c1 ≠ 0 ∨ c2.toList ≠ [] ∨ c3 = true then some 3 else if (s.size : Int) > 4096 then some 2 else if plainT s = false then some 3 else none) := by
    intro c0 c1 c2 c3
    simp only [value_Valid.j0, hn, Option.bind_some, valid_j1]
    by_cases he : nm.toList = []
    · simp only [he, if_true, hne.1 he, true_or, not_false_eq_true]
    · have hx : (a = 0 ∨ a = 1 ∨ a = 2 ∨ a = 3) := Classical.not_not.1 fun h => he (hne.2 h)
      simp only [he, if_false, hx, not_true_eq_false, false_or]
      congr 1
      have : ((!(c0 == a) || (!(c1 == 0) || (!(c2.toList == ([] : List UInt8)) || c3))) = true) ↔ (c0 ≠ a ∨ c1 ≠ 0 ∨ c2.toList ≠ [] ∨ c3 = true) := by
        simp only [Bool.or_eq_true, Bool.not_eq_true', beq_eq_false_iff_ne, ne_eq]
      simp only [this]
  unfold value_Valid.f vErr
  have hnil : (⟨#[]⟩ : ByteArray).toList = [] := by rw [toList_data]
  by_cases h1 : a = 1
  · subst h1; simp [hj, hnil]
  by_cases h2 : a = 2
  · subst h2; simp [hj, hnil]
  by_cases h3 : a = 3
  · subst h3; simp [hj, hnil]
  simp only [h1, h2, h3, if_false, hj]
  simp [h1, h2, h3]
theorem valid_ev (a b : Int) (s : ByteArray) (t : Bool) : Ev (fun k => value_Valid.f k a b s t) (vErr a b s t) := ev_at 2 fun k => valid_eq k a b s t
def fitErr (c : S118) (v : S63) : Option Int :=
  match vErr v.f0 v.f1 v.f2 v.f3 with
  | some e => some e
  | none => if v.f0 = 0 then (if c.f2 = true then some 33 else if c.f3 = true then none else some 33) else if v.f0 = c.f1 then none else some 7
theorem fits_ev (c : S118) (v : S63) : Ev (fun k => row_fits.f k c.f0 c.f1 c.f2 c.f3 v.f0 v.f1 v.f2 v.f3) (fitErr c v) := by
  refine ev_bind (valid_ev _ _ _ _) ?_
  unfold fitErr
  cases h : vErr v.f0 v.f1 v.f2 v.f3 with
  | some e => exact ev_some _
  | none =>
    simp only [Option.isNone_none, if_true]
    by_cases h0 : v.f0 = 0
    · simp only [h0, if_true]
      by_cases h2 : c.f2 = true
      · simp only [h2, if_true]; exact ev_some _
      · simp only [h2, if_false]
        by_cases h3 : c.f3 = true
        · simp only [h3, if_true]; exact ev_some _
        · simp only [h3]; exact ev_some _
    · simp only [h0, if_false]
      by_cases h1 : v.f0 = c.f1
      · simp only [h1, if_true]; exact ev_some _
      · simp only [h1, if_false]; exact ev_some _
def chkL : List S118 → List S63 → Option Int
  | c :: cs, v :: vs => match fitErr c v with | some e => some e | none => chkL cs vs
  | _, _ => none
def chk (cs : List S118) (vs : List S63) : Option Int := if vs.length = cs.length then chkL cs vs else some 1
theorem check_loop (C : List S118) (V : List S63) (hb : C.length < 9223372036854775807) : ∀ (cs : List S118) (vs : List S63) (j : Nat), C.drop j = cs → V.drop j = vs → vs.length = cs.length → Ev (fun k => row_Check.l0 k V C (C.length : Int) (j : Int)) (chkL cs vs)
  | [], vs, j, hc, hv, hl => by
    have := drop_nil hc
    refine ev_step (fun _ => row_Check.l0.eq_2 ..) ?_
    simp only [show ¬ ((j : Int) < (C.length : Int)) by omega, if_false]
    cases vs with
    | nil => exact ev_some _
    | cons _ _ => cases hl
  | c :: cs, [], j, hc, hv, hl => by cases hl
  | c :: cs, v :: vs, j, hc, hv, hl => by
    obtain ⟨c1, c2, c3⟩ := drop_cons hc
    obtain ⟨v1, v2, v3⟩ := drop_cons hv
    refine ev_step (fun _ => row_Check.l0.eq_2 ..) ?_
    simp only [show ((j : Int) < (C.length : Int)) by omega, show (0 ≤ (j : Int)) by omega, show ((j : Int) < (V.length : Int)) by omega, if_true, rd36_at c1, rd38_at v1]
    refine ev_bind (fits_ev c v) ?_
    cases h : fitErr c v with
    | some e => simp only [Option.isNone_some, Bool.false_eq_true, if_false, Option.getD_some, chkL, h]; exact ev_some _
    | none =>
      simp only [Option.isNone_none, if_true, wrap_succ (j := j) (by omega), chkL, h]
      exact check_loop C V hb cs vs (j + 1) c3 v3 (by simpa using hl)
theorem check_ev (n : ByteArray) (C : List S118) (V : List S63) (hb : C.length < 9223372036854775807) : Ev (fun k => row_Check.f k n C V) (chk C V) := by
  unfold row_Check.f chk
  by_cases h : V.length = C.length
  · simp only [h, if_true]
    exact check_loop C V hb C V 0 rfl rfl h
  · simp only [h, if_false, show ¬ ((V.length : Int) = (C.length : Int)) by omega]
    exact ev_some _
/-- What holds of a value at hand: its whole numbers are such, and its text is no longer than the bulk. -/
def OKv (v : S63) : Prop := (-9223372036854775808 ≤ v.f1 ∧ v.f1 ≤ 9223372036854775807) ∧ v.f2.size ≤ 1048576
def bulk : List S63 → Nat
  | [] => 0
  | v :: vs => 12 + v.f2.size + bulk vs
theorem uint_loop : ∀ (n : Nat) (x : List Int), x.length + (uvar n).length ≤ 140737488355328 → Ev (fun k => pack_AppendUint.l0 k (n : Int) x) (x ++ uvar n) := by
  intro n
  induction n using Nat.strongRecOn with
  | ind n ih =>
    intro x hx
    refine ev_step (fun _ => pack_AppendUint.l0.eq_2 ..) ?_
    by_cases h : n < 128
    · rw [uvar_small h] at hx ⊢
      simp only [List.length_cons, List.length_nil] at hx
      simp only [show ¬ ((n : Int) ≥ 128) by omega, if_false, show x.length < 140737488355328 by omega, if_true, show (n : Int) % 256 = (n : Int) by omega]
      exact ev_some _
    · rw [uvar_big h] at hx ⊢
      simp only [List.length_cons] at hx
      simp only [show ((n : Int) ≥ 128) by omega, if_true, show x.length < 140737488355328 by omega, show (n : Int) / 128 = ((n / 128 : Nat) : Int) by omega]
      rw [u8or128 (by omega) (by omega)]
      have := ih (n / 128) (by omega) (x ++ [((n : Int) % 256) % 128 + 128]) (by simp only [List.length_append, List.length_cons, List.length_nil]; omega)
      rw [show ((n % 128 + 128 : Nat) : Int) = ((n : Int) % 256) % 128 + 128 by omega]
      rw [List.append_assoc] at this
      exact this
theorem uint_ev (n : Nat) (x : List Int) (hn : n < 18446744073709551616) (hx : x.length ≤ 1099511627776) : Ev (fun k => pack_AppendUint.f k x (n : Int)) (x ++ uvar n) := by
  have h10 := uvar_len64 hn
  have hw : wrap64 ((x.length : Int) + 10) = (x.length : Int) + 10 := by unfold wrap64; omega
  unfold pack_AppendUint.f
  simp only [hw, show (0 : Int) ≤ (x.length : Int) + 10 by omega, show (((x.length : Int) + 10 : Int)).toNat ≤ 281474976710656 by omega, if_true, Option.bind_some, List.length_nil, List.nil_append, show 0 + x.length < 140737488355328 by omega]
  exact uint_loop n x (by omega)
theorem int_ev (a : Int) (x : List Int) (ha : -9223372036854775808 ≤ a ∧ a ≤ 9223372036854775807) (hx : x.length ≤ 1099511627776) : Ev (fun k => pack_AppendInt.f k x a) (x ++ uvar (zz a)) := by
  unfold pack_AppendInt.f
  rw [zz_bits ha.1 ha.2]
  exact ev_bind (uint_ev (zz a) x (zz_lt ha.1 ha.2) hx) (ev_some _)
theorem text_ev (s : ByteArray) (x : List Int) (hs : s.size ≤ 1099511627776) (hx : x.length ≤ 1099511627776) : Ev (fun k => pack_AppendText.f k x s) (x ++ (uvar s.size ++ bytesOf s)) := by
  unfold pack_AppendText.f
  rw [u64_wrap_id (by omega) (by omega)]
  refine ev_bind (uint_ev s.size x (by omega) hx) ?_
  have h10 := uvar_len64 (n := s.size) (by omega)
  simp only [List.length_append, show x.length + (uvar s.size).length + s.size < 140737488355328 by omega, if_true, List.append_assoc]
  exact ev_some _
def encV (v : S63) : List Int :=
  if v.f0 = 0 then [0] else 1 :: (if v.f0 = 1 then uvar (zz v.f1) else if v.f0 = 2 then uvar v.f2.size ++ bytesOf v.f2 else if v.f3 = true then [1] else [0])
def encL : List S63 → List Int
  | [] => []
  | v :: vs => encV v ++ encL vs
theorem encV_length {v : S63} (h : OKv v) : (encV v).length ≤ 12 + v.f2.size := by
  unfold encV
  by_cases h0 : v.f0 = 0
  · simp only [h0, if_true]; simp only [List.length_cons, List.length_nil]; omega
  · have a := uvar_len64 (zz_lt h.1.1 h.1.2)
    have b := uvar_len64 (n := v.f2.size) (by have := h.2; omega)
    simp only [h0, if_false]
    split
    · simp only [List.length_cons]; omega
    · split
      · simp only [List.length_cons, List.length_append, bytesOf_length]; omega
      · split <;> (simp only [List.length_cons, List.length_nil]; omega)
theorem encL_length : ∀ (vs : List S63), (∀ v ∈ vs, OKv v) → (encL vs).length ≤ bulk vs
  | [], _ => by simp [encL, bulk]
  | v :: vs, h => by
    have a := encV_length (h v List.mem_cons_self)
    have b := encL_length vs (fun x hx => h x (List.mem_cons_of_mem _ hx))
    simp only [encL, bulk, List.length_append]; omega
theorem encode_loop (V : List S63) (hV : ∀ v ∈ V, OKv v) (hb : V.length < 9223372036854775807) : ∀ (vs : List S63) (j : Nat) (x : List Int), V.drop j = vs → x.length + bulk vs ≤ 1099511627776 → Ev (fun k => row_Encode.l0 k x V (V.length : Int) (j : Int)) (x ++ encL vs, none)
  | [], j, x, hd, hx => by
    have := drop_nil hd
    refine ev_step (fun _ => row_Encode.l0.eq_2 ..) ?_
    simp only [show ¬ ((j : Int) < (V.length : Int)) by omega, if_false, encL, List.append_nil]
    exact ev_some _
  | v :: vs, j, x, hd, hx => by
    obtain ⟨v1, v2, v3⟩ := drop_cons hd
    have hv := hV v (List.mem_of_getElem? v1)
    have hl := encV_length hv
    simp only [bulk] at hx
    refine ev_step (fun _ => row_Encode.l0.eq_2 ..) ?_
    simp only [show ((j : Int) < (V.length : Int)) by omega, show (0 ≤ (j : Int)) by omega, if_true, rd38_at v1, wrap_succ (j := j) (by omega), show x.length < 140737488355328 by omega]
    have go : ∀ (e : List Int), encV v = e → Ev (fun k => row_Encode.l0 k (x ++ e) V (V.length : Int) ((j + 1 : Nat) : Int)) (x ++ encL (v :: vs), none) := by
      intro e he
      subst he
      have := encode_loop V hV hb vs (j + 1) (x ++ encV v) v3 (by rw [List.length_append]; omega)
      rw [List.append_assoc] at this
      exact this
    by_cases h0 : v.f0 = 0
    · simp only [h0, if_true]
      exact go [0] (by unfold encV; simp only [h0, if_true])
    · simp only [h0, if_false, Option.bind_some]
      by_cases h1 : v.f0 = 1
      · simp only [h1, if_true]
        refine ev_bind (int_ev v.f1 (x ++ [1]) hv.1 (by simp only [List.length_append, List.length_cons, List.length_nil]; omega)) ?_
        rw [List.append_assoc]
        exact go _ (by unfold encV; simp only [h0, h1, if_true, if_false]; rfl)
      · simp only [h1, if_false]
        by_cases h2 : v.f0 = 2
        · simp only [h2, if_true]
          refine ev_bind (text_ev v.f2 (x ++ [1]) (by have := hv.2; omega) (by simp only [List.length_append, List.length_cons, List.length_nil]; omega)) ?_
          rw [List.append_assoc]
          exact go _ (by unfold encV; simp only [h0, h1, h2, if_true, if_false]; rfl)
        · simp only [h2, if_false, List.length_append, List.length_cons, List.length_nil, show x.length + (0 + 1) < 140737488355328 by omega, if_true, List.append_assoc]
          by_cases h3 : v.f3 = true
          · simp only [h3, if_true]
            exact go _ (by unfold encV; simp only [h0, h1, h2, h3, if_true, if_false]; rfl)
          · simp only [h3]
            exact go _ (by unfold encV; simp only [h0, h1, h2, h3, if_false]; rfl)
/-- row.Encode's answer. -/
def encR (cs : List S118) (vs : List S63) : List Int × Option Int := match chk cs vs with | some e => ([], some e) | none => (encL vs, none)
theorem encode_ev (n : ByteArray) (C : List S118) (V : List S63) (hC : C.length < 9223372036854775807) (hV : ∀ v ∈ V, OKv v) (hb : V.length < 9223372036854775807) (hk : bulk V ≤ 1099511627776) : Ev (fun k => row_Encode.f k n C V) (encR C V) := by
  unfold row_Encode.f encR
  refine ev_bind (check_ev n C V hC) ?_
  cases h : chk C V with
  | some e => simp only [Option.isNone_some, Bool.false_eq_true, if_false, Option.getD_some]; exact ev_some _
  | none =>
    simp only [Option.isNone_none, if_true]
    exact encode_loop V hV hb V 0 [] rfl (by simpa using hk)
def keyPos : List S118 → Nat → List Int
  | [], _ => []
  | c :: cs, j => if c.f2 = true then (j : Int) :: keyPos cs (j + 1) else keyPos cs (j + 1)
theorem keys_loop (C : List S118) (hb : C.length < 1099511627776) : ∀ (cs : List S118) (j : Nat) (x : List Int), C.drop j = cs → x.length + cs.length < 1099511627776 → Ev (fun k => row_Keys.l0 k x C (C.length : Int) (j : Int)) (x ++ keyPos cs j)
  | [], j, x, hc, hx => by
    have := drop_nil hc
    refine ev_step (fun _ => row_Keys.l0.eq_2 ..) ?_
    simp only [show ¬ ((j : Int) < (C.length : Int)) by omega, if_false, keyPos, List.append_nil]
    exact ev_some _
  | c :: cs, j, x, hc, hx => by
    obtain ⟨c1, c2, c3⟩ := drop_cons hc
    simp only [List.length_cons] at hx
    refine ev_step (fun _ => row_Keys.l0.eq_2 ..) ?_
    simp only [show ((j : Int) < (C.length : Int)) by omega, show (0 ≤ (j : Int)) by omega, if_true, rd36_at c1, wrap_succ (j := j) (by omega), show x.length < 17592186044416 by omega]
    by_cases h : c.f2 = true
    · simp only [h, if_true, keyPos]
      have := keys_loop C hb cs (j + 1) (x ++ [(j : Int)]) c3 (by simp only [List.length_append, List.length_cons, List.length_nil]; omega)
      rw [List.append_assoc] at this
      exact this
    · simp only [h, keyPos]
      exact keys_loop C hb cs (j + 1) x c3 (by omega)
theorem keys_ev (n : ByteArray) (C : List S118) (hb : C.length < 1099511627776) : Ev (fun k => row_Keys.f k n C) (keyPos C 0) := by
  have := keys_loop C hb C 0 [] rfl (by simpa using hb)
  exact this
def be : Nat → Int → List Int
  | 0, _ => []
  | n + 1, x => be n (x / 256) ++ [x % 256]
theorem be_length : ∀ (n : Nat) (x : Int), (be n x).length = n
  | 0, _ => rfl
  | n + 1, x => by rw [be, List.length_append, be_length n]; rfl
theorem be_inj : ∀ (n : Nat) (x y : Int), 0 ≤ x → x < 256 ^ n → 0 ≤ y → y < 256 ^ n → be n x = be n y → x = y
  | 0, x, y, h1, h2, h3, h4, h => by simp only [Int.pow_zero] at h2 h4; omega
  | n + 1, x, y, h1, h2, h3, h4, h => by
    rw [be, be] at h
    have := List.append_inj' h rfl
    rw [Int.pow_succ] at h2 h4
    have := be_inj n (x / 256) (y / 256) (by omega) (by omega) (by omega) (by omega) this.1
    simp only [List.cons.injEq] at *
    omega
theorem be_range : ∀ (n : Nat) (x : Int), ∀ b ∈ be n x, 0 ≤ b ∧ b ≤ 255
  | 0, _, b, hb => by cases hb
  | n + 1, x, b, hb => by
    rw [be] at hb
    rcases List.mem_append.1 hb with hb | hb
    · exact be_range n _ b hb
    · simp only [List.mem_cons, List.mem_nil_iff, or_false] at hb; omega
theorem word_step (k : Nat) (x0 : List Int) (x1 : Int) (s : Nat) (hs : s ≤ 63) (hx : x0.length < 140737488355328) : order_word.l0 (k + 1) x0 x1 (s : Int) = order_word.l0 k (x0 ++ [x1 / 2 ^ s % 256]) x1 ((s : Int) - 8) := by
  rw [order_word.l0.eq_2]
  have hw : IntKind.u64.wrap (s : Int) = (s : Int) := u64_wrap_id (by omega) (by omega)
  have hm : min s 64 = s := by omega
  simp only [show ((s : Int) ≥ 0) by omega, hw, show (0 ≤ (s : Int)) by omega, hx, if_true, shr, Int.toNat_natCast, IntKind.bits, hm]
  rw [show wrap64 ((s : Int) - 8) = (s : Int) - 8 by unfold wrap64; omega]
theorem be8_eq (x : Int) : be 8 x = [x / 2 ^ 56 % 256, x / 2 ^ 48 % 256, x / 2 ^ 40 % 256, x / 2 ^ 32 % 256, x / 2 ^ 24 % 256, x / 2 ^ 16 % 256, x / 2 ^ 8 % 256, x / 2 ^ 0 % 256] := by
  simp only [be, List.nil_append, List.cons_append]
  have h : ∀ a b : Int, 0 ≤ a → x / a / b = x / (a * b) := fun a b h => Int.ediv_ediv_of_nonneg h
  simp [Int.ediv_ediv_of_nonneg]
theorem word_ev (x0 : List Int) (x1 : Int) (hx : x0.length ≤ 1099511627776) : Ev (fun k => order_word.f k x0 x1) (x0 ++ be 8 x1) := by
  refine ev_at 9 fun k => ?_
  unfold order_word.f
  have st := fun (k : Nat) (y : List Int) (s : Nat) (hs : s ≤ 63) (hy : y.length < 140737488355328) => word_step k y x1 s hs hy
  have e : ∀ (y : List Int) (b : Int), (y ++ [b]).length = y.length + 1 := fun y b => by simp
  have h := st (k + 8) x0 56 (by decide) (by omega)
  rw [show ((56 : Nat) : Int) = 56 from rfl, show k + 8 + 1 = k + 9 by omega] at h
  rw [h]
  rw [show (56 : Int) - 8 = ((48 : Nat) : Int) from rfl, show k + 8 = k + 7 + 1 by omega, st _ _ 48 (by decide) (by simp only [e]; omega)]
  rw [show ((48 : Nat) : Int) - 8 = ((40 : Nat) : Int) from rfl, show k + 7 = k + 6 + 1 by omega, st _ _ 40 (by decide) (by simp only [e]; omega)]
  rw [show ((40 : Nat) : Int) - 8 = ((32 : Nat) : Int) from rfl, show k + 6 = k + 5 + 1 by omega, st _ _ 32 (by decide) (by simp only [e]; omega)]
  rw [show ((32 : Nat) : Int) - 8 = ((24 : Nat) : Int) from rfl, show k + 5 = k + 4 + 1 by omega, st _ _ 24 (by decide) (by simp only [e]; omega)]
  rw [show ((24 : Nat) : Int) - 8 = ((16 : Nat) : Int) from rfl, show k + 4 = k + 3 + 1 by omega, st _ _ 16 (by decide) (by simp only [e]; omega)]
  rw [show ((16 : Nat) : Int) - 8 = ((8 : Nat) : Int) from rfl, show k + 3 = k + 2 + 1 by omega, st _ _ 8 (by decide) (by simp only [e]; omega)]
  rw [show ((8 : Nat) : Int) - 8 = ((0 : Nat) : Int) from rfl, show k + 2 = k + 1 + 1 by omega, st _ _ 0 (by decide) (by simp only [e]; omega)]
  rw [show ((0 : Nat) : Int) - 8 = -8 from rfl, order_word.l0.eq_2, if_neg (by decide), be8_eq]
  simp only [List.append_assoc, List.cons_append, List.nil_append]
def kenc (v : S63) : List Int := (v.f0 + 1) % 256 :: (if v.f0 = 1 then be 8 (v.f1 + 9223372036854775808) else if v.f0 = 2 then bytesOf v.f2 ++ [0] else if v.f0 = 3 then (if v.f3 = true then [1] else [0]) else [])
def kencL : List S63 → List Int
  | [] => []
  | v :: vs => kenc v ++ kencL vs
theorem kenc_length (v : S63) : (kenc v).length ≤ 12 + v.f2.size := by
  unfold kenc
  rw [List.length_cons]
  split
  · rw [be_length]; omega
  · split
    · simp only [List.length_append, bytesOf_length, List.length_cons, List.length_nil]; omega
    · split
      · split <;> (simp only [List.length_cons, List.length_nil]; omega)
      · simp only [List.length_nil]; omega
theorem kenc_range (v : S63) : ∀ b ∈ kenc v, 0 ≤ b ∧ b ≤ 255 := by
  intro b hb
  unfold kenc at hb
  rcases List.mem_cons.1 hb with rfl | hb
  · omega
  · split at hb
    · exact be_range _ _ b hb
    · split at hb
      · rcases List.mem_append.1 hb with hb | hb
        · exact bytesOf_range _ b hb
        · simp only [List.mem_cons, List.mem_nil_iff, or_false] at hb; omega
      · split at hb
        · split at hb <;> (simp only [List.mem_cons, List.mem_nil_iff, or_false] at hb; omega)
        · cases hb
theorem kencL_range : ∀ (vs : List S63), ∀ b ∈ kencL vs, 0 ≤ b ∧ b ≤ 255
  | [], b, hb => by cases hb
  | v :: vs, b, hb => by
    rcases List.mem_append.1 hb with hb | hb
    · exact kenc_range v b hb
    · exact kencL_range vs b hb
def valL : List S63 → Option Int
  | [] => none
  | v :: vs => match vErr v.f0 v.f1 v.f2 v.f3 with | some e => some e | none => valL vs
/-- order.Encode's answer. -/
def ordR (l : List S63) : ByteArray × Option Int := match valL l with | some e => (⟨#[]⟩, some e) | none => if (l.length : Int) > 16 then (⟨#[]⟩, some 2) else (strOfNums (kencL l), none)
theorem order_loop1 (V : List S63) (hV : ∀ v ∈ V, OKv v) (hb : V.length < 9223372036854775807) : ∀ (vs : List S63) (j : Nat) (x : List Int), V.drop j = vs → x.length + bulk vs ≤ 1099511627776 → Ev (fun k => order_Encode.l1 k x V (V.length : Int) (j : Int)) (strOfNums (x ++ kencL vs), none)
  | [], j, x, hd, hx => by
    have := drop_nil hd
    refine ev_step (fun _ => order_Encode.l1.eq_2 ..) ?_
    simp only [show ¬ ((j : Int) < (V.length : Int)) by omega, if_false, kencL, List.append_nil]
    exact ev_some _
  | v :: vs, j, x, hd, hx => by
    obtain ⟨v1, v2, v3⟩ := drop_cons hd
    have hv := hV v (List.mem_of_getElem? v1)
    have hl := kenc_length v
    simp only [bulk] at hx
    refine ev_step (fun _ => order_Encode.l1.eq_2 ..) ?_
    simp only [show ((j : Int) < (V.length : Int)) by omega, show (0 ≤ (j : Int)) by omega, if_true, rd38_at v1, wrap_succ (j := j) (by omega), show x.length < 140737488355328 by omega, Option.bind_some, List.length_append, List.length_cons, List.length_nil, bytesOf_length]
    have go : ∀ (e : List Int), kenc v = e → Ev (fun k => order_Encode.l1 k (x ++ e) V (V.length : Int) ((j + 1 : Nat) : Int)) (strOfNums (x ++ kencL (v :: vs)), none) := by
      intro e he
      subst he
      have := order_loop1 V hV hb vs (j + 1) (x ++ kenc v) v3 (by rw [List.length_append]; omega)
      rw [List.append_assoc] at this
      exact this
    by_cases h1 : v.f0 = 1
    · simp only [h1, if_true]
      rw [u64_xor_top hv.1.1 hv.1.2]
      refine ev_bind (word_ev (x ++ [(1 + 1) % 256]) (v.f1 + 9223372036854775808) (by simp only [List.length_append, List.length_cons, List.length_nil]; omega)) ?_
      rw [List.append_assoc]
      exact go _ (by unfold kenc; simp only [h1, if_true]; rfl)
    · simp only [h1, if_false]
      by_cases h2 : v.f0 = 2
      · have hs := hv.2
        simp only [h2, if_true, show x.length + (0 + 1) + v.f2.size < 140737488355328 by omega, List.append_assoc]
        exact go _ (by unfold kenc; simp only [h2, if_true, if_neg (show ¬ ((2 : Int) = 1) by decide)]; rfl)
      · simp only [h2, if_false]
        by_cases h3 : v.f0 = 3
        · simp only [h3, if_true, show x.length + (0 + 1) < 140737488355328 by omega, List.append_assoc]
          by_cases h4 : v.f3 = true
          · simp only [h4, if_true]
            exact go _ (by unfold kenc; simp only [h3, h4, if_true, if_neg (show ¬ ((3 : Int) = 1) by decide), if_neg (show ¬ ((3 : Int) = 2) by decide)]; rfl)
          · simp only [h4]
            exact go _ (by unfold kenc; simp only [h3, h4, if_true, if_neg (show ¬ ((3 : Int) = 1) by decide), if_neg (show ¬ ((3 : Int) = 2) by decide)]; rfl)
        · simp only [h3, if_false]
          exact go _ (by unfold kenc; simp only [h1, h2, h3, if_false])
theorem order_loop0 (L V : List S63) (hb : V.length < 9223372036854775807) (R : ByteArray × Option Int) (hR : L.length ≤ 9223372036854775807 → (if (L.length : Int) > 16 then (some ((⟨#[]⟩ : ByteArray), some 2)) else some R) = some (if (L.length : Int) > 16 then ((⟨#[]⟩ : ByteArray), some 2) else R)) (h1 : Ev (fun k => order_Encode.l1 k [] L (L.length : Int) 0) R) : ∀ (vs : List S63) (j : Nat), V.drop j = vs → Ev (fun k => order_Encode.l0 k L V (V.length : Int) (j : Int)) (match valL vs with | some e => (⟨#[]⟩, some e) | none => if (L.length : Int) > 16 then (⟨#[]⟩, some 2) else R)
  | [], j, hd => by
    have := drop_nil hd
    refine ev_step (fun _ => order_Encode.l0.eq_2 ..) ?_
    simp only [show ¬ ((j : Int) < (V.length : Int)) by omega, if_false, valL]
    by_cases h : (L.length : Int) > 16
    · rw [if_pos h]; exact ev_if_pos h (ev_some _)
    · rw [if_neg h]; exact ev_if_neg h h1
  | v :: vs, j, hd => by
    obtain ⟨v1, v2, v3⟩ := drop_cons hd
    refine ev_step (fun _ => order_Encode.l0.eq_2 ..) ?_
    simp only [show ((j : Int) < (V.length : Int)) by omega, show (0 ≤ (j : Int)) by omega, if_true, rd38_at v1, wrap_succ (j := j) (by omega)]
    refine ev_bind (valid_ev v.f0 v.f1 v.f2 v.f3) ?_
    simp only [valL]
    cases h : vErr v.f0 v.f1 v.f2 v.f3 with
    | some e => simp only [Option.isNone_some, Bool.false_eq_true, if_false, Option.getD_some]; exact ev_some _
    | none =>
      simp only [Option.isNone_none, if_true]
      exact order_loop0 L V hb R hR h1 vs (j + 1) v3
theorem order_ev (V : List S63) (hV : ∀ v ∈ V, OKv v) (hb : V.length < 9223372036854775807) (hk : bulk V ≤ 1099511627776) : Ev (fun k => order_Encode.f k V) (ordR V) := by
  have h1 := order_loop1 V hV hb V 0 [] rfl (by simpa using hk)
  exact order_loop0 V V hb _ (fun _ => by split <;> rfl) h1 V 0 rfl
theorem bt_at {s : ByteArray} {i : Nat} {c : UInt8} {cs : List UInt8} (h : s.data.toList.drop i = c :: cs) : bt s (i : Int) = (c.toNat : Int) := by
  rw [← rd_bytesOf]
  apply rdn_at
  unfold bytesOf
  rw [List.getElem?_map, (drop_cons h).1]; rfl
theorem vErr_none {a b : Int} {s : ByteArray} {t : Bool} (h : vErr a b s t = none) : (a = 0 ∨ a = 1 ∨ a = 2 ∨ a = 3) ∧ (a ≠ 1 → b = 0) ∧ (a ≠ 2 → s.toList = []) ∧ (a ≠ 3 → t = false) ∧ s.size ≤ 4096 ∧ plainT s = true := by
  unfold vErr at h
  split at h
  · cases h
  · rename_i h1
    split at h
    · cases h
    · rename_i h2
      split at h
      · cases h
      · rename_i h3
        refine ⟨Classical.byContradiction fun hn => h1 (Or.inl hn), fun hn => Classical.byContradiction fun hb => h1 (Or.inr (Or.inl ⟨hn, hb⟩)), fun hn => Classical.byContradiction fun hb => h1 (Or.inr (Or.inr (Or.inl ⟨hn, hb⟩))), fun hn => ?_, by omega, by simpa using h3⟩
        rw [← Bool.not_eq_true]
        exact fun hb => h1 (Or.inr (Or.inr (Or.inr ⟨hn, hb⟩)))
end Go.Proofs.YtddkbhglbkfelaaGreatDoor.T
