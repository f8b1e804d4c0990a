/- What the walks of value.Valid, pack's writers, order.Encode and of the reference's like compute, told plainly. -/
import Derived.Test.YtddkbhglbkfelaaDoorPsEx
import Derived.Test.YtddkbhglbkfelaaDoorPsXBits
set_option linter.unusedVariables false
set_option linter.unusedSimpArgs false
namespace Go.Proofs.YtddkbhglbkfelaaDoor.E
open Go.RowKit Go.Proofs.YtddkbhglbkfelaaDoorW.PrintWords Go.Proofs.YtddkbhglbkfelaaDoorW.PrintLast Go.Proofs.YtddkbhglbkfelaaDoorX
theorem ev_at {α : Type} {g : Nat → Option α} {r : α} (n : Nat) (h : ∀ k, g (k + n) = some r) : Ev g r := ⟨n, fun k hk => by have := h (k - n); rwa [Nat.sub_add_cancel hk] at this⟩
theorem drop_cons {α : Type} {xs : List α} {j : Nat} {c : α} {cs : List α} (h : xs.drop j = c :: cs) : xs[j]? = some c ∧ j < xs.length ∧ xs.drop (j + 1) = cs := by
  have hl : j < xs.length := by
    rcases Nat.lt_or_ge j xs.length with h1 | h1
    · exact h1
    · rw [List.drop_eq_nil_of_le h1] at h; cases h
  rw [List.drop_eq_getElem_cons hl] at h
  injection h with h1 h2
  exact ⟨by rw [List.getElem?_eq_getElem hl, h1], hl, h2⟩
theorem drop_nil {α : Type} {xs : List α} {j : Nat} (h : xs.drop j = []) : xs.length ≤ j := List.drop_eq_nil_iff.1 h
theorem rd38_at {xs : List S72} {j : Nat} {c : S72} (h : xs[j]? = some c) : rd_T72 xs (j : Int) = c := by
  unfold rd_T72; rw [Int.toNat_natCast, List.getD_eq_getElem?_getD, h]; rfl
theorem rdn_at {xs : List Int} {j : Nat} {c : Int} (h : xs[j]? = some c) : rd xs (j : Int) = c := by
  unfold rd; rw [Int.toNat_natCast, List.getD_eq_getElem?_getD, h]; rfl
def vErr (a b : Int) (s : ByteArray) (t : Bool) : Option Int :=
  if ¬ (a = 0 ∨ a = 1 ∨ a = 2 ∨ a = 3) ∨ (a ≠ 1 ∧ b ≠ 0) ∨ (a ≠ 2 ∧ s.toList ≠ []) ∨ (a ≠ 3 ∧ t = true) then some 3
  else if (s.size : Int) > 4096 then some 2 else if plainT s = false then some 3 else none
theorem valid_j1 (k : Nat) (x : Bool) (a b : Int) (s : ByteArray) (t : Bool) : value_Valid.j1 (k + 1) x a b s t = some (if x = true then some 3 else if (s.size : Int) > 4096 then some 2 else if plainT s = false then some 3 else none) := by
  have hi : (0 ≤ Lib.idxFunc nonPrint true s) ↔ plainT s = false := idx_plain s
  simp only [value_Valid.j1, strings_IndexFunc_Valid.f, Option.bind_some, ge_iff_le]
  by_cases hx : x = true
  · simp only [hx, if_true]
  · simp only [hx, if_false]
    by_cases h2 : (s.size : Int) > 4096
    · simp only [h2, if_true]; rfl
    · rw [if_neg h2, if_neg h2]
      by_cases h3 : plainT s = false
      · rw [if_pos h3, if_pos (hi.2 h3)]; rfl
      · rw [if_neg h3, if_neg (fun h => h3 (hi.1 h))]; rfl
theorem valid_eq (k : Nat) (a b : Int) (s : ByteArray) (t : Bool) : value_Valid.f (k + 2) a b s t = some (vErr a b s t) := by
  have hk : ∀ (x : Int), ∃ nm, value_Kind.f x = some nm ∧ (nm.toList = [] ↔ ¬ (x = 0 ∨ x = 1 ∨ x = 2 ∨ x = 3)) := by
    intro x
    unfold value_Kind.f
    by_cases h0 : x = 0
    · subst h0; exact ⟨_, rfl, by rw [toList_data]; decide⟩
    by_cases h1 : x = 1
    · subst h1; exact ⟨_, rfl, by rw [toList_data]; decide⟩
    by_cases h2 : x = 2
    · subst h2; exact ⟨_, rfl, by rw [toList_data]; decide⟩
    by_cases h3 : x = 3
    · subst h3; exact ⟨_, rfl, by rw [toList_data]; decide⟩
    simp only [h0, h1, h2, h3, if_false, or_self, not_false_eq_true, iff_true]
    exact ⟨_, rfl, by rw [toList_data]⟩
  obtain ⟨nm, hn, hne⟩ := hk a
  have hj : ∀ (c0 c1 : Int) (c2 : ByteArray) (c3 : Bool), value_Valid.j0 (k + 2) a b s t c0 c1 c2 c3 = some (if ¬ (a = 0 ∨ a = 1 ∨ a = 2 ∨ a = 3) ∨ c0 ≠ a ∨ c1 ≠ 0 ∨ c2.toList ≠ [] ∨ c3 = true then some 3 else if (s.size : Int) > 4096 then some 2 else if plainT s = false then some 3 else none) := by
    intro c0 c1 c2 c3
    simp only [value_Valid.j0, hn, Option.bind_some, valid_j1]
    by_cases he : nm.toList = []
    · simp only [he, if_true, hne.1 he, true_or, not_false_eq_true]
    · have hx : (a = 0 ∨ a = 1 ∨ a = 2 ∨ a = 3) := Classical.not_not.1 fun h => he (hne.2 h)
      simp only [he, if_false, hx, not_true_eq_false, false_or]
      congr 1
      have : ((!(c0 == a) || (!(c1 == 0) || (!(c2.toList == ([] : List UInt8)) || c3))) = true) ↔ (c0 ≠ a ∨ c1 ≠ 0 ∨ c2.toList ≠ [] ∨ c3 = true) := by
        simp only [Bool.or_eq_true, Bool.not_eq_true', beq_eq_false_iff_ne, ne_eq]
      simp only [this]
  unfold value_Valid.f vErr
  have hnil : (⟨#[]⟩ : ByteArray).toList = [] := by rw [toList_data]
  by_cases h1 : a = 1
  · subst h1; simp [hj, hnil]
  by_cases h2 : a = 2
  · subst h2; simp [hj, hnil]
  by_cases h3 : a = 3
  · subst h3; simp [hj, hnil]
  simp only [h1, h2, h3, if_false, hj]
  simp [h1, h2, h3]
theorem valid_ev (a b : Int) (s : ByteArray) (t : Bool) : Ev (fun k => value_Valid.f k a b s t) (vErr a b s t) := ev_at 2 fun k => valid_eq k a b s t
/-- What holds of a value at hand: its whole numbers are such, and its text is no longer than the bulk. -/
def OKv (v : S72) : Prop := (-9223372036854775808 ≤ v.f1 ∧ v.f1 ≤ 9223372036854775807) ∧ v.f2.size ≤ 1048576
def bulk : List S72 → Nat
  | [] => 0
  | v :: vs => 12 + v.f2.size + bulk vs
theorem uint_loop : ∀ (n : Nat) (x : List Int), x.length + (uvar n).length ≤ 140737488355328 → Ev (fun k => pack_AppendUint.l0 k (n : Int) x) (x ++ uvar n) := by
  intro n
  induction n using Nat.strongRecOn with
  | ind n ih =>
    intro x hx
    refine ev_step (fun _ => pack_AppendUint.l0.eq_2 ..) ?_
    by_cases h : n < 128
    · rw [uvar_small h] at hx ⊢
      simp only [List.length_cons, List.length_nil] at hx
      simp only [show ¬ ((n : Int) ≥ 128) by omega, if_false, show x.length < 140737488355328 by omega, if_true, show (n : Int) % 256 = (n : Int) by omega]
      exact ev_some _
    · rw [uvar_big h] at hx ⊢
      simp only [List.length_cons] at hx
      simp only [show ((n : Int) ≥ 128) by omega, if_true, show x.length < 140737488355328 by omega, show (n : Int) / 128 = ((n / 128 : Nat) : Int) by omega]
      rw [u8or128 (by omega) (by omega)]
      have := ih (n / 128) (by omega) (x ++ [((n : Int) % 256) % 128 + 128]) (by simp only [List.length_append, List.length_cons, List.length_nil]; omega)
      rw [show ((n % 128 + 128 : Nat) : Int) = ((n : Int) % 256) % 128 + 128 by omega]
      rw [List.append_assoc] at this
      exact this
theorem uint_ev (n : Nat) (x : List Int) (hn : n < 18446744073709551616) (hx : x.length ≤ 1099511627776) : Ev (fun k => pack_AppendUint.f k x (n : Int)) (x ++ uvar n) := by
  have h10 := uvar_len64 hn
  have hw : wrap64 ((x.length : Int) + 10) = (x.length : Int) + 10 := by unfold wrap64; omega
  unfold pack_AppendUint.f
  simp only [hw, show (0 : Int) ≤ (x.length : Int) + 10 by omega, show (((x.length : Int) + 10 : Int)).toNat ≤ 281474976710656 by omega, if_true, Option.bind_some, List.length_nil, List.nil_append, show 0 + x.length < 140737488355328 by omega]
  exact uint_loop n x (by omega)
theorem text_ev (s : ByteArray) (x : List Int) (hs : s.size ≤ 1099511627776) (hx : x.length ≤ 1099511627776) : Ev (fun k => pack_AppendText.f k x s) (x ++ (uvar s.size ++ bytesOf s)) := by
  unfold pack_AppendText.f
  rw [u64_wrap_id (by omega) (by omega)]
  refine ev_bind (uint_ev s.size x (by omega) hx) ?_
  have h10 := uvar_len64 (n := s.size) (by omega)
  simp only [List.length_append, show x.length + (uvar s.size).length + s.size < 140737488355328 by omega, if_true, List.append_assoc]
  exact ev_some _
def be : Nat → Int → List Int
  | 0, _ => []
  | n + 1, x => be n (x / 256) ++ [x % 256]
theorem be_length : ∀ (n : Nat) (x : Int), (be n x).length = n
  | 0, _ => rfl
  | n + 1, x => by rw [be, List.length_append, be_length n]; rfl
theorem be_range : ∀ (n : Nat) (x : Int), ∀ b ∈ be n x, 0 ≤ b ∧ b ≤ 255
  | 0, _, b, hb => by cases hb
  | n + 1, x, b, hb => by
    rw [be] at hb
    rcases List.mem_append.1 hb with hb | hb
    · exact be_range n _ b hb
    · simp only [List.mem_cons, List.mem_nil_iff, or_false] at hb; omega
theorem word_step (k : Nat) (x0 : List Int) (x1 : Int) (s : Nat) (hs : s ≤ 63) (hx : x0.length < 140737488355328) : order_word.l0 (k + 1) x0 x1 (s : Int) = order_word.l0 k (x0 ++ [x1 / 2 ^ s % 256]) x1 ((s : Int) - 8) := by
  rw [order_word.l0.eq_2]
  have hw : IntKind.u64.wrap (s : Int) = (s : Int) := u64_wrap_id (by omega) (by omega)
  have hm : min s 64 = s := by omega
  simp only [show ((s : Int) ≥ 0) by omega, hw, show (0 ≤ (s : Int)) by omega, hx, if_true, shr, Int.toNat_natCast, IntKind.bits, hm]
  rw [show wrap64 ((s : Int) - 8) = (s : Int) - 8 by unfold wrap64; omega]
theorem be8_eq (x : Int) : be 8 x = [x / 2 ^ 56 % 256, x / 2 ^ 48 % 256, x / 2 ^ 40 % 256, x / 2 ^ 32 % 256, x / 2 ^ 24 % 256, x / 2 ^ 16 % 256, x / 2 ^ 8 % 256, x / 2 ^ 0 % 256] := by
  simp only [be, List.nil_append, List.cons_append]
  have h : ∀ a b : Int, 0 ≤ a → x / a / b = x / (a * b) := fun a b h => Int.ediv_ediv_of_nonneg h
  simp [Int.ediv_ediv_of_nonneg]
theorem word_ev (x0 : List Int) (x1 : Int) (hx : x0.length ≤ 1099511627776) : Ev (fun k => order_word.f k x0 x1) (x0 ++ be 8 x1) := by
  refine ev_at 9 fun k => ?_
  unfold order_word.f
  have st := fun (k : Nat) (y : List Int) (s : Nat) (hs : s ≤ 63) (hy : y.length < 140737488355328) => word_step k y x1 s hs hy
  have e : ∀ (y : List Int) (b : Int), (y ++ [b]).length = y.length + 1 := fun y b => by simp
  have h := st (k + 8) x0 56 (by decide) (by omega)
  rw [show ((56 : Nat) : Int) = 56 from rfl, show k + 8 + 1 = k + 9 by omega] at h
  rw [h]
  rw [show (56 : Int) - 8 = ((48 : Nat) : Int) from rfl, show k + 8 = k + 7 + 1 by omega, st _ _ 48 (by decide) (by simp only [e]; omega)]
  rw [show ((48 : Nat) : Int) - 8 = ((40 : Nat) : Int) from rfl, show k + 7 = k + 6 + 1 by omega, st _ _ 40 (by decide) (by simp only [e]; omega)]
  rw [show ((40 : Nat) : Int) - 8 = ((32 : Nat) : Int) from rfl, show k + 6 = k + 5 + 1 by omega, st _ _ 32 (by decide) (by simp only [e]; omega)]
  rw [show ((32 : Nat) : Int) - 8 = ((24 : Nat) : Int) from rfl, show k + 5 = k + 4 + 1 by omega, st _ _ 24 (by decide) (by simp only [e]; omega)]
  rw [show ((24 : Nat) : Int) - 8 = ((16 : Nat) : Int) from rfl, show k + 4 = k + 3 + 1 by omega, st _ _ 16 (by decide) (by simp only [e]; omega)]
  rw [show ((16 : Nat) : Int) - 8 = ((8 : Nat) : Int) from rfl, show k + 3 = k + 2 + 1 by omega, st _ _ 8 (by decide) (by simp only [e]; omega)]
  rw [show ((8 : Nat) : Int) - 8 = ((0 : Nat) : Int) from rfl, show k + 2 = k + 1 + 1 by omega, st _ _ 0 (by decide) (by simp only [e]; omega)]
  rw [show ((0 : Nat) : Int) - 8 = -8 from rfl, order_word.l0.eq_2, if_neg (by decide), be8_eq]
  simp only [List.append_assoc, List.cons_append, List.nil_append]
def kenc (v : S72) : List Int := (v.f0 + 1) % 256 :: (if v.f0 = 1 then be 8 (v.f1 + 9223372036854775808) else if v.f0 = 2 then bytesOf v.f2 ++ [0] else if v.f0 = 3 then (if v.f3 = true then [1] else [0]) else [])
def kencL : List S72 → List Int
  | [] => []
  | v :: vs => kenc v ++ kencL vs
theorem kenc_length (v : S72) : (kenc v).length ≤ 12 + v.f2.size := by
  unfold kenc
  rw [List.length_cons]
  split
  · rw [be_length]; omega
  · split
    · simp only [List.length_append, bytesOf_length, List.length_cons, List.length_nil]; omega
    · split
      · split <;> (simp only [List.length_cons, List.length_nil]; omega)
      · simp only [List.length_nil]; omega
theorem kenc_range (v : S72) : ∀ b ∈ kenc v, 0 ≤ b ∧ b ≤ 255 := by
  intro b hb
  unfold kenc at hb
  rcases List.mem_cons.1 hb with rfl | hb
  · omega
  · split at hb
    · exact be_range _ _ b hb
    · split at hb
      · rcases List.mem_append.1 hb with hb | hb
        · exact bytesOf_range _ b hb
        · simp only [List.mem_cons, List.mem_nil_iff, or_false] at hb; omega
      · split at hb
        · split at hb <;> (simp only [List.mem_cons, List.mem_nil_iff, or_false] at hb; omega)
        · cases hb
theorem kencL_range : ∀ (vs : List S72), ∀ b ∈ kencL vs, 0 ≤ b ∧ b ≤ 255
  | [], b, hb => by cases hb
  | v :: vs, b, hb => by
    rcases List.mem_append.1 hb with hb | hb
    · exact kenc_range v b hb
    · exact kencL_range vs b hb
def valL : List S72 → Option Int
  | [] => none
  | v :: vs => match vErr v.f0 v.f1 v.f2 v.f3 with | some e => some e | none => valL vs
/-- order.Encode's answer. -/
def ordR (l : List S72) : ByteArray × Option Int := match valL l with | some e => (⟨#[]⟩, some e) | none => if (l.length : Int) > 16 then (⟨#[]⟩, some 2) else (strOfNums (kencL l), none)
theorem order_loop1 (V : List S72) (hV : ∀ v ∈ V, OKv v) (hb : V.length < 9223372036854775807) : ∀ (vs : List S72) (j : Nat) (x : List Int), V.drop j = vs → x.length + bulk vs ≤ 1099511627776 → Ev (fun k => order_Encode.l1 k x V (V.length : Int) (j : Int)) (strOfNums (x ++ kencL vs), none)
  | [], j, x, hd, hx => by
    have := drop_nil hd
    refine ev_step (fun _ => order_Encode.l1.eq_2 ..) ?_
    simp only [show ¬ ((j : Int) < (V.length : Int)) by omega, if_false, kencL, List.append_nil]
    exact ev_some _
  | v :: vs, j, x, hd, hx => by
    obtain ⟨v1, v2, v3⟩ := drop_cons hd
    have hv := hV v (List.mem_of_getElem? v1)
    have hl := kenc_length v
    simp only [bulk] at hx
    refine ev_step (fun _ => order_Encode.l1.eq_2 ..) ?_
    simp only [show ((j : Int) < (V.length : Int)) by omega, show (0 ≤ (j : Int)) by omega, if_true, rd38_at v1, wrap_succ (j := j) (by omega), show x.length < 140737488355328 by omega, Option.bind_some, List.length_append, List.length_cons, List.length_nil, bytesOf_length]
    have go : ∀ (e : List Int), kenc v = e → Ev (fun k => order_Encode.l1 k (x ++ e) V (V.length : Int) ((j + 1 : Nat) : Int)) (strOfNums (x ++ kencL (v :: vs)), none) := by
      intro e he
      subst he
      have := order_loop1 V hV hb vs (j + 1) (x ++ kenc v) v3 (by rw [List.length_append]; omega)
      rw [List.append_assoc] at this
      exact this
    by_cases h1 : v.f0 = 1
    · simp only [h1, if_true]
      rw [u64_xor_top hv.1.1 hv.1.2]
      refine ev_bind (word_ev (x ++ [(1 + 1) % 256]) (v.f1 + 9223372036854775808) (by simp only [List.length_append, List.length_cons, List.length_nil]; omega)) ?_
      rw [List.append_assoc]
      exact go _ (by unfold kenc; simp only [h1, if_true]; rfl)
    · simp only [h1, if_false]
      by_cases h2 : v.f0 = 2
      · have hs := hv.2
        simp only [h2, if_true, show x.length + (0 + 1) + v.f2.size < 140737488355328 by omega, List.append_assoc]
        exact go _ (by unfold kenc; simp only [h2, if_true, if_neg (show ¬ ((2 : Int) = 1) by decide)]; rfl)
      · simp only [h2, if_false]
        by_cases h3 : v.f0 = 3
        · simp only [h3, if_true, show x.length + (0 + 1) < 140737488355328 by omega, List.append_assoc]
          by_cases h4 : v.f3 = true
          · simp only [h4, if_true]
            exact go _ (by unfold kenc; simp only [h3, h4, if_true, if_neg (show ¬ ((3 : Int) = 1) by decide), if_neg (show ¬ ((3 : Int) = 2) by decide)]; rfl)
          · simp only [h4]
            exact go _ (by unfold kenc; simp only [h3, h4, if_true, if_neg (show ¬ ((3 : Int) = 1) by decide), if_neg (show ¬ ((3 : Int) = 2) by decide)]; rfl)
        · simp only [h3, if_false]
          exact go _ (by unfold kenc; simp only [h1, h2, h3, if_false])
theorem order_loop0 (L V : List S72) (hb : V.length < 9223372036854775807) (R : ByteArray × Option Int) (hR : L.length ≤ 9223372036854775807 → (if (L.length : Int) > 16 then (some ((⟨#[]⟩ : ByteArray), some 2)) else some R) = some (if (L.length : Int) > 16 then ((⟨#[]⟩ : ByteArray), some 2) else R)) (h1 : Ev (fun k => order_Encode.l1 k [] L (L.length : Int) 0) R) : ∀ (vs : List S72) (j : Nat), V.drop j = vs → Ev (fun k => order_Encode.l0 k L V (V.length : Int) (j : Int)) (match valL vs with | some e => (⟨#[]⟩, some e) | none => if (L.length : Int) > 16 then (⟨#[]⟩, some 2) else R)
  | [], j, hd => by
    have := drop_nil hd
    refine ev_step (fun _ => order_Encode.l0.eq_2 ..) ?_
    simp only [show ¬ ((j : Int) < (V.length : Int)) by omega, if_false, valL]
    by_cases h : (L.length : Int) > 16
    · rw [if_pos h]; exact ev_if_pos h (ev_some _)
    · rw [if_neg h]; exact ev_if_neg h h1
  | v :: vs, j, hd => by
    obtain ⟨v1, v2, v3⟩ := drop_cons hd
    refine ev_step (fun _ => order_Encode.l0.eq_2 ..) ?_
    simp only [show ((j : Int) < (V.length : Int)) by omega, show (0 ≤ (j : Int)) by omega, if_true, rd38_at v1, wrap_succ (j := j) (by omega)]
    refine ev_bind (valid_ev v.f0 v.f1 v.f2 v.f3) ?_
    simp only [valL]
    cases h : vErr v.f0 v.f1 v.f2 v.f3 with
    | some e => simp only [Option.isNone_some, Bool.false_eq_true, if_false, Option.getD_some]; exact ev_some _
    | none =>
      simp only [Option.isNone_none, if_true]
      exact order_loop0 L V hb R hR h1 vs (j + 1) v3
theorem order_ev (V : List S72) (hV : ∀ v ∈ V, OKv v) (hb : V.length < 9223372036854775807) (hk : bulk V ≤ 1099511627776) : Ev (fun k => order_Encode.f k V) (ordR V) := by
  have h1 := order_loop1 V hV hb V 0 [] rfl (by simpa using hk)
  exact order_loop0 V V hb _ (fun _ => by split <;> rfl) h1 V 0 rfl
theorem ev_uniq {α : Type} {g : Nat → Option α} {a b : α} (h1 : Ev g a) (h2 : Ev g b) : a = b := by
  obtain ⟨K, hK⟩ := h1
  obtain ⟨L, hL⟩ := h2
  have a1 := hK (max K L) (by omega)
  have a2 := hL (max K L) (by omega)
  rw [a1] at a2
  exact Option.some.inj a2
theorem bt_at {s : ByteArray} {i : Nat} {c : UInt8} {cs : List UInt8} (h : s.data.toList.drop i = c :: cs) : bt s (i : Int) = (c.toNat : Int) := by
  rw [← rd_bytesOf]
  apply rdn_at
  unfold bytesOf
  rw [List.getElem?_map, (drop_cons h).1]; rfl
theorem ref_valid_loop (a b : Int) (s : ByteArray) (t : Bool) (hs : s.size < 9223372036854775807) : ∀ (cs : List UInt8) (i : Nat), s.data.toList.drop i = cs → Ev (fun k => barbicanref05_Valid.l0 k (i : Int) a b s t) (if cs.all plainC = true then 0 else 3)
  | [], i, h => by
    have := drop_nil h
    rw [size_data] at this
    refine ev_step (fun _ => barbicanref05_Valid.l0.eq_2 ..) ?_
    simp only [show ¬ ((i : Int) < (s.size : Int)) by omega, if_false]
    exact ev_some _
  | c :: cs, i, h => by
    obtain ⟨h1, h2, h3⟩ := drop_cons h
    rw [size_data] at h2
    refine ev_step (fun _ => barbicanref05_Valid.l0.eq_2 ..) ?_
    simp only [show ((i : Int) < (s.size : Int)) by omega, show (0 ≤ (i : Int)) by omega, if_true, bt_at h, wrap_succ (j := i) (by omega)]
    have hp : plainC c = true ↔ ¬ ((c.toNat : Int) < 32) ∧ ¬ ((c.toNat : Int) > 126) := by
      unfold plainC; simp only [Bool.and_eq_true, decide_eq_true_eq]; omega
    by_cases c1 : (c.toNat : Int) < 32
    · have : ¬ ((c :: cs).all plainC = true) := fun hh => by rw [List.all_cons, Bool.and_eq_true] at hh; exact (hp.1 hh.1).1 c1
      rw [if_neg this]
      exact ev_if_pos c1 (ev_some _)
    · refine ev_if_neg c1 ?_
      by_cases c2 : (c.toNat : Int) > 126
      · have : ¬ ((c :: cs).all plainC = true) := fun hh => by rw [List.all_cons, Bool.and_eq_true] at hh; exact (hp.1 hh.1).2 c2
        rw [if_neg this]
        exact ev_if_pos c2 (ev_some _)
      · refine ev_if_neg c2 ?_
        have hpc : plainC c = true := hp.2 ⟨c1, c2⟩
        rw [List.all_cons, hpc, Bool.true_and]
        exact ref_valid_loop a b s t hs cs (i + 1) h3
theorem ref_valid_ev (a b : Int) (s : ByteArray) (t : Bool) (hs : s.size < 9223372036854775807) : Ev (fun k => barbicanref05_Valid.f k a b s t) ((vErr a b s t).getD 0) := by
  have hj : ∀ f : Bool, Ev (fun k => barbicanref05_Valid.j0 k f a b s t) (if f = true then 3 else if (s.size : Int) > 4096 then 2 else if plainT s = false then 3 else 0) := by
    intro f
    refine ev_step (fun _ => barbicanref05_Valid.j0.eq_2 ..) ?_
    by_cases hf : f = true
    · simp only [hf, if_true]; exact ev_some _
    · simp only [hf, Bool.false_eq_true, if_false]
      by_cases h1 : (s.size : Int) > 4096
      · rw [if_pos h1]; exact ev_if_pos h1 (ev_some _)
      · rw [if_neg h1]
        refine ev_if_neg h1 ?_
        have := ref_valid_loop a b s t hs s.data.toList 0 rfl
        have e : (if plainT s = false then (3 : Int) else 0) = (if s.data.toList.all plainC = true then 0 else 3) := by
          unfold plainT
          by_cases h2 : s.data.toList.all plainC = true
          · rw [if_pos h2, if_neg (by rw [h2]; decide)]
          · rw [if_neg h2, if_pos (by simpa using h2)]
        rw [e]
        exact this
  have goal : ∀ f : Bool, (f = true ↔ ¬ (a = 0 ∨ a = 1 ∨ a = 2 ∨ a = 3) ∨ (a ≠ 1 ∧ b ≠ 0) ∨ (a ≠ 2 ∧ s.toList ≠ []) ∨ (a ≠ 3 ∧ t = true)) → Ev (fun k => barbicanref05_Valid.j0 k f a b s t) ((vErr a b s t).getD 0) := by
    intro f hf
    have h := hj f
    have e : (if f = true then (3 : Int) else if (s.size : Int) > 4096 then 2 else if plainT s = false then 3 else 0) = (vErr a b s t).getD 0 := by
      unfold vErr
      by_cases h1 : f = true
      · rw [if_pos h1, if_pos (hf.1 h1)]; rfl
      · rw [if_neg h1, if_neg (fun h => h1 (hf.2 h))]
        split
        · rfl
        · split <;> rfl
    rw [e] at h
    exact h
  unfold barbicanref05_Valid.f
  by_cases a0 : a < 0
  · exact ev_if_pos a0 (goal true (by constructor; · intro _; exact Or.inl (by omega)
                                      · intro _; rfl))
  refine ev_if_neg a0 ?_
  by_cases a3 : a > 3
  · exact ev_if_pos a3 (goal true (by constructor; · intro _; exact Or.inl (by omega)
                                      · intro _; rfl))
  refine ev_if_neg a3 ?_
  have hr : (a = 0 ∨ a = 1 ∨ a = 2 ∨ a = 3) := by omega
  have tail : (a ≠ 1 → b = 0) → Ev (fun k => if a = 2 then (if a = 3 then barbicanref05_Valid.j0 k false a b s t else barbicanref05_Valid.j0 k t a b s t) else (if s.toList = ([] : List UInt8) then (if a = 3 then barbicanref05_Valid.j0 k false a b s t else barbicanref05_Valid.j0 k t a b s t) else barbicanref05_Valid.j0 k true a b s t)) ((vErr a b s t).getD 0) := by
    intro hb
    have last : (a ≠ 2 → s.toList = []) → Ev (fun k => if a = 3 then barbicanref05_Valid.j0 k false a b s t else barbicanref05_Valid.j0 k t a b s t) ((vErr a b s t).getD 0) := by
      intro hs2
      by_cases h3 : a = 3
      · refine ev_if_pos h3 (goal false ?_)
        constructor
        · intro h; cases h
        · rintro (h | ⟨h1, h2⟩ | ⟨h1, h2⟩ | ⟨h1, h2⟩)
          · exact absurd hr h
          · exact absurd (hb h1) h2
          · exact absurd (hs2 h1) h2
          · exact absurd h3 h1
      · refine ev_if_neg h3 (goal t ?_)
        constructor
        · intro h; exact Or.inr (Or.inr (Or.inr ⟨h3, h⟩))
        · rintro (h | ⟨h1, h2⟩ | ⟨h1, h2⟩ | ⟨h1, h2⟩)
          · exact absurd hr h
          · exact absurd (hb h1) h2
          · exact absurd (hs2 h1) h2
          · exact h2
    by_cases h2 : a = 2
    · exact ev_if_pos h2 (last (fun h => absurd h2 h))
    · refine ev_if_neg h2 ?_
      by_cases hn : s.toList = []
      · exact ev_if_pos hn (last (fun _ => hn))
      · refine ev_if_neg hn (goal true ?_)
        exact ⟨fun _ => Or.inr (Or.inr (Or.inl ⟨h2, hn⟩)), fun _ => rfl⟩
  by_cases h1 : a = 1
  · exact ev_if_pos h1 (tail (fun h => absurd h1 h))
  · refine ev_if_neg h1 ?_
    by_cases hb : b = 0
    · exact ev_if_pos hb (tail (fun _ => hb))
    · refine ev_if_neg hb (goal true ?_)
      exact ⟨fun _ => Or.inr (Or.inl ⟨h1, hb⟩), fun _ => rfl⟩
theorem vErr_code (a b : Int) (s : ByteArray) (t : Bool) : (vErr a b s t).getD 0 = 0 ↔ vErr a b s t = none := by
  unfold vErr; split
  · simp
  · split
    · simp
    · split <;> simp
theorem vErr_none {a b : Int} {s : ByteArray} {t : Bool} (h : vErr a b s t = none) : (a = 0 ∨ a = 1 ∨ a = 2 ∨ a = 3) ∧ (a ≠ 1 → b = 0) ∧ (a ≠ 2 → s.toList = []) ∧ (a ≠ 3 → t = false) ∧ s.size ≤ 4096 ∧ plainT s = true := by
  unfold vErr at h
  split at h
  · cases h
  · rename_i h1
    split at h
    · cases h
    · rename_i h2
      split at h
      · cases h
      · rename_i h3
        refine ⟨Classical.byContradiction fun hn => h1 (Or.inl hn), fun hn => Classical.byContradiction fun hb => h1 (Or.inr (Or.inl ⟨hn, hb⟩)), fun hn => Classical.byContradiction fun hb => h1 (Or.inr (Or.inr (Or.inl ⟨hn, hb⟩))), fun hn => ?_, by omega, by simpa using h3⟩
        rw [← Bool.not_eq_true]
        exact fun hb => h1 (Or.inr (Or.inr (Or.inr ⟨hn, hb⟩)))
theorem xor128 : ∀ i : Fin 256, Go.bits .xor .u8 (i.val : Int) 128 = ((i.val : Int) + 128) % 256 := by decide +kernel
theorem xor128' {m : Int} (h0 : 0 ≤ m) (h1 : m < 256) : Go.bits .xor .u8 m 128 = (m + 128) % 256 := by
  have := xor128 ⟨m.toNat, by omega⟩
  simpa [Int.toNat_of_nonneg h0] using this
theorem shr_lit (x : Int) (n : Nat) (h : n ≤ 64) : shr .u64 x ((n : Nat) : Int) = x / 2 ^ n := by
  unfold shr
  rw [Int.toNat_natCast, Nat.min_eq_left (by simp [IntKind.bits]; omega)]
theorem l2_step (k : Nat) (V : List S72) (x : List Int) (j : Int) (i : Nat) (a b : Int) (s : ByteArray) (t : Bool) (hi : i ≤ 7) (hx : x.length < 140737488355328) :
    barbicanref06_Encode.l2 (k + 1) V x j (i : Int) a b s t = barbicanref06_Encode.l2 k V (x ++ [if i = 7 then Go.bits .xor .u8 ((IntKind.u64.wrap b / 2 ^ (8 * i)) % 256) 128 else (IntKind.u64.wrap b / 2 ^ (8 * i)) % 256]) j ((i : Int) - 1) a b s t := by
  rw [barbicanref06_Encode.l2.eq_2]
  have h1 : wrap64 (8 * (i : Int)) = ((8 * i : Nat) : Int) := by unfold wrap64; omega
  have h2 : IntKind.u64.wrap ((8 * i : Nat) : Int) = ((8 * i : Nat) : Int) := u64_wrap_id (by omega) (by omega)
  have h3 : wrap64 ((i : Int) - 1) = (i : Int) - 1 := by unfold wrap64; omega
  rw [h1, h2, h3, shr_lit _ _ (by omega), if_pos (by omega), if_pos (by omega)]
  by_cases h7 : i = 7
  · rw [if_pos (by omega), if_pos hx, if_pos h7]
  · rw [if_neg (by omega), if_pos hx, if_neg h7]
theorem l2_end (k : Nat) (V : List S72) (x : List Int) (j : Int) (a b : Int) (s : ByteArray) (t : Bool) : barbicanref06_Encode.l2 (k + 1) V x j (-1) a b s t = barbicanref06_Encode.l1 k V x (wrap64 (j + 1)) := by
  rw [barbicanref06_Encode.l2.eq_2, if_neg (by decide)]
theorem be8_words {b : Int} (h0 : -9223372036854775808 ≤ b) (h1 : b ≤ 9223372036854775807) :
    be 8 (b + 9223372036854775808) = [Go.bits .xor .u8 ((IntKind.u64.wrap b / 2 ^ 56) % 256) 128, (IntKind.u64.wrap b / 2 ^ 48) % 256, (IntKind.u64.wrap b / 2 ^ 40) % 256, (IntKind.u64.wrap b / 2 ^ 32) % 256, (IntKind.u64.wrap b / 2 ^ 24) % 256, (IntKind.u64.wrap b / 2 ^ 16) % 256, (IntKind.u64.wrap b / 2 ^ 8) % 256, (IntKind.u64.wrap b / 2 ^ 0) % 256] := by
  rw [be8_eq, u64_wrap, xor128' (by omega) (by omega)]
  have p56 : (2 : Int) ^ 56 = 72057594037927936 := by decide
  have p48 : (2 : Int) ^ 48 = 281474976710656 := by decide
  have p40 : (2 : Int) ^ 40 = 1099511627776 := by decide
  have p32 : (2 : Int) ^ 32 = 4294967296 := by decide
  have p24 : (2 : Int) ^ 24 = 16777216 := by decide
  have p16 : (2 : Int) ^ 16 = 65536 := by decide
  have p8 : (2 : Int) ^ 8 = 256 := by decide
  have p0 : (2 : Int) ^ 0 = 1 := by decide
  rw [p56, p48, p40, p32, p24, p16, p8, p0]
  simp only [List.cons.injEq, and_true]
  refine ⟨?_, ?_, ?_, ?_, ?_, ?_, ?_, ?_⟩ <;> omega
theorem l2_all (V : List S72) (x : List Int) (j : Int) (a b : Int) (s : ByteArray) (t : Bool) (h0 : -9223372036854775808 ≤ b) (h1 : b ≤ 9223372036854775807) (hx : x.length ≤ 1099511627776) (r : ByteArray × Int)
    (h : Ev (fun k => barbicanref06_Encode.l1 k V (x ++ be 8 (b + 9223372036854775808)) (wrap64 (j + 1))) r) : Ev (fun k => barbicanref06_Encode.l2 k V x j 7 a b s t) r := by
  rw [be8_words h0 h1] at h
  have st : ∀ (i : Nat) (y : List Int) (r : ByteArray × Int), i ≤ 7 → y.length < 140737488355328 → Ev (fun k => barbicanref06_Encode.l2 k V (y ++ [if i = 7 then Go.bits .xor .u8 ((IntKind.u64.wrap b / 2 ^ (8 * i)) % 256) 128 else (IntKind.u64.wrap b / 2 ^ (8 * i)) % 256]) j ((i : Int) - 1) a b s t) r → Ev (fun k => barbicanref06_Encode.l2 k V y j (i : Int) a b s t) r :=
    fun i y r hi hy hr => ev_step (fun k => l2_step k V y j i a b s t hi hy) hr
  have lz : ∀ (y : List Int) (z : Int), (y ++ [z]).length = y.length + 1 := fun y z => by simp
  refine st 7 _ _ (by omega) (by omega) ?_
  refine st 6 _ _ (by omega) (by rw [lz]; omega) ?_
  refine st 5 _ _ (by omega) (by rw [lz, lz]; omega) ?_
  refine st 4 _ _ (by omega) (by rw [lz, lz, lz]; omega) ?_
  refine st 3 _ _ (by omega) (by rw [lz, lz, lz, lz]; omega) ?_
  refine st 2 _ _ (by omega) (by rw [lz, lz, lz, lz, lz]; omega) ?_
  refine st 1 _ _ (by omega) (by rw [lz, lz, lz, lz, lz, lz]; omega) ?_
  refine st 0 _ _ (by omega) (by rw [lz, lz, lz, lz, lz, lz, lz]; omega) ?_
  refine ev_step (fun k => l2_end k V _ j a b s t) ?_
  simp only [List.append_assoc, List.cons_append, List.nil_append]
  exact h
theorem ref_order_loop1 (V : List S72) (hV : ∀ v ∈ V, OKv v) (hk3 : ∀ v ∈ V, v.f0 = 0 ∨ v.f0 = 1 ∨ v.f0 = 2 ∨ v.f0 = 3) (hb : V.length < 9223372036854775807) : ∀ (vs : List S72) (j : Nat) (x : List Int), V.drop j = vs → x.length + bulk vs ≤ 1099511627776 → Ev (fun k => barbicanref06_Encode.l1 k V x (j : Int)) (strOfNums (x ++ kencL vs), 0)
  | [], j, x, hd, hx => by
    have := drop_nil hd
    refine ev_step (fun _ => barbicanref06_Encode.l1.eq_2 ..) (ev_if_neg (by omega) ?_)
    rw [kencL, List.append_nil]
    exact ev_some _
  | v :: vs, j, x, hd, hx => by
    obtain ⟨v1, v2, v3⟩ := drop_cons hd
    have hv := hV v (List.mem_of_getElem? v1)
    have hk := hk3 v (List.mem_of_getElem? v1)
    have hl := kenc_length v
    simp only [bulk] at hx
    refine ev_step (fun _ => barbicanref06_Encode.l1.eq_2 ..) (ev_if_pos (by omega) (ev_if_pos (by omega) (ev_if_pos (by omega) ?_)))
    have hw : wrap64 (v.f0 + 1) % 256 = (v.f0 + 1) % 256 := by unfold wrap64; omega
    rw [rd38_at v1, hw]
    refine ev_bind_some ?_
    have go : ∀ (e : List Int), kenc v = e → Ev (fun k => barbicanref06_Encode.l1 k V (x ++ e) (wrap64 ((j : Int) + 1))) (strOfNums (x ++ kencL (v :: vs)), 0) := by
      intro e he
      subst he
      rw [wrap_succ (j := j) (by omega)]
      have := ref_order_loop1 V hV hk3 hb vs (j + 1) (x ++ kenc v) v3 (by rw [List.length_append]; omega)
      rw [List.append_assoc] at this
      exact this
    by_cases h1 : v.f0 = 1
    · refine ev_if_pos h1 (l2_all V _ _ _ _ _ _ hv.1.1 hv.1.2 (by simp only [List.length_append, List.length_cons, List.length_nil]; omega) _ ?_)
      rw [List.append_assoc]
      exact go _ (by unfold kenc; rw [if_pos h1]; rfl)
    refine ev_if_neg h1 ?_
    by_cases h2 : v.f0 = 2
    · have hs := hv.2
      refine ev_if_pos h2 (ev_if_pos (by simp only [List.length_append, List.length_cons, List.length_nil]; omega) (ev_bind_some (ev_if_pos (by simp only [List.length_append, List.length_cons, List.length_nil, bytesOf_length]; omega) ?_)))
      rw [List.append_assoc, List.append_assoc]
      exact go _ (by unfold kenc; rw [if_neg h1, if_pos h2]; rfl)
    refine ev_if_neg h2 ?_
    by_cases h3 : v.f0 = 3
    · refine ev_if_pos h3 ?_
      by_cases h4 : v.f3 = true
      · refine ev_if_pos h4 (ev_if_pos (by simp only [List.length_append, List.length_cons, List.length_nil]; omega) ?_)
        rw [List.append_assoc]
        exact go _ (by unfold kenc; rw [if_neg h1, if_neg h2, if_pos h3, if_pos h4]; rfl)
      · refine ev_if_neg h4 (ev_if_pos (by simp only [List.length_append, List.length_cons, List.length_nil]; omega) ?_)
        rw [List.append_assoc]
        exact go _ (by unfold kenc; rw [if_neg h1, if_neg h2, if_pos h3, if_neg h4]; rfl)
    · exact ev_if_neg h3 (go _ (by unfold kenc; rw [if_neg h1, if_neg h2, if_neg h3]))
theorem valL_none : ∀ (vs : List S72), valL vs = none → ∀ v ∈ vs, vErr v.f0 v.f1 v.f2 v.f3 = none
  | [], _, v, hv => by cases hv
  | w :: vs, h, v, hv => by
    simp only [valL] at h
    cases e : vErr w.f0 w.f1 w.f2 w.f3 with
    | some _ => rw [e] at h; cases h
    | none =>
      rw [e] at h
      rcases List.mem_cons.1 hv with rfl | hv
      · exact e
      · exact valL_none vs h v hv
theorem some_ne {e : Int} {a b : Int} {s : ByteArray} {t : Bool} (h : vErr a b s t = some e) : e ≠ 0 := fun hh => by
  have := (vErr_code a b s t).1 (by rw [h]; exact hh)
  rw [h] at this; cases this
theorem ref_order_loop0 (V : List S72) (hV : ∀ v ∈ V, OKv v) (hb : V.length < 9223372036854775807) (R : ByteArray × Int) (h1 : ¬ (V.length : Int) > 16 → valL V = none → Ev (fun k => barbicanref06_Encode.l1 k V ([] : List Int) 0) R) :
    ∀ (vs : List S72) (j : Nat), V.drop j = vs → (valL vs = none → valL V = none) → Ev (fun k => barbicanref06_Encode.l0 k V (j : Int)) (match valL vs with | some e => (⟨#[]⟩, e) | none => if (V.length : Int) > 16 then (⟨#[]⟩, 2) else R)
  | [], j, hd, hn => by
    have := drop_nil hd
    refine ev_step (fun _ => barbicanref06_Encode.l0.eq_2 ..) (ev_if_neg (by omega) ?_)
    simp only [valL]
    by_cases h : (V.length : Int) > 16
    · rw [if_pos h]; exact ev_if_pos h (ev_some _)
    · rw [if_neg h]; exact ev_if_neg h (h1 h (hn rfl))
  | v :: vs, j, hd, hn => by
    obtain ⟨v1, v2, v3⟩ := drop_cons hd
    have hv := hV v (List.mem_of_getElem? v1)
    refine ev_step (fun _ => barbicanref06_Encode.l0.eq_2 ..) (ev_if_pos (by omega) (ev_if_pos (by omega) ?_))
    rw [rd38_at v1]
    refine ev_bind (ref_valid_ev v.f0 v.f1 v.f2 v.f3 (by have := hv.2; omega)) ?_
    simp only [valL] at hn ⊢
    cases h : vErr v.f0 v.f1 v.f2 v.f3 with
    | some e => exact ev_if_neg (show ¬ (some e : Option Int).getD 0 = 0 from some_ne h) (ev_some _)
    | none =>
      rw [h] at hn
      refine ev_if_pos rfl ?_
      rw [wrap_succ (j := j) (by omega)]
      exact ref_order_loop0 V hV hb R h1 vs (j + 1) v3 hn
theorem ref_order_ev (V : List S72) (hV : ∀ v ∈ V, OKv v) (hb : V.length < 9223372036854775807) (hk : bulk V ≤ 1099511627776) : Ev (fun k => barbicanref06_Encode.f k V) ((ordR V).1, (ordR V).2.getD 0) := by
  have h1 : ¬ (V.length : Int) > 16 → valL V = none → Ev (fun k => barbicanref06_Encode.l1 k V ([] : List Int) 0) (strOfNums (kencL V), 0) := fun _ hn =>
    ref_order_loop1 V hV (fun v hv => (vErr_none (valL_none V hn v hv)).1) hb V 0 [] rfl (by simpa using hk)
  have := ref_order_loop0 V hV hb _ h1 V 0 rfl (fun h => h)
  unfold ordR
  cases h : valL V with
  | some e => rw [h] at this; exact this
  | none =>
    rw [h] at this
    by_cases h16 : (V.length : Int) > 16
    · simp only [h16, if_true] at this ⊢; exact this
    · simp only [h16, if_false] at this ⊢; exact this
theorem ref_uints : ∀ (n : Nat), n < 18446744073709551616 → Ev (fun k => barbicanref03_Uints.f k (n : Int)) (uvar n) := by
  intro n
  induction n using Nat.strongRecOn with
  | ind n ih =>
    intro hn
    refine ev_step (fun _ => barbicanref03_Uints.f.eq_2 ..) ?_
    by_cases h : n < 128
    · rw [uvar_small h]
      refine ev_if_pos (by omega) ?_
      rw [show (n : Int) % 256 = (n : Int) by omega]
      exact ev_some _
    · have h10 := uvar_len64 (n := n / 128) (by omega)
      refine ev_if_neg (by omega) ?_
      have e1 : Int.tmod (n : Int) 128 = ((n % 128 : Nat) : Int) := by rw [Int.tmod_eq_emod_of_nonneg (by omega)]; rfl
      have e2 : Int.tdiv (n : Int) 128 = ((n / 128 : Nat) : Int) := by rw [Int.tdiv_eq_ediv_of_nonneg (by omega)]; rfl
      simp only [Option.bind_some, e1, e2, u64_wrap_id (x := ((n / 128 : Nat) : Int)) (by omega) (by omega)]
      refine ev_bind (ih (n / 128) (by omega) (by omega)) ?_
      simp only [List.length_cons, List.length_nil, show 0 + 1 + (uvar (n / 128)).length < 140737488355328 by omega, if_true]
      rw [uvar_big h, show (((n % 128 : Nat) : Int) + 128) % 256 = ((n % 128 + 128 : Nat) : Int) by omega]
      exact ev_some _
theorem ref_texts (s : ByteArray) (hs : s.size ≤ 1099511627776) : Ev (fun k => barbicanref03_Texts.f k s) (uvar s.size ++ bytesOf s) := by
  unfold barbicanref03_Texts.f
  rw [u64_wrap_id (by omega) (by omega)]
  have h10 := uvar_len64 (n := s.size) (by omega)
  refine ev_bind (ref_uints s.size (by omega)) ?_
  exact ev_if_pos (by omega) (ev_some _)
end Go.Proofs.YtddkbhglbkfelaaDoor.E
