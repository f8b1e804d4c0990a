/- What the walks of row.Keys, order.Encode, row.Key compute, told plainly. -/
import Derived.Test.YtljadejgdbemoaaGreatDoorPqXCAC
set_option linter.unusedVariables false
set_option linter.unusedSimpArgs false
namespace Go.Proofs.YtljadejgdbemoaaGreatDoor.C
open Go.RowKit Go.Proofs.YtljadejgdbemoaaGreatDoorW.PrintWords Go.Proofs.YtljadejgdbemoaaGreatDoorW.PrintLast Go.Proofs.YtljadejgdbemoaaGreatDoorX

/-! ### the places of the key -/
def keyPos : List S86 → Nat → List Int
  | [], _ => []
  | c :: cs, j => if c.f2 = true then (j : Int) :: keyPos cs (j + 1) else keyPos cs (j + 1)
def keyVals : List S86 → List S23 → List S23
  | c :: cs, v :: vs => if c.f2 = true then v :: keyVals cs vs else keyVals cs vs
  | _, _ => []
theorem keyPos_length : ∀ (cs : List S86) (j : Nat), (keyPos cs j).length ≤ cs.length
  | [], _ => Nat.le_refl _
  | c :: cs, j => by
    have := keyPos_length cs (j + 1)
    unfold keyPos; split <;> simp only [List.length_cons] <;> omega
theorem keys_loop (C : List S86) (hb : C.length < 1099511627776) : ∀ (cs : List S86) (j : Nat) (x : List Int), C.drop j = cs → x.length + cs.length < 1099511627776 → Ev (fun k => row_Keys.l0 k x C (C.length : Int) (j : Int)) (x ++ keyPos cs j)
  | [], j, x, hc, hx => by
    have := drop_nil hc
    refine ev_step (fun _ => row_Keys.l0.eq_2 ..) ?_
    simp only [show ¬ ((j : Int) < (C.length : Int)) by omega, if_false, keyPos, List.append_nil]
    exact ev_some _
  | c :: cs, j, x, hc, hx => by
    obtain ⟨c1, c2, c3⟩ := drop_cons hc
    simp only [List.length_cons] at hx
    refine ev_step (fun _ => row_Keys.l0.eq_2 ..) ?_
    simp only [show ((j : Int) < (C.length : Int)) by omega, show (0 ≤ (j : Int)) by omega, if_true, rd36_at c1, wrap_succ (j := j) (by omega), show x.length < 17592186044416 by omega]
    by_cases h : c.f2 = true
    · simp only [h, if_true, keyPos]
      have := keys_loop C hb cs (j + 1) (x ++ [(j : Int)]) c3 (by simp only [List.length_append, List.length_cons, List.length_nil]; omega)
      rw [List.append_assoc] at this
      exact this
    · simp only [h, keyPos]
      exact keys_loop C hb cs (j + 1) x c3 (by omega)
theorem keys_ev (n : ByteArray) (C : List S86) (hb : C.length < 1099511627776) : Ev (fun k => row_Keys.f k n C) (keyPos C 0) := by
  have := keys_loop C hb C 0 [] rfl (by simpa using hb)
  exact this
theorem keyPos_vals (V : List S23) : ∀ (cs : List S86) (vs : List S23) (j : Nat), V.drop j = vs → vs.length = cs.length → (∀ p ∈ keyPos cs j, 0 ≤ p ∧ p < (V.length : Int)) ∧ (keyPos cs j).map (rd_T23 V) = keyVals cs vs
  | [], vs, j, hv, hl => by
    refine ⟨fun p hp => (by cases hp), ?_⟩
    cases vs <;> rfl
  | c :: cs, [], j, hv, hl => by cases hl
  | c :: cs, v :: vs, j, hv, hl => by
    obtain ⟨v1, v2, v3⟩ := drop_cons hv
    have ih := keyPos_vals V cs vs (j + 1) v3 (by simpa using hl)
    unfold keyPos keyVals
    by_cases h : c.f2 = true
    · rw [if_pos h, if_pos h]
      refine ⟨fun p hp => ?_, ?_⟩
      · rcases List.mem_cons.1 hp with rfl | hp
        · omega
        · exact ih.1 p hp
      · rw [List.map_cons, ih.2, rd38_at v1]
    · rw [if_neg h, if_neg h]; exact ih

/-! ### order.Encode -/
def be : Nat → Int → List Int
  | 0, _ => []
  | n + 1, x => be n (x / 256) ++ [x % 256]
theorem be_length : ∀ (n : Nat) (x : Int), (be n x).length = n
  | 0, _ => rfl
  | n + 1, x => by rw [be, List.length_append, be_length n]; rfl
theorem word_step (k : Nat) (x0 : List Int) (x1 : Int) (s : Nat) (hs : s ≤ 63) (hx : x0.length < 140737488355328) : order_word.l0 (k + 1) x0 x1 (s : Int) = order_word.l0 k (x0 ++ [x1 / 2 ^ s % 256]) x1 ((s : Int) - 8) := by
  rw [order_word.l0.eq_2]
  have hw : IntKind.u64.wrap (s : Int) = (s : Int) := u64_wrap_id (by omega) (by omega)
  have hm : min s 64 = s := by omega
  simp only [show ((s : Int) ≥ 0) by omega, hw, show (0 ≤ (s : Int)) by omega, hx, if_true, shr, Int.toNat_natCast, IntKind.bits, hm]
  rw [show wrap64 ((s : Int) - 8) = (s : Int) - 8 by unfold wrap64; omega]
theorem be8_eq (x : Int) : be 8 x = [x / 2 ^ 56 % 256, x / 2 ^ 48 % 256, x / 2 ^ 40 % 256, x / 2 ^ 32 % 256, x / 2 ^ 24 % 256, x / 2 ^ 16 % 256, x / 2 ^ 8 % 256, x / 2 ^ 0 % 256] := by
  simp only [be, List.nil_append, List.cons_append]
  have h : ∀ a b : Int, 0 ≤ a → x / a / b = x / (a * b) := fun a b h => Int.ediv_ediv_of_nonneg h
  simp [Int.ediv_ediv_of_nonneg]
theorem word_ev (x0 : List Int) (x1 : Int) (hx : x0.length ≤ 1099511627776) : Ev (fun k => order_word.f k x0 x1) (x0 ++ be 8 x1) := by
  refine ev_at 9 fun k => ?_
  unfold order_word.f
  have st := fun (k : Nat) (y : List Int) (s : Nat) (hs : s ≤ 63) (hy : y.length < 140737488355328) => word_step k y x1 s hs hy
  have e : ∀ (y : List Int) (b : Int), (y ++ [b]).length = y.length + 1 := fun y b => by simp
  have h := st (k + 8) x0 56 (by decide) (by omega)
  rw [show ((56 : Nat) : Int) = 56 from rfl, show k + 8 + 1 = k + 9 by omega] at h
  rw [h]
  rw [show (56 : Int) - 8 = ((48 : Nat) : Int) from rfl, show k + 8 = k + 7 + 1 by omega, st _ _ 48 (by decide) (by simp only [e]; omega)]
  rw [show ((48 : Nat) : Int) - 8 = ((40 : Nat) : Int) from rfl, show k + 7 = k + 6 + 1 by omega, st _ _ 40 (by decide) (by simp only [e]; omega)]
  rw [show ((40 : Nat) : Int) - 8 = ((32 : Nat) : Int) from rfl, show k + 6 = k + 5 + 1 by omega, st _ _ 32 (by decide) (by simp only [e]; omega)]
  rw [show ((32 : Nat) : Int) - 8 = ((24 : Nat) : Int) from rfl, show k + 5 = k + 4 + 1 by omega, st _ _ 24 (by decide) (by simp only [e]; omega)]
  rw [show ((24 : Nat) : Int) - 8 = ((16 : Nat) : Int) from rfl, show k + 4 = k + 3 + 1 by omega, st _ _ 16 (by decide) (by simp only [e]; omega)]
  rw [show ((16 : Nat) : Int) - 8 = ((8 : Nat) : Int) from rfl, show k + 3 = k + 2 + 1 by omega, st _ _ 8 (by decide) (by simp only [e]; omega)]
  rw [show ((8 : Nat) : Int) - 8 = ((0 : Nat) : Int) from rfl, show k + 2 = k + 1 + 1 by omega, st _ _ 0 (by decide) (by simp only [e]; omega)]
  rw [show ((0 : Nat) : Int) - 8 = -8 from rfl, order_word.l0.eq_2, if_neg (by decide), be8_eq]
  simp only [List.append_assoc, List.cons_append, List.nil_append]
def kenc (v : S23) : List Int := (v.f0 + 1) % 256 :: (if v.f0 = 1 then be 8 (v.f1 + 9223372036854775808) else if v.f0 = 2 then bytesOf v.f2 ++ [0] else if v.f0 = 3 then (if v.f3 = true then [1] else [0]) else [])
def kencL : List S23 → List Int
  | [] => []
  | v :: vs => kenc v ++ kencL vs
theorem kenc_length (v : S23) : (kenc v).length ≤ 12 + v.f2.size := by
  unfold kenc
  rw [List.length_cons]
  split
  · rw [be_length]; omega
  · split
    · simp only [List.length_append, bytesOf_length, List.length_cons, List.length_nil]; omega
    · split
      · split <;> (simp only [List.length_cons, List.length_nil]; omega)
      · simp only [List.length_nil]; omega
def valL : List S23 → Option Int
  | [] => none
  | v :: vs => match vErr v.f0 v.f1 v.f2 v.f3 with | some e => some e | none => valL vs
/-- order.Encode's answer. -/
def ordR (l : List S23) : ByteArray × Option Int := match valL l with | some e => (⟨#[]⟩, some e) | none => if (l.length : Int) > 16 then (⟨#[]⟩, some 2) else (strOfNums (kencL l), none)
theorem order_loop1 (V : List S23) (hV : ∀ v ∈ V, OKv v) (hb : V.length < 9223372036854775807) : ∀ (vs : List S23) (j : Nat) (x : List Int), V.drop j = vs → x.length + bulk vs ≤ 1099511627776 → Ev (fun k => order_Encode.l1 k x V (V.length : Int) (j : Int)) (strOfNums (x ++ kencL vs), none)
  | [], j, x, hd, hx => by
    have := drop_nil hd
    refine ev_step (fun _ => order_Encode.l1.eq_2 ..) ?_
    simp only [show ¬ ((j : Int) < (V.length : Int)) by omega, if_false, kencL, List.append_nil]
    exact ev_some _
  | v :: vs, j, x, hd, hx => by
    obtain ⟨v1, v2, v3⟩ := drop_cons hd
    have hv := hV v (List.mem_of_getElem? v1)
    have hl := kenc_length v
    simp only [bulk] at hx
    refine ev_step (fun _ => order_Encode.l1.eq_2 ..) ?_
    simp only [show ((j : Int) < (V.length : Int)) by omega, show (0 ≤ (j : Int)) by omega, if_true, rd38_at v1, wrap_succ (j := j) (by omega), show x.length < 140737488355328 by omega, Option.bind_some, List.length_append, List.length_cons, List.length_nil, bytesOf_length]
    have go : ∀ (e : List Int), kenc v = e → Ev (fun k => order_Encode.l1 k (x ++ e) V (V.length : Int) ((j + 1 : Nat) : Int)) (strOfNums (x ++ kencL (v :: vs)), none) := by
      intro e he
      subst he
      have := order_loop1 V hV hb vs (j + 1) (x ++ kenc v) v3 (by rw [List.length_append]; omega)
      rw [List.append_assoc] at this
      exact this
    by_cases h1 : v.f0 = 1
    · simp only [h1, if_true]
      rw [u64_xor_top hv.1.1 hv.1.2]
      refine ev_bind (word_ev (x ++ [(1 + 1) % 256]) (v.f1 + 9223372036854775808) (by simp only [List.length_append, List.length_cons, List.length_nil]; omega)) ?_
      rw [List.append_assoc]
      exact go _ (by unfold kenc; simp only [h1, if_true]; rfl)
    · simp only [h1, if_false]
      by_cases h2 : v.f0 = 2
      · have hs := hv.2
        simp only [h2, if_true, show x.length + (0 + 1) + v.f2.size < 140737488355328 by omega, List.append_assoc]
        exact go _ (by unfold kenc; simp only [h2, if_true, if_neg (show ¬ ((2 : Int) = 1) by decide)]; rfl)
      · simp only [h2, if_false]
        by_cases h3 : v.f0 = 3
        · simp only [h3, if_true, show x.length + (0 + 1) < 140737488355328 by omega, List.append_assoc]
          by_cases h4 : v.f3 = true
          · simp only [h4, if_true]
            exact go _ (by unfold kenc; simp only [h3, h4, if_true, if_neg (show ¬ ((3 : Int) = 1) by decide), if_neg (show ¬ ((3 : Int) = 2) by decide)]; rfl)
          · simp only [h4]
            exact go _ (by unfold kenc; simp only [h3, h4, if_true, if_neg (show ¬ ((3 : Int) = 1) by decide), if_neg (show ¬ ((3 : Int) = 2) by decide)]; rfl)
        · simp only [h3, if_false]
          exact go _ (by unfold kenc; simp only [h1, h2, h3, if_false])
theorem order_loop0 (L V : List S23) (hb : V.length < 9223372036854775807) (R : ByteArray × Option Int) (hR : L.length ≤ 9223372036854775807 → (if (L.length : Int) > 16 then (some ((⟨#[]⟩ : ByteArray), some 2)) else some R) = some (if (L.length : Int) > 16 then ((⟨#[]⟩ : ByteArray), some 2) else R)) (h1 : Ev (fun k => order_Encode.l1 k [] L (L.length : Int) 0) R) : ∀ (vs : List S23) (j : Nat), V.drop j = vs → Ev (fun k => order_Encode.l0 k L V (V.length : Int) (j : Int)) (match valL vs with | some e => (⟨#[]⟩, some e) | none => if (L.length : Int) > 16 then (⟨#[]⟩, some 2) else R)
  | [], j, hd => by
    have := drop_nil hd
    refine ev_step (fun _ => order_Encode.l0.eq_2 ..) ?_
    simp only [show ¬ ((j : Int) < (V.length : Int)) by omega, if_false, valL]
    by_cases h : (L.length : Int) > 16
    · rw [if_pos h]; exact ev_if_pos h (ev_some _)
    · rw [if_neg h]; exact ev_if_neg h h1
  | v :: vs, j, hd => by
    obtain ⟨v1, v2, v3⟩ := drop_cons hd
    refine ev_step (fun _ => order_Encode.l0.eq_2 ..) ?_
    simp only [show ((j : Int) < (V.length : Int)) by omega, show (0 ≤ (j : Int)) by omega, if_true, rd38_at v1, wrap_succ (j := j) (by omega)]
    refine ev_bind (valid_ev v.f0 v.f1 v.f2 v.f3) ?_
    simp only [valL]
    cases h : vErr v.f0 v.f1 v.f2 v.f3 with
    | some e => simp only [Option.isNone_some, Bool.false_eq_true, if_false, Option.getD_some]; exact ev_some _
    | none =>
      simp only [Option.isNone_none, if_true]
      exact order_loop0 L V hb R hR h1 vs (j + 1) v3
theorem order_ev (V : List S23) (hV : ∀ v ∈ V, OKv v) (hb : V.length < 9223372036854775807) (hk : bulk V ≤ 1099511627776) : Ev (fun k => order_Encode.f k V) (ordR V) := by
  have h1 := order_loop1 V hV hb V 0 [] rfl (by simpa using hk)
  exact order_loop0 V V hb _ (fun _ => by split <;> rfl) h1 V 0 rfl

/-! ### row.Key -/
def keyR (cs : List S86) (vs : List S23) : ByteArray × Option Int := match chk cs vs with | some e => (⟨#[]⟩, some e) | none => ordR (keyVals cs vs)
theorem key_loop (V : List S23) (P : List Int) (hP : ∀ p ∈ P, 0 ≤ p ∧ p < (V.length : Int)) (hb : P.length < 1099511627776) (R : ByteArray × Option Int) (hR : Ev (fun k => order_Encode.f k (P.map (rd_T23 V))) R) : ∀ (ps : List Int) (j : Nat) (x : List S23), P.drop j = ps → x ++ ps.map (rd_T23 V) = P.map (rd_T23 V) → Ev (fun k => row_Key.l0 k V x P (P.length : Int) (j : Int)) R
  | [], j, x, hd, hx => by
    have := drop_nil hd
    refine ev_step (fun _ => row_Key.l0.eq_2 ..) ?_
    simp only [show ¬ ((j : Int) < (P.length : Int)) by omega, if_false]
    rw [show x = P.map (rd_T23 V) by simpa using hx]
    exact ev_bind hR (ev_some _)
  | p :: ps, j, x, hd, hx => by
    obtain ⟨p1, p2, p3⟩ := drop_cons hd
    have hp := hP p (List.mem_of_getElem? p1)
    have hxl : x.length ≤ P.length := by have := congrArg List.length hx; simp only [List.length_append, List.length_map] at this; omega
    refine ev_step (fun _ => row_Key.l0.eq_2 ..) ?_
    simp only [show ((j : Int) < (P.length : Int)) by omega, show (0 ≤ (j : Int)) by omega, if_true, rdn_at p1, hp.1, hp.2, wrap_succ (j := j) (by omega), show x.length < 3518437208883 by omega]
    exact key_loop V P hP hb R hR ps (j + 1) (x ++ [rd_T23 V p]) p3 (by rw [List.append_assoc]; exact hx)
theorem keyVals_mem : ∀ (cs : List S86) (vs : List S23), ∀ v ∈ keyVals cs vs, v ∈ vs
  | [], vs, v, h => by cases vs <;> cases h
  | c :: cs, [], v, h => by cases h
  | c :: cs, w :: vs, v, h => by
    unfold keyVals at h
    split at h
    · rcases List.mem_cons.1 h with rfl | h
      · exact List.mem_cons_self
      · exact List.mem_cons_of_mem _ (keyVals_mem cs vs v h)
    · exact List.mem_cons_of_mem _ (keyVals_mem cs vs v h)
theorem keyVals_bulk : ∀ (cs : List S86) (vs : List S23), bulk (keyVals cs vs) ≤ bulk vs ∧ (keyVals cs vs).length ≤ vs.length
  | [], vs => by cases vs <;> simp [keyVals, bulk]
  | c :: cs, [] => by simp [keyVals, bulk]
  | c :: cs, w :: vs => by
    have := keyVals_bulk cs vs
    unfold keyVals
    split <;> simp only [bulk, List.length_cons] <;> omega
theorem key_ev (n : ByteArray) (C : List S86) (V : List S23) (hC : C.length < 1099511627776) (hV : ∀ v ∈ V, OKv v) (hb : V.length < 1099511627776) (hk : bulk V ≤ 1099511627776) : Ev (fun k => row_Key.f k n C V) (keyR C V) := by
  unfold row_Key.f keyR
  refine ev_bind (check_ev n C V (by omega)) ?_
  cases h : chk C V with
  | some e => simp only [Option.isNone_some, Bool.false_eq_true, if_false, Option.getD_some]; exact ev_some _
  | none =>
    simp only [Option.isNone_none, if_true]
    have hl : V.length = C.length := by
      unfold chk at h
      by_cases hl : V.length = C.length
      · exact hl
      · rw [if_neg hl] at h; cases h
    obtain ⟨hp, hm⟩ := keyPos_vals V C V 0 rfl hl
    have hkl := keyPos_length C 0
    have hkb := keyVals_bulk C V
    refine ev_bind (keys_ev n C hC) ?_
    refine key_loop V (keyPos C 0) hp (by omega) _ ?_ (keyPos C 0) 0 [] rfl rfl
    rw [hm]
    exact order_ev _ (fun v hv => hV v (keyVals_mem C V v hv)) (by omega) (by omega)
end Go.Proofs.YtljadejgdbemoaaGreatDoor.C
