/- LexBack: tokens that are printed are read as they were; blanks laid between them change nothing but places. -/
import Derived.Test.YtaffmgphcmmdhaaDoorPbSaidLexBack
import Derived.Test.YtaffmgphcmmdhaaDoorPbXLmL
import Derived.Test.YtaffmgphcmmdhaaDoorPbXLq
import Derived.Lib.ReplaceLaws
set_option linter.unusedVariables false
set_option linter.unusedSimpArgs false
namespace Go.Proofs.YtaffmgphcmmdhaaDoor.L
open Go.RowKit Go.Proofs.YtaffmgphcmmdhaaDoorW.PrintWords Go.Proofs.YtaffmgphcmmdhaaDoorW.PrintLast Go.Proofs.YtaffmgphcmmdhaaDoorX
open Go.Proofs.YtaffmgphcmmdhaaDoorX.Lx
def P (z : Tok × Nat) : ByteArray := ⟨(pr z.1).toArray⟩
theorem print_tok {z : Tok × Nat} {u : List UInt8} {n : Nat} (h : one u = .ok (z.1, n)) (hu : u.length ≤ 65536) : lex_Token_print.f (tk z).f0 (tk z).f1 (tk z).f2 (tk z).f3 = some (P z) := by
  obtain ⟨o1, o2, o3⟩ := one_ok h
  obtain ⟨⟨k, t, v⟩, a⟩ := z
  simp only at o1 o2 o3
  show lex_Token_print.f k ⟨t.toArray⟩ v (a : Int) = some ⟨(pr (k, t, v)).toArray⟩
  unfold lex_Token_print.f pr
  by_cases h2 : k = 2
  · rw [if_pos h2, if_pos h2]
    unfold strconv_Itoa.f
    rw [if_pos ⟨by omega, o3⟩]; rfl
  rw [if_neg h2, if_neg h2]
  by_cases h3 : k = 3
  · rw [if_pos h3, if_pos h3]
    unfold strings_ReplaceAll.f
    have hc : Lib.countB ⟨t.toArray⟩ ⟨#[39]⟩ ≤ (⟨t.toArray⟩ : ByteArray).size := Lib.countB_le _ (by decide) _ _ (Nat.le_refl _)
    have hs1 : (⟨#[39]⟩ : ByteArray).size = 1 := rfl
    have hs2 : (⟨#[39, 39]⟩ : ByteArray).size = 2 := rfl
    rw [mk_size] at hc
    rw [if_pos ⟨by rw [mk_size]; omega, by rw [hs1]; omega, by rw [mk_size, hs2]; omega⟩]
    have e : Lib.replaceAll t (⟨#[39]⟩ : ByteArray).data.toList (⟨#[39, 39]⟩ : ByteArray).data.toList = dbl t := repl_quote _
    rw [mk_list, e]
    have hl := dbl_len t
    have z1 : (⟨(dbl t).toArray⟩ : ByteArray).size = (dbl t).length := mk_size _
    simp only [Option.bind_some]
    rw [if_pos (by rw [z1]; omega)]
    have e1 : (⟨#[39]⟩ : ByteArray) ++ (⟨(dbl t).toArray⟩ : ByteArray) = ⟨(39 :: dbl t).toArray⟩ := app_mk [39] _
    rw [e1, mk_size, if_pos (by simp only [List.length_cons]; omega)]
    have e2 : (⟨(39 :: dbl t).toArray⟩ : ByteArray) ++ (⟨#[39]⟩ : ByteArray) = ⟨((39 :: dbl t) ++ [39]).toArray⟩ := app_mk _ [39]
    rw [e2]; rfl
  · rw [if_neg h3, if_neg h3]
def Read (zs : List (Tok × Nat)) : Prop := ∀ z ∈ zs, ∃ u n, one u = .ok (z.1, n) ∧ u.length ≤ 65536
theorem Print_go (zs : List (Tok × Nat)) (hz : zs.length ≤ 65536) (hr : Read zs) (F : List ByteArray) (hF : F.length ≤ 65536) (hJ : (Lib.join (F.map (·.data.toList)) [32]).length ≤ 140737488355328) :
    ∀ (l : List (Tok × Nat)) (i : Nat) (acc : List ByteArray), zs.drop i = l → acc ++ l.map P = F →
    Ev (fun k => lex_Print.l0 k acc (zs.map tk) ((zs.length : Nat) : Int) (i : Int)) (⟨(Lib.join (F.map (·.data.toList)) [32]).toArray⟩, none)
  | [], i, acc, h, ha => by
    have h1 := drop_nil h
    rw [List.map_nil, List.append_nil] at ha
    subst ha
    refine ev_step (fun _ => lex_Print.l0.eq_2 ..) (ev_if_neg (by omega) ?_)
    unfold strings_Join.f
    have hc : acc.length ≤ 140737488355328 ∧ (Lib.join (acc.map (·.data.toList)) (⟨#[32]⟩ : ByteArray).data.toList).length ≤ 140737488355328 := ⟨by omega, hJ⟩
    rw [if_pos hc]
    exact ev_bind_some (ev_some _)
  | z :: l, i, acc, h, ha => by
    obtain ⟨h1, h2, h3⟩ := drop_cons h
    obtain ⟨u, n, ho, hu⟩ := hr z (List.mem_of_getElem? h1)
    have hp := one_pr ho
    have hpl := one_len hp
    have hacc : acc.length ≤ 65536 := by have := congrArg List.length ha; rw [List.length_append] at this; omega
    refine ev_step (fun _ => lex_Print.l0.eq_2 ..) (ev_if_pos (by omega) (ev_if_pos (by omega) (ev_if_pos (by rw [List.length_map]; omega) ?_)))
    rw [rdT_at (x := tk z) (by rw [List.getElem?_map, h1]; rfl), print_tok ho hu]
    refine ev_bind_some (ev_if_neg ?_ ?_)
    · unfold P
      rw [toList_data, mk_list]
      intro he
      rw [he] at hpl; simp at hpl
    have o := one_ok ho
    have hlen := pr_len o.2.1 o.2.2
    have h1e := one_ev (P z) (by unfold P; rw [mk_size]; omega) (by unfold P; rw [mk_list]; intro he; rw [he] at hpl; simp at hpl)
    have e1 : (P z).data.toList = pr z.1 := rfl
    rw [e1, hp] at h1e
    refine ev_bind h1e (ev_if_pos rfl (ev_if_pos ?_ ?_))
    · show (((pr z.1).length : Nat) : Int) = ((P z).size : Int)
      unfold P; rw [mk_size]
    unfold lex_Token_bare.f
    refine ev_bind_some (ev_if_neg (by simp [tokR, tk]) (ev_if_pos (by omega) ?_))
    rw [wsucc (by omega)]
    exact Print_go zs hz hr F hF hJ l (i + 1) (acc ++ [P z]) h3 (by rw [List.append_assoc]; exact ha)
theorem Print_ev (zs : List (Tok × Nat)) (hz : zs.length ≤ 65536) (hr : Read zs) : Ev (fun k => lex_Print.f k (zs.map tk)) (⟨(jn ((zs.map (·.1)).map pr)).toArray⟩, none) := by
  unfold lex_Print.f
  have e : ((zs.map P).map (·.data.toList)) = (zs.map (·.1)).map pr := by rw [List.map_map, List.map_map]; rfl
  have hj : (jn ((zs.map (·.1)).map pr)).length ≤ 131094 * 65536 := by
    have := jn_len 131093 ((zs.map (·.1)).map pr) (fun p hp => by
      obtain ⟨t, ht, rfl⟩ := List.mem_map.1 hp
      obtain ⟨z, hzz, rfl⟩ := List.mem_map.1 ht
      obtain ⟨u, n, ho, hu⟩ := hr z hzz
      have o := one_ok ho
      have := pr_len o.2.1 o.2.2
      omega)
    rw [List.length_map, List.length_map] at this
    exact Nat.le_trans this (Nat.mul_le_mul (Nat.le_refl _) hz)
  have := Print_go zs hz hr (zs.map P) (by rw [List.length_map]; exact hz) (by rw [e, jn_join]; omega) zs 0 [] rfl rfl
  rw [e, jn_join] at this
  rw [List.length_map]
  exact this
theorem core_map (zs : List (Tok × Nat)) : (zs.map tk).map core = zs.map (·.1) := by rw [List.map_map]; rfl
/-- The blank that a number names. -/
theorem blank_of (v : Int) : ∃ (m : Nat) (b : UInt8), m < 4 ∧ wrap64 (Int.tmod (IntKind.u64.wrap v) 4) = (m : Int) ∧ bt (⟨#[32, 9, 10, 13]⟩ : ByteArray) (m : Int) = (b.toNat : Int) ∧ isB b = true := by
  have hw : wrap64 (Int.tmod (IntKind.u64.wrap v) 4) = (((v % 18446744073709551616) % 4).toNat : Int) := by
    rw [u64_wrap, Int.tmod_eq_emod_of_nonneg (by omega)]
    unfold wrap64; omega
  have hm : ((v % 18446744073709551616) % 4).toNat < 4 := by omega
  rw [hw]
  generalize ((v % 18446744073709551616) % 4).toNat = m at hm
  refine ⟨m, [32, 9, 10, 13].getD m 32, hm, rfl, ?_, ?_⟩
  · match m, hm with
    | 0, _ => decide
    | 1, _ => decide
    | 2, _ => decide
    | 3, _ => decide
  · match m, hm with
    | 0, _ => decide
    | 1, _ => decide
    | 2, _ => decide
    | 3, _ => decide
theorem bytesOf_nums (b : ByteArray) : bytesOf b = numsB b.data.toList := by unfold bytesOf numsB; first | rfl | simp [toList_data]
theorem rdI_at {xs : List Int} {j : Nat} {c : Int} (h : xs[j]? = some c) : rd xs (j : Int) = c := by
  unfold rd; rw [Int.toNat_natCast, List.getD_eq_getElem?_getD, h]; rfl
theorem ones_sum : ∀ l : List Int, (l.map fun _ => (1 : Nat)).sum = l.length
  | [] => rfl
  | _ :: l => by rw [List.map_cons, List.sum_cons, ones_sum l, List.length_cons]; omega
/-- What all comes to. -/
theorem back_end (s : ByteArray) (ps : Pcs) (a : Nat) (zs : List (Tok × Nat)) (hp : Pc a ps zs) (hz : zs.length ≤ 65536) (bs : List UInt8) (hb : ∀ b ∈ bs, isB b = true) :
    Ev (fun k => if (((numsB (ins ps bs)).length : Nat) : Int) > 65536 then ((barbicanlaw18_sure.f k).bind fun t221 => (some t221)) else ((lex_Lex.f k (strOfNums (numsB (ins ps bs)))).bind fun bt222 => (if bt222.2.2.isNone = true then ((lex_Same.f k (zs.map tk) bt222.1).bind fun t228 => (if t228 = true then ((barbicanlaw18_sure.f k).bind fun t229 => (some t229)) else (none))) else (none)))) true := by
  by_cases h : (((numsB (ins ps bs)).length : Nat) : Int) > 65536
  · exact ev_if_pos h (ev_bind sure_ev (ev_some _))
  · refine ev_if_neg h ?_
    rw [numsB_length] at h
    rw [str_nums]
    refine ev_bind (Lex_ev _) ?_
    have e : lexR ⟨(ins ps bs).toArray⟩ = lexL (ins ps bs).length (ins ps bs) 0 := by
      unfold lexR
      rw [mk_size, mk_list, if_neg (by omega)]
    rw [e]
    obtain ⟨i1, i2⟩ := lex_ins ps a zs bs hp hb (ins ps bs).length 0 (Nat.le_refl _)
    have hn := lexL_count (ins ps bs).length (ins ps bs) 0
    unfold lexP
    rw [if_pos i1]
    refine ev_if_pos rfl ?_
    simp only [List.nil_append]
    have hs := Same_ev (zs.map tk) ((lexL (ins ps bs).length (ins ps bs) 0).1.map tk) (by rw [List.length_map]; omega) (by rw [List.length_map]; omega)
    rw [core_map, core_map, i2, decide_eq_true rfl] at hs
    exact ev_bind hs (ev_if_pos rfl (ev_bind sure_ev (ev_some _)))
theorem ins_len : ∀ (ps : Pcs) (bs : List UInt8), (ins ps bs).length ≤ (cat ps).length + ps.length
  | [], bs => by cases bs <;> exact Nat.le_refl _
  | (t, s, g) :: ps, [] => by
    have := ins_len ps []
    simp only [ins, cat, List.length_append, List.length_cons]; omega
  | (t, s, g) :: ps, b :: bs => by
    have := ins_len ps bs
    simp only [ins, cat, List.length_append, List.length_cons]; omega
theorem Pc_len : ∀ (ps : Pcs) (a : Nat) (zs : List (Tok × Nat)), Pc a ps zs → zs.length = ps.length
  | [], a, zs, h => by have h : zs = [] := h; rw [h]; rfl
  | (t, s, g) :: ps, a, zs, h => by
    obtain ⟨l', rfl, _, _, h2⟩ := h
    rw [List.length_cons, List.length_cons, Pc_len ps _ l' h2]
theorem back_go (s : ByteArray) (hsz : s.size ≤ 65536) (l1 : List Int) (hl1 : l1.length ≤ 1048576) (zs : List (Tok × Nat)) (hz : zs.length ≤ 65536) (F : List UInt8) (hF : F.length ≤ 1048576)
    (fin : Ev (fun k => if (((numsB F).length : Nat) : Int) > 65536 then ((barbicanlaw18_sure.f k).bind fun t221 => (some t221)) else ((lex_Lex.f k (strOfNums (numsB F))).bind fun bt222 => (if bt222.2.2.isNone = true then ((lex_Same.f k (zs.map tk) bt222.1).bind fun t228 => (if t228 = true then ((barbicanlaw18_sure.f k).bind fun t229 => (some t229)) else (none))) else (none)))) true)
    (B : Int → UInt8) (hB : ∀ v, bt (⟨#[32, 9, 10, 13]⟩ : ByteArray) (wrap64 (Int.tmod (IntKind.u64.wrap v) 4)) = ((B v).toNat : Int) ∧ 0 ≤ wrap64 (Int.tmod (IntKind.u64.wrap v) 4) ∧ wrap64 (Int.tmod (IntKind.u64.wrap v) 4) < 4) :
    ∀ (ps : Pcs) (a : Nat) (zs' : List (Tok × Nat)) (i : Nat) (x : List UInt8), Pc a ps zs' → s.data.toList.drop a = cat ps → zs.drop i = zs' → a ≤ s.size → x ++ ins ps ((l1.drop i).map B) = F →
    Ev (fun k => barbicanlaw18_LexBack.l0 k s l1 (zs.map tk) (numsB x) (i : Int)) true
  | [], a, zs', i, x, hp, hd, hzd, ha, hx => by
    have hp : zs' = [] := hp
    subst hp
    have h1 := drop_nil hzd
    have e : x = F := by rw [← hx]; cases (l1.drop i).map B <;> simp [ins]
    refine ev_step (fun _ => barbicanlaw18_LexBack.l0.eq_2 ..) (ev_if_neg (by rw [List.length_map]; omega) ?_)
    rw [e]
    exact fin
  | (t, sr, g) :: ps, a, zs', i, x, hp, hd, hzd, ha, hx => by
    obtain ⟨l', rfl, h1, hg, h2⟩ := hp
    obtain ⟨z1, z2, z3⟩ := drop_cons hzd
    have hr : rd_T34 (zs.map tk) (i : Int) = tk (t, a) := rdT_at (by rw [List.getElem?_map, z1]; rfl)
    have hcl := congrArg List.length hd
    rw [List.length_drop, size_data] at hcl
    simp only [cat, List.length_append] at hcl
    have hdrop : s.data.toList.drop (a + sr.length + g.length) = cat ps := by
      rw [← List.drop_drop, ← List.drop_drop, hd]
      show List.drop g.length (List.drop sr.length (sr ++ (g ++ cat ps))) = _
      rw [List.drop_left, List.drop_left]
    have hxl : x.length ≤ 1048576 := by have := congrArg List.length hx; rw [List.length_append] at this; omega
    -- the end of the piece
    have j2 : Ev (fun k => barbicanlaw18_LexBack.j2 k s l1 (zs.map tk) (numsB x) (i : Int) ((a + sr.length + g.length : Nat) : Int)) true := by
      refine ev_step (fun _ => barbicanlaw18_LexBack.j2.eq_2 ..) (ev_if_pos (by omega) (ev_if_pos (by rw [List.length_map]; omega) ?_))
      rw [hr]
      refine ev_if_neg (by show ¬ (a : Int) < 0; omega) (ev_if_neg (by show ¬ (a : Int) > _; omega) ?_)
      rw [decide_eq_false (by omega)]
      refine ev_step (fun _ => barbicanlaw18_LexBack.j3.eq_2 ..) (ev_if_neg (by decide) (ev_if_pos (by omega) (ev_if_pos (by rw [List.length_map]; omega) ?_)))
      rw [hr]
      have hf3 : (tk (t, a)).f3 = (a : Int) := rfl
      rw [hf3]
      refine ev_if_pos (by omega) (ev_if_pos (by omega) (ev_if_pos (by omega) ?_))
      rw [Int.toNat_natCast, Int.toNat_natCast]
      have hex : (s.extract a (a + sr.length + g.length)).data.toList = sr ++ g := by
        rw [ext_data, List.drop_take, hd]
        show List.take _ (sr ++ (g ++ cat ps)) = _
        rw [← List.append_assoc, List.take_left' (by rw [List.length_append]; omega)]
      have hexs : (s.extract a (a + sr.length + g.length)).size = sr.length + g.length := by rw [← size_data, hex, List.length_append]
      refine ev_if_pos (by rw [numsB_length, hexs]; omega) ?_
      have e1 : numsB x ++ bytesOf (s.extract a (a + sr.length + g.length)) = numsB (x ++ (sr ++ g)) := by rw [bytesOf_nums, hex]; exact (numsB_app x (sr ++ g)).symm
      rw [e1]
      refine ev_bind_some ?_
      rw [wsucc (by omega)]
      by_cases hi : i < l1.length
      · have hv := List.getElem?_eq_getElem hi
        obtain ⟨b1, b2, b3⟩ := hB l1[i]
        refine ev_if_pos (by omega) ?_
        rw [rdI_at hv]
        refine ev_if_pos b2 (ev_if_pos b3 (ev_if_pos (by rw [numsB_length, List.length_append, List.length_append]; omega) ?_))
        rw [b1]
        have e2 : numsB (x ++ (sr ++ g)) ++ [((B l1[i]).toNat : Int)] = numsB (x ++ (sr ++ g) ++ [B l1[i]]) := by rw [numsB_app _ [B l1[i]]]; rfl
        rw [e2]
        refine back_go s hsz l1 hl1 zs hz F hF fin B hB ps _ l' (i + 1) _ h2 hdrop z3 (by omega) ?_
        rw [← hx, List.drop_eq_getElem_cons hi, List.map_cons]
        simp [ins]
      · refine ev_if_neg (by omega) ?_
        have hnil : l1.drop i = [] := List.drop_eq_nil_of_le (by omega)
        have hnil2 : l1.drop (i + 1) = [] := List.drop_eq_nil_of_le (by omega)
        refine back_go s hsz l1 hl1 zs hz F hF fin B hB ps _ l' (i + 1) _ h2 hdrop z3 (by omega) ?_
        rw [← hx, hnil, hnil2, List.map_nil]
        simp [ins]
    refine ev_step (fun _ => barbicanlaw18_LexBack.l0.eq_2 ..) (ev_if_pos (by rw [List.length_map]; omega) ?_)
    rw [wsucc (by omega)]
    cases l' with
    | nil =>
      have h4 := drop_nil z3
      have hps : ps = [] := by
        have := Pc_len ps _ _ h2
        cases ps with
        | nil => rfl
        | cons p ps => simp at this
      subst hps
      simp only [cat, List.length_nil] at hcl
      refine ev_if_neg (by rw [List.length_map]; omega) ?_
      rw [show ((s.size : Nat) : Int) = ((a + sr.length + g.length : Nat) : Int) by omega]
      exact j2
    | cons z' l'' =>
      obtain ⟨y1, y2, _⟩ := drop_cons z3
      refine ev_if_pos (by rw [List.length_map]; omega) (ev_if_pos (by omega) ?_)
      have hr' : rd_T34 (zs.map tk) ((i + 1 : Nat) : Int) = tk z' := rdT_at (by rw [List.getElem?_map, y1]; rfl)
      rw [hr']
      have hz' : z'.2 = a + sr.length + g.length := by
        cases ps with
        | nil => cases h2
        | cons p ps =>
          obtain ⟨t', s', g'⟩ := p
          obtain ⟨l3, e3, _⟩ := h2
          injection e3 with e3 _
          rw [e3]
      have hf : (tk z').f3 = ((a + sr.length + g.length : Nat) : Int) := by
        show ((z'.2 : Nat) : Int) = _
        rw [hz']
      rw [hf]
      exact j2
theorem barbicanlaw18_LexBack_pure : barbicanlaw18_LexBack_Pure := by
  intro a0 l1 hm _ hb
  have hb : (a0.size + 1) + ((l1.map fun _ => (1 : Nat)).sum + 1) ≤ 1048576 := hb
  rw [ones_sum l1] at hb
  refine ev_exists ?_
  unfold barbicanlaw18_LexBack.f
  refine ev_bind (Lex_ev a0) ?_
  have hn := lexR_count a0
  by_cases hz0 : (lexR a0).2.2 = 0
  · have hsz : a0.size ≤ 65536 := by
      rcases Nat.lt_or_ge 65536 a0.size with h | h
      · unfold lexR at hz0; rw [if_pos h] at hz0; cases hz0
      · exact h
    have hR : lexR a0 = lexL a0.size a0.data.toList 0 := by unfold lexR; rw [if_neg (by omega)]
    unfold lexP
    rw [if_pos hz0]
    refine ev_if_pos rfl ?_
    simp only [List.nil_append]
    have hread : Read (lexR a0).1 := by
      intro z hz
      rw [hR] at hz
      obtain ⟨u, n, h1, h2⟩ := lexL_all _ _ _ z hz
      exact ⟨u, n, h1, by rw [size_data] at h2; omega⟩
    obtain ⟨g0, ps, hg0, hcat, hPc⟩ := lexL_cut a0.size a0.data.toList 0 (lexR a0).1 (lexR a0).2.1 (by rw [size_data]; exact Nat.le_refl _) (by rw [← hR, ← hz0])
    have hclen := congrArg List.length hcat
    rw [size_data, List.length_append] at hclen
    have hplen := Pc_len ps _ _ hPc
    obtain ⟨B, hB⟩ : ∃ B : Int → UInt8, ∀ v, bt (⟨#[32, 9, 10, 13]⟩ : ByteArray) (wrap64 (Int.tmod (IntKind.u64.wrap v) 4)) = ((B v).toNat : Int) ∧ 0 ≤ wrap64 (Int.tmod (IntKind.u64.wrap v) 4) ∧ wrap64 (Int.tmod (IntKind.u64.wrap v) 4) < 4 ∧ isB (B v) = true := by
      have : ∀ v : Int, ∃ b : UInt8, bt (⟨#[32, 9, 10, 13]⟩ : ByteArray) (wrap64 (Int.tmod (IntKind.u64.wrap v) 4)) = (b.toNat : Int) ∧ 0 ≤ wrap64 (Int.tmod (IntKind.u64.wrap v) 4) ∧ wrap64 (Int.tmod (IntKind.u64.wrap v) 4) < 4 ∧ isB b = true := by
        intro v
        obtain ⟨m, b, hm4, hw, hb1, hb2⟩ := blank_of v
        exact ⟨b, by rw [hw]; exact hb1, by omega, by omega, hb2⟩
      exact ⟨fun v => (this v).choose, fun v => (this v).choose_spec⟩
    have hbl : ∀ b ∈ l1.map B, isB b = true := fun b hb' => by
      obtain ⟨v, _, rfl⟩ := List.mem_map.1 hb'
      exact (hB v).2.2.2
    have hil := ins_len ps (l1.map B)
    have rest : Ev (fun k => barbicanlaw18_LexBack.j0 k a0 l1 ((lexR a0).1.map tk)) true := by
      refine ev_step (fun _ => barbicanlaw18_LexBack.j0.eq_2 ..) ?_
      exact back_go a0 hsz l1 (by omega) (lexR a0).1 (by omega) (ins ps (l1.map B)) (by omega) (back_end a0 ps _ (lexR a0).1 hPc (by omega) (l1.map B) hbl) B (fun v => ⟨(hB v).1, (hB v).2.1, (hB v).2.2.1⟩) ps (0 + g0.length) (lexR a0).1 0 [] hPc
        (by rw [hcat, Nat.zero_add, List.drop_left]) rfl (by omega) rfl
    refine ev_bind (Print_ev (lexR a0).1 hn hread) (ev_if_pos rfl ?_)
    have hts : ∀ t ∈ (lexR a0).1.map (·.1), one (pr t) = .ok (t, (pr t).length) := fun t ht => by
      obtain ⟨z, hz, rfl⟩ := List.mem_map.1 ht
      obtain ⟨u, n, h1, _⟩ := hread z hz
      exact one_pr h1
    by_cases hp : ((⟨(jn (((lexR a0).1.map (·.1)).map pr)).toArray⟩ : ByteArray).size : Int) ≤ 65536
    · refine ev_if_pos hp (ev_bind (Lex_ev _) ?_)
      rw [mk_size] at hp
      have e : lexR ⟨(jn (((lexR a0).1.map (·.1)).map pr)).toArray⟩ = lexL (jn (((lexR a0).1.map (·.1)).map pr)).length (jn (((lexR a0).1.map (·.1)).map pr)) 0 := by
        generalize jn (((lexR a0).1.map (·.1)).map pr) = J at hp ⊢
        unfold lexR
        rw [mk_size, mk_list, if_neg (by omega)]
      rw [e]
      obtain ⟨i1, i2⟩ := lexL_jn ((lexR a0).1.map (·.1)) hts _ 0 (Nat.le_refl _)
      have hc := lexL_count (jn (((lexR a0).1.map (·.1)).map pr)).length (jn (((lexR a0).1.map (·.1)).map pr)) 0
      unfold lexP
      rw [if_pos i1]
      refine ev_if_pos rfl ?_
      simp only [List.nil_append]
      have hs := Same_ev ((lexR a0).1.map tk) ((lexL (jn (((lexR a0).1.map (·.1)).map pr)).length (jn (((lexR a0).1.map (·.1)).map pr)) 0).1.map tk) (by rw [List.length_map]; omega) (by rw [List.length_map]; omega)
      rw [core_map, core_map, i2, decide_eq_true rfl] at hs
      exact ev_bind hs (ev_if_pos rfl rest)
    · exact ev_if_neg hp rest
  · unfold lexP
    rw [if_neg hz0]
    exact ev_if_neg (by simp) (ev_if_pos rfl (ev_bind sure_ev (ev_some _)))
end Go.Proofs.YtaffmgphcmmdhaaDoor.L
