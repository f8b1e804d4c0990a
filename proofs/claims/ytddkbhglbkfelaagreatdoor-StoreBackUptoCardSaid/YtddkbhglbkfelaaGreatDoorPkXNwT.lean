/- table.New and the law's catalog: a catalog of tables, or the error. -/
import Derived.Test.YtddkbhglbkfelaaGreatDoorPkXDdT
import Derived.Maps.OwnOps
set_option linter.unusedVariables false
set_option linter.unusedSimpArgs false
namespace Go.Proofs.YtddkbhglbkfelaaGreatDoor.T
open Go.RowKit Go.Proofs.YtddkbhglbkfelaaGreatDoorW.PrintWords Go.Proofs.YtddkbhglbkfelaaGreatDoorW.PrintLast Go.Proofs.YtddkbhglbkfelaaGreatDoorW.PrintMore Go.Proofs.YtddkbhglbkfelaaGreatDoorX
theorem findN_snoc : ∀ (l : List S59) (t : S59) (s : ByteArray), findN (l ++ [t]) s = (match findN l s with | some i => some i | none => if t.f0 = s then some l.length else none)
  | [], t, s => by simp [findN]
  | x :: l, t, s => by
    simp only [List.cons_append, findN]
    by_cases c : x.f0 = s
    · simp [c]
    · rw [if_neg c, if_neg c, findN_snoc l t s]
      cases findN l s with
      | some i => rfl
      | none => by_cases d : t.f0 = s <;> simp [d]
theorem catM_nil : CatM (.map []) [] := fun s => ⟨rfl, rfl⟩
theorem catM_snoc {D : DataW Unit} {l : List S59} (h : CatM D l) (hD : Maps.IsMap D) (t : S59) (hn : findN l t.f0 = none) : CatM (D.put (.string t.f0.data.toList) (.lit (.int .i64 (l.length : Int)))) (l ++ [t]) := by
  intro s
  have hk : WideAt.IsKeyLit (Lit.string t.f0.data.toList) := by trivial
  by_cases c : t.f0 = s
  · subst c
    rw [findN_snoc, hn]
    simp only [if_pos]
    exact ⟨by rw [Maps.atKey_put_same hD hk]; rfl, by rw [Maps.has_put_same hD hk]; rfl⟩
  · have hne : (Lit.string s.data.toList) ≠ Lit.string t.f0.data.toList := by
      intro e; injection e with e
      exact c (by cases t; rename_i a _; cases a; cases s; simp_all [Array.toList_inj])
    rw [findN_snoc, Maps.atKey_put_other hne, Maps.has_put_other hne]
    have := h s
    cases hf : findN l s with
    | some i => rw [hf] at this; exact this
    | none => rw [hf] at this; simp only [if_neg c]; exact this
theorem ow_below {w w' : World} {P : Program} {k : TypeId} {R : Value → Option (DataW Unit × List MemPlace)} {b n : Nat} {D : DataW Unit} (h : w.ownsMap P k R b n D) (hb : Below w.heap.size w w') : w'.ownsMap P k R b n D := by
  obtain ⟨es, clock, hm, hF, hs, hD⟩ := h
  exact ⟨es, clock, (hb.block b (Array.getElem?_eq_some_iff.1 hm).1).trans hm, hF, hs, hD⟩
theorem ow_step {w w' : World} {P : Program} {k : TypeId} {R : Value → Option (DataW Unit × List MemPlace)} {b n : Nat} {D : DataW Unit} (h : w.ownsMap P k R b n D) (hb : w'.heap[b]? = w.heap[b]?) : w'.ownsMap P k R b n D := by
  obtain ⟨es, clock, hm, hF, hs, hD⟩ := h
  exact ⟨es, clock, hb.trans hm, hF, hs, hD⟩
theorem ow_lt {w : World} {P : Program} {k : TypeId} {R : Value → Option (DataW Unit × List MemPlace)} {b n : Nat} {D : DataW Unit} (h : w.ownsMap P k R b n D) : b < w.heap.size := by
  obtain ⟨es, clock, hm, _⟩ := h
  exact (Array.getElem?_eq_some_iff.1 hm).1
def nw_l1 (l0 : List S59) : Nat → Nat → Option (Option Int)
  | 0, _ => none
  | k + 1, i => if i < l0.length then (table_Check.f k (rd_T59 l0 i).f0 (rd_T59 l0 i).f1).bind fun t => if t.isNone = true then nw_l1 l0 k (i + 1) else some t else some none
def nw_l2 (l0 : List S59) : Nat → Nat → Option (Option Int)
  | 0, _ => none
  | k + 1, i => if i < l0.length then (if (rd_T59 l0 i).f0.size ≤ 9223372036854775807 then (if (findN (l0.take i) (rd_T59 l0 i).f0).isSome = true then some (some 9) else (table_own.f (rd_T59 l0 i).f0 (rd_T59 l0 i).f1).bind fun _ => nw_l2 l0 k (i + 1)) else none) else some none
def table_New.f (k : Nat) (l0 : List S59) : Option (Option Int) :=
  if (l0.length : Int) > 32 then some (some 2) else (nw_l1 l0 k 0).bind fun e => if e.isNone = true then nw_l2 l0 k 0 else some e
def nw_T18 : Bool × List (List Nat × List Nat) := (true, [([], []), ([], []), ([1], [1]), ([2], [2]), ([3], [3]), ([], []), ([5], [5]), ([6], [6]), ([4, 7, 6], [4, 7]), ([0, 0, 1, 2, 3, 4, 5, 6, 7, 8], [0]), ([9, 0, 1, 2, 3, 4, 5, 6, 7, 8], [9]), ([10, 8, 8, 0, 1, 2, 3, 4, 5, 6, 7, 8], [8, 10])])
def nw_B18 : List Nat := [0, 0, 2, 6, 14, 0, 32, 96, 254, 511, 1023, 2047]
theorem nw_tab18 : rtab .any (opsOf Tryz.f19 18) = nw_T18 := by kernel_rfl
theorem nw_bits18 : waitsOk nw_T18.2 nw_B18 = true := by kernel_rfl
theorem info_tab_ : (Tryz.prog.info? 59).map (fun i => (i.zero, i.size, i.bytes)) = some (some (.agg #[.string ⟨#[]⟩, .slice none 0 0]), 2, 40) := by kernel_rfl
theorem own_same {a : ByteArray} {l : List S118} {t1 : ByteArray} {t2 : List S118} (h : table_own.f a l = some (t1, t2)) : t1 = a ∧ t2 = l := by
  unfold table_own.f clone_Column.f at h
  split at h
  · simp only [Option.bind_some, Option.some.injEq, Prod.mk.injEq] at h; exact ⟨h.1.symm, h.2.symm⟩
  · simp at h
/-- What New hands back. -/
def NewPost (l0 : List S59) (r : Option Int) (w : World) (e : Ending) (w' : World) : Prop := ∃ p : Option Addr, e = .returned (.tuple #[.pointer p, errW r]) ∧ (r = none → Cat w' p l0.length l0) ∧ (r ≠ none → p = none) ∧ Below w.heap.size w w'
set_option maxHeartbeats 16000000 in
set_option maxRecDepth 100000 in
theorem table_New.calls (k : Nat) (A0 : Option Addr) (c0 : Nat) (l0 : List S59) (r : Option Int) (w : World) (hr0 : Kd.C k59 w A0 l0.length l0) (hc0 : l0.length ≤ c0) (hG : GW w) (h : table_New.f k l0 = some r) :
    Calls Tryz.prog 19 #[.slice A0 l0.length c0] w (NewPost l0 r w) := by
  have hu1 := Tryz.underlying105
  have hu2 := Tryz.underlying59
  have hu4 := Tryz.underlying65
  have HR := Aside0.mk hr0
  have HC := Aside0.mk hc0
  have HG := Aside0.mk hG
  clear hG hc0 hr0
  unfold table_New.f at h
  by_cases c32 : (l0.length : Int) > 32
  · rw [if_pos c32] at h
    have d32 : decide (32 < (l0.length : Int)) = true := decide_eq_true c32
    clear c32
    obtain rfl := Option.some.inj h
    go_enter Tryz.func19, Tryz.ntmps19
    go_wp2
    go_ret2
    exact ⟨none, rfl, (fun h_ => by cases h_), fun _ => rfl, Below.refl _ _⟩
  · rw [if_neg c32] at h
    have d32 : decide (32 < (l0.length : Int)) = false := decide_eq_false c32
    have h32 := Aside0.mk (show l0.length ≤ 32 by omega)
    clear c32
    obtain ⟨e1, hE, h⟩ := Option.bind_eq_some_iff.mp h
    have HE := Aside0.mk hE
    have HH := Aside0.mk h
    clear hE h
    have hmm := @run_makeMap Tryz.prog
    go_enter Tryz.func19, Tryz.ntmps19
    go_wp2_with (first
      | ((with_reducible refine qgd (N := 18) rfl ?_); refine qbe ?hg (N := 18) ?hd (cs := #[.slice none 0 0, .map (some w.heap.size)]) (t := 105) ?hr ?_; (case hd => rfl); (case hg => rfl); (case hr => first | (go_simp; done) | (go_simp; rfl)); intro g hg w2 hbox hb; have BK := Aside0.mk hbox; have BB := Aside0.mk (below_step (below_alloc (Below.refl w.heap.size w) (.map #[] 0)) hb); have HM := Aside0.mk (show w2.ownsMap (H := Unit) Tryz.prog 9 (plainElem Tryz.prog 3) w.heap.size 0 (.map []) from ow_below (World.ownsMap_made w _ _ _) hb); have GM := Aside0.mk (show w.heap.size ≤ w.heap.size from Nat.le_refl _); have GN := Aside0.mk (show w.heap.size ≤ g from by rw [hg]; have := (below_alloc (Below.refl w.heap.size w) (.map #[] 0)).size; exact this); have NM := Aside0.mk (show w.heap.size ≠ g from by rw [hg]; exact Nat.ne_of_lt (blk_lt (blk_new w _))); clear hb hbox hg))
    obtain ⟨m, hm⟩ : ∃ m, m = w.heap.size := ⟨_, rfl⟩
    rw [← hm] at BK HM GM NM
    have GM' := Aside0.mk (show w.heap.size ≤ m from Nat.le_of_eq hm.symm)
    clear hm GM
    go_loopg [21] k (fun kq v21 w' => ∃ (xi : Nat), v21 = .int .i64 (xi : Int) ∧ Aside0 (xi ≤ l0.length) ∧ Aside0 (nw_l1 l0 kq xi = some e1) ∧ Aside0 (kq ≤ k) ∧ Aside0 (Below w2.heap.size w2 w'))
    case atStart => exact ⟨0, rfl, ⟨Nat.zero_le _⟩, HE, ⟨Nat.le_refl _⟩, ⟨Below.refl _ _⟩⟩
    case round =>
      obtain ⟨xi, rfl, HI, HA, HK1, B1⟩ := hrel
      cases gk with
      | zero => exact absurd HA.out (by simp [nw_l1])
      | succ k1 =>
        have H := HA.out
        clear HA
        simp only [nw_l1] at H
        have hx : xi + 1 ≤ 33 := by have := HI.out; have := h32.out; omega
        by_cases c1 : xi < l0.length
        · rw [if_pos c1] at H
          have d1 : decide ((xi : Int) < (l0.length : Int)) = true := decide_eq_true (by omega); have d1n : decide (xi < l0.length) = true := decide_eq_true (by omega)
          obtain ⟨t, hT, H⟩ := Option.bind_eq_some_iff.mp H
          have HT := Aside0.mk hT
          have B2 := Aside0.mk (below_step BB.out B1.out)
          obtain ⟨ad, A1, c2, e_, z0, z1, hlc, hcc⟩ := at_T59 HR.out (xi : Int) (by omega) (by omega)
          cases e_
          simp only [Int.toNat_natCast] at z0 z1
          replace z0 := (B2.out.cell (World.block_lt_of_cell? w _ z0)).trans z0
          replace z1 := (B2.out.cell (World.block_lt_of_cell? w _ z1)).trans z1
          have HL := Aside0.mk hlc
          have HCC := Aside0.mk (Kd.C_below hcc B2.out)
          have p1 : (0 ≤ (xi : Int)) = True := eq_true (by omega)
          have p2 : ((xi : Int) < (l0.length : Int)) = True := eq_true (by omega)
          have C1 := Aside0.mk c1
          clear hT hlc hcc c1
          cases t with
          | some q =>
            rw [if_neg (by simp)] at H
            obtain rfl := Option.some.inj H
            have h := HH.out
            rw [if_neg (by simp)] at h
            obtain rfl := Option.some.inj h
            clear h H HH
            go_wp2_with (go_at_call 43; (with_reducible refine (table_Check.calls k1 (rd_T59 l0 xi).f0 A1 c2 (rd_T59 l0 xi).f1 (some q) (wr.alloc (.cells #[.string (rd_T59 l0 xi).f0, .slice A1 (rd_T59 l0 xi).f1.length c2] 59 (0, 0))) (Kd.C_alloc HCC.out _) HL.out (GW_below HG.out (below_step B2.out (below_alloc (Below.refl _ _) _))) HT.out).mono ?_); rintro e w4 ⟨rfl, hb⟩; have B4 := Aside0.mk (below_step (below_step B2.out (below_alloc (Below.refl _ _) _)) hb); clear hb; simp only [errW_some])
            go_ret2
            exact ⟨none, rfl, (fun h_ => by cases h_), fun _ => rfl, B4.out⟩
          | none =>
            rw [if_pos (show (none : Option Int).isNone = true from rfl)] at H
            have H' := Aside0.mk H
            clear H
            go_wp2_with (go_at_call 43; (with_reducible refine (table_Check.calls k1 (rd_T59 l0 xi).f0 A1 c2 (rd_T59 l0 xi).f1 none (wr.alloc (.cells #[.string (rd_T59 l0 xi).f0, .slice A1 (rd_T59 l0 xi).f1.length c2] 59 (0, 0))) (Kd.C_alloc HCC.out _) HL.out (GW_below HG.out (below_step B2.out (below_alloc (Below.refl _ _) _))) HT.out).mono ?_); rintro e w4 ⟨rfl, hb⟩; have B4 := Aside0.mk (below_step (below_step B1.out (below_alloc (Below.refl _ _) _)) hb); clear hb; simp only [errW_none])
            go_roundg k1
            case measure => have := HK1.out; omega
            case rel => exact ⟨xi + 1, by go_num, ⟨C1.out⟩, H', ⟨by have := HK1.out; omega⟩, B4⟩
        · rw [if_neg c1] at H
          have d1 : decide ((xi : Int) < (l0.length : Int)) = false := decide_eq_false (by omega); have d1n : decide (xi < l0.length) = false := decide_eq_false (by omega)
          obtain rfl := Option.some.inj H
          have h := HH.out
          rw [if_pos (show (none : Option Int).isNone = true from rfl)] at h
          have HN := Aside0.mk h
          clear h H HH c1 hx
          have BB2 := Aside0.mk (below_step BB.out B1.out)
          have BKa := Aside0.mk (qkb BK.out B1.out)
          have HMa := Aside0.mk (ow_below HM.out B1.out)
          clear BK HM B1 BB
          go_wp2
          obtain ⟨B, hB⟩ : ∃ B, B = wr.heap.size := ⟨_, rfl⟩
          have LG := Aside0.mk (show g < B from by rw [hB]; exact blk_lt BKa.out)
          have LM := Aside0.mk (show m < B from by rw [hB]; exact ow_lt HMa.out)
          have LB := Aside0.mk (show w.heap.size ≤ B from by rw [hB]; exact BB2.out.size)
          have SZ0 := Aside0.mk (show B ≤ wr.heap.size from Nat.le_of_eq hB)
          clear hB
          go_loopg [33] k (fun kq v33 w' => ∃ (xi : Nat) (u : Value) (D : DataW Unit), v33 = .int .i64 (xi : Int) ∧ Aside0 (xi ≤ l0.length) ∧ Aside0 (nw_l2 l0 kq xi = some r) ∧ Aside0 (kq ≤ k) ∧ Aside0 (Kd.S k59 59 w' B (fun _ => True) u (l0.take xi)) ∧ Aside0 (w'.heap[g]? = some (.cells #[u, .map (some m)] 105 (0, 0))) ∧ Aside0 (w'.ownsMap (H := Unit) Tryz.prog 9 (plainElem Tryz.prog 3) m xi D) ∧ Aside0 (CatM D (l0.take xi) ∧ Maps.IsMap D) ∧ Aside0 (Below w.heap.size w w') ∧ Aside0 (B ≤ w'.heap.size))
          case atStart => exact ⟨0, .slice none 0 0, .map [], rfl, ⟨Nat.zero_le _⟩, HN, ⟨Nat.le_refl _⟩, ⟨Kd.S_nil _ _ _ _ _⟩, BKa, HMa, ⟨catM_nil, Maps.isMap_empty⟩, BB2, SZ0⟩
          case round =>
            clear BKa HMa BB2 SZ0 HN HI
            obtain ⟨xi, u, D, rfl, HI, HA, HK1, HS, BK, HM, HCM, BB, SZ⟩ := hrel
            cases gk with
            | zero => exact absurd HA.out (by simp [nw_l2])
            | succ k1 =>
              have H := HA.out
              clear HA
              simp only [nw_l2] at H
              have hx : xi + 1 ≤ 33 := by have := HI.out; have := h32.out; omega
              by_cases c1 : xi < l0.length
              · rw [if_pos c1] at H
                have C1 := Aside0.mk c1
                have d1 : decide ((xi : Int) < (l0.length : Int)) = true := decide_eq_true (by omega)
                have d1n : decide (xi < l0.length) = true := decide_eq_true c1
                have cz : (rd_T59 l0 xi).f0.size ≤ 9223372036854775807 := Classical.byContradiction fun cz => by rw [if_neg cz] at H; cases H
                rw [if_pos cz] at H
                have HK := Aside0.mk (WideMaps.keyOf_string_mk (P := Tryz.prog) (k := 9) Tryz.underlying9 (s := (rd_T59 l0 xi).f0) (by unfold maxLen; exact cz))
                obtain ⟨ad, A1, c2, e_, z0, z1, hlc, hcc⟩ := at_T59 HR.out (xi : Int) (by omega) (by omega)
                cases e_
                simp only [Int.toNat_natCast] at z0 z1
                replace z0 := (BB.out.cell (World.block_lt_of_cell? w _ z0)).trans z0
                replace z1 := (BB.out.cell (World.block_lt_of_cell? w _ z1)).trans z1
                have HL := Aside0.mk hlc
                have HCC := Aside0.mk hcc
                have p1 : (0 ≤ (xi : Int)) = True := eq_true (by omega)
                have p2 : ((xi : Int) < (l0.length : Int)) = True := eq_true (by omega)
                have HAS := Aside0.mk (HCM.out.1 (rd_T59 l0 xi).f0).2
                clear hlc hcc cz c1
                go_wp2
                have B9 := Aside0.mk (blk_new wr (.cells #[.string (rd_T59 l0 xi).f0, .slice A1 (rd_T59 l0 xi).f1.length c2] 59 (0, 0)))
                have NG9 := Aside0.mk (show some wr.heap.size ≠ (u : Value).ownBlock from fun e_ => Nat.lt_irrefl _ (Kd.S_lt HS.out _ e_.symm))
                have NM9 := Aside0.mk (show wr.heap.size ≠ m from Nat.ne_of_gt (ow_lt HM.out))
                replace HS := Aside0.mk (Kd.S_below HS.out (below_alloc (Below.refl _ _) (.cells #[.string (rd_T59 l0 xi).f0, .slice A1 (rd_T59 l0 xi).f1.length c2] 59 (0, 0))))
                replace BK := Aside0.mk (qka BK.out (.cells #[.string (rd_T59 l0 xi).f0, .slice A1 (rd_T59 l0 xi).f1.length c2] 59 (0, 0)))
                replace HM := Aside0.mk (ow_below HM.out (below_alloc (Below.refl _ _) (.cells #[.string (rd_T59 l0 xi).f0, .slice A1 (rd_T59 l0 xi).f1.length c2] 59 (0, 0))))
                replace BB := Aside0.mk (below_step BB.out (below_alloc (Below.refl _ _) (.cells #[.string (rd_T59 l0 xi).f0, .slice A1 (rd_T59 l0 xi).f1.length c2] 59 (0, 0))))
                replace SZ := Aside0.mk (show B ≤ (wr.alloc (.cells #[.string (rd_T59 l0 xi).f0, .slice A1 (rd_T59 l0 xi).f1.length c2] 59 (0, 0))).heap.size from Nat.le_trans SZ.out (below_alloc (Below.refl wr.heap.size wr) (.cells #[.string (rd_T59 l0 xi).f0, .slice A1 (rd_T59 l0 xi).f1.length c2] 59 (0, 0))).size)
                generalize wr.alloc (.cells #[.string (rd_T59 l0 xi).f0, .slice A1 (rd_T59 l0 xi).f1.length c2] 59 (0, 0)) = w5 at B9 HS BK HM BB SZ ⊢
                generalize wr.heap.size = g9 at B9 NG9 NM9 ⊢
                clear z0 z1
                obtain ⟨v, ps, hrun, hv⟩ := (ow_below HM.out (qb1 (Below.refl _ _))).look_ok (Maps.string_keyed Tryz.underlying9) Tryz.underlying103 (zero3_ w5.drew) (plainElem_int Tryz.underlying3 (by decide)) HK.out
                rw [HAS.out] at hrun
                have y0 := qkc BK.out 0
                have y1 := qkc BK.out 1
                have x0 := qkc B9.out 0
                have x1 := qkc B9.out 1
                simp only [List.getElem?_toArray, List.getElem?_cons_zero, List.getElem?_cons_succ] at y0 y1 x0 x1
                clear hv
                cases hf : findN (l0.take xi) (rd_T59 l0 xi).f0 with
                | some j =>
                  rw [hf] at H hrun
                  rw [if_pos (show (some j).isSome = true from rfl)] at H
                  obtain rfl := Option.some.inj H
                  simp only [Option.isSome_some] at hrun
                  clear H hf
                  go_region_with fail
                  all_goals
                    go_wp2
                    go_ret2
                    exact ⟨none, rfl, (fun h_ => by cases h_), fun _ => rfl, qb1 BB.out⟩
                | none =>
                  rw [hf] at H hrun
                  rw [if_neg (by simp)] at H
                  simp only [Option.isSome_none] at hrun
                  obtain ⟨⟨t1, t2⟩, hO, H⟩ := Option.bind_eq_some_iff.mp H
                  have HO := Aside0.mk hO
                  have H' := Aside0.mk H
                  obtain ⟨e1, e2⟩ := own_same hO
                  have Ny := Aside0.mk (show l0.take (xi + 1) = l0.take xi ++ [⟨t1, t2⟩] from by
                    rw [List.take_succ_eq_append_getElem C1.out, e1, e2]; have : rd_T59 l0 xi = l0[xi]'C1.out := by simp [rd_T59, List.getD, C1.out]
                    rw [this])
                  have HCM2 := Aside0.mk (show CatM (D.put (.string (rd_T59 l0 xi).f0.data.toList) (.lit (.int .i64 (xi : Int)))) (l0.take (xi + 1)) ∧ Maps.IsMap (D.put (.string (rd_T59 l0 xi).f0.data.toList) (.lit (.int .i64 (xi : Int)))) from by
                    refine ⟨?_, Maps.IsMap.put HCM.out.2 _ _⟩
                    have := catM_snoc HCM.out.1 HCM.out.2 ⟨t1, t2⟩ (by rw [e1]; exact hf)
                    rw [← Ny.out, List.length_take, Nat.min_eq_left HI.out, e1] at this
                    exact this)
                  clear hO H e1 e2 hf
                  go_region_with fail
                  all_goals
                    clear hrun
                    replace HM := Aside0.mk (ow_below HM.out (qb1 (Below.refl _ _)))
                    replace HS := Aside0.mk (Kd.S_drew HS.out)
                    replace BK := Aside0.mk (qkd BK.out)
                    replace B9 := Aside0.mk (qkd B9.out)
                    replace BB := Aside0.mk (qb1 BB.out)
                    replace SZ := Aside0.mk (show B ≤ w5.drew.heap.size from SZ.out)
                    replace y1 : w5.drew.cell? ⟨g, 1, none⟩ = some (.map (some m)) := y1
                    replace x0 : w5.drew.cell? ⟨g9, 0, none⟩ = some (.string (rd_T59 l0 xi).f0) := x0
                    clear y0 x1
                    generalize w5.drew = w6 at HM HS BK B9 BB SZ y1 x0 ⊢
                    obtain ⟨w7, hup, hm7, hgr⟩ := (ow_below HM.out (qb1 (Below.refl _ _))).update (Maps.string_keyed Tryz.underlying9) Tryz.underlying103 (by unfold maxLen; omega) HK.out (plainElem_int Tryz.underlying3 (a := (xi : Int)) (by have e1 : IntKind.i64.min = -9223372036854775808 := rfl; have e2 : IntKind.i64.max = 9223372036854775807 := rfl; simp [Lit.wf, e1, e2]; omega))
                    go_wp2
                    go_region_with fail
                    all_goals
                      replace HS := Aside0.mk (Kd.S_mono (Kd.S_grown (Kd.S_bound (Kd.S_drew HS.out)) hgr (fun k_ hk_ e_ => by have := hk_.2.1; have := LM.out; injection e_ with e_; omega)) (fun _ hk_ => hk_.1))
                      replace BK := Aside0.mk (blk_grown (qkd BK.out) hgr (fun e_ => NM.out (by injection e_ with e_; exact e_.symm)))
                      replace B9 := Aside0.mk (blk_grown (qkd B9.out) hgr (fun e_ => NM9.out (by injection e_)))
                      replace BB := Aside0.mk (pw_below_grown (qb1 BB.out) (some m) (qb1 BB.out).size hgr (fun k_ hk_ => by injection hk_ with hk_; rw [← hk_]; exact GM'.out))
                      replace SZ := Aside0.mk (show B ≤ w7.heap.size from Nat.le_trans SZ.out hgr.size)
                      replace HM := Aside0.mk hm7
                      generalize (D.put (.string (rd_T59 l0 xi).f0.data.toList) (.lit (.int .i64 (xi : Int)))) = D2 at HM HCM2
                      clear hup hgr hm7 y1 x0
                      go_wp2
                      refine start_ (n := 12) (S := fun w' => w'.cell? ⟨g, 0, none⟩ = some u ∧ w'.cell? ⟨g9, 0, none⟩ = some (.string (rd_T59 l0 xi).f0) ∧ w'.cell? ⟨g9, 1, none⟩ = some (.slice A1 (rd_T59 l0 xi).f1.length c2)) (ds := [11]) #[false, false, false, false, false, false, false, false, false, false, false, false] (by kernel_rfl) rfl rfl ⟨(qkc (qkd BK.out) 0).trans rfl, (qkc (qkd B9.out) 0).trans rfl, (qkc (qkd B9.out) 1).trans rfl⟩ (fun hHeld => ?_)
                      refine with_tabW nw_tab18 nw_bits18 (fun HT_ HW_ => ?_)
                      replace BK := Aside0.mk (qkd BK.out)
                      replace B9 := Aside0.mk (qkd B9.out)
                      replace HS := Aside0.mk (Kd.S_drew HS.out)
                      replace HM := Aside0.mk (ow_below HM.out (qb1 (Below.refl _ _)))
                      replace BB := Aside0.mk (qb1 BB.out)
                      replace SZ := Aside0.mk (show B ≤ w7.drew.heap.size from SZ.out)
                      generalize w7.drew = w17 at HS BK B9 HM BB SZ hHeld ⊢
                      refine pure_ (i := 0) (N := some 57) (v := ?_) (a' := ?_) #[true, false, false, false, false, false, false, false, false, false, false, false] rfl rfl (any_of HT_.out (by kernel_rfl)) (fun _ _ _ h => h) (Or.inl ⟨by rfl, ?_⟩) ?_ ?_
                      rotate_left
                      · intro w'
                        go_simp
                        with_reducible rfl
                      rotate_left
                      · simp only [Act.put, List.setIfInBounds_toArray, List.set_cons_zero, List.set_cons_succ, i64_w, i32_w]
                        rfl
                      refine pure_ (i := 1) (N := some 58) (v := ?_) (a' := ?_) #[true, true, false, false, false, false, false, false, false, false, false, false] rfl rfl (any_of HT_.out (by kernel_rfl)) (fun _ _ _ h => h) (Or.inl ⟨by rfl, ?_⟩) ?_ ?_
                      rotate_left
                      · intro w'
                        go_simp
                        with_reducible rfl
                      rotate_left
                      · simp only [Act.put, List.setIfInBounds_toArray, List.set_cons_zero, List.set_cons_succ, i64_w, i32_w]
                        rfl
                      refine pure_ (i := 2) (N := some 59) (v := ?_) (a' := ?_) #[true, true, true, false, false, false, false, false, false, false, false, false] rfl rfl (any_of HT_.out (by kernel_rfl)) (fun _ _ _ h => h) (Or.inl ⟨by rfl, ?_⟩) ?_ ?_
                      rotate_left
                      · intro w'
                        go_simp
                        with_reducible rfl
                      rotate_left
                      · simp only [Act.put, List.setIfInBounds_toArray, List.set_cons_zero, List.set_cons_succ, i64_w, i32_w]
                        rfl
                      refine pure_ (i := 3) (N := some 60) (v := ?_) (a' := ?_) #[true, true, true, true, false, false, false, false, false, false, false, false] rfl rfl (any_of HT_.out (by kernel_rfl)) (fun _ _ _ h => h) (Or.inl ⟨by rfl, ?_⟩) ?_ ?_
                      rotate_left
                      · intro w'
                        go_simp
                        with_reducible rfl
                      rotate_left
                      · simp only [Act.put, List.setIfInBounds_toArray, List.set_cons_zero, List.set_cons_succ, i64_w, i32_w]
                        rfl
                      refine take_ (i := 5) (N := some 62) (v := ?_) (a' := ?_) #[true, true, true, true, false, true, false, false, false, false, false, false] rfl rfl (take_ofW HT_.out HW_.out (by kernel_rfl)) (fun _ _ _ h => h) (Or.inl ⟨by rfl, ?_⟩) hHeld ?_ ?_
                      rotate_left
                      · rintro w' ⟨s0, s1, s2⟩
                        go_simp
                        with_reducible rfl
                      rotate_left
                      · simp only [Act.put, List.setIfInBounds_toArray, List.set_cons_zero, List.set_cons_succ, i64_w, i32_w]
                        rfl
                      refine take_ (i := 4) (N := some 61) (v := ?_) (a' := ?_) #[true, true, true, true, true, true, false, false, false, false, false, false] rfl rfl (take_ofW HT_.out HW_.out (by kernel_rfl)) (fun _ _ _ h => h) (Or.inl ⟨by rfl, ?_⟩) hHeld ?_ ?_
                      rotate_left
                      · rintro w' ⟨s0, s1, s2⟩
                        go_simp
                        with_reducible rfl
                      rotate_left
                      · simp only [Act.put, List.setIfInBounds_toArray, List.set_cons_zero, List.set_cons_succ, i64_w, i32_w]
                        rfl
                      refine one_ (i := 6) (N := some 63) #[true, true, true, true, true, true, true, false, false, false, false, false] rfl rfl (one_of HT_.out (by kernel_rfl)) (by decide) (fun K hK => ?_)
                      refine goes_ Tryz.func44 (by kernel_rfl) rfl #[.agg #[.string (rd_T59 l0 xi).f0, .slice A1 (rd_T59 l0 xi).f1.length c2]] (by rfl) rfl rfl (by (try simp only [List.map_toArray, List.map_cons, List.map_nil]); first | done | rfl) ?_
                      with_reducible refine (table_own.calls (rd_T59 l0 xi).f0 A1 c2 (rd_T59 l0 xi).f1 t1 t2 w17 (Kd.C_below HCC.out BB.out) HL.out HO.out).mono ?_
                      rintro e w18 ⟨v0, rfl, V0, hb⟩
                      refine ⟨_, rfl, ?_⟩
                      have HV0 := Aside0.mk (Kd.R_lower V0 SZ.out)
                      replace HS := Aside0.mk (Kd.S_elder' HS.out (Kd.R_base V0) hb)
                      replace BK := Aside0.mk (qkb BK.out hb)
                      replace B9 := Aside0.mk (qkb B9.out hb)
                      replace HM := Aside0.mk (ow_below HM.out hb)
                      replace BB := Aside0.mk (below_step BB.out hb)
                      replace SZ := Aside0.mk (Nat.le_trans SZ.out hb.size)
                      clear V0 hb
                      obtain ⟨Ao, co, eo⟩ := Kd.R_slice HV0.out
                      subst eo
                      refine hK.out _ _ ⟨(qkc BK.out 0).trans rfl, (qkc B9.out 0).trans rfl, (qkc B9.out 1).trans rfl⟩ (fun hHeld => ?_)
                      clear hK K
                      refine norm_ (a' := ?_) ?_ ?_
                      rotate_left
                      · show Act.put _ (some 63) _ = _
                        simp only [Act.put, List.setIfInBounds_toArray, List.set_cons_zero, List.set_cons_succ, i64_w, i32_w]
                        rfl
                      refine one_ (i := 7) (N := some 64) #[true, true, true, true, true, true, true, true, false, false, false, false] rfl rfl (one_of HT_.out (by kernel_rfl)) (by decide) (fun K hK => ?_)
                      refine value_ (w1 := ?_) (v := ?_) (by rfl) rfl ?_ ?_
                      rotate_left 2
                      · go_simp
                        constructor
                        · rfl
                        · rfl
                      refine hK.out _ _ ⟨(qkc (qka BK.out _) 0).trans rfl, (qkc (qka B9.out _) 0).trans rfl, (qkc (qka B9.out _) 1).trans rfl⟩ (fun hHeld => ?_)
                      clear hK K
                      refine norm_ (a' := ?_) ?_ ?_
                      rotate_left
                      · show Act.put _ (some 64) _ = _
                        simp only [Act.put, List.setIfInBounds_toArray, List.set_cons_zero, List.set_cons_succ, i64_w, i32_w]
                        rfl
                      refine one_ (i := 8) (N := some 65) #[true, true, true, true, true, true, true, true, true, false, false, false] rfl rfl (one_of HT_.out (by kernel_rfl)) (by decide) (fun K hK => ?_)
                      refine Kd.S_append_step k59 (w0 := w18) B (by rfl) (.tmp 61) (.tmp 64) 22 59 (.agg #[(.string ⟨#[]⟩), (.slice none 0 0)]) 40 rfl Tryz.underlying22 info_tab_ rfl (by decide) (by omega) u (l0.take xi) ⟨t1, t2⟩ [.string t1, .slice Ao t2.length co] (fun _ => True) (fun k_ => some k_ = (.slice Ao t2.length co : Value).ownBlock) rfl rfl ?aP (fun k_ hk_ => ((Kd.R_mono (ok' := fun k_ => True ∧ some k_ ≠ (u : Value).ownBlock) (Kd.R_apart' HV0.out (Kd.S_typed HS.out) (by decide)) (fun k_ hk => ⟨trivial, hk.2⟩))).1 k_ hk_.symm) (fun _ _ => trivial) ?aO (Below.refl _ _) SZ.out ?aL ?_
                      (case aP => exact k59_mkM _ _ _ ⟨t1, t2⟩ (Kd.R_mono (Kd.R_tight rfl (Kd.R_mono (ok' := fun k_ => True ∧ some k_ ≠ (u : Value).ownBlock) (Kd.R_apart' HV0.out (Kd.S_typed HS.out) (by decide)) (fun k_ hk => ⟨trivial, hk.2⟩))) (fun _ h_ => h_)))
                      (case aO => exact Kd.S_mono HS.out (fun k_ hk => ⟨trivial, fun e_ => hk.2 e_⟩))
                      (case aL => have := h32.out; have := C1.out; simp only [List.length_take]; omega)
                      intro v1 w19 ho hb hg hat
                      rw [← Ny.out] at ho
                      replace BK := Aside0.mk ((hb.block g LG.out).trans BK.out)
                      replace B9 := Aside0.mk (blk_grown B9.out hg NG9.out)
                      replace HM := Aside0.mk (ow_step HM.out (hb.block m LM.out))
                      replace BB := Aside0.mk (below_weaken2_ BB.out hb LB.out)
                      replace SZ := Aside0.mk (Nat.le_trans SZ.out hb.size)
                      clear HS HV0
                      have HS := Aside0.mk ho
                      clear ho hb hg hat
                      obtain ⟨Ap, cp, ep⟩ := Kd.S_slice HS.out
                      rw [show (l0.take (xi + 1)).length = xi + 1 from by rw [List.length_take]; have := C1.out; omega] at ep
                      subst ep
                      refine hK.out _ _ ⟨(qkc BK.out 0).trans rfl, (qkc B9.out 0).trans rfl, (qkc B9.out 1).trans rfl⟩ (fun hHeld => ?_)
                      clear hK K
                      refine norm_ (a' := ?_) ?_ ?_
                      rotate_left
                      · show Act.put _ (some 65) _ = _
                        simp only [Act.put, List.setIfInBounds_toArray, List.set_cons_zero, List.set_cons_succ, i64_w, i32_w]
                        rfl
                      refine pure_ (i := 9) (N := some 66) (v := ?_) (a' := ?_) #[true, true, true, true, true, true, true, true, true, true, false, false] rfl rfl (any_of HT_.out (by kernel_rfl)) (fun _ _ _ h => h) (Or.inl ⟨by rfl, ?_⟩) ?_ ?_
                      rotate_left
                      · intro w'
                        go_simp
                        with_reducible rfl
                      rotate_left
                      · simp only [Act.put, List.setIfInBounds_toArray, List.set_cons_zero, List.set_cons_succ, i64_w, i32_w]
                        rfl
                      refine pure_ (i := 10) (N := some 67) (v := ?_) (a' := ?_) #[true, true, true, true, true, true, true, true, true, true, true, false] rfl rfl (any_of HT_.out (by kernel_rfl)) (fun _ _ _ h => h) (Or.inl ⟨by rfl, ?_⟩) ?_ ?_
                      rotate_left
                      · intro w'
                        go_simp
                        with_reducible rfl
                      rotate_left
                      · simp only [Act.put, List.setIfInBounds_toArray, List.set_cons_zero, List.set_cons_succ, i64_w, i32_w]
                        rfl
                      refine last_ (i := 11) (N := none) #[true, true, true, true, true, true, true, true, true, true, true, true] rfl rfl (one_of HT_.out (by kernel_rfl)) (by decide) (fun K hK => ?_)
                      have hs22 : w19.cell? ⟨g, 0, none⟩ = some u := (qkc BK.out 0).trans rfl
                      have hfs22 := qkf BK.out 0
                      refine skip_ (w1 := ?_) ?sh1 ?sh2 ?_ ?_
                      case sh1 => rfl
                      case sh2 => rfl
                      rotate_left
                      · go_simp
                        rfl
                      refine hK.out _ _ ?_
                      clear hK K
                      refine done_ (done_of HT_.out (by kernel_rfl)) ?_
                      try go_wp2
                      go_roundg k1
                      case measure => have := HK1.out; omega
                      case rel => exact ⟨xi + 1, .slice Ap (xi + 1) cp, D2, by go_num, ⟨C1.out⟩, H', ⟨by have := HK1.out; omega⟩, ⟨Kd.S_mono (Kd.S_set HS.out BK.out (by decide) 0 _) (fun _ _ => trivial)⟩, ⟨qkp (cs := #[u, .map (some m)]) BK.out 0 _ rfl⟩, ⟨ow_step HM.out (Below.heap_setCell _ ⟨g, 0, none⟩ _ m NM.out)⟩, HCM2, ⟨qbs BB.out GN.out⟩, ⟨by rw [set_size]; exact SZ.out⟩⟩
              · rw [if_neg c1] at H
                have d1 : decide ((xi : Int) < (l0.length : Int)) = false := decide_eq_false (by omega); have d1n : decide (xi < l0.length) = false := decide_eq_false (by omega)
                obtain rfl := Option.some.inj H
                have ht : l0.take xi = l0 := List.take_of_length_le (by omega)
                rw [ht] at HS HCM
                have hxl : xi = l0.length := by have := HI.out; omega
                subst hxl
                go_wp2
                go_ret2
                obtain ⟨As, cs, es⟩ := Kd.S_slice HS.out
                subst es
                exact ⟨some ⟨g, 0, none⟩, rfl, fun _ => ⟨g, As, cs, m, D, rfl, BK.out, (Kd.S_reads' HS.out).2.2, (Kd.S_reads' HS.out).2.1, rfl, HM.out, HCM.out.1, h32.out⟩, fun h_ => absurd rfl h_, BB.out⟩
def lawcat.f (k : Nat) (l0 : List S59) : Option Bool :=
  if l0.all (fun t => decide (t.f1.length * 32 ≤ 140737488355328)) = true ∧ l0.length * 40 ≤ 140737488355328 then (table_New.f k l0).bind fun e => some e.isNone else none
theorem fresh_ {v : Value} {W : World} {k0 : Nat} (hat : v.ownBlock = (Value.slice none 0 0).ownBlock ∨ ∃ b, v.ownBlock = some b ∧ W.heap.size ≤ b) (h : k0 ≤ W.heap.size) : ∀ k, v.ownBlock = some k → k0 ≤ k := by
  intro k hk
  rcases hat with h1 | ⟨b, h1, h2⟩
  · rw [h1] at hk; simp [Value.ownBlock] at hk
  · rw [h1] at hk; injection hk with hk; omega
/-- What the law's catalog is. -/
def CatPost (l0 : List S59) (ok : Bool) (w : World) (e : Ending) (w' : World) : Prop := ∃ p : Option Addr, e = .returned (.pointer p) ∧ (ok = true → Cat w' p l0.length l0) ∧ (ok = false → p = none) ∧ Below w.heap.size w w'
set_option maxHeartbeats 16000000 in
set_option maxRecDepth 100000 in
theorem lawcat.calls (k : Nat) (A0 : Option Addr) (c0 : Nat) (l0 : List S59) (r : Bool) (w : World) (hr0 : Kd.C k59 w A0 l0.length l0) (hc0 : l0.length ≤ c0) (hG : GW w) (h : lawcat.f k l0 = some r) :
    Calls Tryz.prog 5 #[.slice A0 l0.length c0] w (CatPost l0 r w) := by
  have hu2 := Tryz.underlying59
  have hu4 := Tryz.underlying65
  have HR := Aside0.mk hr0
  have HM := Aside0.mk (Kd.C_max hr0)
  have HG := Aside0.mk hG
  clear hG hc0 hr0
  unfold lawcat.f at h
  by_cases hz : l0.all (fun t => decide (t.f1.length * 32 ≤ 140737488355328)) = true ∧ l0.length * 40 ≤ 140737488355328
  · rw [if_pos hz] at h
    have HZ := Aside0.mk hz
    clear hz
    obtain ⟨e1, hE, h⟩ := Option.bind_eq_some_iff.mp h
    have HE := Aside0.mk hE
    clear hE
    obtain rfl := Option.some.inj h
    go_enter Tryz.func5, Tryz.ntmps5
    go_wp2
    go_loopw [3, 4] (fun v3 v4 wr => ∃ (i : Nat) (u : Value), u = v3 ∧ v4 = .int .i64 (i : Int) ∧ Aside0 (i ≤ l0.length) ∧ Aside0 (Kd.S k59 59 wr w.heap.size (fun _ => True) u (l0.take i)) ∧ Aside0 (Below w.heap.size w wr)) (fun _ v4 _ => l0.length - (intOf v4).toNat)
    case atStart => exact ⟨0, _, rfl, rfl, ⟨Nat.zero_le _⟩, ⟨Kd.S_nil _ _ _ _ _⟩, ⟨Below.refl _ _⟩⟩
    case round =>
      obtain ⟨i, u, rfl, rfl, HI, HS, BB⟩ := hrel
      have hx : i + 1 ≤ 140737488355329 := by have := HI.out; have := HZ.out.2; omega
      by_cases c1 : i < l0.length
      · have C1 := Aside0.mk c1
        have d1 : decide ((i : Int) < (l0.length : Int)) = true := decide_eq_true (by omega)
        have d1n : decide (i < l0.length) = true := decide_eq_true c1
        obtain ⟨ad, A1, c2, e_, z0, z1, hlc, hcc⟩ := at_T59 HR.out (i : Int) (by omega) (by omega)
        cases e_
        simp only [Int.toNat_natCast] at z0 z1
        replace z0 := (BB.out.cell (World.block_lt_of_cell? w _ z0)).trans z0
        replace z1 := (BB.out.cell (World.block_lt_of_cell? w _ z1)).trans z1
        have hel : rd_T59 l0 i = l0[i] := by simp [rd_T59, List.getD, c1]
        have HZ1 := Aside0.mk (show (rd_T59 l0 i).f1.length * 32 ≤ 140737488355328 from by
          have := List.all_eq_true.1 HZ.out.1 l0[i] (List.getElem_mem c1); rw [hel]; exact of_decide_eq_true this)
        have Ny := Aside0.mk (show l0.take (i + 1) = l0.take i ++ [⟨(rd_T59 l0 i).f0, (rd_T59 l0 i).f1⟩] from by rw [List.take_succ_eq_append_getElem c1, hel])
        have HCC := Aside0.mk hcc
        have p1 : (0 ≤ (i : Int)) = True := eq_true (by omega)
        have p2 : ((i : Int) < (l0.length : Int)) = True := eq_true (by omega)
        clear hlc hcc hel
        have HS0 := Aside0.mk (Kd.S_below (Kd.S_mono (ok' := fun k_ => k_ < wr.heap.size) (Kd.S_bound HS.out) (fun k_ hk_ => hk_.2.2.1)) (below_alloc (Below.refl _ _) (.cells #[.string (rd_T59 l0 i).f0, .slice A1 (rd_T59 l0 i).f1.length c2] 59 (0, 0))))
        have HLT := Aside0.mk (Kd.S_lt HS.out)
        have B1 := Aside0.mk (below_step BB.out (below_alloc (Below.refl _ _) (.cells #[.string (rd_T59 l0 i).f0, .slice A1 (rd_T59 l0 i).f1.length c2] 59 (0, 0))))
        have B9 := Aside0.mk (blk_new wr (.cells #[.string (rd_T59 l0 i).f0, .slice A1 (rd_T59 l0 i).f1.length c2] 59 (0, 0)))
        have G9 := Aside0.mk (show w.heap.size ≤ wr.heap.size from BB.out.size)
        have C9 := Aside0.mk (Kd.C_below HCC.out B1.out)
        go_wp2_with (first
          | ((with_reducible refine gate_builtin (b := .append) (xs := #[.tmp 19, .tmp 21]) rfl ?_); at_builtin; refine Kd.R_append_rows k118 (w0 := w) w.heap.size rfl (.tmp 19) (.tmp 21) 57 118 (.agg #[.string ⟨#[]⟩, .int .i64 0, .bool false, .bool false]) 32 rfl Tryz.underlying57 info_col_ rfl (by decide) (by omega) (.slice none 0 0) [] (rd_T59 l0 i).f1 _ _ _ (fun _ => True) (fun _ => False) rfl rfl (Kd.R_nil _ _ _ _ _) C9.out ?aK (fun _ hk => hk.elim) (fun _ _ => trivial) B1.out B1.out.size (by have := HZ1.out; simp; omega) ?_; (case aK => intro x cs hx; obtain rfl := k118_open hx; exact k118_mkM _ _ _ _); intro v1 w1 ho hb hg hat; rw [List.nil_append] at ho; have HV := Aside0.mk ho; have BB1 := Aside0.mk hb; have B9a := Aside0.mk (blk_grown B9.out hg (by simp [Value.ownBlock])); have HS1 := Aside0.mk (Kd.S_grown HS0.out hg (fun k_ hk_ => by simp [Value.ownBlock])); have HVB := Aside0.mk (fresh_ (k0 := wr.heap.size) hat (below_alloc (Below.refl wr.heap.size wr) (.cells #[.string (rd_T59 l0 i).f0, .slice A1 (rd_T59 l0 i).f1.length c2] 59 (0, 0))).size); clear ho hb hg hat; obtain ⟨Av, cv, ev⟩ := Kd.R_slice HV.out; subst ev; have y0 := qkc B9a.out 0; have y1 := qkc B9a.out 1; have f1 := qkf B9a.out 1; simp only [List.getElem?_toArray, List.getElem?_cons_zero, List.getElem?_cons_succ] at y0 y1)
          | ((with_reducible refine gate_builtin (b := .append) (xs := #[.tmp 24, .tmp 26]) rfl ?_); at_builtin; go_loud (refine Kd.S_append k59 (w0 := w) w.heap.size rfl (.tmp 24) (.tmp 26) 22 59 (.agg #[(.string ⟨#[]⟩), (.slice none 0 0)]) 40 rfl Tryz.underlying22 info_tab_ rfl (by decide) (by omega) u (l0.take i) ⟨(rd_T59 l0 i).f0, (rd_T59 l0 i).f1⟩ [.string (rd_T59 l0 i).f0, .slice Av (rd_T59 l0 i).f1.length cv] (fun _ => True) (fun k_ => some k_ = (.slice Av (rd_T59 l0 i).f1.length cv : Value).ownBlock) rfl ?aX ?aP ?aK (fun _ _ => trivial) ?aO ?aB ?aS ?aL ?_; (case aX => show Value.slice (some ⟨w1.heap.size, 0, none⟩) 1 1 = _; rw [set_size]); (case aP => exact k59_mkM _ _ _ ⟨(rd_T59 l0 i).f0, (rd_T59 l0 i).f1⟩ (Kd.R_tight rfl (Kd.R_set HV.out B9a.out (by decide) 1 _))); (case aK => exact fun k_ hk_ => ⟨trivial, fun e_ => Nat.lt_irrefl _ (Nat.lt_of_lt_of_le (HLT.out k_ e_.symm) (HVB.out k_ hk_.symm))⟩); (case aO => exact Kd.S_mono (Kd.S_far (p := ⟨wr.heap.size, 1, none⟩) HS1.out (fun k_ hk_ => Nat.ne_of_lt hk_) _) (fun k_ hk_ => ⟨trivial, fun e_ => Nat.lt_irrefl _ (Nat.lt_of_lt_of_le hk_ (HVB.out k_ e_.symm))⟩)); (case aB => exact qbs BB1.out G9.out); (case aS => exact (qbs BB1.out G9.out).size); (case aL => have := HZ.out.2; have := C1.out; rw [List.length_take]; omega); intro v2 w2 ho2 hb2 hg2 hat2; rw [← Ny.out] at ho2; have HS2 := Aside0.mk ho2; have BB2 := Aside0.mk hb2; clear ho2 hb2 hg2 hat2)))
        go_roundw
        case rel => exact ⟨i + 1, _, rfl, by go_num, ⟨C1.out⟩, HS2, BB2⟩
        case measure => simp [intOf]; omega
      · have d1 : decide ((i : Int) < (l0.length : Int)) = false := decide_eq_false (by omega)
        have d1n : decide (i < l0.length) = false := decide_eq_false c1
        have ht : l0.take i = l0 := List.take_of_length_le (by omega)
        rw [ht] at HS
        obtain ⟨As, cs, es⟩ := Kd.S_slice HS.out
        subst es
        clear ht
        cases e1 with
        | none =>
          go_wp2_with (go_at_call 19; (with_reducible refine (table_New.calls k As cs l0 none wr (Kd.S_reads' HS.out).2.2 (Kd.S_reads' HS.out).2.1 (GW_below HG.out BB.out) HE.out).mono ?_); rintro e w2 ⟨p, rfl, hp1, hp2, hb⟩; have HP := Aside0.mk (hp1 rfl); have B2 := Aside0.mk (below_step BB.out hb); clear hp1 hp2 hb; simp only [errW_none])
          go_ret
          exact ⟨p, rfl, fun _ => HP.out, (fun h_ => by cases h_), B2.out⟩
        | some q =>
          go_wp2_with (go_at_call 19; (with_reducible refine (table_New.calls k As cs l0 (some q) wr (Kd.S_reads' HS.out).2.2 (Kd.S_reads' HS.out).2.1 (GW_below HG.out BB.out) HE.out).mono ?_); rintro e w2 ⟨p, rfl, hp1, hp2, hb⟩; have B2 := Aside0.mk (below_step BB.out hb); clear hp1 hp2 hb; simp only [errW_some])
          go_ret
          exact ⟨none, rfl, (fun h_ => by cases h_), fun _ => rfl, B2.out⟩
  · rw [if_neg hz] at h; cases h
end Go.Proofs.YtddkbhglbkfelaaGreatDoor.T
