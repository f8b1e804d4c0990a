/- store.DecodeDone: the commit of bytes. What it does (row, write, and the two loops). -/
import Derived.Test.YtddkbhglbkfelaaGreatDoorPkTx
import Derived.Deep.RegionWith
set_option linter.unusedVariables false
set_option linter.unusedSimpArgs false
namespace Go.Proofs.YtddkbhglbkfelaaGreatDoor.T
open Go.RowKit Go.Proofs.YtddkbhglbkfelaaGreatDoorW.PrintWords Go.Proofs.YtddkbhglbkfelaaGreatDoorW.PrintLast Go.Proofs.YtddkbhglbkfelaaGreatDoorW.PrintMore Go.Proofs.YtddkbhglbkfelaaGreatDoorX
theorem R_on {α : Type} {d : Kd α} {e base g : Nat} {ok : Nat → Prop} {v : Value} {xs : List α} {w w' : World} (h : Kd.R d e w base ok v xs) (hg : g < base) (ho : On g w w') : Kd.R d e w' base ok v xs :=
  Kd.R_mono (Kd.R_move (Kd.R_bound h) (fun k hk => ho.block k hk.2.2.1 (by have := hk.2.1; omega))) (fun _ hk => hk.1)
set_option maxRecDepth 100000 in
theorem decode_bytes (k : Nat) (nm : ByteArray) (A1 : Option Addr) (c1 : Nat) (cols : List S118) (s : ByteArray) (d1 : List S63) (d2 : Option Int) (W : World) (hC : Kd.C k118 W A1 cols.length cols) (hc : cols.length ≤ c1) (hs : s.size ≤ 9223372036854775807)
    (h : row_Decode.f k nm cols (bytesOf s) = some (d1, d2)) :
    Calls Tryz.prog 77 #[.agg #[.string nm, .slice A1 cols.length c1], .slice (some ⟨W.heap.size, 0, none⟩) s.size (grownCap W s.size 0 5)] (Lib.bytesWorld W 5 s) fun e w' => ∃ v0 : Value, e = .returned (.tuple #[v0, errW d2]) ∧ Kd.R k63 63 w' W.heap.size (fun _ => True) v0 d1 ∧ Below W.heap.size W w' := by
  have hb := bytes_below (Below.refl W.heap.size W) (Nat.le_refl _) 5 s
  have hcap : s.size ≤ grownCap W s.size 0 5 := grownCap_ge W s.size 0 5
  have hr := bytes_reads W 5 s hs
  have hV : Kd.V (Kd.int .u8) 5 (Lib.bytesWorld W 5 s) (Lib.bytesWorld W 5 s).heap.size (fun k_ => k_ < (Lib.bytesWorld W 5 s).heap.size) (.slice (some ⟨W.heap.size, 0, none⟩) (bytesOf s).length (grownCap W s.size 0 5)) (bytesOf s) :=
    Kd.V_mk (by rw [bytesOf_length]; exact hcap) (fun W' hW => (Kd.heap_int .u8).C (fun k_ hk => hW k_ hk hk) (by rw [bytesOf_length]; exact Kd.C_of_reads (readsInt_of.1 hr)))
  have C := row_Decode.calls k nm A1 c1 cols (fun k_ => k_ < (Lib.bytesWorld W 5 s).heap.size) _ _ (bytesOf s) d1 d2 _ (Kd.C_below hC hb) hc hV h
  rw [bytesOf_length] at C
  refine C.mono ?_
  rintro e w' ⟨v0, rfl, hR, hB⟩
  exact ⟨v0, rfl, Kd.R_mono (Kd.R_lower hR hb.size) (fun _ _ => trivial), below_then hb hb.size hB⟩
def rd_row (k : Nat) (l : List Int) (bad : Bool) (nm : ByteArray) (cols : List S118) : Option (List Int × Bool × List S63) :=
  (rd_text k l bad).bind fun t => if t.2.2.size ≤ 9223372036854775807 then (row_Decode.f k nm cols (bytesOf t.2.2)).bind fun d => some (t.1, (t.2.1 || !d.2.isNone), d.1) else none
set_option maxHeartbeats 8000000 in
set_option maxRecDepth 100000 in
theorem rd_row_calls (k : Nat) (N g : Nat) (l : List Int) (bad : Bool) (nm : ByteArray) (A1 : Option Addr) (c1 base : Nat) (cols : List S118) (l' : List Int) (bad' : Bool) (r : List S63) (w : World) (hG : GW w) (h2 : 2 ≤ N) (hR : Rdr N w g l bad)
    (hC : Kd.R k118 118 w base (fun _ => True) (.slice A1 cols.length c1) cols) (hgb : g < base) (h : rd_row k l bad nm cols = some (l', bad', r)) :
    Calls Tryz.prog 57 #[.pointer (some ⟨g, 0, none⟩), .agg #[.string nm, .slice A1 cols.length c1]] w fun e w' => ∃ v : Value, e = .returned v ∧ Kd.R k63 63 w' w.heap.size (fun _ => True) v r ∧ Rdr N w' g l' bad' ∧ On g w w' := by
  have hu1 := Tryz.underlying80
  have hu2 := Tryz.underlying59
  have hN := hR.choose_spec.choose_spec.2.2
  have HN := Aside0.mk hN
  have HZ := Aside0.mk (show g < w.heap.size from blk_lt hR.choose_spec.choose_spec.1)
  have HG2 := Aside0.mk (show 2 ≤ g from by omega)
  clear hN h2
  have HR := Aside0.mk hR
  have HG := Aside0.mk hG
  have HC := Aside0.mk hC
  have HGB := Aside0.mk hgb
  clear hR hG hC hgb
  obtain ⟨⟨t1, t2, t3⟩, hT, h⟩ := Option.bind_eq_some_iff.mp h
  have HT := Aside0.mk hT
  clear hT
  dsimp only at h
  have c1 : t3.size ≤ 9223372036854775807 := Classical.byContradiction fun c1 => by rw [if_neg c1] at h; cases h
  rw [if_pos c1] at h
  have HS := Aside0.mk c1
  clear c1
  obtain ⟨⟨d1, d2⟩, hD, h⟩ := Option.bind_eq_some_iff.mp h
  have HD := Aside0.mk hD
  clear hD
  dsimp only at h
  simp only [Option.some.injEq, Prod.mk.injEq] at h
  obtain ⟨rfl, rfl, rfl⟩ := h
  cases t2 <;> cases d2
  all_goals
    go_enter Tryz.func57, Tryz.ntmps57
    go_wp2_with (first | ((with_reducible refine qgd (N := 3) rfl ?_); refine qbe ?hg (N := 3) ?hd (cs := #[.string nm, .slice A1 cols.length c1]) (t := 59) ?hr ?_; (case hd => rfl); (case hg => rfl); (case hr => first | (go_simp; done) | (go_simp; rfl)); intro g3 hg w1 hbox hb; have BK := Aside0.mk hbox; have HB := Aside0.mk hb; have R1_ := Aside0.mk (rdr_below HR.out hb); have C1_ := Aside0.mk (Kd.R_below HC.out hb); have N3 := Aside0.mk (show g3 ≠ g from by have := HZ.out; omega); have G3 := Aside0.mk (show w.heap.size ≤ g3 from Nat.le_of_eq hg.symm); have z0 : w1.cell? ⟨g3, 0, none⟩ = some (.string nm) := (qkc hbox 0).trans rfl; have z1 : w1.cell? ⟨g3, 1, none⟩ = some (.slice A1 cols.length c1) := (qkc hbox 1).trans rfl; clear hb hbox hg))
    have RD := Aside0.mk (show Rdr N w1.drew g l bad from rdr_below R1_.out (qb1 (Below.refl _ _)))
    have CD := Aside0.mk (show Kd.R k118 118 w1.drew base (fun _ => True) (.slice A1 cols.length c1) cols from Kd.R_drew C1_.out)
    have BD := Aside0.mk (show w1.drew.heap[g3]? = some (.cells #[.string nm, .slice A1 cols.length c1] 59 (0, 0)) from BK.out)
    have HBD := Aside0.mk (show Below w.heap.size w w1.drew from qb1 HB.out)
    have kc := fun (W : World) (s : ByteArray) => print_bytes (P := Tryz.prog) 9 27 5 Tryz.underlying9 Tryz.underlying27 Tryz.underlying5 s W
    clear R1_ C1_ BK HB
    go_region_with (first
      | (go_at_call 66; (with_reducible refine (rd_text_calls k N g l bad t1 _ t3 _ RD.out HT.out).mono ?_); rintro e w2 ⟨rfl, R1, O1⟩; have R2_ := Aside0.mk R1; have O2_ := Aside0.mk ((On.of_below HBD.out).trans O1); have BK2 := Aside0.mk ((O1.block g3 (blk_lt BD.out) N3.out).trans BD.out); have C2_ := Aside0.mk (R_on CD.out HGB.out O1); have y0 : w2.cell? ⟨g3, 0, none⟩ = some (.string nm) := (qkc BK2.out 0).trans rfl; have y1 : w2.cell? ⟨g3, 1, none⟩ = some (.slice A1 cols.length c1) := (qkc BK2.out 1).trans rfl; have B3 := Aside0.mk (bytes_below (Below.refl w2.heap.size w2) (Nat.le_refl _) 5 t3); have x0 : (Lib.bytesWorld w2 5 t3).cell? ⟨g3, 0, none⟩ = some (.string nm) := (qkc (qkb BK2.out B3.out) 0).trans rfl; have x1 : (Lib.bytesWorld w2 5 t3).cell? ⟨g3, 1, none⟩ = some (.slice A1 cols.length c1) := (qkc (qkb BK2.out B3.out) 1).trans rfl; clear R1 O1)
      | (go_at_call 77; (with_reducible refine (decode_bytes k nm A1 c1 cols t3 d1 _ w2 (Kd.R_reads' C2_.out).2.2 (Kd.R_reads' C2_.out).2.1 HS.out HD.out).mono ?_); rintro e w4 ⟨v0, rfl, V0, B4⟩; have V0_ := Aside0.mk V0; have R4_ := Aside0.mk (rdr_below R2_.out B4); have O4_ := Aside0.mk (O2_.out.trans (On.of_below B4)); have L1_ := Aside0.mk O2_.out.size; clear V0 B4))
    all_goals
      have ⟨A, c, hcells, hV, _⟩ := R4_.out
      have HB := Aside0.mk hcells
      have HV := Aside0.mk hV
      have hcz0 := qkc hcells 0
      have hcz1 := qkc hcells 1
      have hfz1 := qkf hcells 1
      simp only [List.getElem?_toArray, List.getElem?_cons_zero, List.getElem?_cons_succ] at hcz0 hcz1
      clear hcells hV
      try simp only [errW_none, errW_some]
      go_wp2
      go_ret
      exact ⟨_, rfl, Kd.R_move (Kd.R_bound (Kd.R_lower V0_.out L1_.out)) (fun k_ hk_ => Below.heap_setCell _ ⟨g, 1, none⟩ _ k_ (by have := HZ.out; have := hk_.2.1; show k_ ≠ g; omega)) |> fun h_ => Kd.R_mono h_ (fun _ _ => trivial), rdr_bad HN.out HB.out HV.out _, O4_.out.set 1 _⟩
def rd_write (k : Nat) (tl : List S59) (l : List Int) (bad : Bool) : Option (List Int × Bool × S68) :=
  (rd_uint k l bad 32).bind fun u => (cat_Table.f tl u.2.2).bind fun t =>
    if t.2.2.isNone = true then
      (if ((rd_byte u.1 u.2.1 1).2.2 == 1) = true then
        (rd_values k (rd_byte u.1 u.2.1 1).1 (rd_byte u.1 u.2.1 1).2.1).bind fun v => (row_KeyOf.f k t.1 t.2.1 v.2.2).bind fun q => some (v.1, (v.2.1 || !q.2.isNone), ⟨t.1, true, v.2.2⟩)
      else (rd_row k (rd_byte u.1 u.2.1 1).1 (rd_byte u.1 u.2.1 1).2.1 t.1 t.2.1).bind fun v => some (v.1, v.2.1, ⟨t.1, false, v.2.2⟩))
    else some (u.1, true, z68)
theorem blk_on {g g' : Nat} {w w' : World} {o : Obj} (h : w.heap[g']? = some o) (hne : g' ≠ g) (ho : On g w w') : w'.heap[g']? = some o := (ho.block g' (blk_lt h) hne).trans h
set_option maxHeartbeats 8000000 in
set_option maxRecDepth 100000 in
theorem rd_write_calls (k : Nat) (N g : Nat) (tl : List S59) (l : List Int) (bad : Bool) (l' : List Int) (bad' : Bool) (r : S68) (w0 w : World) (A0 : Option Addr) (hG : GW w) (h2 : 2 ≤ N) (hR : Rdr N w g l bad)
    (hCat : Cat w0 A0 tl.length tl) (hB0 : Below w0.heap.size w0 w) (hg0 : w0.heap.size ≤ g) (h : rd_write k tl l bad = some (l', bad', r)) :
    Calls Tryz.prog 31 #[.pointer (some ⟨g, 0, none⟩), .pointer A0] w fun e w' => ∃ v : Value, e = .returned (.agg #[.string r.f0, .bool r.f1, v]) ∧ Kd.R k63 63 w' w.heap.size (fun _ => True) v r.f2 ∧ Rdr N w' g l' bad' ∧ On g w w' := by
  have hu1 := Tryz.underlying80
  have hu2 := Tryz.underlying59
  have hu3 := Tryz.underlying68
  have hu4 := Tryz.underlying65
  have hN := hR.choose_spec.choose_spec.2.2
  have HN := Aside0.mk hN
  have HZ := Aside0.mk (show g < w.heap.size from blk_lt hR.choose_spec.choose_spec.1)
  have HG2 := Aside0.mk (show 2 ≤ g from by omega)
  have H2 := Aside0.mk h2
  clear hN h2
  have HR := Aside0.mk hR
  have HG := Aside0.mk hG
  have HCat := Aside0.mk hCat
  have HB0 := Aside0.mk hB0
  have HG0 := Aside0.mk hg0
  clear hR hG hCat hB0 hg0
  obtain ⟨⟨u1, u2, u3⟩, hU, h⟩ := Option.bind_eq_some_iff.mp h
  have HU := Aside0.mk hU
  clear hU
  dsimp only at h
  obtain ⟨⟨t1, t2, t3⟩, hT, h⟩ := Option.bind_eq_some_iff.mp h
  have HT := Aside0.mk hT
  clear hT
  dsimp only at h
  cases t3 with
  | some q =>
    rw [if_neg (by simp)] at h
    simp only [Option.some.injEq, Prod.mk.injEq] at h
    obtain ⟨rfl, rfl, rfl⟩ := h
    go_enter Tryz.func31, Tryz.ntmps31
    go_wp2_with (first
      | ((with_reducible refine qgd (N := 4) rfl ?_); refine qbe ?hg (N := 4) ?hd (cs := #[.string (⟨#[]⟩ : ByteArray), .bool false, .slice none 0 0]) (t := 68) ?hr ?_; (case hd => rfl); (case hg => rfl); (case hr => first | (go_simp; done) | (go_simp; rfl)); intro g4 hg w1 hbox hb; have BK4 := Aside0.mk hbox; have HB := Aside0.mk hb; have R1_ := Aside0.mk (rdr_below HR.out hb); have N4 := Aside0.mk (show g4 ≠ g from by have := HZ.out; omega); have G4 := Aside0.mk (show w.heap.size ≤ g4 from Nat.le_of_eq hg.symm); clear hb hbox hg)
      | (go_at_call 29; (with_reducible refine (rd_uint_calls k N g l bad 32 _ _ _ _ (by omega) R1_.out HU.out).mono ?_); rintro e w2 ⟨rfl, R2, O2⟩; have R2_ := Aside0.mk R2; have O2_ := Aside0.mk ((On.of_below HB.out).trans O2); have BK4_2 := Aside0.mk (blk_on BK4.out N4.out O2); clear R2 O2)
      | (go_at_call 56; (with_reducible refine (cat_Table.calls A0 tl.length tl u3 t1 t2 _ w2 (cat_below HCat.out (On.below O2_.out HB0.out HG0.out (Nat.le_refl _))) (Nat.le_refl _) HT.out).mono ?_); rintro e w3 ⟨v1, rfl, ho, hb⟩; have HO := Aside0.mk ho; have R3_ := Aside0.mk (rdr_below R2_.out hb); have O3_ := Aside0.mk (O2_.out.trans (On.of_below hb)); have BK4_3 := Aside0.mk (qkb BK4_2.out hb); clear ho hb; obtain ⟨Ao, co, eo⟩ := Kd.R_slice HO.out; subst eo; (try simp only [errW_none, errW_some]); have ⟨A, c, hcells, hV, _⟩ := R3_.out; have HBK := Aside0.mk hcells; have HV := Aside0.mk hV; have hlt := blk_lt hcells; have hlt4 := blk_lt BK4_3.out; have hne := N4.out; have z0 := qkc hcells 0; have z1 := qkc hcells 1; have f1 := qkf hcells 1; have y0 := qkc BK4_3.out 0; have y1 := qkc BK4_3.out 1; have y2 := qkc BK4_3.out 2; have e0 := qkf BK4_3.out 0; have e1 := qkf BK4_3.out 1; have e2 := qkf BK4_3.out 2; simp only [List.getElem?_toArray, List.getElem?_cons_zero, List.getElem?_cons_succ] at z0 z1 y0 y1 y2; clear hcells hV))
    have K1 := qkr BK4_3.out (p := ⟨g, 1, none⟩) N4.out (.bool true)
    have K2 := qkp (cs' := #[.string (⟨#[]⟩ : ByteArray), .bool false, .slice none 0 0]) (qkp (cs' := #[.string (⟨#[]⟩ : ByteArray), .bool false, .slice none 0 0]) (qkp (cs' := #[.string (⟨#[]⟩ : ByteArray), .bool false, .slice none 0 0]) K1 0 (.string (⟨#[]⟩ : ByteArray)) rfl) 1 (.bool false) rfl) 2 (.slice none 0 0) rfl
    refine bodyPost_ret (results_cell_row rfl _ _ g4 68 #[.string (⟨#[]⟩ : ByteArray), .bool false, .slice none 0 0] (0, 0) _ rfl (qka K2 _) Tryz.underlying68 rfl (by kernel_rfl)) rfl ?_
    exact ⟨_, rfl, Kd.R_nil _ _ _ _ _, rdr_below (rdr_on (rdr_bad HN.out HBK.out HV.out true) ((((On.refl g4 _).set 0 _).set 1 _).set 2 _) N4.out.symm (Nat.le_trans HN.out (Nat.le_of_lt (Nat.lt_of_lt_of_le HZ.out G4.out)))) (below_alloc (Below.refl _ _) _),
      ((((O3_.out.set 1 _).put G4.out 0 _).put G4.out 1 _).put G4.out 2 _).trans (On.of_below (below_alloc (Below.refl _ _) _))⟩
  | none =>
    rw [if_pos (show (none : Option Int).isNone = true from rfl)] at h
    have HH := Aside0.mk h
    clear h
    go_enter Tryz.func31, Tryz.ntmps31
    go_wp2_with (first
      | ((with_reducible refine qgd (N := 4) rfl ?_); refine qbe ?hg (N := 4) ?hd (cs := #[.string (⟨#[]⟩ : ByteArray), .bool false, .slice none 0 0]) (t := 68) ?hr ?_; (case hd => rfl); (case hg => rfl); (case hr => first | (go_simp; done) | (go_simp; rfl)); intro g4 hg w1 hbox hb; have BK4 := Aside0.mk hbox; have HB := Aside0.mk hb; have R1_ := Aside0.mk (rdr_below HR.out hb); have N4 := Aside0.mk (show g4 ≠ g from by have := HZ.out; omega); have G4 := Aside0.mk (show w.heap.size ≤ g4 from Nat.le_of_eq hg.symm); clear hb hbox hg)
      | (go_at_call 29; (with_reducible refine (rd_uint_calls k N g l bad 32 _ _ _ _ (by omega) R1_.out HU.out).mono ?_); rintro e w2 ⟨rfl, R2, O2⟩; have R2_ := Aside0.mk R2; have O2_ := Aside0.mk ((On.of_below HB.out).trans O2); have BK4_2 := Aside0.mk (blk_on BK4.out N4.out O2); clear R2 O2)
      | (go_at_call 56; (with_reducible refine (cat_Table.calls A0 tl.length tl u3 t1 t2 _ w2 (cat_below HCat.out (On.below O2_.out HB0.out HG0.out (Nat.le_refl _))) (Nat.le_refl _) HT.out).mono ?_); rintro e w3 ⟨v1, rfl, ho, hb⟩; have HO := Aside0.mk ho; have R3_ := Aside0.mk (rdr_below R2_.out hb); have O3_ := Aside0.mk (O2_.out.trans (On.of_below hb)); have BK4_3 := Aside0.mk (qkb BK4_2.out hb); have L2 := Aside0.mk O2_.out.size; clear ho hb; obtain ⟨Ao, co, eo⟩ := Kd.R_slice HO.out; subst eo; (try simp only [errW_none, errW_some]))
      | ((with_reducible refine qgd (N := 5) rfl ?_); refine qbe ?hg (N := 5) ?hd (cs := #[.string (⟨#[]⟩ : ByteArray), .slice none 0 0]) (t := 59) ?hr ?_; (case hd => rfl); (case hg => rfl); (case hr => first | (go_simp; done) | (go_simp; rfl)); intro g5 hg w4 hbox hb; have BK5 := Aside0.mk hbox; have BK4_4 := Aside0.mk (qkb BK4_3.out hb); have R4_ := Aside0.mk (rdr_below R3_.out hb); have O4_ := Aside0.mk (O3_.out.trans (On.of_below hb)); have HO4 := Aside0.mk (Kd.R_below HO.out hb); have N5 := Aside0.mk (show g5 ≠ g from by have := HZ.out; have := O3_.out.size; omega); have N54 := Aside0.mk (show g5 ≠ g4 from by have := blk_lt BK4_3.out; omega); have G5 := Aside0.mk (show w.heap.size ≤ g5 from by have := O3_.out.size; omega); have y0 := qkc hbox 0; have y1 := qkc hbox 1; have e0 := qkf hbox 0; have e1 := qkf hbox 1; simp only [List.getElem?_toArray, List.getElem?_cons_zero, List.getElem?_cons_succ] at y0 y1; clear hb hbox hg))
    have BK5b := Aside0.mk (qkp (cs' := #[.string t1, .slice Ao t2.length co]) (qkp (cs' := #[.string t1, .slice none 0 0]) BK5.out 0 (.string t1) rfl) 1 (.slice Ao t2.length co) rfl)
    have BK4b := Aside0.mk (qkr (p := ⟨g5, 1, none⟩) (qkr (p := ⟨g5, 0, none⟩) BK4_4.out N54.out.symm (.string t1)) N54.out.symm (.slice Ao t2.length co))
    have R5_ := Aside0.mk (rdr_on R4_.out (((On.refl g5 _).set 0 (.string t1)).set 1 (.slice Ao t2.length co)) N5.out.symm (Nat.le_trans HN.out (Nat.le_of_lt (Nat.lt_of_lt_of_le HZ.out G5.out))))
    have O5_ := Aside0.mk ((O4_.out.put G5.out 0 (.string t1)).put G5.out 1 (.slice Ao t2.length co))
    have HO5 := Aside0.mk (Kd.R_set (Kd.R_set HO4.out BK5.out (by decide) 0 (.string t1)) (qkp (cs' := #[.string t1, .slice none 0 0]) BK5.out 0 (.string t1) rfl) (by decide) 1 (.slice Ao t2.length co))
    clear BK5 BK4_4 R4_ O4_ HO4 y0 y1 e0 e1
    generalize (w4.setCell ⟨g5, 0, none⟩ (.string t1)).setCell ⟨g5, 1, none⟩ (.slice Ao t2.length co) = w5 at BK5b BK4b R5_ O5_ HO5 ⊢
    have RD := Aside0.mk (show Rdr N w5.drew g u1 u2 from rdr_below R5_.out (qb1 (Below.refl _ _)))
    have OD := Aside0.mk (show On g w w5.drew from O5_.out.trans (On.of_below (qb1 (Below.refl _ _))))
    have BD5 := Aside0.mk (show w5.drew.heap[g5]? = some (.cells #[.string t1, .slice Ao t2.length co] 59 (0, 0)) from BK5b.out)
    have BD4 := Aside0.mk (show w5.drew.heap[g4]? = some (.cells #[.string (⟨#[]⟩ : ByteArray), .bool false, .slice none 0 0] 68 (0, 0)) from BK4b.out)
    have HOD := Aside0.mk (show Kd.R k118 118 w5.drew w2.heap.size (fun _ => True) (.slice Ao t2.length co) t2 from Kd.R_drew HO5.out)
    have HW2 := Aside0.mk (show g < w2.heap.size from Nat.lt_of_lt_of_le HZ.out L2.out)
    have hl5 : g5 < w5.heap.size := blk_lt BK5b.out
    have hn5 : ¬ g5 = w5.heap.size := Nat.ne_of_lt hl5
    have y0d : w5.drew.cell? ⟨g5, 0, none⟩ = some (.string t1) := (qkc BD5.out 0).trans rfl
    have y0a : (w5.alloc (.cells #[.string (⟨#[]⟩ : ByteArray), .bool false, .slice none 0 0] 68 (0, 0))).drew.cell? ⟨g5, 0, none⟩ = some (.string t1) := (qkc (qkd (qka BK5b.out _)) 0).trans rfl
    have y0 := qkc BK5b.out 0
    simp only [List.getElem?_toArray, List.getElem?_cons_zero, List.getElem?_cons_succ] at y0
    generalize hy : rd_byte u1 u2 1 = y at HH
    obtain ⟨y1, y2, y3⟩ := y
    have HY := Aside0.mk hy
    clear hy
    dsimp only at HH
    cases hv : (y3 == 1) with
    | false =>
      have h := HH.out
      rw [hv] at h
      rw [if_neg (by decide)] at h
      obtain ⟨⟨v1, v2, v3⟩, hr, h⟩ := Option.bind_eq_some_iff.mp h
      have HV := Aside0.mk hr
      clear hr HH
      simp only [Option.some.injEq, Prod.mk.injEq] at h
      obtain ⟨rfl, rfl, rfl⟩ := h
      go_region_with (first
      | (go_at_call 28; (with_reducible refine (rd_byte_calls N g u1 u2 1 w5.drew RD.out).mono ?_); rw [HY.out]; dsimp only; rintro e w6 ⟨rfl, R6, O6⟩; have R6_ := Aside0.mk R6; have O6_ := Aside0.mk (OD.out.trans O6); have z0 : w6.cell? ⟨g5, 0, none⟩ = some (.string t1) := (qkc (blk_on BD5.out N5.out O6) 0).trans rfl; have za : (w6.alloc (.cells #[.string (⟨#[]⟩ : ByteArray), .bool false, .slice none 0 0] 68 (0, 0))).cell? ⟨g5, 0, none⟩ = some (.string t1) := (qkc (qka (blk_on BD5.out N5.out O6) _) 0).trans rfl; have ha := blk_lt (blk_on BD5.out N5.out O6); have hna := Nat.ne_of_lt ha; have B5_6 := Aside0.mk (blk_on BD5.out N5.out O6); have B4_6 := Aside0.mk (blk_on BD4.out N4.out O6); have HO6 := Aside0.mk (R_on HOD.out HW2.out O6); clear R6 O6)
      | (go_at_call 28; (with_reducible refine (rd_byte_calls N g u1 u2 1 ((w5.alloc (.cells #[.string (⟨#[]⟩ : ByteArray), .bool false, .slice none 0 0] 68 (0, 0))).drew) (rdr_below R5_.out (qb1 (below_alloc (Below.refl _ _) _)))).mono ?_); rw [HY.out]; dsimp only; rintro e w6 ⟨rfl, R6, O6⟩; have R6_ := Aside0.mk R6; have O6_ := Aside0.mk ((O5_.out.trans (On.of_below (qb1 (below_alloc (Below.refl _ _) _)))).trans O6); have z0 : w6.cell? ⟨g5, 0, none⟩ = some (.string t1) := (qkc (blk_on (qkd (qka BK5b.out _)) N5.out O6) 0).trans rfl; have B5_6 := Aside0.mk (blk_on (qkd (qka BK5b.out _)) N5.out O6); have B4_6 := Aside0.mk (blk_on (qkd (qka BK4b.out _)) N4.out O6); have HO6 := Aside0.mk (R_on (Kd.R_drew (Kd.R_alloc HO5.out _)) HW2.out O6); have B7 := blk_on (qkd (blk_new w5 (.cells #[.string (⟨#[]⟩ : ByteArray), .bool false, .slice none 0 0] 68 (0, 0)))) (Nat.ne_of_gt (blk_lt R5_.out.choose_spec.choose_spec.1)) O6; have x0 := qkc B7 0; have x1 := qkc B7 1; have x2 := qkc B7 2; have q0 := qkf B7 0; have q1 := qkf B7 1; have q2 := qkf B7 2; simp only [List.getElem?_toArray, List.getElem?_cons_zero, List.getElem?_cons_succ] at x0 x1 x2; have B7_6 := Aside0.mk B7; clear R6 O6 B7))
      all_goals
        first
        | (have B7 := Aside0.mk (blk_new w6 (.cells #[.string t1, .bool false, .slice none 0 0] 68 (0, 0))); have R7 := Aside0.mk (rdr_below R6_.out (below_alloc (Below.refl _ _) (.cells #[.string t1, .bool false, .slice none 0 0] 68 (0, 0)))); have O7 := Aside0.mk (O6_.out.trans (On.of_below (below_alloc (Below.refl _ _) (.cells #[.string t1, .bool false, .slice none 0 0] 68 (0, 0))))); have B5_7 := Aside0.mk (qka B5_6.out (.cells #[.string t1, .bool false, .slice none 0 0] 68 (0, 0))); have B4_7 := Aside0.mk (qka B4_6.out (.cells #[.string t1, .bool false, .slice none 0 0] 68 (0, 0))); have HO7 := Aside0.mk (Kd.R_alloc HO6.out (.cells #[.string t1, .bool false, .slice none 0 0] 68 (0, 0))); have N7 := Aside0.mk (Nat.ne_of_gt (blk_lt R6_.out.choose_spec.choose_spec.1)); have N75 := Aside0.mk (Nat.ne_of_gt (blk_lt B5_6.out)); have N74 := Aside0.mk (Nat.ne_of_gt (blk_lt B4_6.out)); have G7 := Aside0.mk (show w.heap.size ≤ w6.heap.size from O6_.out.size); clear za ha hna z0 B5_6 B4_6 HO6 R6_ O6_; generalize w6.alloc (.cells #[.string t1, .bool false, .slice none 0 0] 68 (0, 0)) = w7 at B7 R7 O7 B5_7 B4_7 HO7 ⊢; generalize w6.heap.size = g7 at B7 N7 N75 N74 G7 ⊢)
        | (have N7 := Aside0.mk (show w5.heap.size ≠ g from Nat.ne_of_gt (blk_lt R5_.out.choose_spec.choose_spec.1)); have N75 := Aside0.mk (show w5.heap.size ≠ g5 from Nat.ne_of_gt (blk_lt BK5b.out)); have N74 := Aside0.mk (show w5.heap.size ≠ g4 from Nat.ne_of_gt (blk_lt BK4b.out)); have G7 := Aside0.mk (show w.heap.size ≤ w5.heap.size from O5_.out.size); have P1 := qkp (cs' := #[.string t1, .bool false, .slice none 0 0]) B7_6.out 0 (.string t1) rfl; have P2 := qkp (cs' := #[.string t1, .bool false, .slice none 0 0]) P1 1 (.bool false) rfl; have B7 := Aside0.mk (qkp (cs' := #[.string t1, .bool false, .slice none 0 0]) P2 2 (.slice none 0 0) rfl); have R7 := Aside0.mk (rdr_on R6_.out ((((On.refl w5.heap.size _).set 0 (.string t1)).set 1 (.bool false)).set 2 (.slice none 0 0)) N7.out.symm (Nat.le_trans HN.out (Nat.le_of_lt (Nat.lt_of_lt_of_le HZ.out G7.out)))); have O7 := Aside0.mk (((O6_.out.put G7.out 0 (.string t1)).put G7.out 1 (.bool false)).put G7.out 2 (.slice none 0 0)); have B5_7 := Aside0.mk (qkr (p := ⟨w5.heap.size, 2, none⟩) (qkr (p := ⟨w5.heap.size, 1, none⟩) (qkr (p := ⟨w5.heap.size, 0, none⟩) B5_6.out N75.out.symm (.string t1)) N75.out.symm (.bool false)) N75.out.symm (.slice none 0 0)); have B4_7 := Aside0.mk (qkr (p := ⟨w5.heap.size, 2, none⟩) (qkr (p := ⟨w5.heap.size, 1, none⟩) (qkr (p := ⟨w5.heap.size, 0, none⟩) B4_6.out N74.out.symm (.string t1)) N74.out.symm (.bool false)) N74.out.symm (.slice none 0 0)); have HO7 := Aside0.mk (Kd.R_set (Kd.R_set (Kd.R_set HO6.out B7_6.out (by decide) 0 (.string t1)) P1 (by decide) 1 (.bool false)) P2 (by decide) 2 (.slice none 0 0)); clear P1 P2 z0 x0 x1 x2 q0 q1 q2 B7_6 B5_6 B4_6 HO6 R6_ O6_; generalize ((w6.setCell ⟨w5.heap.size, 0, none⟩ (.string t1)).setCell ⟨w5.heap.size, 1, none⟩ (.bool false)).setCell ⟨w5.heap.size, 2, none⟩ (.slice none 0 0) = w7 at B7 R7 O7 B5_7 B4_7 HO7 ⊢; generalize w5.heap.size = g7 at B7 N7 N75 N74 G7 R7 O7 B5_7 B4_7 HO7 ⊢)
      all_goals
        clear hv hl5 hn5 y0d y0a R5_ O5_ BK5b BK4b HO5 RD OD BD5 BD4 HOD
        have hp0 := qkc B7.out 1
        have hp1 := qkc B5_7.out 0
        have hp2 := qkc B5_7.out 1
        simp only [List.getElem?_toArray, List.getElem?_cons_zero, List.getElem?_cons_succ] at hp0 hp1 hp2
        go_wp2_with (first
          | (go_at_call 57; (with_reducible refine (rd_row_calls k N g y1 y2 t1 Ao co w2.heap.size t2 v1 v2 v3 w7 (GW_on HG.out HG2.out O7.out) H2.out R7.out HO7.out HW2.out HV.out).mono ?_); rintro e w8 ⟨v, rfl, RV, R8, O8⟩; have RV_ := Aside0.mk (Kd.R_lower RV O7.out.size); have R8_ := Aside0.mk R8; have O8_ := Aside0.mk (O7.out.trans O8); have B7_8 := Aside0.mk (blk_on B7.out N7.out O8); have B4_8 := Aside0.mk (blk_on B4_7.out N4.out O8); obtain ⟨Av, cv, ev⟩ := Kd.R_slice RV; subst ev; clear RV R8 O8; have x0 := qkc B7_8.out 0; have x1 := qkc B7_8.out 1; have x2 := qkc B7_8.out 2; have q2 := qkf B7_8.out 2; have s0 := qkc B4_8.out 0; have s1 := qkc B4_8.out 1; have s2 := qkc B4_8.out 2; have r0 := qkf B4_8.out 0; have r1 := qkf B4_8.out 1; have r2 := qkf B4_8.out 2; have hne := N74.out; have hne2 := N74.out.symm; simp only [List.getElem?_toArray, List.getElem?_cons_zero, List.getElem?_cons_succ] at x0 x1 x2 s0 s1 s2))
      all_goals
        have K0 := qkr (p := ⟨g7, 2, none⟩) B4_8.out N74.out.symm (.slice Av v3.length cv)
        have K1 := qkp (cs' := #[.string t1, .bool false, .slice none 0 0]) K0 0 (.string t1) rfl
        have K2 := qkp (cs' := #[.string t1, .bool false, .slice none 0 0]) K1 1 (.bool false) rfl
        have K3 := qkp (cs' := #[.string t1, .bool false, .slice Av v3.length cv]) K2 2 (.slice Av v3.length cv) rfl
        refine bodyPost_ret (results_cell_row rfl _ _ g4 68 #[.string t1, .bool false, .slice Av v3.length cv] (0, 0) _ rfl K3 Tryz.underlying68 rfl (by kernel_rfl)) rfl ?_
        exact ⟨_, rfl, Kd.R_set (Kd.R_set (Kd.R_set (Kd.R_set RV_.out B7_8.out (by decide) 2 _) K0 (by decide) 0 _) K1 (by decide) 1 _) K2 (by decide) 2 _,
          rdr_on (rdr_on R8_.out ((On.refl g7 _).set 2 _) N7.out.symm (Nat.le_trans HN.out (Nat.le_of_lt (Nat.lt_of_lt_of_le HZ.out G7.out)))) ((((On.refl g4 _).set 0 _).set 1 _).set 2 _) N4.out.symm (Nat.le_trans HN.out (Nat.le_of_lt (Nat.lt_of_lt_of_le HZ.out G4.out))),
          (((O8_.out.put G7.out 2 _).put G4.out 0 _).put G4.out 1 _).put G4.out 2 _⟩
    | true =>
      have h := HH.out
      rw [hv] at h
      rw [if_pos rfl] at h
      obtain ⟨⟨v1, v2, v3⟩, hr, h⟩ := Option.bind_eq_some_iff.mp h
      have HV := Aside0.mk hr
      dsimp only at h
      obtain ⟨⟨q1, q2⟩, hq, h⟩ := Option.bind_eq_some_iff.mp h
      have HQ := Aside0.mk hq
      clear hr hq HH
      simp only [Option.some.injEq, Prod.mk.injEq] at h
      obtain ⟨rfl, rfl, rfl⟩ := h
      go_region_with (first
      | (go_at_call 28; (with_reducible refine (rd_byte_calls N g u1 u2 1 w5.drew RD.out).mono ?_); rw [HY.out]; dsimp only; rintro e w6 ⟨rfl, R6, O6⟩; have R6_ := Aside0.mk R6; have O6_ := Aside0.mk (OD.out.trans O6); have z0 : w6.cell? ⟨g5, 0, none⟩ = some (.string t1) := (qkc (blk_on BD5.out N5.out O6) 0).trans rfl; have za : (w6.alloc (.cells #[.string (⟨#[]⟩ : ByteArray), .bool false, .slice none 0 0] 68 (0, 0))).cell? ⟨g5, 0, none⟩ = some (.string t1) := (qkc (qka (blk_on BD5.out N5.out O6) _) 0).trans rfl; have ha := blk_lt (blk_on BD5.out N5.out O6); have hna := Nat.ne_of_lt ha; have B5_6 := Aside0.mk (blk_on BD5.out N5.out O6); have B4_6 := Aside0.mk (blk_on BD4.out N4.out O6); have HO6 := Aside0.mk (R_on HOD.out HW2.out O6); clear R6 O6)
      | (go_at_call 28; (with_reducible refine (rd_byte_calls N g u1 u2 1 ((w5.alloc (.cells #[.string (⟨#[]⟩ : ByteArray), .bool false, .slice none 0 0] 68 (0, 0))).drew) (rdr_below R5_.out (qb1 (below_alloc (Below.refl _ _) _)))).mono ?_); rw [HY.out]; dsimp only; rintro e w6 ⟨rfl, R6, O6⟩; have R6_ := Aside0.mk R6; have O6_ := Aside0.mk ((O5_.out.trans (On.of_below (qb1 (below_alloc (Below.refl _ _) _)))).trans O6); have z0 : w6.cell? ⟨g5, 0, none⟩ = some (.string t1) := (qkc (blk_on (qkd (qka BK5b.out _)) N5.out O6) 0).trans rfl; have B5_6 := Aside0.mk (blk_on (qkd (qka BK5b.out _)) N5.out O6); have B4_6 := Aside0.mk (blk_on (qkd (qka BK4b.out _)) N4.out O6); have HO6 := Aside0.mk (R_on (Kd.R_drew (Kd.R_alloc HO5.out _)) HW2.out O6); have B7 := blk_on (qkd (blk_new w5 (.cells #[.string (⟨#[]⟩ : ByteArray), .bool false, .slice none 0 0] 68 (0, 0)))) (Nat.ne_of_gt (blk_lt R5_.out.choose_spec.choose_spec.1)) O6; have x0 := qkc B7 0; have x1 := qkc B7 1; have x2 := qkc B7 2; have q0 := qkf B7 0; have q1 := qkf B7 1; have q2 := qkf B7 2; simp only [List.getElem?_toArray, List.getElem?_cons_zero, List.getElem?_cons_succ] at x0 x1 x2; have B7_6 := Aside0.mk B7; clear R6 O6 B7))
      all_goals
        first
        | (have B7 := Aside0.mk (blk_new w6 (.cells #[.string t1, .bool true, .slice none 0 0] 68 (0, 0))); have R7 := Aside0.mk (rdr_below R6_.out (below_alloc (Below.refl _ _) (.cells #[.string t1, .bool true, .slice none 0 0] 68 (0, 0)))); have O7 := Aside0.mk (O6_.out.trans (On.of_below (below_alloc (Below.refl _ _) (.cells #[.string t1, .bool true, .slice none 0 0] 68 (0, 0))))); have B5_7 := Aside0.mk (qka B5_6.out (.cells #[.string t1, .bool true, .slice none 0 0] 68 (0, 0))); have B4_7 := Aside0.mk (qka B4_6.out (.cells #[.string t1, .bool true, .slice none 0 0] 68 (0, 0))); have HO7 := Aside0.mk (Kd.R_alloc HO6.out (.cells #[.string t1, .bool true, .slice none 0 0] 68 (0, 0))); have N7 := Aside0.mk (Nat.ne_of_gt (blk_lt R6_.out.choose_spec.choose_spec.1)); have N75 := Aside0.mk (Nat.ne_of_gt (blk_lt B5_6.out)); have N74 := Aside0.mk (Nat.ne_of_gt (blk_lt B4_6.out)); have G7 := Aside0.mk (show w.heap.size ≤ w6.heap.size from O6_.out.size); clear za ha hna z0 B5_6 B4_6 HO6 R6_ O6_; generalize w6.alloc (.cells #[.string t1, .bool true, .slice none 0 0] 68 (0, 0)) = w7 at B7 R7 O7 B5_7 B4_7 HO7 ⊢; generalize w6.heap.size = g7 at B7 N7 N75 N74 G7 ⊢)
        | (have N7 := Aside0.mk (show w5.heap.size ≠ g from Nat.ne_of_gt (blk_lt R5_.out.choose_spec.choose_spec.1)); have N75 := Aside0.mk (show w5.heap.size ≠ g5 from Nat.ne_of_gt (blk_lt BK5b.out)); have N74 := Aside0.mk (show w5.heap.size ≠ g4 from Nat.ne_of_gt (blk_lt BK4b.out)); have G7 := Aside0.mk (show w.heap.size ≤ w5.heap.size from O5_.out.size); have P1 := qkp (cs' := #[.string t1, .bool false, .slice none 0 0]) B7_6.out 0 (.string t1) rfl; have P2 := qkp (cs' := #[.string t1, .bool true, .slice none 0 0]) P1 1 (.bool true) rfl; have B7 := Aside0.mk (qkp (cs' := #[.string t1, .bool true, .slice none 0 0]) P2 2 (.slice none 0 0) rfl); have R7 := Aside0.mk (rdr_on R6_.out ((((On.refl w5.heap.size _).set 0 (.string t1)).set 1 (.bool true)).set 2 (.slice none 0 0)) N7.out.symm (Nat.le_trans HN.out (Nat.le_of_lt (Nat.lt_of_lt_of_le HZ.out G7.out)))); have O7 := Aside0.mk (((O6_.out.put G7.out 0 (.string t1)).put G7.out 1 (.bool true)).put G7.out 2 (.slice none 0 0)); have B5_7 := Aside0.mk (qkr (p := ⟨w5.heap.size, 2, none⟩) (qkr (p := ⟨w5.heap.size, 1, none⟩) (qkr (p := ⟨w5.heap.size, 0, none⟩) B5_6.out N75.out.symm (.string t1)) N75.out.symm (.bool true)) N75.out.symm (.slice none 0 0)); have B4_7 := Aside0.mk (qkr (p := ⟨w5.heap.size, 2, none⟩) (qkr (p := ⟨w5.heap.size, 1, none⟩) (qkr (p := ⟨w5.heap.size, 0, none⟩) B4_6.out N74.out.symm (.string t1)) N74.out.symm (.bool true)) N74.out.symm (.slice none 0 0)); have HO7 := Aside0.mk (Kd.R_set (Kd.R_set (Kd.R_set HO6.out B7_6.out (by decide) 0 (.string t1)) P1 (by decide) 1 (.bool true)) P2 (by decide) 2 (.slice none 0 0)); clear P1 P2 z0 x0 x1 x2 q0 q1 q2 B7_6 B5_6 B4_6 HO6 R6_ O6_; generalize ((w6.setCell ⟨w5.heap.size, 0, none⟩ (.string t1)).setCell ⟨w5.heap.size, 1, none⟩ (.bool true)).setCell ⟨w5.heap.size, 2, none⟩ (.slice none 0 0) = w7 at B7 R7 O7 B5_7 B4_7 HO7 ⊢; generalize w5.heap.size = g7 at B7 N7 N75 N74 G7 R7 O7 B5_7 B4_7 HO7 ⊢)
      all_goals
        clear hv hl5 hn5 y0d y0a R5_ O5_ BK5b BK4b HO5 RD OD BD5 BD4 HOD
        have hp0 := qkc B7.out 1
        simp only [List.getElem?_toArray, List.getElem?_cons_zero, List.getElem?_cons_succ] at hp0
        cases q2
        all_goals
          go_wp2_with (first
            | (go_at_call 58; (with_reducible refine (rd_values_calls k N g y1 y2 v1 v2 v3 w7 (GW_on HG.out HG2.out O7.out) H2.out R7.out HV.out).mono ?_); rintro e w8 ⟨v, rfl, RV, R8, O8⟩; have RV_ := Aside0.mk (Kd.R_lower RV O7.out.size); have R8_ := Aside0.mk R8; have O8_ := Aside0.mk (O7.out.trans O8); have B7_8 := Aside0.mk (blk_on B7.out N7.out O8); have B5_8 := Aside0.mk (blk_on B5_7.out N5.out O8); have B4_8 := Aside0.mk (blk_on B4_7.out N4.out O8); have HO8 := Aside0.mk (R_on HO7.out HW2.out O8); obtain ⟨Av, cv, ev⟩ := Kd.R_slice RV; subst ev; clear RV R8 O8; have x0 := qkc B7_8.out 0; have x1 := qkc B7_8.out 1; have x2 := qkc B7_8.out 2; have q2 := qkf B7_8.out 2; have hp1 := qkc B5_8.out 0; have hp2 := qkc B5_8.out 1; have hne5 := N75.out; have hne6 := N75.out.symm; simp only [List.getElem?_toArray, List.getElem?_cons_zero, List.getElem?_cons_succ] at x0 x1 x2 hp1 hp2)
            | (go_at_call 47; (with_reducible refine (row_KeyOf.calls k t1 Ao co t2 Av cv v3 q1 _ (w8.setCell ⟨g7, 2, none⟩ (.slice Av v3.length cv)) (Kd.R_reads' (Kd.R_set HO8.out B7_8.out (by decide) 2 (.slice Av v3.length cv))).2.2 (Kd.R_reads' HO8.out).2.1 (Kd.R_reads' (Kd.R_set RV_.out B7_8.out (by decide) 2 (.slice Av v3.length cv))).2.2 (Kd.R_reads' RV_.out).2.1 HQ.out).mono ?_); rintro e w10 ⟨rfl, hb⟩; have P2 := Aside0.mk (qkb (qkp (cs' := #[.string t1, .bool true, .slice Av v3.length cv]) B7_8.out 2 (.slice Av v3.length cv) rfl) hb); have P4 := Aside0.mk (qkb (qkr (p := ⟨g7, 2, none⟩) B4_8.out N74.out.symm (.slice Av v3.length cv)) hb); have R10 := Aside0.mk (rdr_below (rdr_on R8_.out ((On.refl g7 _).set 2 (.slice Av v3.length cv)) N7.out.symm (Nat.le_trans HN.out (Nat.le_of_lt (Nat.lt_of_lt_of_le HZ.out G7.out)))) hb); have RV10 := Aside0.mk (Kd.R_below (Kd.R_set RV_.out B7_8.out (by decide) 2 (.slice Av v3.length cv)) hb); have O10 := Aside0.mk ((O8_.out.put G7.out 2 (.slice Av v3.length cv)).trans (On.of_below hb)); clear hb x0 x1 x2 q2 hp1 hp2; (try simp only [errW_none, errW_some]); have x0 := qkc P2.out 0; have x1 := qkc P2.out 1; have x2 := qkc P2.out 2; have s0 := qkc P4.out 0; have s1 := qkc P4.out 1; have s2 := qkc P4.out 2; have r0 := qkf P4.out 0; have r1 := qkf P4.out 1; have r2 := qkf P4.out 2; have hne := N74.out; have hne2 := N74.out.symm; have hne3 := N7.out; have hne4 := N4.out; have ⟨A, c, hcells, hV, _⟩ := R10.out; have HBK := Aside0.mk hcells; have HVV := Aside0.mk hV; have z1 := qkc hcells 1; have f1 := qkf hcells 1; simp only [List.getElem?_toArray, List.getElem?_cons_zero, List.getElem?_cons_succ] at x0 x1 x2 s0 s1 s2 z1; clear hcells hV))
      all_goals first
        | (have K1 := qkp (cs' := #[.string t1, .bool false, .slice none 0 0]) P4.out 0 (.string t1) rfl; have K2 := qkp (cs' := #[.string t1, .bool true, .slice none 0 0]) K1 1 (.bool true) rfl; have K3 := qkp (cs' := #[.string t1, .bool true, .slice Av v3.length cv]) K2 2 (.slice Av v3.length cv) rfl; refine bodyPost_ret (results_cell_row rfl _ _ g4 68 #[.string t1, .bool true, .slice Av v3.length cv] (0, 0) _ rfl K3 Tryz.underlying68 rfl (by kernel_rfl)) rfl ?_; exact ⟨_, rfl, Kd.R_set (Kd.R_set (Kd.R_set RV10.out P4.out (by decide) 0 _) K1 (by decide) 1 _) K2 (by decide) 2 _, (by simpa using rdr_on R10.out ((((On.refl g4 w10).set 0 (.string t1)).set 1 (.bool true)).set 2 (.slice Av v3.length cv)) N4.out.symm (Nat.le_trans HN.out (Nat.le_of_lt (Nat.lt_of_lt_of_le HZ.out G4.out)))), ((O10.out.put G4.out 0 _).put G4.out 1 _).put G4.out 2 _⟩)
        | (have K0 := qkr (p := ⟨g, 1, none⟩) P4.out N4.out (.bool true); have K1 := qkp (cs' := #[.string t1, .bool false, .slice none 0 0]) K0 0 (.string t1) rfl; have K2 := qkp (cs' := #[.string t1, .bool true, .slice none 0 0]) K1 1 (.bool true) rfl; have K3 := qkp (cs' := #[.string t1, .bool true, .slice Av v3.length cv]) K2 2 (.slice Av v3.length cv) rfl; refine bodyPost_ret (results_cell_row rfl _ _ g4 68 #[.string t1, .bool true, .slice Av v3.length cv] (0, 0) _ rfl K3 Tryz.underlying68 rfl (by kernel_rfl)) rfl ?_; exact ⟨_, rfl, Kd.R_set (Kd.R_set (Kd.R_set (Kd.R_set RV10.out HBK.out (by decide) 1 _) K0 (by decide) 0 _) K1 (by decide) 1 _) K2 (by decide) 2 _, (by simpa using rdr_on (rdr_bad HN.out HBK.out HVV.out true) ((((On.refl g4 _).set 0 (.string t1)).set 1 (.bool true)).set 2 (.slice Av v3.length cv)) N4.out.symm (Nat.le_trans HN.out (Nat.le_of_lt (Nat.lt_of_lt_of_le HZ.out G4.out)))), (((O10.out.set 1 _).put G4.out 0 _).put G4.out 1 _).put G4.out 2 _⟩)
def dd_T6 : Bool × List (List Nat × List Nat) := (true, [([], []), ([0], [0]), ([], []), ([2], [2]), ([3], [3]), ([1, 4, 3], [1, 4]), ([0, 1, 2, 3, 4, 5], []), ([6, 5, 5, 0, 1, 2, 3, 4, 5], [5, 6])])
def dd_B6 : List Nat := [0, 1, 0, 4, 12, 31, 63, 127]
theorem dd_tab6 : rtab .any (opsOf Tryz.f10 6) = dd_T6 := by kernel_rfl
theorem dd_bits6 : waitsOk dd_T6.2 dd_B6 = true := by kernel_rfl
def dd_T11 : Bool × List (List Nat × List Nat) := (true, [([], []), ([0], [0]), ([], []), ([], []), ([2, 3], [2, 3]), ([4], [4]), ([1, 5, 4], [1, 5]), ([0, 1, 2, 3, 4, 5, 6], []), ([7, 6, 6, 0, 1, 2, 3, 4, 5, 6], [6, 7])])
def dd_B11 : List Nat := [0, 1, 0, 0, 12, 28, 63, 127, 255]
theorem dd_tab11 : rtab .any (opsOf Tryz.f10 11) = dd_T11 := by kernel_rfl
theorem dd_bits11 : waitsOk dd_T11.2 dd_B11 = true := by kernel_rfl
theorem below_weaken2_ {n B : Nat} {w a b : World} (h : Below n w a) (k : Below B a b) (hn : n ≤ B) : Below n w b :=
  ⟨k.os.trans h.os, k.tape.trans h.tape, k.output.trans h.output, Nat.le_trans h.size k.size, fun i hi => (k.block i (by omega)).trans (h.block i hi)⟩
def dd_l1 (n : Int) : Nat → Int → List Int → Bool → List Int → Option (List Int × Bool × List Int)
  | 0, _, _, _, _ => none
  | k + 1, i, l, bad, acc => if i < n then (if acc.length < 17592186044416 then (rd_uint k l bad 9223372036854775807).bind fun u => dd_l1 n k (wrap64 (i + 1)) u.1 u.2.1 (acc ++ [u.2.2]) else none) else some (l, bad, acc)
def dd_l2 (tl : List S59) (n : Int) : Nat → Int → List Int → Bool → List S68 → Option (List Int × Bool × List S68)
  | 0, _, _, _, _ => none
  | k + 1, i, l, bad, acc => if i < n then (if bad = true then some (l, true, acc) else if acc.length < 2932031007401 then (rd_write k tl l false).bind fun u => dd_l2 tl n k (wrap64 (i + 1)) u.1 u.2.1 (acc ++ [u.2.2]) else none) else some (l, bad, acc)
def store_DecodeDone.f (k : Nat) (tl : List S59) (l0 : List Int) : Option (Int × Int × List Int × List S68 × Option Int) :=
  (rd_uint k (rd_byte l0 false 1).1 ((rd_byte l0 false 1).2.2 != 1) 9223372036854775807).bind fun nu => (rd_uint k nu.1 nu.2.1 16).bind fun cn => (dd_l1 cn.2.2 k 0 cn.1 cn.2.1 []).bind fun d =>
    (rd_uint k d.1 d.2.1 (d.1.length : Int)).bind fun m => (dd_l2 tl m.2.2 k 0 m.1 m.2.1 []).bind fun x =>
      if x.2.1 = true then some (0, 0, [], [], some 3) else if (x.1.length : Int) = 0 then (if nu.2.2 < 1 then some (0, 0, [], [], some 3) else some (0, nu.2.2, d.2.2, x.2.2, none)) else some (0, 0, [], [], some 3)
set_option maxHeartbeats 16000000 in
set_option maxRecDepth 100000 in
theorem store_DecodeDone.calls (k : Nat) (A0 : Option Addr) (tl : List S59) (A1 : Option Addr) (c1 : Nat) (l1 : List Int) (r1 r2 : Int) (r3 : List Int) (r4 : List S68) (r5 : Option Int) (w : World) (hr0 : Cat w A0 tl.length tl) (hr1 : Kd.C (Kd.int .u8) w A1 l1.length l1) (hc1 : l1.length ≤ c1) (hG : GW w) (h : store_DecodeDone.f k tl l1 = some (r1, r2, r3, r4, r5)) :
    Calls Tryz.prog 10 #[.pointer A0, .slice A1 l1.length c1] w fun e w' => ∃ v2 v3 : Value, e = .returned (.tuple #[.agg #[.int .i64 r1, .int .i64 r2, v2, v3], errW r5]) ∧ Kd.R (Kd.int .i64) 3 w' w.heap.size (fun _ => True) v2 r3 ∧ Kd.S k68 68 w' w.heap.size (fun _ => True) v3 r4 ∧ Below w.heap.size w w' := by
  have hu1 := Tryz.underlying80
  have hu2 := Tryz.underlying35
  have hu4 := Tryz.underlying65
  have HW2 := Aside0.mk (show 2 ≤ w.heap.size from by obtain ⟨m, hm⟩ := hG.m; have := World.block_lt_of_cell? w _ hm; exact this)
  have HV0 := Aside0.mk (show Kd.V (Kd.int .u8) 5 w 0 (fun k_ => k_ < w.heap.size) (.slice A1 l1.length c1) l1 from Kd.V_mk hc1 (fun W' hW => (Kd.heap_int .u8).C (fun k_ hk => hW k_ hk hk) hr1))
  have HCat := Aside0.mk hr0
  have HG := Aside0.mk hG
  clear hG hr0 hr1 hc1
  unfold store_DecodeDone.f at h
  generalize hy : rd_byte l1 false 1 = y at h
  obtain ⟨y1, y2, y3⟩ := y
  have HY := Aside0.mk hy
  clear hy
  dsimp only at h
  obtain ⟨⟨n1, n2, n3⟩, hU, h⟩ := Option.bind_eq_some_iff.mp h
  have HU := Aside0.mk hU
  clear hU
  dsimp only at h
  obtain ⟨⟨p1, p2, p3⟩, hC, h⟩ := Option.bind_eq_some_iff.mp h
  have HC := Aside0.mk hC
  clear hC
  dsimp only at h
  obtain ⟨⟨d1, d2, d3⟩, hQ1, h⟩ := Option.bind_eq_some_iff.mp h
  have HQ1 := Aside0.mk hQ1
  clear hQ1
  dsimp only at h
  obtain ⟨⟨m1, m2, m3⟩, hM, h⟩ := Option.bind_eq_some_iff.mp h
  have HM := Aside0.mk hM
  clear hM
  dsimp only at h
  obtain ⟨⟨x1, x2, x3⟩, hQ2, h⟩ := Option.bind_eq_some_iff.mp h
  have HQ2 := Aside0.mk hQ2
  clear hQ2
  dsimp only at h
  have HH := Aside0.mk h
  clear h
  go_enter Tryz.func10, Tryz.ntmps10
  go_wp2_with (first | ((with_reducible refine qgd (N := 4) rfl ?_); refine qbe ?hg (N := 4) ?hd (cs := #[.int .i64 0, .int .i64 0, .slice none 0 0, .slice none 0 0]) (t := 35) ?hr ?_; (case hd => rfl); (case hg => rfl); (case hr => first | (go_simp; done) | (go_simp; rfl)); intro g4 hg w2 hbox hb; have BK4 := Aside0.mk hbox; have B2 := Aside0.mk hb; have G4 := Aside0.mk (show w.heap.size ≤ g4 from Nat.le_of_eq hg.symm); clear hb hbox hg) | ((with_reducible refine qgd (N := 10) rfl ?_); refine qbe ?hg (N := 10) ?hd (cs := #[.slice A1 l1.length c1, .bool false]) (t := 80) ?hr ?_; (case hd => rfl); (case hg => rfl); (case hr => first | (go_simp; done) | (go_simp; rfl)); intro g hg w3 hbox hb; have B3 := Aside0.mk (below_step B2.out hb); have BK4b := Aside0.mk (qkb BK4.out hb); have GN := Aside0.mk (show w.heap.size ≤ g from by rw [hg]; exact B2.out.size); have N4 := Aside0.mk (show g4 ≠ g from by rw [hg]; exact Nat.ne_of_lt (blk_lt BK4.out)); have R3 := Aside0.mk (show Rdr w.heap.size w3 g l1 false from ⟨A1, c1, hbox, Kd.V_below HV0.out B3.out, GN.out⟩); clear hb hbox hg) | (go_at_call 28; (with_reducible refine (rd_byte_calls w.heap.size g l1 false 1 w3 R3.out).mono ?_); rw [HY.out]; dsimp only; rintro e w4 ⟨rfl, R4, O4⟩; have R4_ := Aside0.mk R4; have B4 := Aside0.mk (O4.below B3.out GN.out (Nat.le_refl _)); have BK4c := Aside0.mk (blk_on BK4b.out N4.out O4); have ⟨A, c, hcells, hV, _⟩ := R4; have HBK := Aside0.mk hcells; have HV := Aside0.mk hV; have z1 := qkc hcells 1; have f1 := qkf hcells 1; simp only [List.getElem?_toArray, List.getElem?_cons_zero, List.getElem?_cons_succ] at z1; clear hcells hV R4 O4) | (go_at_call 29; (with_reducible refine (rd_uint_calls k w.heap.size g y1 (y3 != 1) 9223372036854775807 n1 n2 n3 (w4.setCell ⟨g, 1, none⟩ (.bool (y3 != 1))) (by omega) (rdr_bad GN.out HBK.out HV.out (y3 != 1)) HU.out).mono ?_); rintro e w5 ⟨rfl, R5, O5⟩; have R5_ := Aside0.mk R5; have B5 := Aside0.mk (O5.below (qbs B4.out GN.out) GN.out (Nat.le_refl _)); have BK4d := Aside0.mk (blk_on (qkr (p := ⟨g, 1, none⟩) BK4c.out N4.out (.bool (y3 != 1))) N4.out O5); clear R5 O5) | (go_at_call 29; (with_reducible refine (rd_uint_calls k w.heap.size g n1 n2 16 p1 p2 p3 (w5.alloc (.cells #[.int .i64 0, .int .i64 n3, .slice none 0 0, .slice none 0 0] 35 (0, 0))) (by omega) (rdr_below R5_.out (below_alloc (Below.refl _ _) _)) HC.out).mono ?_); rintro e w6 ⟨rfl, R6, O6⟩; have HR := Aside0.mk R6; have BB := Aside0.mk (O6.below (below_step B5.out (below_alloc (Below.refl _ _) _)) GN.out (Nat.le_refl _)); have BK4e := Aside0.mk (blk_on (qka BK4d.out _) N4.out O6); have N7 := Aside0.mk (show w5.heap.size ≠ g from Nat.ne_of_gt (blk_lt R5_.out.choose_spec.choose_spec.1)); have N74 := Aside0.mk (show w5.heap.size ≠ g4 from Nat.ne_of_gt (blk_lt BK4d.out)); have BK7 := Aside0.mk (blk_on (blk_new w5 (.cells #[.int .i64 0, .int .i64 n3, .slice none 0 0, .slice none 0 0] 35 (0, 0))) N7.out O6); have G7 := Aside0.mk (show w.heap.size ≤ w5.heap.size from B5.out.size); clear R6 O6))
  have LG := Aside0.mk (show g < w6.heap.size from blk_lt HR.out.choose_spec.choose_spec.1)
  have L4 := Aside0.mk (show g4 < w6.heap.size from blk_lt BK4e.out)
  have L7 := Aside0.mk (show w5.heap.size < w6.heap.size from blk_lt BK7.out)
  have LB := Aside0.mk (show w.heap.size ≤ w6.heap.size from BB.out.size)
  have SZ := Aside0.mk (Nat.le_refl w6.heap.size)
  generalize w5.heap.size = g7 at BK7 N7 N74 G7 L7 ⊢
  obtain ⟨B, hB⟩ : ∃ B, B = w6.heap.size := ⟨_, rfl⟩
  rw [← hB] at LG L4 L7 LB
  replace SZ := Aside0.mk (show B ≤ w6.heap.size from Nat.le_of_eq hB)
  clear hB
  go_loopg [22] k (fun kq v22 w' => ∃ (xi : Int) (xl : List Int) (xb : Bool) (acc : List Int) (u : Value), v22 = .int .i64 xi ∧ Aside0 (dd_l1 p3 kq xi xl xb acc = some (d1, d2, d3)) ∧ Aside0 (kq ≤ k) ∧ Aside0 (Kd.R (Kd.int .i64) 3 w' B (fun _ => True) u acc) ∧ Aside0 (w'.heap[g4]? = some (.cells #[.int .i64 0, .int .i64 0, .slice none 0 0, .slice none 0 0] 35 (0, 0))) ∧ Aside0 (w'.heap[g7]? = some (.cells #[.int .i64 0, .int .i64 n3, u, .slice none 0 0] 35 (0, 0))) ∧ Aside0 (Rdr w.heap.size w' g xl xb) ∧ Aside0 (Below w.heap.size w w') ∧ Aside0 (B ≤ w'.heap.size))
  case atStart => exact ⟨0, p1, p2, [], .slice none 0 0, rfl, HQ1, ⟨Nat.le_refl _⟩, ⟨Kd.R_nil _ _ _ _ _⟩, BK4e, BK7, HR, BB, SZ⟩
  case round =>
    obtain ⟨xi, xl, xb, acc, u, rfl, HA, HK1, HS, BK4, BK7, HR, BB, SZ⟩ := hrel
    cases gk with
    | zero => exact absurd HA.out (by simp [dd_l1])
    | succ k1 =>
      have H := HA.out
      clear HA
      simp only [dd_l1] at H
      by_cases c10 : xi < p3
      · rw [if_pos c10] at H
        have c10b0 := decide_eq_true c10
        clear c10
        have c13 : acc.length < 17592186044416 := Classical.byContradiction fun c13 => by rw [if_neg c13] at H; cases H
        rw [if_pos c13] at H
        have LMc := Aside0.mk c13
        clear c13
        obtain ⟨⟨z1, z2, z3⟩, hZ, H⟩ := Option.bind_eq_some_iff.mp H
        have HV3 := Aside0.mk hZ
        clear hZ
        dsimp only at H
        obtain ⟨ya, hya⟩ : ∃ y_ : List Int, y_ = acc ++ [z3] := ⟨_, rfl⟩
        rw [← hya] at H
        have Ny := Aside0.mk hya
        clear hya
        have H' := Aside0.mk H
        clear H
        try go_wp2
        have n0_ := Aside0.mk (Kd.R_drew HS.out)
        have n1_ := Aside0.mk (qkd BK4.out)
        have n2_ := Aside0.mk (qkd BK7.out)
        have n3_ := Aside0.mk (rdr_below HR.out ((Below.refl _ wr).drew))
        have n4_ := Aside0.mk (qb1 BB.out)
        have n5_ := Aside0.mk (show B ≤ wr.drew.heap.size from SZ.out)
        clear HS BK4 BK7 HR BB SZ
        have HS := n0_
        have BK4 := n1_
        have BK7 := n2_
        have HR := n3_
        have BB := n4_
        have SZ := n5_
        clear n0_ n1_ n2_ n3_ n4_ n5_
        refine start_ (n := 8) (S := fun w' => w'.cell? ⟨g7, 2, none⟩ = some u) (ds := [7]) #[false, false, false, false, false, false, false, false] (by kernel_rfl) rfl rfl ((qkc BK7.out 2).trans rfl) (fun hHeld => ?_)
        refine with_tabW dd_tab6 dd_bits6 (fun HT_ HW_ => ?_)
        generalize wr.drew = w17 at HS BK4 BK7 HR BB SZ hHeld ⊢
        refine pure_ (i := 0) (N := some 24) (v := ?_) (a' := ?_) #[true, false, false, false, false, false, false, false] rfl rfl (any_of HT_.out (by kernel_rfl)) (fun _ _ _ h => h) (Or.inl ⟨by rfl, ?_⟩) ?_ ?_
        rotate_left
        · intro w'
          go_simp
          with_reducible rfl
        rotate_left
        · simp only [Act.put, List.setIfInBounds_toArray, List.set_cons_zero, List.set_cons_succ, i64_w, i32_w]
          rfl
        refine pure_ (i := 2) (N := some 26) (v := ?_) (a' := ?_) #[true, false, true, false, false, false, false, false] rfl rfl (any_of HT_.out (by kernel_rfl)) (fun _ _ _ h => h) (Or.inl ⟨by rfl, ?_⟩) ?_ ?_
        rotate_left
        · intro w'
          go_simp
          with_reducible rfl
        rotate_left
        · simp only [Act.put, List.setIfInBounds_toArray, List.set_cons_zero, List.set_cons_succ, i64_w, i32_w]
          rfl
        refine take_ (i := 1) (N := some 25) (v := ?_) (a' := ?_) #[true, true, true, false, false, false, false, false] rfl rfl (take_ofW HT_.out HW_.out (by kernel_rfl)) (fun _ _ _ h => h) (Or.inl ⟨by rfl, ?_⟩) hHeld ?_ ?_
        rotate_left
        · intro w' s0
          go_simp
          with_reducible rfl
        rotate_left
        · simp only [Act.put, List.setIfInBounds_toArray, List.set_cons_zero, List.set_cons_succ, i64_w, i32_w]
          rfl
        refine one_ (i := 3) (N := some 27) #[true, true, true, true, false, false, false, false] rfl rfl (one_of HT_.out (by kernel_rfl)) (by decide) (fun K hK => ?_)
        refine goes_ Tryz.func29 (by kernel_rfl) rfl #[.pointer (some ⟨g, 0, none⟩), .int .i64 9223372036854775807] (by rfl) rfl rfl (by (try simp only [List.map_toArray, List.map_cons, List.map_nil]); first | done | rfl) ?_
        with_reducible refine (rd_uint_calls k1 w.heap.size g xl xb 9223372036854775807 z1 z2 z3 w17 (by omega) HR.out HV3.out).mono ?_
        rintro e w18 ⟨rfl, R1, O1⟩
        refine ⟨_, rfl, ?_⟩
        have n0_ := Aside0.mk (R_on HS.out LG.out O1)
        have n1_ := Aside0.mk (blk_on BK4.out N4.out O1)
        have n2_ := Aside0.mk (blk_on BK7.out N7.out O1)
        have n3_ := Aside0.mk R1
        have n4_ := Aside0.mk (O1.below BB.out GN.out (Nat.le_refl _))
        have n5_ := Aside0.mk (Nat.le_trans SZ.out O1.size)
        clear HS BK4 BK7 HR BB SZ
        have HS := n0_
        have BK4 := n1_
        have BK7 := n2_
        have HR := n3_
        have BB := n4_
        have SZ := n5_
        clear n0_ n1_ n2_ n3_ n4_ n5_
        clear R1 O1
        refine hK.out _ _ ((qkc BK7.out 2).trans rfl) (fun hHeld => ?_)
        clear hK K
        refine norm_ (a' := ?_) ?_ ?_
        rotate_left
        · show Act.put _ (some 27) _ = _
          simp only [Act.put, List.setIfInBounds_toArray, List.set_cons_zero, List.set_cons_succ, i64_w, i32_w]
          rfl
        refine one_ (i := 4) (N := some 28) #[true, true, true, true, true, false, false, false] rfl rfl (one_of HT_.out (by kernel_rfl)) (by decide) (fun K hK => ?_)
        refine value_ (w1 := ?_) (v := ?_) (by rfl) rfl ?_ ?_
        rotate_left 2
        · go_simp
          constructor
          · rfl
          · rfl
        refine hK.out _ _ ((qkc (qka BK7.out _) 2).trans rfl) (fun hHeld => ?_)
        clear hK K
        refine norm_ (a' := ?_) ?_ ?_
        rotate_left
        · show Act.put _ (some 28) _ = _
          simp only [Act.put, List.setIfInBounds_toArray, List.set_cons_zero, List.set_cons_succ, i64_w, i32_w]
          rfl
        refine one_ (i := 5) (N := some 29) #[true, true, true, true, true, true, false, false] rfl rfl (one_of HT_.out (by kernel_rfl)) (by decide) (fun K hK => ?_)
        refine Kd.R_append_step (Kd.int .i64) (w0 := w18) B (by rfl) (.tmp 25) (.tmp 28) 23 3 (.int .i64 0) 8 rfl Tryz.underlying23 info3 rfl (by decide) (by omega) u acc z3 [.int .i64 z3] (fun _ => True) (fun _ => False) rfl rfl rfl (fun _ hk => hk.elim) (fun _ _ => trivial) HS.out (Below.refl _ _) SZ.out (by have := LMc.out; omega) ?_
        intro v1 w19 ho hb hg hat
        rw [← Ny.out] at ho
        have n0_ := Aside0.mk ((hb.block g4 L4.out).trans BK4.out)
        have n1_ := Aside0.mk ((hb.block g7 L7.out).trans BK7.out)
        have n2_ := Aside0.mk (rdr_belowN HR.out hb LG.out)
        have n3_ := Aside0.mk (below_weaken2_ BB.out hb LB.out)
        have n4_ := Aside0.mk (Nat.le_trans SZ.out hb.size)
        clear BK4 BK7 HR BB SZ
        have BK4 := n0_
        have BK7 := n1_
        have HR := n2_
        have BB := n3_
        have SZ := n4_
        clear n0_ n1_ n2_ n3_ n4_
        clear HS
        have HS := Aside0.mk ho
        clear ho hb hg hat
        obtain ⟨Ap, cp, ep⟩ := Kd.R_slice HS.out
        subst ep
        refine hK.out _ _ ((qkc BK7.out 2).trans rfl) (fun hHeld => ?_)
        clear hK K
        refine norm_ (a' := ?_) ?_ ?_
        rotate_left
        · show Act.put _ (some 29) _ = _
          simp only [Act.put, List.setIfInBounds_toArray, List.set_cons_zero, List.set_cons_succ, i64_w, i32_w]
          rfl
        refine pure_ (i := 6) (N := some 30) (v := ?_) (a' := ?_) #[true, true, true, true, true, true, true, false] rfl rfl (any_of HT_.out (by kernel_rfl)) (fun _ _ _ h => h) (Or.inl ⟨by rfl, ?_⟩) ?_ ?_
        rotate_left
        · intro w'
          go_simp
          with_reducible rfl
        rotate_left
        · simp only [Act.put, List.setIfInBounds_toArray, List.set_cons_zero, List.set_cons_succ, i64_w, i32_w]
          rfl
        refine last_ (i := 7) (N := none) #[true, true, true, true, true, true, true, true] rfl rfl (one_of HT_.out (by kernel_rfl)) (by decide) (fun K hK => ?_)
        have hs22 : w19.cell? ⟨g7, 2, none⟩ = some u := (qkc BK7.out 2).trans rfl
        have hfs22 := qkf BK7.out 2
        refine skip_ (w1 := ?_) ?sh1 ?sh2 ?_ ?_
        case sh1 => rfl
        case sh2 => rfl
        rotate_left
        · go_simp
          rfl
        refine hK.out _ _ ?_
        clear hK K
        refine done_ (done_of HT_.out (by kernel_rfl)) ?_
        try go_wp2
        go_roundg k1
        case measure => have := HK1.out; omega
        case rel => exact ⟨wrap64 (xi + 1), z1, z2, ya, .slice Ap ya.length cp, rfl, H', ⟨by have := HK1.out; omega⟩, ⟨Kd.R_mono (Kd.R_set HS.out BK7.out (by decide) 2 _) (fun _ _ => trivial)⟩, ⟨qkr BK4.out N74.out.symm _⟩, ⟨qkp (cs := #[.int .i64 0, .int .i64 n3, u, .slice none 0 0]) BK7.out 2 _ rfl⟩, ⟨rdr_on HR.out ((On.refl g7 _).set 2 _) N7.out.symm G7.out⟩, ⟨qbs BB.out G7.out⟩, ⟨by rw [set_size]; exact SZ.out⟩⟩
      · rw [if_neg c10] at H
        have c10b0 := decide_eq_false c10
        clear c10
        simp only [Option.some.injEq, Prod.mk.injEq] at H
        obtain ⟨e1, e2, e3⟩ := H
        subst e1 e2 e3
        obtain ⟨ud, hud⟩ : ∃ x_, x_ = u := ⟨_, rfl⟩
        subst hud
        obtain ⟨dl, hdl⟩ : ∃ x_, x_ = acc := ⟨_, rfl⟩
        subst hdl
        go_wp2_with (go_at_call 30; (with_reducible refine (rd_many_calls k w.heap.size g xl xb m1 m2 m3 _ HR.out HM.out).mono ?_); rintro e w9 ⟨rfl, R1, O1⟩; have HD := Aside0.mk (R_on HS.out LG.out O1); have BK4' := Aside0.mk (blk_on BK4.out N4.out O1); have BK7' := Aside0.mk (blk_on BK7.out N7.out O1); have HR' := Aside0.mk R1; have BB' := Aside0.mk (O1.below BB.out GN.out (Nat.le_refl _)); have SZ' := Aside0.mk (Nat.le_trans SZ.out O1.size); clear R1 O1)
        clear HS BK4 BK7 HR BB SZ HK1 c10b0
        go_loopg [34] k (fun kq v34 w' => ∃ (xi : Int) (xl : List Int) (xb : Bool) (acc : List S68) (u : Value), v34 = .int .i64 xi ∧ Aside0 (dd_l2 tl m3 kq xi xl xb acc = some (x1, x2, x3)) ∧ Aside0 (kq ≤ k) ∧ Aside0 (Kd.S k68 68 w' B (fun _ => True) u acc) ∧ Aside0 (Kd.R (Kd.int .i64) 3 w' B (fun _ => True) ud dl) ∧ Aside0 (w'.heap[g4]? = some (.cells #[.int .i64 0, .int .i64 0, .slice none 0 0, .slice none 0 0] 35 (0, 0))) ∧ Aside0 (w'.heap[g7]? = some (.cells #[.int .i64 0, .int .i64 n3, ud, u] 35 (0, 0))) ∧ Aside0 (Rdr w.heap.size w' g xl xb) ∧ Aside0 (Below w.heap.size w w') ∧ Aside0 (B ≤ w'.heap.size))
        case atStart => exact ⟨0, m1, m2, [], .slice none 0 0, rfl, HQ2, ⟨Nat.le_refl _⟩, ⟨Kd.S_nil _ _ _ _ _⟩, HD, BK4', BK7', HR', BB', SZ'⟩
        case round =>
          clear HD BK4' BK7' HR' BB' SZ'
          obtain ⟨xi, xl, xb, acc, u, rfl, HA, HK1, HS, HD, BK4, BK7, HR, BB, SZ⟩ := hrel
          cases gk with
          | zero => exact absurd HA.out (by simp [dd_l2])
          | succ k1 =>
            have H := HA.out
            clear HA
            simp only [dd_l2] at H
            by_cases c10 : xi < m3
            · rw [if_pos c10] at H
              have c10b0 := decide_eq_true c10
              clear c10
              cases xb with
              | true =>
                rw [if_pos rfl] at H
                simp only [Option.some.injEq, Prod.mk.injEq] at H
                obtain ⟨e1, e2, e3⟩ := H
                subst e1 e2 e3
                have ⟨A, c, hcells, hV, _⟩ := HR.out
                have hcz1 := qkc hcells 1
                simp only [List.getElem?_toArray, List.getElem?_cons_zero, List.getElem?_cons_succ] at hcz1
                clear hcells hV
                obtain ⟨Ad, cd, ed⟩ := Kd.R_slice HD.out
                obtain ⟨Au, cu, eu⟩ := Kd.S_slice HS.out
                subst ed eu
                have s0 := qkc BK7.out 0
                have s1 := qkc BK7.out 1
                have s2 := qkc BK7.out 2
                have s3 := qkc BK7.out 3
                have q0 := qkc BK4.out 0
                have q1 := qkc BK4.out 1
                have q2 := qkc BK4.out 2
                have q3 := qkc BK4.out 3
                have e0 := qkf BK4.out 0
                have e1 := qkf BK4.out 1
                have e2 := qkf BK4.out 2
                have e3 := qkf BK4.out 3
                simp only [List.getElem?_toArray, List.getElem?_cons_zero, List.getElem?_cons_succ] at s0 s1 s2 s3 q0 q1 q2 q3
                have hne := N74.out
                have hne2 := N74.out.symm
                have h := HH.out
                clear HH
                rw [if_pos rfl] at h
                simp only [Option.some.injEq, Prod.mk.injEq] at h
                obtain ⟨rfl, rfl, rfl, rfl, rfl⟩ := h
                go_wp2_with (go_at_call 32; (with_reducible refine (rd_done_calls w.heap.size g xl true wr HR.out).mono ?_); rintro e w' ⟨rfl, rfl⟩)
                have K0 := qkp (cs' := #[.int .i64 0, .int .i64 0, .slice none 0 0, .slice none 0 0]) BK4.out 0 (.int .i64 0) rfl
                have K1 := qkp (cs' := #[.int .i64 0, .int .i64 0, .slice none 0 0, .slice none 0 0]) K0 1 (.int .i64 0) rfl
                have K2 := qkp (cs' := #[.int .i64 0, .int .i64 0, .slice none 0 0, .slice none 0 0]) K1 2 (.slice none 0 0) rfl
                have K3 := qkp (cs' := #[.int .i64 0, .int .i64 0, .slice none 0 0, .slice none 0 0]) K2 3 (.slice none 0 0) rfl
                refine bodyPost_ret (results_ct rfl _ _ g4 35 #[.int .i64 0, .int .i64 0, .slice none 0 0, .slice none 0 0] (0, 0) _ rfl K3 Tryz.underlying35 rfl (by kernel_rfl)) rfl ?_
                exact ⟨_, _, by first | rfl | (simp [errW_none, errW_some] <;> rfl), Kd.R_nil _ _ _ _ _, Kd.S_nil _ _ _ _ _, qbs (qbs (qbs (qbs BB.out G4.out) G4.out) G4.out) G4.out⟩
              | false =>
                rw [if_neg (by decide)] at H
                have c13 : acc.length < 2932031007401 := Classical.byContradiction fun c13 => by rw [if_neg c13] at H; cases H
                rw [if_pos c13] at H
                have LMc := Aside0.mk c13
                clear c13
                obtain ⟨⟨z1, z2, z3⟩, hZ, H⟩ := Option.bind_eq_some_iff.mp H
                have HV3 := Aside0.mk hZ
                clear hZ
                dsimp only at H
                obtain ⟨ya, hya⟩ : ∃ y_ : List S68, y_ = acc ++ [z3] := ⟨_, rfl⟩
                rw [← hya] at H
                have Ny := Aside0.mk hya
                clear hya
                have H' := Aside0.mk H
                clear H
                have ⟨A, c, hcells, hV, _⟩ := HR.out
                have hcz1 := qkc hcells 1
                simp only [List.getElem?_toArray, List.getElem?_cons_zero, List.getElem?_cons_succ] at hcz1
                clear hcells hV
                try go_wp2
                clear hcz1
                have n0_ := Aside0.mk (Kd.S_drew HS.out)
                have n1_ := Aside0.mk (Kd.R_drew HD.out)
                have n2_ := Aside0.mk (qkd BK4.out)
                have n3_ := Aside0.mk (qkd BK7.out)
                have n4_ := Aside0.mk (rdr_below HR.out ((Below.refl _ wr).drew))
                have n5_ := Aside0.mk (qb1 BB.out)
                have n6_ := Aside0.mk (show B ≤ wr.drew.heap.size from SZ.out)
                clear HS HD BK4 BK7 HR BB SZ
                have HS := n0_
                have HD := n1_
                have BK4 := n2_
                have BK7 := n3_
                have HR := n4_
                have BB := n5_
                have SZ := n6_
                clear n0_ n1_ n2_ n3_ n4_ n5_ n6_
                refine start_ (n := 9) (S := fun w' => w'.cell? ⟨g7, 3, none⟩ = some u) (ds := [8]) #[false, false, false, false, false, false, false, false, false] (by kernel_rfl) rfl rfl ((qkc BK7.out 3).trans rfl) (fun hHeld => ?_)
                refine with_tabW dd_tab11 dd_bits11 (fun HT_ HW_ => ?_)
                generalize wr.drew = w17 at HS BK4 BK7 HR BB SZ hHeld HD ⊢
                refine pure_ (i := 0) (N := some 40) (v := ?_) (a' := ?_) #[true, false, false, false, false, false, false, false, false] rfl rfl (any_of HT_.out (by kernel_rfl)) (fun _ _ _ h => h) (Or.inl ⟨by rfl, ?_⟩) ?_ ?_
                rotate_left
                · intro w'
                  go_simp
                  with_reducible rfl
                rotate_left
                · simp only [Act.put, List.setIfInBounds_toArray, List.set_cons_zero, List.set_cons_succ, i64_w, i32_w]
                  rfl
                refine pure_ (i := 2) (N := some 42) (v := ?_) (a' := ?_) #[true, false, true, false, false, false, false, false, false] rfl rfl (any_of HT_.out (by kernel_rfl)) (fun _ _ _ h => h) (Or.inl ⟨by rfl, ?_⟩) ?_ ?_
                rotate_left
                · intro w'
                  go_simp
                  with_reducible rfl
                rotate_left
                · simp only [Act.put, List.setIfInBounds_toArray, List.set_cons_zero, List.set_cons_succ, i64_w, i32_w]
                  rfl
                refine pure_ (i := 3) (N := some 43) (v := ?_) (a' := ?_) #[true, false, true, true, false, false, false, false, false] rfl rfl (any_of HT_.out (by kernel_rfl)) (fun _ _ _ h => h) (Or.inl ⟨by rfl, ?_⟩) ?_ ?_
                rotate_left
                · intro w'
                  go_simp
                  with_reducible rfl
                rotate_left
                · simp only [Act.put, List.setIfInBounds_toArray, List.set_cons_zero, List.set_cons_succ, i64_w, i32_w]
                  rfl
                refine take_ (i := 1) (N := some 41) (v := ?_) (a' := ?_) #[true, true, true, true, false, false, false, false, false] rfl rfl (take_ofW HT_.out HW_.out (by kernel_rfl)) (fun _ _ _ h => h) (Or.inl ⟨by rfl, ?_⟩) hHeld ?_ ?_
                rotate_left
                · intro w' s0
                  go_simp
                  with_reducible rfl
                rotate_left
                · simp only [Act.put, List.setIfInBounds_toArray, List.set_cons_zero, List.set_cons_succ, i64_w, i32_w]
                  rfl
                refine one_ (i := 4) (N := some 44) #[true, true, true, true, true, false, false, false, false] rfl rfl (one_of HT_.out (by kernel_rfl)) (by decide) (fun K hK => ?_)
                refine goes_ Tryz.func31 (by kernel_rfl) rfl #[.pointer (some ⟨g, 0, none⟩), .pointer A0] (by rfl) rfl rfl (by (try simp only [List.map_toArray, List.map_cons, List.map_nil]); first | done | rfl) ?_
                with_reducible refine (rd_write_calls k1 w.heap.size g tl xl false z1 z2 z3 w w17 A0 (GW_below HG.out BB.out) HW2.out HR.out HCat.out BB.out GN.out HV3.out).mono ?_
                rintro e w18 ⟨v0, rfl, V0, R1, O1⟩
                refine ⟨_, rfl, ?_⟩
                have HV0 := Aside0.mk (Kd.R_lower V0 SZ.out)
                have HV1 := Aside0.mk (Kd.R_base V0)
                have n0_ := Aside0.mk (S_on_elder (v := v0) HS.out LG.out O1 HV1.out)
                have n1_ := Aside0.mk (R_on HD.out LG.out O1)
                have n2_ := Aside0.mk (blk_on BK4.out N4.out O1)
                have n3_ := Aside0.mk (blk_on BK7.out N7.out O1)
                have n4_ := Aside0.mk R1
                have n5_ := Aside0.mk (O1.below BB.out GN.out (Nat.le_refl _))
                have n6_ := Aside0.mk (Nat.le_trans SZ.out O1.size)
                clear HS HD BK4 BK7 HR BB SZ
                have HS := n0_
                have HD := n1_
                have BK4 := n2_
                have BK7 := n3_
                have HR := n4_
                have BB := n5_
                have SZ := n6_
                clear n0_ n1_ n2_ n3_ n4_ n5_ n6_
                clear R1 O1
                clear V0 HV1
                obtain ⟨Ao, co, eo⟩ := Kd.R_slice HV0.out
                subst eo
                refine hK.out _ _ ((qkc BK7.out 3).trans rfl) (fun hHeld => ?_)
                clear hK K
                refine norm_ (a' := ?_) ?_ ?_
                rotate_left
                · show Act.put _ (some 44) _ = _
                  simp only [Act.put, List.setIfInBounds_toArray, List.set_cons_zero, List.set_cons_succ, i64_w, i32_w]
                  rfl
                refine one_ (i := 5) (N := some 45) #[true, true, true, true, true, true, false, false, false] rfl rfl (one_of HT_.out (by kernel_rfl)) (by decide) (fun K hK => ?_)
                refine value_ (w1 := ?_) (v := ?_) (by rfl) rfl ?_ ?_
                rotate_left 2
                · go_simp
                  constructor
                  · rfl
                  · rfl
                refine hK.out _ _ ((qkc (qka BK7.out _) 3).trans rfl) (fun hHeld => ?_)
                clear hK K
                refine norm_ (a' := ?_) ?_ ?_
                rotate_left
                · show Act.put _ (some 45) _ = _
                  simp only [Act.put, List.setIfInBounds_toArray, List.set_cons_zero, List.set_cons_succ, i64_w, i32_w]
                  rfl
                refine one_ (i := 6) (N := some 46) #[true, true, true, true, true, true, true, false, false] rfl rfl (one_of HT_.out (by kernel_rfl)) (by decide) (fun K hK => ?_)
                refine Kd.S_append_step k68 (w0 := w18) B (by rfl) (.tmp 41) (.tmp 45) 24 68 (.agg #[(.string ⟨#[]⟩), (.bool false), (.slice none 0 0)]) 48 rfl Tryz.underlying24 info68 rfl (by decide) (by omega) u acc z3 [.string z3.f0, .bool z3.f1, .slice Ao z3.f2.length co] (fun _ => True) (fun k_ => some k_ = (.slice Ao z3.f2.length co : Value).ownBlock) rfl rfl ?aP (fun k_ hk_ => ((Kd.R_mono (ok' := fun k_ => True ∧ some k_ ≠ (u : Value).ownBlock) (Kd.R_apart' HV0.out (Kd.S_typed HS.out) (by decide)) (fun k_ hk => ⟨trivial, hk.2⟩))).1 k_ hk_.symm) (fun _ _ => trivial) ?aO (Below.refl _ _) SZ.out ?aL ?_
                (case aP => exact k68_mkM _ _ _ z3 (Kd.R_mono (Kd.R_tight rfl (Kd.R_mono (ok' := fun k_ => True ∧ some k_ ≠ (u : Value).ownBlock) (Kd.R_apart' HV0.out (Kd.S_typed HS.out) (by decide)) (fun k_ hk => ⟨trivial, hk.2⟩))) (fun _ h_ => h_)))
                (case aO => exact Kd.S_mono HS.out (fun k_ hk => ⟨trivial, fun e_ => hk.2 e_⟩))
                (case aL => have := LMc.out; omega)
                intro v1 w19 ho hb hg hat
                rw [← Ny.out] at ho
                have n0_ := Aside0.mk (Kd.R_mono (Kd.R_grown (Kd.R_apart' HD.out (Kd.S_typed HS.out) (by decide)) hg (fun k hk => hk.2)) (fun _ _ => trivial))
                have n1_ := Aside0.mk ((hb.block g4 L4.out).trans BK4.out)
                have n2_ := Aside0.mk ((hb.block g7 L7.out).trans BK7.out)
                have n3_ := Aside0.mk (rdr_belowN HR.out hb LG.out)
                have n4_ := Aside0.mk (below_weaken2_ BB.out hb LB.out)
                have n5_ := Aside0.mk (Nat.le_trans SZ.out hb.size)
                clear HD BK4 BK7 HR BB SZ
                have HD := n0_
                have BK4 := n1_
                have BK7 := n2_
                have HR := n3_
                have BB := n4_
                have SZ := n5_
                clear n0_ n1_ n2_ n3_ n4_ n5_
                clear HS HV0
                have HS := Aside0.mk ho
                clear ho hb hg hat
                obtain ⟨Ap, cp, ep⟩ := Kd.S_slice HS.out
                subst ep
                refine hK.out _ _ ((qkc BK7.out 3).trans rfl) (fun hHeld => ?_)
                clear hK K
                refine norm_ (a' := ?_) ?_ ?_
                rotate_left
                · show Act.put _ (some 46) _ = _
                  simp only [Act.put, List.setIfInBounds_toArray, List.set_cons_zero, List.set_cons_succ, i64_w, i32_w]
                  rfl
                refine pure_ (i := 7) (N := some 47) (v := ?_) (a' := ?_) #[true, true, true, true, true, true, true, true, false] rfl rfl (any_of HT_.out (by kernel_rfl)) (fun _ _ _ h => h) (Or.inl ⟨by rfl, ?_⟩) ?_ ?_
                rotate_left
                · intro w'
                  go_simp
                  with_reducible rfl
                rotate_left
                · simp only [Act.put, List.setIfInBounds_toArray, List.set_cons_zero, List.set_cons_succ, i64_w, i32_w]
                  rfl
                refine last_ (i := 8) (N := none) #[true, true, true, true, true, true, true, true, true] rfl rfl (one_of HT_.out (by kernel_rfl)) (by decide) (fun K hK => ?_)
                have hs22 : w19.cell? ⟨g7, 3, none⟩ = some u := (qkc BK7.out 3).trans rfl
                have hfs22 := qkf BK7.out 3
                refine skip_ (w1 := ?_) ?sh1 ?sh2 ?_ ?_
                case sh1 => rfl
                case sh2 => rfl
                rotate_left
                · go_simp
                  rfl
                refine hK.out _ _ ?_
                clear hK K
                refine done_ (done_of HT_.out (by kernel_rfl)) ?_
                try go_wp2
                go_roundg k1
                case measure => have := HK1.out; omega
                case rel => exact ⟨wrap64 (xi + 1), z1, z2, ya, .slice Ap ya.length cp, rfl, H', ⟨by have := HK1.out; omega⟩, ⟨Kd.S_mono (Kd.S_set HS.out BK7.out (by decide) 3 _) (fun _ _ => trivial)⟩, ⟨Kd.R_mono (Kd.R_set HD.out BK7.out (by decide) 3 _) (fun _ _ => trivial)⟩, ⟨qkr BK4.out N74.out.symm _⟩, ⟨qkp (cs := #[.int .i64 0, .int .i64 n3, ud, u]) BK7.out 3 _ rfl⟩, ⟨rdr_on HR.out ((On.refl g7 _).set 3 _) N7.out.symm G7.out⟩, ⟨qbs BB.out G7.out⟩, ⟨by rw [set_size]; exact SZ.out⟩⟩
            · rw [if_neg c10] at H
              have c10b0 := decide_eq_false c10
              clear c10
              simp only [Option.some.injEq, Prod.mk.injEq] at H
              obtain ⟨e1, e2, e3⟩ := H
              subst e1 e2 e3
              obtain ⟨Ad, cd, ed⟩ := Kd.R_slice HD.out
              obtain ⟨Au, cu, eu⟩ := Kd.S_slice HS.out
              subst ed eu
              have s0 := qkc BK7.out 0
              have s1 := qkc BK7.out 1
              have s2 := qkc BK7.out 2
              have s3 := qkc BK7.out 3
              have q0 := qkc BK4.out 0
              have q1 := qkc BK4.out 1
              have q2 := qkc BK4.out 2
              have q3 := qkc BK4.out 3
              have e0 := qkf BK4.out 0
              have e1 := qkf BK4.out 1
              have e2 := qkf BK4.out 2
              have e3 := qkf BK4.out 3
              simp only [List.getElem?_toArray, List.getElem?_cons_zero, List.getElem?_cons_succ] at s0 s1 s2 s3 q0 q1 q2 q3
              have hne := N74.out
              have hne2 := N74.out.symm
              have h := HH.out
              clear HH
              cases xb with
              | true =>
                rw [if_pos rfl] at h
                simp only [Option.some.injEq, Prod.mk.injEq] at h
                obtain ⟨rfl, rfl, rfl, rfl, rfl⟩ := h
                go_wp2_with (go_at_call 32; (with_reducible refine (rd_done_calls w.heap.size g xl true wr HR.out).mono ?_); rintro e w' ⟨rfl, rfl⟩)
                have K0 := qkp (cs' := #[.int .i64 0, .int .i64 0, .slice none 0 0, .slice none 0 0]) BK4.out 0 (.int .i64 0) rfl
                have K1 := qkp (cs' := #[.int .i64 0, .int .i64 0, .slice none 0 0, .slice none 0 0]) K0 1 (.int .i64 0) rfl
                have K2 := qkp (cs' := #[.int .i64 0, .int .i64 0, .slice none 0 0, .slice none 0 0]) K1 2 (.slice none 0 0) rfl
                have K3 := qkp (cs' := #[.int .i64 0, .int .i64 0, .slice none 0 0, .slice none 0 0]) K2 3 (.slice none 0 0) rfl
                refine bodyPost_ret (results_ct rfl _ _ g4 35 #[.int .i64 0, .int .i64 0, .slice none 0 0, .slice none 0 0] (0, 0) _ rfl K3 Tryz.underlying35 rfl (by kernel_rfl)) rfl ?_
                exact ⟨_, _, by first | rfl | (simp [errW_none, errW_some] <;> rfl), Kd.R_nil _ _ _ _ _, Kd.S_nil _ _ _ _ _, qbs (qbs (qbs (qbs BB.out G4.out) G4.out) G4.out) G4.out⟩
              | false =>
                rw [if_neg (by decide)] at h
                by_cases c20 : (xl.length : Int) = 0
                · rw [if_pos c20] at h
                  have d20 : ((xl.length : Int) == 0) = true := beq_iff_eq.mpr c20
                  have HL0 := Aside0.mk c20
                  clear c20
                  by_cases c21 : n3 < 1
                  · rw [if_pos c21] at h
                    have d21 := decide_eq_true c21
                    simp only [Option.some.injEq, Prod.mk.injEq] at h
                    obtain ⟨rfl, rfl, rfl, rfl, rfl⟩ := h
                    go_wp2_with (go_at_call 32; (with_reducible refine (rd_done_calls w.heap.size g xl false wr HR.out).mono ?_); rintro e w' ⟨rfl, rfl⟩)
                    have K0 := qkp (cs' := #[.int .i64 0, .int .i64 0, .slice none 0 0, .slice none 0 0]) BK4.out 0 (.int .i64 0) rfl
                    have K1 := qkp (cs' := #[.int .i64 0, .int .i64 0, .slice none 0 0, .slice none 0 0]) K0 1 (.int .i64 0) rfl
                    have K2 := qkp (cs' := #[.int .i64 0, .int .i64 0, .slice none 0 0, .slice none 0 0]) K1 2 (.slice none 0 0) rfl
                    have K3 := qkp (cs' := #[.int .i64 0, .int .i64 0, .slice none 0 0, .slice none 0 0]) K2 3 (.slice none 0 0) rfl
                    refine bodyPost_ret (results_ct rfl _ _ g4 35 #[.int .i64 0, .int .i64 0, .slice none 0 0, .slice none 0 0] (0, 0) _ rfl K3 Tryz.underlying35 rfl (by kernel_rfl)) rfl ?_
                    exact ⟨_, _, by first | rfl | (simp [errW_none, errW_some] <;> rfl), Kd.R_nil _ _ _ _ _, Kd.S_nil _ _ _ _ _, qbs (qbs (qbs (qbs BB.out G4.out) G4.out) G4.out) G4.out⟩
                  · rw [if_neg c21] at h
                    have d21 := decide_eq_false c21
                    simp only [Option.some.injEq, Prod.mk.injEq] at h
                    obtain ⟨rfl, rfl, rfl, rfl, rfl⟩ := h
                    go_wp2_with (go_at_call 32; (with_reducible refine (rd_done_calls w.heap.size g xl false wr HR.out).mono ?_); rintro e w' ⟨rfl, rfl⟩)
                    have K0 := qkp (cs' := #[.int .i64 0, .int .i64 0, .slice none 0 0, .slice none 0 0]) BK4.out 0 (.int .i64 0) rfl
                    have K1 := qkp (cs' := #[.int .i64 0, .int .i64 n3, .slice none 0 0, .slice none 0 0]) K0 1 (.int .i64 n3) rfl
                    have K2 := qkp (cs' := #[.int .i64 0, .int .i64 n3, .slice Ad dl.length cd, .slice none 0 0]) K1 2 (.slice Ad dl.length cd) rfl
                    have K3 := qkp (cs' := #[.int .i64 0, .int .i64 n3, .slice Ad dl.length cd, .slice Au acc.length cu]) K2 3 (.slice Au acc.length cu) rfl
                    refine bodyPost_ret (results_ct rfl _ _ g4 35 #[.int .i64 0, .int .i64 n3, .slice Ad dl.length cd, .slice Au acc.length cu] (0, 0) _ rfl K3 Tryz.underlying35 rfl (by kernel_rfl)) rfl ?_
                    exact ⟨_, _, by first | rfl | (simp [errW_none, errW_some] <;> rfl), Kd.R_set (Kd.R_set (Kd.R_set (Kd.R_set (Kd.R_lower HD.out LB.out) BK4.out (by decide) 0 _) K0 (by decide) 1 _) K1 (by decide) 2 _) K2 (by decide) 3 _, Kd.S_set (Kd.S_set (Kd.S_set (Kd.S_set (Kd.S_lower HS.out LB.out) BK4.out (by decide) 0 _) K0 (by decide) 1 _) K1 (by decide) 2 _) K2 (by decide) 3 _, qbs (qbs (qbs (qbs BB.out G4.out) G4.out) G4.out) G4.out⟩
                · rw [if_neg c20] at h
                  have d20 : ((xl.length : Int) == 0) = false := beq_eq_false_iff_ne.mpr c20
                  clear c20
                  simp only [Option.some.injEq, Prod.mk.injEq] at h
                  obtain ⟨rfl, rfl, rfl, rfl, rfl⟩ := h
                  go_wp2_with (go_at_call 32; (with_reducible refine (rd_done_calls w.heap.size g xl false wr HR.out).mono ?_); rintro e w' ⟨rfl, rfl⟩)
                  have K0 := qkp (cs' := #[.int .i64 0, .int .i64 0, .slice none 0 0, .slice none 0 0]) BK4.out 0 (.int .i64 0) rfl
                  have K1 := qkp (cs' := #[.int .i64 0, .int .i64 0, .slice none 0 0, .slice none 0 0]) K0 1 (.int .i64 0) rfl
                  have K2 := qkp (cs' := #[.int .i64 0, .int .i64 0, .slice none 0 0, .slice none 0 0]) K1 2 (.slice none 0 0) rfl
                  have K3 := qkp (cs' := #[.int .i64 0, .int .i64 0, .slice none 0 0, .slice none 0 0]) K2 3 (.slice none 0 0) rfl
                  refine bodyPost_ret (results_ct rfl _ _ g4 35 #[.int .i64 0, .int .i64 0, .slice none 0 0, .slice none 0 0] (0, 0) _ rfl K3 Tryz.underlying35 rfl (by kernel_rfl)) rfl ?_
                  exact ⟨_, _, by first | rfl | (simp [errW_none, errW_some] <;> rfl), Kd.R_nil _ _ _ _ _, Kd.S_nil _ _ _ _ _, qbs (qbs (qbs (qbs BB.out G4.out) G4.out) G4.out) G4.out⟩
end Go.Proofs.YtddkbhglbkfelaaGreatDoor.T
