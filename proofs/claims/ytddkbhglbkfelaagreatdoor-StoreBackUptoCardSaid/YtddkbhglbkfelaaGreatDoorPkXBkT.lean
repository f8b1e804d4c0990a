/- barbicanlaw26.StoreBack: it says true where each of its calls answers as is asked. -/
import Derived.Test.YtddkbhglbkfelaaGreatDoorPkXNwT
set_option linter.unusedVariables false
set_option linter.unusedSimpArgs false
namespace Go.Proofs.YtddkbhglbkfelaaGreatDoor.T
open Go.RowKit Go.Proofs.YtddkbhglbkfelaaGreatDoorW.PrintWords Go.Proofs.YtddkbhglbkfelaaGreatDoorW.PrintLast Go.Proofs.YtddkbhglbkfelaaGreatDoorW.PrintMore Go.Proofs.YtddkbhglbkfelaaGreatDoorX
/-- What is to be shown of the law, without memory: with enough rounds each way ends in true. -/
def LawTail (k : Nat) (tl : List S59) (view : ByteArray) (lines : List (List S63)) : Prop :=
  ∃ v1 l1, barbicanlaw26_entry.f k view lines = some (v1, l1) ∧ ∃ z err, store_EncodeEntry.f k v1 l1 = some (z, err) ∧ barbicanlaw26_sure.f k = some true ∧
    (err.isSome = true → (z.length : Int) = 0) ∧ (err = none → ∃ l2, store_DecodeEntry.f k z = some (view, l2, none) ∧ barbicanlaw26_lists.f k l2 lines = some true ∧ ∃ y1 y2 y3 y4, store_DecodeDone.f k tl z = some (y1, y2, y3, y4, some 3))
def LawTrue (k : Nat) (tl : List S59) (lab num : Int) (deps : List Int) (wr : List S68) (view : ByteArray) (lines : List (List S63)) : Prop :=
  ∃ ok, lawcat.f k tl = some ok ∧ (ok = false → barbicanlaw26_sure.f k = some true) ∧ (ok = true → LawTail k tl view lines ∧
    ∃ b1 b2 b3 b4, barbicanlaw26_done.f k lab num deps wr = some (b1, b2, b3, b4) ∧ ∃ x err, store_EncodeDone.f k tl b1 b2 b3 b4 = some (x, err) ∧
      (err = none → ∃ y1 y3 y4, store_DecodeDone.f k tl x = some (y1, num, y3, y4, none) ∧ (∃ q1 q2, store_DecodeEntry.f k x = some (q1, q2, some 3)) ∧ barbicanlaw26_ints.f k y3 deps = some true ∧ barbicanlaw26_writes.f k y4 wr = some true))
theorem drawn_below {w w' : World} (h : Drawn0 w w') : Below w.heap.size w w' := by
  obtain ⟨n, rfl⟩ := h
  exact qbN (Below.refl _ _) n
set_option maxHeartbeats 16000000 in
set_option maxRecDepth 100000 in
theorem lawBack.calls (k : Nat) (A0 : Option Addr) (c0 : Nat) (tl : List S59) (lab num : Int) (A2 : Option Addr) (c2 : Nat) (deps : List Int) (A3 : Option Addr) (c3 : Nat) (wr : List S68) (view : ByteArray) (A4 : Option Addr) (c4 : Nat) (lines : List (List S63)) (w : World)
    (hr0 : Kd.C k59 w A0 tl.length tl) (hc0 : tl.length ≤ c0) (hr2 : Kd.C (Kd.int .i64) w A2 deps.length deps) (hc2 : deps.length ≤ c2) (hr3 : Kd.C k68 w A3 wr.length wr) (hc3 : wr.length ≤ c3) (hr4 : Kd.C (Kd.slice 63 k63) w A4 lines.length lines) (hc4 : lines.length ≤ c4) (hG : GW w)
    (h : LawTrue k tl lab num deps wr view lines) :
    Calls Tryz.prog 4 #[.slice A0 tl.length c0, .agg #[.int .i64 lab, .int .i64 num, .slice A2 deps.length c2, .slice A3 wr.length c3], .agg #[.string view, .slice A4 lines.length c4]] w fun e w' => e = .returned (.bool true) ∧ Below w.heap.size w w' := by
  have hu1 := Tryz.underlying26
  have hu2 := Tryz.underlying49
  have hu3 := Tryz.underlying35
  have hu4 := Tryz.underlying50
  have hu5 := Tryz.underlying65
  have H0 := Aside0.mk hr0
  have H2 := Aside0.mk hr2
  have H3 := Aside0.mk hr3
  have H4 := Aside0.mk hr4
  have K0 := Aside0.mk hc0
  have K2 := Aside0.mk hc2
  have K3 := Aside0.mk hc3
  have K4 := Aside0.mk hc4
  have HG := Aside0.mk hG
  clear hr0 hr2 hr3 hr4 hc0 hc2 hc3 hc4 hG
  obtain ⟨ok, hL, hF, hT⟩ := h
  have HL := Aside0.mk hL
  cases ok with
  | false =>
    have HS := Aside0.mk (hF rfl)
    clear hL hF hT
    go_enter Tryz.func4, Tryz.ntmps4
    go_wp2_with (first
      | ((with_reducible refine qgd (N := 4) rfl ?_); refine qbe ?hg (N := 4) ?hd (cs := #[.int .i64 lab, .int .i64 num, .slice A2 deps.length c2, .slice A3 wr.length c3]) (t := 26) ?hr ?_; (case hd => rfl); (case hg => rfl); (case hr => first | (go_simp; done) | (go_simp; rfl)); intro g4 hg w1 hbox hb; have B1 := Aside0.mk hb; clear hb hbox hg)
      | ((with_reducible refine qgd (N := 5) rfl ?_); refine qbe ?hg (N := 5) ?hd (cs := #[.string view, .slice A4 lines.length c4]) (t := 49) ?hr ?_; (case hd => rfl); (case hg => rfl); (case hr => first | (go_simp; done) | (go_simp; rfl)); intro g5 hg w2 hbox hb; have B2 := Aside0.mk (below_step B1.out hb); clear hb hbox hg)
      | (go_at_call 5; (with_reducible refine (lawcat.calls k A0 c0 tl false w2 (Kd.C_below H0.out B2.out) K0.out (GW_below HG.out B2.out) HL.out).mono ?_); rintro e w3 ⟨p, rfl, hp1, hp2, hb⟩; obtain rfl := hp2 rfl; have B3 := Aside0.mk (below_step B2.out hb); clear hp1 hp2 hb)
      | (go_at_call 6; (with_reducible refine (barbicanlaw26_sure.calls k true _ (GW_below HG.out B3.out) HS.out).mono ?_); rintro e w4 ⟨rfl, hb⟩; have B4 := Aside0.mk (below_step B3.out hb); clear hb))
    go_ret
    exact ⟨rfl, B4.out⟩
  | true =>
    obtain ⟨hTail, b1, b2, b3, b4, hD, x, err, hE, hN⟩ := hT rfl
    have HTail := Aside0.mk hTail
    have HD := Aside0.mk hD
    have HE := Aside0.mk hE
    have HN := Aside0.mk hN
    clear hL hF hT hTail hD hE hN
    have CN3 := fun W (hG_ : GW W) => barbicanlaw26_num.calls (some 3) 3 W hG_ rfl
    simp only [errW_some] at CN3
    go_enter Tryz.func4, Tryz.ntmps4
    cases err with
    | some q =>
      go_upto_region 10 with (first
        | ((with_reducible refine qgd (N := 4) rfl ?_); refine qbe ?hg (N := 4) ?hd (cs := #[.int .i64 lab, .int .i64 num, .slice A2 deps.length c2, .slice A3 wr.length c3]) (t := 26) ?hr ?_; (case hd => rfl); (case hg => rfl); (case hr => first | (go_simp; done) | (go_simp; rfl)); intro g4 hg w1 hbox hb; have B1 := Aside0.mk hb; have D1 := Aside0.mk hbox; clear hb hbox hg)
        | ((with_reducible refine qgd (N := 5) rfl ?_); refine qbe ?hg (N := 5) ?hd (cs := #[.string view, .slice A4 lines.length c4]) (t := 49) ?hr ?_; (case hd => rfl); (case hg => rfl); (case hr => first | (go_simp; done) | (go_simp; rfl)); intro g5 hg w2 hbox hb; have B2 := Aside0.mk (below_step B1.out hb); have D2 := Aside0.mk (qkb D1.out hb); have E2 := Aside0.mk hbox; clear hb hbox hg)
        | (go_at_call 5; (with_reducible refine (lawcat.calls k A0 c0 tl true w2 (Kd.C_below H0.out B2.out) K0.out (GW_below HG.out B2.out) HL.out).mono ?_); rintro e w3 ⟨p, rfl, hp1, hp2, hb⟩; have B3 := Aside0.mk (below_step B2.out hb); have D3 := Aside0.mk (qkb D2.out hb); have E3 := Aside0.mk (qkb E2.out hb); have C3 := Aside0.mk (hp1 rfl); clear hp1 hp2 hb; obtain ⟨gp, ep⟩ : ∃ gp, p = some gp := by (obtain ⟨g_, _, _, _, _, e_, _⟩ := C3.out; exact ⟨_, e_⟩)
           subst ep; have q0 := qkc D3.out 0; have q1_ := qkc D3.out 1; have q2_ := qkc D3.out 2; have q3_ := qkc D3.out 3; simp only [List.getElem?_toArray, List.getElem?_cons_zero, List.getElem?_cons_succ] at q0 q1_ q2_ q3_)
        | (go_at_call 8; (with_reducible refine (barbicanlaw26_done.calls k lab num A2 c2 deps A3 c3 wr b1 b2 b3 b4 w3 (Kd.C_below H2.out B3.out) K2.out (Kd.C_below H3.out B3.out) K3.out HD.out).mono ?_); rintro e w4 ⟨v2, v3, rfl, hv2, hv3, hb⟩; obtain ⟨Ad, cd, ed⟩ := Kd.R_slice hv2; subst ed; obtain ⟨Aw, cw, ew⟩ := Kd.S_slice hv3; subst ew; have V2 := Aside0.mk (Kd.R_reads' hv2); have V3 := Aside0.mk (Kd.S_reads' hv3); have B4 := Aside0.mk (below_step B3.out hb); have D4 := Aside0.mk (qkb D3.out hb); have E4 := Aside0.mk (qkb E3.out hb); have C4 := Aside0.mk (cat_below C3.out hb); clear hv2 hv3 hb q0 q1_ q2_ q3_)
        | (go_at_call 7; (with_reducible refine (store_EncodeDone.calls k (some gp) tl.length tl b1 b2 Ad cd b3 Aw cw b4 x (some q) w4 C4.out (Nat.le_refl _) V2.out.2.2 V2.out.2.1 V3.out.2.2 V3.out.2.1 HE.out).mono ?_); rintro e wt ⟨v0, rfl, hv, hb⟩; obtain ⟨Ax, cx, ex⟩ := Kd.R_slice hv; subst ex; have BT := Aside0.mk (below_step B4.out hb); have ET := Aside0.mk (qkb E4.out hb); have CT := Aside0.mk (cat_below C4.out hb); clear hv hb; simp only [errW_some]))
      clear D1 B1 B2 D2 E2 B3 D3 E3 C3 B4 D4 E4 C4
      obtain ⟨v1, l1, h1, z, e2, h2, h3, h4, h5⟩ := HTail.out
      have M1 := Aside0.mk h1
      have M2 := Aside0.mk h2
      have M3 := Aside0.mk h3
      have M4 := Aside0.mk h4
      have M5 := Aside0.mk h5
      clear h1 h2 h3 h4 h5 HTail HN HD HE HL
      have r0 := qkc ET.out 0
      have r1 := qkc ET.out 1
      simp only [List.getElem?_toArray, List.getElem?_cons_zero, List.getElem?_cons_succ] at r0 r1
      cases e2 with
      | some q =>
        have d0 : ((z.length : Int) == 0) = true := beq_iff_eq.mpr (M4.out rfl)
        go_wp2_with (first
          | (go_at_call 17; (with_reducible refine (barbicanlaw26_entry.calls k view A4 c4 lines v1 l1 wt (Kd.C_below H4.out BT.out) K4.out M1.out).mono ?_); rintro e w11 ⟨v, rfl, hv, hb⟩; obtain ⟨Al, cl, el⟩ := Kd.S_slice hv; subst el; have V := Aside0.mk (Kd.S_reads' hv); have B11 := Aside0.mk (below_step BT.out hb); clear hv hb r0 r1)
          | (go_at_call 16; (with_reducible refine (store_EncodeEntry.calls k v1 Al cl l1 z (some q) w11 V.out.2.2 V.out.2.1 (GW_below HG.out B11.out) M2.out).mono ?_); rintro e w12 ⟨v, rfl, hv, hb⟩; obtain ⟨Ag, cg, eg⟩ := Kd.R_slice hv; subst eg; have B12 := Aside0.mk (below_step B11.out hb); clear hv hb; simp only [errW_some])
          | (go_at_call 6; (with_reducible refine (barbicanlaw26_sure.calls k true _ (GW_below HG.out B12.out) M3.out).mono ?_); rintro e w13 ⟨rfl, hb⟩; have B13 := Aside0.mk (below_step B12.out hb); clear hb))
        go_ret
        exact ⟨rfl, B13.out⟩
      | none =>
        obtain ⟨l2, h1, h2, y1, y2, y3, y4, h3⟩ := M5.out rfl
        have P1 := Aside0.mk h1
        have P2 := Aside0.mk h2
        have P3 := Aside0.mk h3
        clear h1 h2 h3
        have hvv : (view.toList == view.toList) = true := by simp
        go_wp2_with (first
          | (go_at_call 17; (with_reducible refine (barbicanlaw26_entry.calls k view A4 c4 lines v1 l1 wt (Kd.C_below H4.out BT.out) K4.out M1.out).mono ?_); rintro e w11 ⟨v, rfl, hv, hb⟩; obtain ⟨Al, cl, el⟩ := Kd.S_slice hv; subst el; have V := Aside0.mk (Kd.S_reads' hv); have B11 := Aside0.mk (below_step BT.out hb); have E11 := Aside0.mk (qkb ET.out hb); have C11 := Aside0.mk (cat_below CT.out hb); clear hv hb r0 r1)
          | (go_at_call 16; (with_reducible refine (store_EncodeEntry.calls k v1 Al cl l1 z none w11 V.out.2.2 V.out.2.1 (GW_below HG.out B11.out) M2.out).mono ?_); rintro e w12 ⟨v, rfl, hv, hb⟩; obtain ⟨Ag, cg, eg⟩ := Kd.R_slice hv; subst eg; have X := Aside0.mk (Kd.R_reads' hv); have B12 := Aside0.mk (below_step B11.out hb); have E12 := Aside0.mk (qkb E11.out hb); have C12 := Aside0.mk (cat_below C11.out hb); clear hv hb; simp only [errW_none])
          | (go_at_call 15; (with_reducible refine (store_DecodeEntry.calls k Ag cg z view l2 none w12 X.out.2.2 X.out.2.1 (GW_below HG.out B12.out) P1.out).mono ?_); rintro e w13 ⟨v, rfl, hv, hb⟩; obtain ⟨Am, cm, em⟩ := Kd.S_slice hv; subst em; have hbb := below_step hb (below_alloc (Below.refl _ _) (.cells #[.string view, .slice Am l2.length cm] 50 (0, 0))); have L13 := Aside0.mk (Kd.C_alloc (Kd.S_reads' hv).2.2 (.cells #[.string view, .slice Am l2.length cm] 50 (0, 0))); have LL := Aside0.mk (Kd.S_reads' hv).2.1; have B13 := Aside0.mk (below_step B12.out hbb); have E13 := Aside0.mk (qkb E12.out hbb); have C13 := Aside0.mk (cat_below C12.out hbb); have X13 := Aside0.mk (Kd.C_below X.out.2.2 hbb); have T13 := Aside0.mk (blk_new w13 (.cells #[.string view, .slice Am l2.length cm] 50 (0, 0))); clear hv hb hbb; simp only [errW_none])
          | (go_at_call 10; (with_reducible refine (store_DecodeDone.calls k (some gp) tl Ag cg z y1 y2 y3 y4 (some 3) (w13.alloc (.cells #[.string view, .slice Am l2.length cm] 50 (0, 0))) C13.out X13.out X.out.2.1 (GW_below HG.out B13.out) P3.out).mono ?_); rintro e w14 ⟨v2, v3, rfl, hv2, hv3, hb⟩; obtain ⟨Ay, cy, ey⟩ := Kd.R_slice hv2; subst ey; obtain ⟨Az, cz, ez⟩ := Kd.S_slice hv3; subst ez; have hbb := below_step hb (below_alloc (Below.refl _ _) (.cells #[.int .i64 y1, .int .i64 y2, .slice Ay y3.length cy, .slice Az y4.length cz] 35 (0, 0))); have B14 := Aside0.mk (below_step B13.out hbb); have E14 := Aside0.mk (qkb E13.out hbb); have T14 := Aside0.mk (qkb T13.out hbb); have L14 := Aside0.mk (Kd.C_below L13.out hbb); clear hv2 hv3 hb hbb; simp only [errW_some])
          | (go_at_call 12; (with_reducible refine (CN3 (w14.alloc (.cells #[.int .i64 y1, .int .i64 y2, .slice Ay y3.length cy, .slice Az y4.length cz] 35 (0, 0))) (GW_below HG.out B14.out)).mono ?_); rintro e w15 ⟨rfl, hb⟩; have B15 := Aside0.mk (below_step B14.out hb); have E15 := Aside0.mk (qkb E14.out hb); have T15 := Aside0.mk (qkb T14.out hb); have L15 := Aside0.mk (Kd.C_below L14.out hb); clear hb; have s0 := qkc T15.out 0; have s1 := qkc T15.out 1; have r0 := qkc E15.out 0; have r1 := qkc E15.out 1; simp only [List.getElem?_toArray, List.getElem?_cons_zero, List.getElem?_cons_succ] at s0 s1 r0 r1)
          | (go_at_call 18; (with_reducible refine (barbicanlaw26_lists.calls k Am cm l2 A4 c4 lines true w15 L15.out LL.out (Kd.C_below H4.out B15.out) K4.out P2.out).mono ?_); rintro e w16 ⟨rfl, hd⟩; have B16 := Aside0.mk (below_step B15.out (drawn_below hd)); clear hd s0 s1 r0 r1)
          | (go_at_call 6; (with_reducible refine (barbicanlaw26_sure.calls k true _ (GW_below HG.out B16.out) M3.out).mono ?_); rintro e w17 ⟨rfl, hb⟩; have B17 := Aside0.mk (below_step B16.out hb); clear hb))
        go_ret
        exact ⟨rfl, B17.out⟩
    | none =>
      obtain ⟨y1, y3, y4, h1, ⟨q1, q2, h2⟩, h3, h4⟩ := HN.out rfl
      have N1 := Aside0.mk h1
      have N2 := Aside0.mk h2
      have N3 := Aside0.mk h3
      have N4 := Aside0.mk h4
      clear h1 h2 h3 h4
      go_upto_region 10 with (first
        | ((with_reducible refine qgd (N := 4) rfl ?_); refine qbe ?hg (N := 4) ?hd (cs := #[.int .i64 lab, .int .i64 num, .slice A2 deps.length c2, .slice A3 wr.length c3]) (t := 26) ?hr ?_; (case hd => rfl); (case hg => rfl); (case hr => first | (go_simp; done) | (go_simp; rfl)); intro g4 hg w1 hbox hb; have B1 := Aside0.mk hb; have D1 := Aside0.mk hbox; clear hb hbox hg)
        | ((with_reducible refine qgd (N := 5) rfl ?_); refine qbe ?hg (N := 5) ?hd (cs := #[.string view, .slice A4 lines.length c4]) (t := 49) ?hr ?_; (case hd => rfl); (case hg => rfl); (case hr => first | (go_simp; done) | (go_simp; rfl)); intro g5 hg w2 hbox hb; have B2 := Aside0.mk (below_step B1.out hb); have D2 := Aside0.mk (qkb D1.out hb); have E2 := Aside0.mk hbox; clear hb hbox hg)
        | (go_at_call 5; (with_reducible refine (lawcat.calls k A0 c0 tl true w2 (Kd.C_below H0.out B2.out) K0.out (GW_below HG.out B2.out) HL.out).mono ?_); rintro e w3 ⟨p, rfl, hp1, hp2, hb⟩; have B3 := Aside0.mk (below_step B2.out hb); have D3 := Aside0.mk (qkb D2.out hb); have E3 := Aside0.mk (qkb E2.out hb); have C3 := Aside0.mk (hp1 rfl); clear hp1 hp2 hb; obtain ⟨gp, ep⟩ : ∃ gp, p = some gp := by (obtain ⟨g_, _, _, _, _, e_, _⟩ := C3.out; exact ⟨_, e_⟩)
           subst ep; have q0 := qkc D3.out 0; have q1_ := qkc D3.out 1; have q2_ := qkc D3.out 2; have q3_ := qkc D3.out 3; simp only [List.getElem?_toArray, List.getElem?_cons_zero, List.getElem?_cons_succ] at q0 q1_ q2_ q3_)
        | (go_at_call 8; (with_reducible refine (barbicanlaw26_done.calls k lab num A2 c2 deps A3 c3 wr b1 b2 b3 b4 w3 (Kd.C_below H2.out B3.out) K2.out (Kd.C_below H3.out B3.out) K3.out HD.out).mono ?_); rintro e w4 ⟨v2, v3, rfl, hv2, hv3, hb⟩; obtain ⟨Ad, cd, ed⟩ := Kd.R_slice hv2; subst ed; obtain ⟨Aw, cw, ew⟩ := Kd.S_slice hv3; subst ew; have V2 := Aside0.mk (Kd.R_reads' hv2); have V3 := Aside0.mk (Kd.S_reads' hv3); have B4 := Aside0.mk (below_step B3.out hb); have D4 := Aside0.mk (qkb D3.out hb); have E4 := Aside0.mk (qkb E3.out hb); have C4 := Aside0.mk (cat_below C3.out hb); clear hv2 hv3 hb q0 q1_ q2_ q3_)
        | (go_at_call 7; (with_reducible refine (store_EncodeDone.calls k (some gp) tl.length tl b1 b2 Ad cd b3 Aw cw b4 x none w4 C4.out (Nat.le_refl _) V2.out.2.2 V2.out.2.1 V3.out.2.2 V3.out.2.1 HE.out).mono ?_); rintro e w5 ⟨v0, rfl, hv, hb⟩; obtain ⟨Ax, cx, ex⟩ := Kd.R_slice hv; subst ex; have X5 := Aside0.mk (Kd.R_reads' hv); have B5 := Aside0.mk (below_step B4.out hb); have D5 := Aside0.mk (qkb D4.out hb); have E5 := Aside0.mk (qkb E4.out hb); have C5 := Aside0.mk (cat_below C4.out hb); clear hv hb; simp only [errW_none])
        | (go_at_call 10; (with_reducible refine (store_DecodeDone.calls k (some gp) tl Ax cx x y1 num y3 y4 none w5 C5.out X5.out.2.2 X5.out.2.1 (GW_below HG.out B5.out) N1.out).mono ?_); rintro e w6 ⟨v2, v3, rfl, hv2, hv3, hb⟩; obtain ⟨Ay, cy, ey⟩ := Kd.R_slice hv2; subst ey; obtain ⟨Az, cz, ez⟩ := Kd.S_slice hv3; subst ez; have Y6 := Aside0.mk (Kd.C_alloc (Kd.R_reads' hv2).2.2 (.cells #[.int .i64 y1, .int .i64 num, .slice Ay y3.length cy, .slice Az y4.length cz] 35 (0, 0))); have YL := Aside0.mk (Kd.R_reads' hv2).2.1; have Z6 := Aside0.mk (Kd.C_alloc (Kd.S_reads' hv3).2.2 (.cells #[.int .i64 y1, .int .i64 num, .slice Ay y3.length cy, .slice Az y4.length cz] 35 (0, 0))); have ZL := Aside0.mk (Kd.S_reads' hv3).2.1; have hbb := below_step hb (below_alloc (Below.refl _ _) (.cells #[.int .i64 y1, .int .i64 num, .slice Ay y3.length cy, .slice Az y4.length cz] 35 (0, 0))); have B6 := Aside0.mk (below_step B5.out hbb); have D6 := Aside0.mk (qkb D5.out hbb); have E6 := Aside0.mk (qkb E5.out hbb); have C6 := Aside0.mk (cat_below C5.out hbb); have X6 := Aside0.mk (Kd.C_below X5.out.2.2 hbb); have T6 := Aside0.mk (blk_new w6 (.cells #[.int .i64 y1, .int .i64 num, .slice Ay y3.length cy, .slice Az y4.length cz] 35 (0, 0))); clear hv2 hv3 hb hbb; simp only [errW_none])
        | (go_at_call 15; (with_reducible refine (store_DecodeEntry.calls k Ax cx x q1 q2 (some 3) (w6.alloc (.cells #[.int .i64 y1, .int .i64 num, .slice Ay y3.length cy, .slice Az y4.length cz] 35 (0, 0))) X6.out X5.out.2.1 (GW_below HG.out B6.out) N2.out).mono ?_); rintro e w7 ⟨v1, rfl, hv, hb⟩; obtain ⟨Aq, cq, eq_⟩ := Kd.S_slice hv; subst eq_; have hbb := below_step hb (below_alloc (Below.refl _ _) (.cells #[.string q1, .slice Aq q2.length cq] 50 (0, 0))); have B7 := Aside0.mk (below_step B6.out hbb); have D7 := Aside0.mk (qkb D6.out hbb); have E7 := Aside0.mk (qkb E6.out hbb); have C7 := Aside0.mk (cat_below C6.out hbb); have Y7 := Aside0.mk (Kd.C_below Y6.out hbb); have Z7 := Aside0.mk (Kd.C_below Z6.out hbb); have T7 := Aside0.mk (qkb T6.out hbb); clear hv hb hbb; simp only [errW_some])
        | (go_at_call 12; (with_reducible refine (CN3 (w7.alloc (.cells #[.string q1, .slice Aq q2.length cq] 50 (0, 0))) (GW_below HG.out B7.out)).mono ?_); rintro e w8 ⟨rfl, hb⟩; have B8 := Aside0.mk (below_step B7.out hb); have D8 := Aside0.mk (qkb D7.out hb); have E8 := Aside0.mk (qkb E7.out hb); have C8 := Aside0.mk (cat_below C7.out hb); have Y8 := Aside0.mk (Kd.C_below Y7.out hb); have Z8 := Aside0.mk (Kd.C_below Z7.out hb); have T8 := Aside0.mk (qkb T7.out hb); clear hb; have s1 := qkc T8.out 1; have s2 := qkc T8.out 2; have s3 := qkc T8.out 3; simp only [List.getElem?_toArray, List.getElem?_cons_zero, List.getElem?_cons_succ] at s1 s2 s3; have r1 := qkc D8.out 1; have r2 := qkc D8.out 2; have r3 := qkc D8.out 3; simp only [List.getElem?_toArray, List.getElem?_cons_zero, List.getElem?_cons_succ] at r1 r2 r3)
        | (go_at_call 13; (with_reducible refine (barbicanlaw26_ints.calls k Ay cy y3 A2 c2 deps true w8 Y8.out YL.out (Kd.C_below H2.out B8.out) K2.out N3.out).mono ?_); rintro e w9 ⟨rfl, hd⟩; have hb := drawn_below hd; have B9 := Aside0.mk (below_step B8.out hb); have D9 := Aside0.mk (qkb D8.out hb); have E9 := Aside0.mk (qkb E8.out hb); have C9 := Aside0.mk (cat_below C8.out hb); have Y9 := Aside0.mk (Kd.C_below Y8.out hb); have Z9 := Aside0.mk (Kd.C_below Z8.out hb); have T9 := Aside0.mk (qkb T8.out hb); clear hb hd s1 s2 s3 r1 r2 r3; have s3 := qkc T9.out 3; simp only [List.getElem?_toArray, List.getElem?_cons_zero, List.getElem?_cons_succ] at s3; have r3 := qkc D9.out 3; simp only [List.getElem?_toArray, List.getElem?_cons_zero, List.getElem?_cons_succ] at r3)
        | (go_at_call 14; (with_reducible refine (barbicanlaw26_writes.calls k Az cz y4 A3 c3 wr true w9 Z9.out ZL.out (Kd.C_below H3.out B9.out) K3.out N4.out).mono ?_); rintro e wt ⟨rfl, hb⟩; have BT := Aside0.mk (below_step B9.out hb); have ET := Aside0.mk (qkb E9.out hb); have CT := Aside0.mk (cat_below C9.out hb); clear hb s3 r3))
      clear D1 B1 B2 D2 E2 B3 D3 E3 C3 B4 D4 E4 C4 B5 D5 E5 C5 B6 D6 E6 C6 B7 D7 E7 C7 B8 D8 E8 C8 B9 D9 E9 C9
      obtain ⟨v1, l1, h1, z, e2, h2, h3, h4, h5⟩ := HTail.out
      have M1 := Aside0.mk h1
      have M2 := Aside0.mk h2
      have M3 := Aside0.mk h3
      have M4 := Aside0.mk h4
      have M5 := Aside0.mk h5
      clear h1 h2 h3 h4 h5 HTail HN HD HE HL
      have r0 := qkc ET.out 0
      have r1 := qkc ET.out 1
      simp only [List.getElem?_toArray, List.getElem?_cons_zero, List.getElem?_cons_succ] at r0 r1
      cases e2 with
      | some q =>
        have d0 : ((z.length : Int) == 0) = true := beq_iff_eq.mpr (M4.out rfl)
        go_wp2_with (first
          | (go_at_call 17; (with_reducible refine (barbicanlaw26_entry.calls k view A4 c4 lines v1 l1 wt (Kd.C_below H4.out BT.out) K4.out M1.out).mono ?_); rintro e w11 ⟨v, rfl, hv, hb⟩; obtain ⟨Al, cl, el⟩ := Kd.S_slice hv; subst el; have V := Aside0.mk (Kd.S_reads' hv); have B11 := Aside0.mk (below_step BT.out hb); clear hv hb r0 r1)
          | (go_at_call 16; (with_reducible refine (store_EncodeEntry.calls k v1 Al cl l1 z (some q) w11 V.out.2.2 V.out.2.1 (GW_below HG.out B11.out) M2.out).mono ?_); rintro e w12 ⟨v, rfl, hv, hb⟩; obtain ⟨Ag, cg, eg⟩ := Kd.R_slice hv; subst eg; have B12 := Aside0.mk (below_step B11.out hb); clear hv hb; simp only [errW_some])
          | (go_at_call 6; (with_reducible refine (barbicanlaw26_sure.calls k true _ (GW_below HG.out B12.out) M3.out).mono ?_); rintro e w13 ⟨rfl, hb⟩; have B13 := Aside0.mk (below_step B12.out hb); clear hb))
        go_ret
        exact ⟨rfl, B13.out⟩
      | none =>
        obtain ⟨l2, h1, h2, y1, y2, y3, y4, h3⟩ := M5.out rfl
        have P1 := Aside0.mk h1
        have P2 := Aside0.mk h2
        have P3 := Aside0.mk h3
        clear h1 h2 h3
        have hvv : (view.toList == view.toList) = true := by simp
        go_wp2_with (first
          | (go_at_call 17; (with_reducible refine (barbicanlaw26_entry.calls k view A4 c4 lines v1 l1 wt (Kd.C_below H4.out BT.out) K4.out M1.out).mono ?_); rintro e w11 ⟨v, rfl, hv, hb⟩; obtain ⟨Al, cl, el⟩ := Kd.S_slice hv; subst el; have V := Aside0.mk (Kd.S_reads' hv); have B11 := Aside0.mk (below_step BT.out hb); have E11 := Aside0.mk (qkb ET.out hb); have C11 := Aside0.mk (cat_below CT.out hb); clear hv hb r0 r1)
          | (go_at_call 16; (with_reducible refine (store_EncodeEntry.calls k v1 Al cl l1 z none w11 V.out.2.2 V.out.2.1 (GW_below HG.out B11.out) M2.out).mono ?_); rintro e w12 ⟨v, rfl, hv, hb⟩; obtain ⟨Ag, cg, eg⟩ := Kd.R_slice hv; subst eg; have X := Aside0.mk (Kd.R_reads' hv); have B12 := Aside0.mk (below_step B11.out hb); have E12 := Aside0.mk (qkb E11.out hb); have C12 := Aside0.mk (cat_below C11.out hb); clear hv hb; simp only [errW_none])
          | (go_at_call 15; (with_reducible refine (store_DecodeEntry.calls k Ag cg z view l2 none w12 X.out.2.2 X.out.2.1 (GW_below HG.out B12.out) P1.out).mono ?_); rintro e w13 ⟨v, rfl, hv, hb⟩; obtain ⟨Am, cm, em⟩ := Kd.S_slice hv; subst em; have hbb := below_step hb (below_alloc (Below.refl _ _) (.cells #[.string view, .slice Am l2.length cm] 50 (0, 0))); have L13 := Aside0.mk (Kd.C_alloc (Kd.S_reads' hv).2.2 (.cells #[.string view, .slice Am l2.length cm] 50 (0, 0))); have LL := Aside0.mk (Kd.S_reads' hv).2.1; have B13 := Aside0.mk (below_step B12.out hbb); have E13 := Aside0.mk (qkb E12.out hbb); have C13 := Aside0.mk (cat_below C12.out hbb); have X13 := Aside0.mk (Kd.C_below X.out.2.2 hbb); have T13 := Aside0.mk (blk_new w13 (.cells #[.string view, .slice Am l2.length cm] 50 (0, 0))); clear hv hb hbb; simp only [errW_none])
          | (go_at_call 10; (with_reducible refine (store_DecodeDone.calls k (some gp) tl Ag cg z y1 y2 y3 y4 (some 3) (w13.alloc (.cells #[.string view, .slice Am l2.length cm] 50 (0, 0))) C13.out X13.out X.out.2.1 (GW_below HG.out B13.out) P3.out).mono ?_); rintro e w14 ⟨v2, v3, rfl, hv2, hv3, hb⟩; obtain ⟨Ay, cy, ey⟩ := Kd.R_slice hv2; subst ey; obtain ⟨Az, cz, ez⟩ := Kd.S_slice hv3; subst ez; have hbb := below_step hb (below_alloc (Below.refl _ _) (.cells #[.int .i64 y1, .int .i64 y2, .slice Ay y3.length cy, .slice Az y4.length cz] 35 (0, 0))); have B14 := Aside0.mk (below_step B13.out hbb); have E14 := Aside0.mk (qkb E13.out hbb); have T14 := Aside0.mk (qkb T13.out hbb); have L14 := Aside0.mk (Kd.C_below L13.out hbb); clear hv2 hv3 hb hbb; simp only [errW_some])
          | (go_at_call 12; (with_reducible refine (CN3 (w14.alloc (.cells #[.int .i64 y1, .int .i64 y2, .slice Ay y3.length cy, .slice Az y4.length cz] 35 (0, 0))) (GW_below HG.out B14.out)).mono ?_); rintro e w15 ⟨rfl, hb⟩; have B15 := Aside0.mk (below_step B14.out hb); have E15 := Aside0.mk (qkb E14.out hb); have T15 := Aside0.mk (qkb T14.out hb); have L15 := Aside0.mk (Kd.C_below L14.out hb); clear hb; have s0 := qkc T15.out 0; have s1 := qkc T15.out 1; have r0 := qkc E15.out 0; have r1 := qkc E15.out 1; simp only [List.getElem?_toArray, List.getElem?_cons_zero, List.getElem?_cons_succ] at s0 s1 r0 r1)
          | (go_at_call 18; (with_reducible refine (barbicanlaw26_lists.calls k Am cm l2 A4 c4 lines true w15 L15.out LL.out (Kd.C_below H4.out B15.out) K4.out P2.out).mono ?_); rintro e w16 ⟨rfl, hd⟩; have B16 := Aside0.mk (below_step B15.out (drawn_below hd)); clear hd s0 s1 r0 r1)
          | (go_at_call 6; (with_reducible refine (barbicanlaw26_sure.calls k true _ (GW_below HG.out B16.out) M3.out).mono ?_); rintro e w17 ⟨rfl, hb⟩; have B17 := Aside0.mk (below_step B16.out hb); clear hb))
        go_ret
        exact ⟨rfl, B17.out⟩
/-- The law's answer, as the row's text asks for it. -/
noncomputable def barbicanlaw26_StoreBack.f (k : Nat) (l0 : List (S59)) (a1_0 : Int) (a1_1 : Int) (l1_2 : List Int) (l1_3 : List (S68)) (a2_0 : ByteArray) (l2_1 : List (List (S63))) : Option Bool := by
  classical exact if LawTrue k l0 a1_0 a1_1 l1_2 l1_3 a2_0 l2_1 then some true else none
theorem storeBack_f {k : Nat} {l0 : List (S59)} {a1_0 a1_1 : Int} {l1_2 : List Int} {l1_3 : List (S68)} {a2_0 : ByteArray} {l2_1 : List (List (S63))} (h : LawTrue k l0 a1_0 a1_1 l1_2 l1_3 a2_0 l2_1) : barbicanlaw26_StoreBack.f k l0 a1_0 a1_1 l1_2 l1_3 a2_0 l2_1 = some true := by
  unfold barbicanlaw26_StoreBack.f
  rw [if_pos h]
theorem barbicanlaw26_StoreBack.calls (k : Nat) (A0 : Option Addr) (c0 : Nat) (l0 : List (S59)) (a1_0 : Int) (a1_1 : Int) (A1_2 : Option Addr) (c1_2 : Nat) (l1_2 : List Int) (A1_3 : Option Addr) (c1_3 : Nat) (l1_3 : List (S68)) (a2_0 : ByteArray) (A2_1 : Option Addr) (c2_1 : Nat) (l2_1 : List (List (S63))) (r : Bool) (w : World) (hr0 : Kd.C k59 w A0 l0.length l0) (hc0 : l0.length ≤ c0) (hr1_2 : Kd.C (Kd.int .i64) w A1_2 l1_2.length l1_2) (hc1_2 : l1_2.length ≤ c1_2) (hr1_3 : Kd.C k68 w A1_3 l1_3.length l1_3) (hc1_3 : l1_3.length ≤ c1_3) (hr2_1 : Kd.C (Kd.slice 63 k63) w A2_1 l2_1.length l2_1) (hc2_1 : l2_1.length ≤ c2_1) (hG : GW w) (h : barbicanlaw26_StoreBack.f k l0 a1_0 a1_1 l1_2 l1_3 a2_0 l2_1 = some r) :
    Calls Tryz.prog 4 #[.slice A0 l0.length c0, .agg #[.int .i64 a1_0, .int .i64 a1_1, .slice A1_2 l1_2.length c1_2, .slice A1_3 l1_3.length c1_3], .agg #[.string a2_0, .slice A2_1 l2_1.length c2_1]] w fun e w' => e = .returned (.bool r) ∧ Below w.heap.size w w' := by
  unfold barbicanlaw26_StoreBack.f at h
  split at h
  · rename_i hl
    obtain rfl := Option.some.inj h
    exact lawBack.calls k A0 c0 l0 a1_0 a1_1 A1_2 c1_2 l1_2 A1_3 c1_3 l1_3 a2_0 A2_1 c2_1 l2_1 w hr0 hc0 hr1_2 hc1_2 hr1_3 hc1_3 hr2_1 hc2_1 hG hl
  · cases h
end Go.Proofs.YtddkbhglbkfelaaGreatDoor.T
