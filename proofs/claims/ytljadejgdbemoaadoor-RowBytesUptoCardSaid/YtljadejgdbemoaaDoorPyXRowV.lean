/- Rows and keys tell values apart; the laws' own small functions. -/
import Derived.Test.YtljadejgdbemoaaDoorPyXRowK
import Derived.Test.YtljadejgdbemoaaDoorPyRx6
set_option linter.unusedVariables false
set_option linter.unusedSimpArgs false
namespace Go.Proofs.YtljadejgdbemoaaDoor.R
open Go.RowKit Go.Proofs.YtljadejgdbemoaaDoorW.PrintWords Go.Proofs.YtljadejgdbemoaaDoorW.PrintLast Go.Proofs.YtljadejgdbemoaaDoorX

theorem ba_eq {a b : ByteArray} (h : a.toList = b.toList) : a = b := by
  rw [toList_data, toList_data] at h
  cases a; cases b
  congr 1
  exact Array.ext' h
theorem nums_inj : ∀ (xs ys : List Int), (∀ x ∈ xs, 0 ≤ x ∧ x ≤ 255) → (∀ y ∈ ys, 0 ≤ y ∧ y ≤ 255) → xs.map (fun n => UInt8.ofNat n.toNat) = ys.map (fun n => UInt8.ofNat n.toNat) → xs = ys
  | [], [], _, _, _ => rfl
  | [], _ :: _, _, _, h => by cases h
  | _ :: _, [], _, _, h => by cases h
  | x :: xs, y :: ys, hx, hy, h => by
    simp only [List.map_cons, List.cons.injEq] at h
    have a := hx x List.mem_cons_self
    have b := hy y List.mem_cons_self
    have hxy : x = y := by
      have h1 := congrArg UInt8.toNat h.1
      simp only [UInt8.toNat_ofNat'] at h1
      omega
    rw [hxy, nums_inj xs ys (fun z hz => hx z (List.mem_cons_of_mem _ hz)) (fun z hz => hy z (List.mem_cons_of_mem _ hz)) h.2]
theorem strOfNums_toList (xs : List Int) : (strOfNums xs).toList = xs.map (fun n => UInt8.ofNat n.toNat) := by
  rw [toList_data]; unfold strOfNums; simp
theorem strOfNums_inj {xs ys : List Int} (hx : ∀ x ∈ xs, 0 ≤ x ∧ x ≤ 255) (hy : ∀ y ∈ ys, 0 ≤ y ∧ y ≤ 255) (h : (strOfNums xs).toList = (strOfNums ys).toList) : xs = ys := by
  rw [strOfNums_toList, strOfNums_toList] at h
  exact nums_inj xs ys hx hy h

theorem vErr_none {a b : Int} {s : ByteArray} {t : Bool} (h : vErr a b s t = none) : (a = 0 ∨ a = 1 ∨ a = 2 ∨ a = 3) ∧ (a ≠ 1 → b = 0) ∧ (a ≠ 2 → s.toList = []) ∧ (a ≠ 3 → t = false) ∧ s.size ≤ 4096 ∧ plainT s = true := by
  unfold vErr at h
  split at h
  · cases h
  · rename_i h1
    split at h
    · cases h
    · rename_i h2
      split at h
      · cases h
      · rename_i h3
        refine ⟨Classical.byContradiction fun hn => h1 (Or.inl hn), fun hn => Classical.byContradiction fun hb => h1 (Or.inr (Or.inl ⟨hn, hb⟩)), fun hn => Classical.byContradiction fun hb => h1 (Or.inr (Or.inr (Or.inl ⟨hn, hb⟩))), fun hn => ?_, by omega, by simpa using h3⟩
        rw [← Bool.not_eq_true]
        exact fun hb => h1 (Or.inr (Or.inr (Or.inr ⟨hn, hb⟩)))
theorem fit_none {c : S36} {v : S38} (h : fitErr c v = none) : vErr v.f0 v.f1 v.f2 v.f3 = none ∧ (v.f0 = 0 ∧ c.f2 = false ∧ c.f3 = true ∨ v.f0 ≠ 0 ∧ v.f0 = c.f1) := by
  unfold fitErr at h
  split at h
  · cases h
  · rename_i h1
    refine ⟨h1, ?_⟩
    split at h
    · rename_i h2
      split at h
      · cases h
      · rename_i h3
        split at h
        · rename_i h4
          exact Or.inl ⟨h2, by simpa using h3, h4⟩
        · cases h
    · rename_i h2
      split at h
      · rename_i h3; exact Or.inr ⟨h2, h3⟩
      · cases h
theorem s38_eq {v w : S38} (h0 : v.f0 = w.f0) (h1 : v.f1 = w.f1) (h2 : v.f2.toList = w.f2.toList) (h3 : v.f3 = w.f3) : v = w := by
  cases v; cases w
  simp only at h0 h1 h2 h3
  rw [h0, h1, ba_eq h2, h3]
theorem encV_range {v : S38} : ∀ b ∈ encV v, 0 ≤ b ∧ b ≤ 255 := by
  intro b hb
  unfold encV at hb
  split at hb
  · simp only [List.mem_cons, List.mem_nil_iff, or_false] at hb; omega
  · rcases List.mem_cons.1 hb with rfl | hb
    · omega
    · split at hb
      · exact uvar_range _ b hb
      · split at hb
        · rcases List.mem_append.1 hb with hb | hb
          · exact uvar_range _ b hb
          · exact bytesOf_range _ b hb
        · split at hb <;> (simp only [List.mem_cons, List.mem_nil_iff, or_false] at hb; omega)
theorem encL_range : ∀ (vs : List S38), ∀ b ∈ encL vs, 0 ≤ b ∧ b ≤ 255
  | [], b, hb => by cases hb
  | v :: vs, b, hb => by
    rcases List.mem_append.1 hb with hb | hb
    · exact encV_range b hb
    · exact encL_range vs b hb

/-! ### keys -/

/-! ### the laws' own functions -/
theorem twin_eq {l : List S38} (h : l.length < 3518437208883) : barbicanlaw14_twin.f l = some l := by
  unfold barbicanlaw14_twin.f
  rw [if_pos (by simpa using h), List.nil_append]
theorem sure_ev : Ev (fun k => barbicanlaw14_sure.f k) true := by
  refine Ev.of (fun k => barbicanlaw14_sure.mono k) (k := 12) ?_
  kernel_rfl
theorem same_iff (v w : S38) : (!(v.f0 == w.f0) || (!(v.f1 == w.f1) || (!(v.f2.toList == w.f2.toList) || (!(v.f3 == w.f3))))) = true ↔ v ≠ w := by
  simp only [Bool.or_eq_true, Bool.not_eq_true', beq_eq_false_iff_ne, ne_eq]
  constructor
  · rintro h rfl
    simp at h
  · intro h
    refine Classical.byContradiction fun hn => h ?_
    simp only [not_or, Classical.not_not] at hn
    exact s38_eq hn.1 hn.2.1 hn.2.2.1 hn.2.2.2
theorem values_loop (V W : List S38) (hl : V.length = W.length) (hb : V.length < 9223372036854775807) : ∀ (vs ws : List S38) (j : Nat), V.drop j = vs → W.drop j = ws → vs.length = ws.length → ∃ b, (b = true ↔ vs = ws) ∧ Ev (fun k => barbicanlaw14_values.l0 k V W (j : Int)) b
  | [], ws, j, hv, hw, he => by
    have := drop_nil hv
    refine ⟨true, ?_, ev_step (fun _ => barbicanlaw14_values.l0.eq_2 ..) ?_⟩
    · cases ws with
      | nil => simp
      | cons _ _ => cases he
    · simp only [show ¬ ((j : Int) < (V.length : Int)) by omega, if_false]; exact ev_some _
  | v :: vs, [], j, hv, hw, he => by cases he
  | v :: vs, w :: ws, j, hv, hw, he => by
    obtain ⟨v1, v2, v3⟩ := drop_cons hv
    obtain ⟨w1, w2, w3⟩ := drop_cons hw
    by_cases hs : v = w
    · obtain ⟨b, hb1, hb2⟩ := values_loop V W hl hb vs ws (j + 1) v3 w3 (by simpa using he)
      refine ⟨b, ?_, ev_step (fun _ => barbicanlaw14_values.l0.eq_2 ..) ?_⟩
      · rw [hb1, hs]; simp
      · have hn : ¬ ((!(v.f0 == w.f0) || (!(v.f1 == w.f1) || (!(v.f2.toList == w.f2.toList) || (!(v.f3 == w.f3))))) = true) := fun h => (same_iff v w).1 h hs
        simp only [show ((j : Int) < (V.length : Int)) by omega, show ((j : Int) < (W.length : Int)) by omega, show (0 ≤ (j : Int)) by omega, if_true, rd38_at v1, rd38_at w1, wrap_succ (j := j) (by omega), if_neg hn]
        exact hb2
    · refine ⟨false, ?_, ev_step (fun _ => barbicanlaw14_values.l0.eq_2 ..) ?_⟩
      · simp [hs]
      · simp only [show ((j : Int) < (V.length : Int)) by omega, show ((j : Int) < (W.length : Int)) by omega, show (0 ≤ (j : Int)) by omega, if_true, rd38_at v1, rd38_at w1, if_pos ((same_iff v w).2 hs)]
        exact ev_some _
theorem values_ev (V W : List S38) (hb : V.length < 9223372036854775807) : ∃ b, (b = true ↔ V = W) ∧ Ev (fun k => barbicanlaw14_values.f k V W) b := by
  unfold barbicanlaw14_values.f
  by_cases h : V.length = W.length
  · obtain ⟨b, h1, h2⟩ := values_loop V W h hb V W 0 rfl rfl h
    refine ⟨b, h1, ?_⟩
    simp only [show (V.length : Int) = (W.length : Int) by omega, if_true]
    exact h2
  · refine ⟨false, ?_, ?_⟩
    · constructor
      · intro h2; cases h2
      · rintro rfl; exact absurd rfl h
    · simp only [show ¬ (V.length : Int) = (W.length : Int) by omega, if_false]; exact ev_some _
end Go.Proofs.YtljadejgdbemoaaDoor.R
