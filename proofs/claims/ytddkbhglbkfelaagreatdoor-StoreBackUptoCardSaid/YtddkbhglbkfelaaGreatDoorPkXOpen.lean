/- How a law's arguments (numbers, bools, texts, structs, slices of all these), read as data, are told as the printed contracts want them; and how great they are. -/
import Derived.Test.YtddkbhglbkfelaaGreatDoorRows
import Derived.Test.YtddkbhglbkfelaaGreatDoorPkWWords
import Derived.WalkKit
import Derived.ProofKit
import Derived.OpenShut
import Derived.Deep.Slices
set_option linter.unusedVariables false
namespace Go.Proofs.YtddkbhglbkfelaaGreatDoorX
open Go.RowKit Go.ChangeShapes Go.WideShapes Go.Deep Go.Proofs.YtddkbhglbkfelaaGreatDoorW.PrintWords Go.Proofs.YtddkbhglbkfelaaGreatDoor.Rows

theorem bulkAll_append {H : Type} (a b : List (DataW H)) : uptoBulkAll (a ++ b) = uptoBulkAll a + uptoBulkAll b := by
  induction a with
  | nil => simp [uptoBulkAll]
  | cons x r ih => simp [uptoBulkAll, ih]; omega

section
variable {H : Type} {α β : Type} (enc : TypeId × Value → H) (P : Program) (w : World) (spare : Nat → Bool) (held : Bool)

/-- A type's values, read as data, are values of the kind d, well formed, and of a size below the data's bulk. -/
def Opens (t : TypeId) (d : Kd α) (wf : α → Prop) (tot : α → Nat) : Prop :=
  ∀ fuel cs x, DataW.trod enc P w 0 spare held fuel t cs = some x → ∃ a, d.K w a cs ∧ wf a ∧ tot a ≤ uptoBulk x.1
/-- The same of a struct's fields from a place on. -/
def OpensF (off : Nat) (fs : List Field) (d : Kd α) (wf : α → Prop) (tot : α → Nat) : Prop :=
  ∀ (fuel : Nat) (cs : List Value) (xs : List (DataW H × List MemPlace)), cs.length = off + d.sz → xs.length = fs.length →
    (∀ (i : Nat) (f : Field), fs[i]? = some f → DataW.trod enc P w 0 spare held fuel f.type ((cs.drop f.offset).take (P.cellsOf f.type)) = xs[i]?) →
    ∃ a, d.K w a (cs.drop off) ∧ wf a ∧ tot a ≤ uptoBulkAll (xs.map (·.1))
end
section
variable {H : Type} {α β : Type} {enc : TypeId × Value → H} {P : Program} {w : World} {spare : Nat → Bool} {held : Bool}
theorem opens_int {t : TypeId} {k : IntKind} (ht : P.underlying t = some (.int k)) : Opens enc P w spare held t (Kd.int k) (fun n => (Lit.int k n).wf = true) (fun _ => 1) := by
  intro fuel cs x h
  obtain ⟨n, rfl, rfl, hw⟩ := DataW.trod_int ht h
  exact ⟨n, rfl, hw, by simp [uptoBulk]⟩
theorem opens_bool {t : TypeId} (ht : P.underlying t = some .bool) : Opens enc P w spare held t Kd.bool (fun _ => True) (fun _ => 1) := by
  intro fuel cs x h
  obtain ⟨n, rfl, rfl⟩ := DataW.trod_bool ht h
  exact ⟨n, rfl, trivial, by simp [uptoBulk]⟩
theorem opens_string {t : TypeId} (ht : P.underlying t = some .string) : Opens enc P w spare held t Kd.string (fun s => s.size ≤ maxLen) (fun s => s.size + 1) := by
  intro fuel cs x h
  obtain ⟨s, rfl, rfl, hs⟩ := DataW.trod_string ht h
  refine ⟨s, rfl, hs, ?_⟩
  simp only [uptoBulk, Array.length_toList]
  exact Nat.le_refl _
/-- A slice that is read: its elements. -/
theorem open_row {t e : TypeId} {d : Kd α} {wf : α → Prop} {tot : α → Nat} (ht : P.underlying t = some (.slice e)) (hc : P.cellsOf e = d.sz) (ho : Opens enc P w spare held e d wf tot)
    {fuel : Nat} {cs : List Value} {x : DataW H × List MemPlace} (h : DataW.trod enc P w 0 spare held fuel t cs = some x) :
    ∃ (A : Option Addr) (xs : List α) (cap : Nat), cs = [.slice A xs.length cap] ∧ d.C w A xs.length xs ∧ xs.length ≤ cap ∧ cap ≤ maxLen ∧ (∀ a ∈ xs, wf a) ∧ (xs.map tot).sum + 1 ≤ uptoBulk x.1 := by
  rcases open_slice ht h with ⟨rfl, rfl⟩ | ⟨a, len, cap, m, n, D, Pl, rfl, _, hl, hm, hmm, rfl, hx⟩
  · exact ⟨none, [], 0, rfl, ⟨rfl, by simp, fun h => absurd h (by simp)⟩, Nat.le_refl _, by simp [maxLen], by simp, by simp [uptoBulk]⟩
  have hlm : len ≤ m := by rw [hmm]; split <;> omega
  have h1 : ∀ i, i < len → ∃ p : α × List Value, w.cells? 0 (a.add (i * P.cellsOf e)) (P.cellsOf e) = some p.2 ∧ d.K w p.1 p.2 ∧ wf p.1 ∧ tot p.1 ≤ uptoBulk (D i) := by
    intro i hi
    obtain ⟨cs', h1, h2⟩ := hx i (by omega)
    obtain ⟨b, hb, hwf, ht⟩ := ho _ _ _ h2
    exact ⟨(b, cs'), h1, hb, hwf, ht⟩
  have h2 : ∀ k, k ≤ len → ∃ l : List α, l.length = k ∧ (∀ j p, l[j]? = some p → ∃ c, w.cells? 0 (a.add (j * P.cellsOf e)) (P.cellsOf e) = some c ∧ d.K w p c) ∧ (∀ p ∈ l, wf p) ∧ (l.map tot).sum ≤ uptoBulkAll ((List.range k).map D) := by
    intro k
    induction k with
    | zero => exact fun _ => ⟨[], rfl, fun j p hj => by simp at hj, by simp, by simp⟩
    | succ k ih =>
      intro hk
      obtain ⟨l, hl1, hl2, hl3, hl4⟩ := ih (by omega)
      obtain ⟨⟨b, c⟩, hc1, hc2, hc3, hc4⟩ := h1 k (by omega)
      refine ⟨l ++ [b], by simp [hl1], ?_, ?_, ?_⟩
      · intro j p hj
        rcases Nat.lt_or_ge j k with hjk | hjk
        · rw [List.getElem?_append_left (by omega)] at hj
          exact hl2 j p hj
        · rw [List.getElem?_append_right (by omega), hl1] at hj
          have hj0 : j = k := by
            rcases Nat.eq_or_lt_of_le hjk with h | h
            · exact h.symm
            · rw [List.getElem?_eq_none (by simp; omega)] at hj; cases hj
          subst hj0
          have : b = p := by simpa using hj
          subst this
          exact ⟨c, hc1, hc2⟩
      · intro p hp
        rcases List.mem_append.1 hp with hp | hp
        · exact hl3 p hp
        · rw [List.mem_singleton.1 hp]; exact hc3
      · rw [List.range_succ, List.map_append (f := D), bulkAll_append, List.map_append (f := tot), List.sum_append]
        simp only [List.map_cons, List.map_nil, List.sum_cons, List.sum_nil, uptoBulkAll]
        have := hc4
        simp only at this
        omega
  obtain ⟨l, hl1, hl2, hl3, hl4⟩ := h2 len (Nat.le_refl _)
  subst hl1
  refine ⟨some a, l, cap, rfl, ⟨rfl, by simp only [maxLen] at hm; omega, fun _ => ⟨a, rfl, fun j p hj => ?_⟩⟩, hl, hm, hl3, ?_⟩
  · obtain ⟨c, hc1, hc2⟩ := hl2 j p hj
    have hlen : c.length = d.sz := d.K_len hc2
    refine ⟨c, hlen, hc2, fun i u hu => ?_⟩
    unfold World.cells? at hc1
    simp only [Nat.zero_le, if_true] at hc1
    have hi : i < P.cellsOf e := by
      rw [hc, ← hlen]
      rcases Nat.lt_or_ge i c.length with h | h
      · exact h
      · rw [List.getElem?_eq_none h] at hu; cases hu
    have := mapM_some_get hc1 i i (by simp [hi])
    rw [← hc, ← Go.Deep.add_add, this, hu]
  · simp only [uptoBulk]
    omega
theorem opens_slice {t e : TypeId} {d : Kd α} {wf : α → Prop} {tot : α → Nat} (ht : P.underlying t = some (.slice e)) (hc : P.cellsOf e = d.sz) (ho : Opens enc P w spare held e d wf tot) :
    Opens enc P w spare held t (Kd.slice e d) (fun l => ∀ a ∈ l, wf a) (fun l => (l.map tot).sum + 1) := by
  intro fuel cs x h
  obtain ⟨A, xs, cap, rfl, hC, hl, _, hw, hb⟩ := open_row ht hc ho h
  exact ⟨xs, ⟨A, cap, rfl, hl, hC⟩, hw, hb⟩
theorem opensF_one {off : Nat} {f : Field} {d : Kd α} {wf : α → Prop} {tot : α → Nat} (hf : f.offset = off) (hc : P.cellsOf f.type = d.sz) (ho : Opens enc P w spare held f.type d wf tot) : OpensF enc P w spare held off [f] d wf tot := by
  intro fuel cs xs hl hx h
  match xs, hx with
  | [x], _ =>
    have h0 := h 0 f rfl
    rw [hf, hc, List.take_of_length_le (by simp; omega)] at h0
    obtain ⟨a, ha, hw, hb⟩ := ho _ _ _ h0
    exact ⟨a, ha, hw, by simpa [uptoBulkAll] using hb⟩
theorem opensF_cons {off : Nat} {f : Field} {fs : List Field} {d : Kd α} {d' : Kd β} {wf : α → Prop} {tot : α → Nat} {wf' : β → Prop} {tot' : β → Nat} (hf : f.offset = off) (hc : P.cellsOf f.type = d.sz)
    (ho : Opens enc P w spare held f.type d wf tot) (hr : OpensF enc P w spare held (off + d.sz) fs d' wf' tot') :
    OpensF enc P w spare held off (f :: fs) (Kd.pair d d') (fun p => wf p.1 ∧ wf' p.2) (fun p => tot p.1 + tot' p.2) := by
  intro fuel cs xs hl hx h
  match xs, hx with
  | x :: xs, hx =>
    have hsz : (Kd.pair d d').sz = d.sz + d'.sz := rfl
    have h0 := h 0 f rfl
    rw [hf, hc] at h0
    obtain ⟨a, ha, hw, hb⟩ := ho _ _ _ h0
    obtain ⟨b, hb1, hb2, hb3⟩ := hr fuel cs xs (by omega) (by simpa using hx) (fun i g hg => by simpa using h (i + 1) g (by simpa using hg))
    refine ⟨(a, b), ⟨_, _, ?_, ha, hb1⟩, ⟨hw, hb2⟩, ?_⟩
    · rw [← List.drop_drop, List.take_append_drop]
    · show tot a + tot' b ≤ uptoBulk x.1 + uptoBulkAll (xs.map (·.1))
      omega
/-- A struct by its fields. -/
theorem opens_struct {t : TypeId} {fs : Array Field} {d : Kd α} {wf : α → Prop} {tot : α → Nat} {g : β → α} {mk : α → β} (ht : P.underlying t = some (.struct fs)) (hc : P.cellsOf t = d.sz) (ho : OpensF enc P w spare held 0 fs.toList d wf tot) (hg : ∀ p, g (mk p) = p) :
    Opens enc P w spare held t (Kd.iso d g) (fun b => wf (g b)) (fun b => tot (g b) + 1) := by
  intro fuel cs x h
  obtain ⟨xs, n, rfl, rfl, hl, hn, hx⟩ := DataW.trod_struct ht h
  obtain ⟨a, ha, hw, hb⟩ := ho n cs xs (by omega) (by simpa using hn) (fun i f hf => hx i f (by simpa using hf))
  refine ⟨mk a, ?_, ?_, ?_⟩
  · show d.K w (g (mk a)) cs
    rw [hg]; exact ha
  · show wf (g (mk a))
    rw [hg]; exact hw
  · show tot (g (mk a)) + 1 ≤ _
    rw [hg]
    simp only [uptoBulk]
    omega
end
end Go.Proofs.YtddkbhglbkfelaaGreatDoorX
