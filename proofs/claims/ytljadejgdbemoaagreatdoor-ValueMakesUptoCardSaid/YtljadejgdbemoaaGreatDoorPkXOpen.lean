/- How a law's arguments (numbers, bools, texts, structs, slices of all these), read as data, are told as the printed contracts want them; and how great they are. -/
import Derived.Test.YtljadejgdbemoaaGreatDoorRows
import Derived.Test.YtljadejgdbemoaaGreatDoorPkWWords
import Derived.WalkKit
import Derived.ProofKit
import Derived.OpenShut
import Derived.Deep.Slices
set_option linter.unusedVariables false
namespace Go.Proofs.YtljadejgdbemoaaGreatDoorX
open Go.RowKit Go.ChangeShapes Go.WideShapes Go.Deep Go.Proofs.YtljadejgdbemoaaGreatDoorW.PrintWords Go.Proofs.YtljadejgdbemoaaGreatDoor.Rows

section
variable {H : Type} {α β : Type} (enc : TypeId × Value → H) (P : Program) (w : World) (spare : Nat → Bool) (held : Bool)

/-- A type's values, read as data, are values of the kind d, well formed, and of a size below the data's bulk. -/
def Opens (t : TypeId) (d : Kd α) (wf : α → Prop) (tot : α → Nat) : Prop :=
  ∀ fuel cs x, DataW.trod enc P w 0 spare held fuel t cs = some x → ∃ a, d.K w a cs ∧ wf a ∧ tot a ≤ uptoBulk x.1
/-- The same of a struct's fields from a place on. -/
def OpensF (off : Nat) (fs : List Field) (d : Kd α) (wf : α → Prop) (tot : α → Nat) : Prop :=
  ∀ (fuel : Nat) (cs : List Value) (xs : List (DataW H × List MemPlace)), cs.length = off + d.sz → xs.length = fs.length →
    (∀ (i : Nat) (f : Field), fs[i]? = some f → DataW.trod enc P w 0 spare held fuel f.type ((cs.drop f.offset).take (P.cellsOf f.type)) = xs[i]?) →
    ∃ a, d.K w a (cs.drop off) ∧ wf a ∧ tot a ≤ uptoBulkAll (xs.map (·.1))
end
section
variable {H : Type} {α β : Type} {enc : TypeId × Value → H} {P : Program} {w : World} {spare : Nat → Bool} {held : Bool}
theorem opens_int {t : TypeId} {k : IntKind} (ht : P.underlying t = some (.int k)) : Opens enc P w spare held t (Kd.int k) (fun n => (Lit.int k n).wf = true) (fun _ => 1) := by
  intro fuel cs x h
  obtain ⟨n, rfl, rfl, hw⟩ := DataW.trod_int ht h
  exact ⟨n, rfl, hw, by simp [uptoBulk]⟩
theorem opens_bool {t : TypeId} (ht : P.underlying t = some .bool) : Opens enc P w spare held t Kd.bool (fun _ => True) (fun _ => 1) := by
  intro fuel cs x h
  obtain ⟨n, rfl, rfl⟩ := DataW.trod_bool ht h
  exact ⟨n, rfl, trivial, by simp [uptoBulk]⟩
theorem opens_string {t : TypeId} (ht : P.underlying t = some .string) : Opens enc P w spare held t Kd.string (fun s => s.size ≤ maxLen) (fun s => s.size + 1) := by
  intro fuel cs x h
  obtain ⟨s, rfl, rfl, hs⟩ := DataW.trod_string ht h
  refine ⟨s, rfl, hs, ?_⟩
  simp only [uptoBulk, Array.length_toList]
  exact Nat.le_refl _
theorem opensF_one {off : Nat} {f : Field} {d : Kd α} {wf : α → Prop} {tot : α → Nat} (hf : f.offset = off) (hc : P.cellsOf f.type = d.sz) (ho : Opens enc P w spare held f.type d wf tot) : OpensF enc P w spare held off [f] d wf tot := by
  intro fuel cs xs hl hx h
  match xs, hx with
  | [x], _ =>
    have h0 := h 0 f rfl
    rw [hf, hc, List.take_of_length_le (by simp; omega)] at h0
    obtain ⟨a, ha, hw, hb⟩ := ho _ _ _ h0
    exact ⟨a, ha, hw, by simpa [uptoBulkAll] using hb⟩
theorem opensF_cons {off : Nat} {f : Field} {fs : List Field} {d : Kd α} {d' : Kd β} {wf : α → Prop} {tot : α → Nat} {wf' : β → Prop} {tot' : β → Nat} (hf : f.offset = off) (hc : P.cellsOf f.type = d.sz)
    (ho : Opens enc P w spare held f.type d wf tot) (hr : OpensF enc P w spare held (off + d.sz) fs d' wf' tot') :
    OpensF enc P w spare held off (f :: fs) (Kd.pair d d') (fun p => wf p.1 ∧ wf' p.2) (fun p => tot p.1 + tot' p.2) := by
  intro fuel cs xs hl hx h
  match xs, hx with
  | x :: xs, hx =>
    have hsz : (Kd.pair d d').sz = d.sz + d'.sz := rfl
    have h0 := h 0 f rfl
    rw [hf, hc] at h0
    obtain ⟨a, ha, hw, hb⟩ := ho _ _ _ h0
    obtain ⟨b, hb1, hb2, hb3⟩ := hr fuel cs xs (by omega) (by simpa using hx) (fun i g hg => by simpa using h (i + 1) g (by simpa using hg))
    refine ⟨(a, b), ⟨_, _, ?_, ha, hb1⟩, ⟨hw, hb2⟩, ?_⟩
    · rw [← List.drop_drop, List.take_append_drop]
    · show tot a + tot' b ≤ uptoBulk x.1 + uptoBulkAll (xs.map (·.1))
      omega
/-- A struct by its fields. -/
theorem opens_struct {t : TypeId} {fs : Array Field} {d : Kd α} {wf : α → Prop} {tot : α → Nat} {g : β → α} {mk : α → β} (ht : P.underlying t = some (.struct fs)) (hc : P.cellsOf t = d.sz) (ho : OpensF enc P w spare held 0 fs.toList d wf tot) (hg : ∀ p, g (mk p) = p) :
    Opens enc P w spare held t (Kd.iso d g) (fun b => wf (g b)) (fun b => tot (g b) + 1) := by
  intro fuel cs x h
  obtain ⟨xs, n, rfl, rfl, hl, hn, hx⟩ := DataW.trod_struct ht h
  obtain ⟨a, ha, hw, hb⟩ := ho n cs xs (by omega) (by simpa using hn) (fun i f hf => hx i f (by simpa using hf))
  refine ⟨mk a, ?_, ?_, ?_⟩
  · show d.K w (g (mk a)) cs
    rw [hg]; exact ha
  · show wf (g (mk a))
    rw [hg]; exact hw
  · show tot (g (mk a)) + 1 ≤ _
    rw [hg]
    simp only [uptoBulk]
    omega
end
end Go.Proofs.YtljadejgdbemoaaGreatDoorX
