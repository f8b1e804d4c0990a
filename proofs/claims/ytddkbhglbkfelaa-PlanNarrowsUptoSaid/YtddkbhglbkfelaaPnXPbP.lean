/- A region that calls, makes variables and fills them in open order: what holds of the variables and of the rows made between, whatever came up before. -/
import Derived.Test.YtddkbhglbkfelaaPnPx0
set_option linter.unusedVariables false
namespace Go.Proofs.Ytddkbhglbkfelaa.P
open Go.RowKit Go.Proofs.YtddkbhglbkfelaaW.PrintWords Go.Proofs.YtddkbhglbkfelaaW.PrintLast Go.Proofs.YtddkbhglbkfelaaW.PrintMore Go.Proofs.YtddkbhglbkfelaaX
/-- A variable that a region makes and fills: not there yet, empty, filled. -/
def Bx (n0 : Nat) (w' : World) (on st : Bool) (g : Nat) (zs vs : Array Value) (t : TypeId) : Prop :=
  g < w'.heap.size ∧ (on = true → n0 ≤ g ∧ (st = false → w'.heap[g]? = some (.cells zs t (0, 0)))) ∧ (st = true → w'.heap[g]? = some (.cells vs t (0, 0)))
/-- A world with a block's cells filled from one on. -/
def fill (w : World) (g : Nat) : Nat → List Value → World
  | _, [] => w
  | i, v :: vs => fill (w.setCell ⟨g, i, none⟩ v) g (i + 1) vs
def fillC (cs : Array Value) : Nat → List Value → Array Value
  | _, [] => cs
  | i, v :: vs => fillC (cs.setIfInBounds i v) (i + 1) vs
section
variable {n0 : Nat} {w' W w0 : World} {on st off : Bool} {g g' g1 g2 g3 : Nat} {zs us : Array Value} {t : TypeId} {v : Value} {xs : List S43}
theorem Bx.below (h : Bx n0 w' on st g zs us t) (hb : Below w'.heap.size w' W) : Bx n0 W on st g zs us t :=
  ⟨Nat.lt_of_lt_of_le h.1 hb.size, fun e => ⟨(h.2.1 e).1, fun s => blk_below ((h.2.1 e).2 s) hb⟩, fun s => blk_below (h.2.2 s) hb⟩
theorem Bx.born (hs : n0 ≤ w'.heap.size) (hbox : W.heap[w'.heap.size]? = some (.cells zs t (0, 0))) (h0 : st = false) : Bx n0 W on st w'.heap.size zs us t :=
  ⟨blk_lt hbox, fun _ => ⟨hs, fun _ => hbox⟩, fun h => by rw [h0] at h; cases h⟩
theorem size_set (w : World) (p : Addr) (u : Value) : (w.setCell p u).heap.size = w.heap.size := by
  unfold World.setCell
  repeat' split
  all_goals first | rfl | simp
theorem fill_size (g : Nat) : ∀ (vs : List Value) (w : World) (i : Nat), (fill w g i vs).heap.size = w.heap.size
  | [], _, _ => rfl
  | u :: vs, w, i => by rw [fill, fill_size g vs, size_set]
theorem fill_far (g : Nat) {k : Nat} (hk : k ≠ g) : ∀ (vs : List Value) (w : World) (i : Nat), (fill w g i vs).heap[k]? = w.heap[k]?
  | [], _, _ => rfl
  | u :: vs, w, i => by rw [fill, fill_far g hk vs]; exact Below.heap_setCell w ⟨g, i, none⟩ u k hk
theorem fill_blk (g : Nat) : ∀ (vs : List Value) (w : World) (i : Nat) (cs : Array Value), w.heap[g]? = some (.cells cs t (0, 0)) → (fill w g i vs).heap[g]? = some (.cells (fillC cs i vs) t (0, 0))
  | [], _, _, _, h => h
  | u :: vs, w, i, cs, h => by rw [fill, fillC]; exact fill_blk g vs _ _ _ (blk_set h i u)
theorem fill_below (g : Nat) : ∀ (vs : List Value) (w : World) (i : Nat), Below w0.heap.size w0 w → w0.heap.size ≤ g → Below w0.heap.size w0 (fill w g i vs)
  | [], _, _, h, _ => h
  | u :: vs, w, i, h, hg => by rw [fill]; exact fill_below g vs _ _ (below_set h hg) hg
theorem Bx.fill {i : Nat} {vs : List Value} (h : Bx n0 w' on st g zs us t) (hne : g ≠ g') : Bx n0 (fill w' g' i vs) on st g zs us t :=
  ⟨by rw [fill_size]; exact h.1, fun e => ⟨(h.2.1 e).1, fun s => (fill_far g' hne vs w' i).trans ((h.2.1 e).2 s)⟩, fun s => (fill_far g' hne vs w' i).trans (h.2.2 s)⟩
theorem Bx.filled {i : Nat} {vs : List Value} {st' : Bool} (h : Bx n0 w' on st g zs us t) (e : on = true) (s : st = false) (s' : st' = true) (hv : fillC zs i vs = us) : Bx n0 (Go.Proofs.Ytddkbhglbkfelaa.P.fill w' g i vs) on st' g zs us t :=
  ⟨by rw [fill_size]; exact h.1, fun e => ⟨(h.2.1 e).1, fun q => by rw [s'] at q; cases q⟩, fun _ => by rw [← hv]; exact fill_blk g vs w' i zs ((h.2.1 e).2 s)⟩
/-- A row that a call made: apart from these variables. -/
def Rw (n0 : Nat) (w' : World) (on off : Bool) (g1 g2 g3 : Nat) (v : Value) (xs : List S43) : Prop :=
  on = true → off = false → Kd.R k43 43 w' n0 (fun k_ => k_ ≠ g1 ∧ k_ ≠ g2 ∧ k_ ≠ g3) v xs
theorem Rw.below (h : Rw n0 w' on off g1 g2 g3 v xs) (hb : Below w'.heap.size w' W) : Rw n0 W on off g1 g2 g3 v xs := fun a b => Kd.R_below (h a b) hb
theorem Rw.gone (h : off = true) : Rw n0 W on off g1 g2 g3 v xs := fun _ b => by rw [h] at b; cases b
theorem Rw.born (ho : Kd.R k43 43 W w'.heap.size (fun _ => True) v xs) (hs : n0 ≤ w'.heap.size) (l1 : g1 < w'.heap.size) (l2 : g2 < w'.heap.size) (l3 : g3 < w'.heap.size) : Rw n0 W on off g1 g2 g3 v xs :=
  fun _ _ => Kd.R_lower (Kd.R_mono (Kd.R_bound ho) (fun k hk => by have := hk.2.1; exact ⟨by omega, by omega, by omega⟩)) hs
theorem Rw.new1 (h : Rw n0 w' on off g1 g2 g3 v xs) : Rw n0 w' on off w'.heap.size g2 g3 v xs := fun a b => Kd.R_mono (Kd.R_bound (h a b)) (fun k hk => by have := hk.2.2.1; exact ⟨by omega, hk.1.2.1, hk.1.2.2⟩)
theorem Rw.new2 (h : Rw n0 w' on off g1 g2 g3 v xs) : Rw n0 w' on off g1 w'.heap.size g3 v xs := fun a b => Kd.R_mono (Kd.R_bound (h a b)) (fun k hk => by have := hk.2.2.1; exact ⟨hk.1.1, by omega, hk.1.2.2⟩)
theorem Rw.new3 (h : Rw n0 w' on off g1 g2 g3 v xs) : Rw n0 w' on off g1 g2 w'.heap.size v xs := fun a b => Kd.R_mono (Kd.R_bound (h a b)) (fun k hk => by have := hk.2.2.1; exact ⟨hk.1.1, hk.1.2.1, by omega⟩)
theorem R_fill {ok : Nat → Prop} (g : Nat) (hok : ∀ k, ok k → k ≠ g) : ∀ (vs : List Value) (w : World) (i : Nat), Kd.R k43 43 w n0 ok v xs → Kd.R k43 43 (fill w g i vs) n0 ok v xs
  | [], _, _, h => h
  | u :: vs, w, i, h => by rw [fill]; exact R_fill g hok vs _ _ (Kd.R_far h (p := ⟨g, i, none⟩) hok u)
theorem Rw.fill1 {i : Nat} {vs : List Value} (h : Rw n0 w' on off g1 g2 g3 v xs) : Rw n0 (fill w' g1 i vs) on off g1 g2 g3 v xs := fun a b => R_fill g1 (fun _ hk => hk.1) vs w' i (h a b)
theorem Rw.fill2 {i : Nat} {vs : List Value} (h : Rw n0 w' on off g1 g2 g3 v xs) : Rw n0 (fill w' g2 i vs) on off g1 g2 g3 v xs := fun a b => R_fill g2 (fun _ hk => hk.2.1) vs w' i (h a b)
theorem Rw.fill3 {i : Nat} {vs : List Value} (h : Rw n0 w' on off g1 g2 g3 v xs) : Rw n0 (fill w' g3 i vs) on off g1 g2 g3 v xs := fun a b => R_fill g3 (fun _ hk => hk.2.2) vs w' i (h a b)
/-- Three variables, none of which is another. -/
def Ne3 (b1 b2 b3 : Bool) (g1 g2 g3 : Nat) : Prop := (b1 = true → b2 = true → g1 ≠ g2) ∧ (b1 = true → b3 = true → g1 ≠ g3) ∧ (b2 = true → b3 = true → g2 ≠ g3)
variable {b1 b2 b3 c : Bool} {n : Nat}
theorem Ne3.new1 (h : Ne3 b1 b2 b3 g1 g2 g3) (l2 : g2 < n) (l3 : g3 < n) : Ne3 c b2 b3 n g2 g3 := ⟨fun _ _ => by omega, fun _ _ => by omega, h.2.2⟩
theorem Ne3.new2 (h : Ne3 b1 b2 b3 g1 g2 g3) (l1 : g1 < n) (l3 : g3 < n) : Ne3 b1 c b3 g1 n g3 := ⟨fun _ _ => by omega, h.2.1, fun _ _ => by omega⟩
theorem Ne3.new3 (h : Ne3 b1 b2 b3 g1 g2 g3) (l1 : g1 < n) (l2 : g2 < n) : Ne3 b1 b2 c g1 g2 n := ⟨h.1, fun _ _ => by omega, fun _ _ => by omega⟩
end
end Go.Proofs.Ytddkbhglbkfelaa.P
