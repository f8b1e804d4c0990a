import Derived.Test.YtddkbhglbkfelaaGreatDoorProg
import Derived.Below
import Derived.Deep.Draws
import Derived.Deep.AppendLies
import Derived.Maps.AppendAt
import Derived.OwnWalk
import Derived.Laws.BytesArg
import Derived.Laws.MakeOwn
import Derived.Laws.OwnMore
import Derived.Deep.OwnRows
import Derived.Tactics
import Derived.Lib.ConvBytes
import Derived.Laws.Slices
import Derived.WalkKit
import Derived.KernelRfl
import Derived.RowKit3
import Derived.Deep.LoopGhost
import Derived.Deep.QuietTactic
import Derived.BigQuiet
import Derived.WideLaws
import Derived.Deep.DeepCutAuto
import Derived.Deep.CutBlock
import Derived.Deep.RegionHeld3
import Derived.Laws.Rows
import Derived.Lib.AppendStr
import Derived.ArgAppend
import Derived.Laws.IdiomCopy
import Derived.OrdersHeld
import Derived.Laws.BitsLemmas
import Derived.RowKit
import Derived.Test.YtddkbhglbkfelaaGreatDoorPkXWords
import Derived.Test.YtddkbhglbkfelaaGreatDoorPkShelf
import Derived.Test.YtddkbhglbkfelaaGreatDoorPkXGSto
import Derived.Shelf.GgClosure.StringsIndexFunc
import Derived.Lib.SlBytesConst
import Derived.Lib.SliceRun
import Derived.WalkSpells
import Derived.Maps.OwnSet
import Derived.Test.YtddkbhglbkfelaaGreatDoorPkWWords
import Derived.Test.YtddkbhglbkfelaaGreatDoorPkWLast
import Derived.Test.YtddkbhglbkfelaaGreatDoorPkWTab
import Derived.Test.YtddkbhglbkfelaaGreatDoorPkWQPut
import Derived.Test.YtddkbhglbkfelaaGreatDoorPkWApart
import Derived.Test.YtddkbhglbkfelaaGreatDoorPkWShare
import Derived.Test.YtddkbhglbkfelaaGreatDoorPkWN
import Derived.Test.YtddkbhglbkfelaaGreatDoorPkWNEv
import Derived.Test.YtddkbhglbkfelaaGreatDoorPkWMore
namespace Go.Proofs.YtddkbhglbkfelaaGreatDoorW.PrintWords
open Go.RowKit
section
variable {P : Program} {ops : Array Oper} {Q : Exit → Act → World → Prop}
theorem gL_ {rest : List Oper} {oi : Oper} {a : Act} {w : World} (N : Option Tmp) {f : FuncId} {fn : Func} {xs_ : Array Operand} {ts : Array TypeId} (hf : P.funcs[f]? = some fn) (args : Array Value)
    (h : Calls P f args w fun e w' => ∃ v, e = .returned v ∧ wpList P ops Q rest (a.put N v) w')
    (hd : oi.dst = N := by exact rfl) (hg : oi.guard = none := by exact rfl) (hname : (fn.name == "runtime.NumGoroutine") = false := by kernel_rfl) (hb : fn.body.isSome = true := by exact rfl)
    (hop : oi.op = .call { callee := .value (.func f), args := xs_, argTypes := ts } := by exact rfl) (hargs : xs_.map a.eval = args := by (try simp only [List.map_toArray, List.map_cons, List.map_nil]); first | done | rfl | (simp only [List.length_drop, List.length_take]; rfl)) : wpList P ops Q (oi :: rest) a w :=
  Go.Proofs.YtddkbhglbkfelaaGreatDoorW.PrintLast.goesL_ N hd hg hf hname hb args hop hargs h
theorem qB_ {rest : List Oper} {o : Oper} {a : Act} {W : World} (N : Tmp) (cs : Array Value) (t : TypeId)
    (h : ∀ g, g = W.heap.size → ∀ w1, w1.heap[g]? = some (.cells cs t (0, 0)) → Below W.heap.size W w1 → wpList P ops Q rest (a.put o.dst (.pointer (some ⟨g, 0, none⟩))) w1)
    (hd : o.dst = some N := by exact rfl) (hgd : o.guard = none := by exact rfl)
    (hr : (execOp a.eval o).run P W = .ok (.value (.pointer (some ⟨W.heap.size, 0, none⟩))) (W.alloc (.cells cs t (0, 0))) := by first | (go_simp; done) | (go_simp; rfl)) : wpList P ops Q (o :: rest) a W := qbe hgd hd hr h
end
theorem bS_ {w W W1 w2 : World} (h : Aside0 (Below w.heap.size w W)) (k : Below W1.heap.size W1 w2) (t : BwTo_ w.heap.size W W1 := by ((with_reducible repeat (first | apply Go.Proofs.YtddkbhglbkfelaaGreatDoorW.PrintWords.bw_a | apply Go.Proofs.YtddkbhglbkfelaaGreatDoorW.PrintWords.bw_N | apply Go.Proofs.YtddkbhglbkfelaaGreatDoorW.PrintWords.bw_1 | refine Go.Proofs.YtddkbhglbkfelaaGreatDoorW.PrintWords.bw_s ?_ (Go.Proofs.YtddkbhglbkfelaaGreatDoorW.PrintWords.Aside0.out (by assumption)))); exact Go.Proofs.YtddkbhglbkfelaaGreatDoorW.PrintWords.bw_r _ _)) : Aside0 (Below w.heap.size w w2) := ⟨below_step (t w rfl h.out) k⟩
theorem bD_ {n : Nat} {w W : World} (h : Aside0 (Below n w W)) : Aside0 (Below n w W.drew) := ⟨h.out.drew⟩
theorem kB_ {w W w2 : World} {g : Nat} {o : Obj} (h : Aside0 (w.heap[g]? = some o)) (k : Below W.heap.size W w2) (t : BwTo_ w.heap.size w W := by ((with_reducible repeat (first | apply Go.Proofs.YtddkbhglbkfelaaGreatDoorW.PrintWords.bw_a | apply Go.Proofs.YtddkbhglbkfelaaGreatDoorW.PrintWords.bw_N | apply Go.Proofs.YtddkbhglbkfelaaGreatDoorW.PrintWords.bw_1)); exact Go.Proofs.YtddkbhglbkfelaaGreatDoorW.PrintWords.bw_r _ _)) : Aside0 (w2.heap[g]? = some o) := ⟨qkb (bl_ h.out t) k⟩
theorem kD_ {w : World} {g : Nat} {o : Obj} (h : Aside0 (w.heap[g]? = some o)) : Aside0 (w.drew.heap[g]? = some o) := ⟨h.out⟩
theorem gR_ {w W w2 : World} {g : Nat} {o : Obj} {row : Option Nat} (h : Aside0 (w.heap[g]? = some o)) (hg : W.grownBy w2 row) (hne : some g ≠ row) (t : BwTo_ w.heap.size w W := by ((with_reducible repeat (first | apply Go.Proofs.YtddkbhglbkfelaaGreatDoorW.PrintWords.bw_a | apply Go.Proofs.YtddkbhglbkfelaaGreatDoorW.PrintWords.bw_N | apply Go.Proofs.YtddkbhglbkfelaaGreatDoorW.PrintWords.bw_1)); exact Go.Proofs.YtddkbhglbkfelaaGreatDoorW.PrintWords.bw_r _ _)) : Aside0 (w2.heap[g]? = some o) := ⟨blk_grown (bl_ h.out t) hg hne⟩
theorem gE_ {w W W1 : World} {g : Nat} (hg : g = W1.heap.size) (h : Aside0 (Below w.heap.size w W)) (t : BwTo_ w.heap.size W W1 := by ((with_reducible repeat (first | apply Go.Proofs.YtddkbhglbkfelaaGreatDoorW.PrintWords.bw_a | apply Go.Proofs.YtddkbhglbkfelaaGreatDoorW.PrintWords.bw_N | apply Go.Proofs.YtddkbhglbkfelaaGreatDoorW.PrintWords.bw_1 | refine Go.Proofs.YtddkbhglbkfelaaGreatDoorW.PrintWords.bw_s ?_ (Go.Proofs.YtddkbhglbkfelaaGreatDoorW.PrintWords.Aside0.out (by assumption)))); exact Go.Proofs.YtddkbhglbkfelaaGreatDoorW.PrintWords.bw_r _ _)) : Aside0 (w.heap.size ≤ g) := ⟨by rw [hg]; exact qbz (t w rfl h.out)⟩
section
variable {α : Type} {d : Kd α} {e base : Nat} {w W w2 : World} {ok : Nat → Prop} {v : Value} {xs : List α}
theorem RB_ (h : Aside0 (d.R e w base ok v xs)) (k : Below W.heap.size W w2) (t : BwTo_ w.heap.size w W := by ((with_reducible repeat (first | apply Go.Proofs.YtddkbhglbkfelaaGreatDoorW.PrintWords.bw_a | apply Go.Proofs.YtddkbhglbkfelaaGreatDoorW.PrintWords.bw_N | apply Go.Proofs.YtddkbhglbkfelaaGreatDoorW.PrintWords.bw_1)); exact Go.Proofs.YtddkbhglbkfelaaGreatDoorW.PrintWords.bw_r _ _)) : Aside0 (d.R e w2 base ok v xs) := ⟨Kd.R_below (Kd.R_below h.out (t w rfl (Below.refl _ _))) k⟩
theorem NB_ (h : Aside0 (d.N e w base ok v xs)) (k : Below W.heap.size W w2) (t : BwTo_ w.heap.size w W := by ((with_reducible repeat (first | apply Go.Proofs.YtddkbhglbkfelaaGreatDoorW.PrintWords.bw_a | apply Go.Proofs.YtddkbhglbkfelaaGreatDoorW.PrintWords.bw_N | apply Go.Proofs.YtddkbhglbkfelaaGreatDoorW.PrintWords.bw_1)); exact Go.Proofs.YtddkbhglbkfelaaGreatDoorW.PrintWords.bw_r _ _)) : Aside0 (d.N e w2 base ok v xs) := ⟨Kd.N_below (Kd.N_below h.out (t w rfl (Below.refl _ _))) k⟩
theorem VB_ (h : Aside0 (d.V e w base ok v xs)) (k : Below W.heap.size W w2) (t : BwTo_ w.heap.size w W := by ((with_reducible repeat (first | apply Go.Proofs.YtddkbhglbkfelaaGreatDoorW.PrintWords.bw_a | apply Go.Proofs.YtddkbhglbkfelaaGreatDoorW.PrintWords.bw_N | apply Go.Proofs.YtddkbhglbkfelaaGreatDoorW.PrintWords.bw_1)); exact Go.Proofs.YtddkbhglbkfelaaGreatDoorW.PrintWords.bw_r _ _)) : Aside0 (d.V e w2 base ok v xs) := ⟨Kd.V_below (Kd.V_below h.out (t w rfl (Below.refl _ _))) k⟩
theorem SB_ (h : Aside0 (d.S e w base ok v xs)) (k : Below W.heap.size W w2) (t : BwTo_ w.heap.size w W := by ((with_reducible repeat (first | apply Go.Proofs.YtddkbhglbkfelaaGreatDoorW.PrintWords.bw_a | apply Go.Proofs.YtddkbhglbkfelaaGreatDoorW.PrintWords.bw_N | apply Go.Proofs.YtddkbhglbkfelaaGreatDoorW.PrintWords.bw_1)); exact Go.Proofs.YtddkbhglbkfelaaGreatDoorW.PrintWords.bw_r _ _)) : Aside0 (d.S e w2 base ok v xs) := ⟨Kd.S_below (Kd.S_below h.out (t w rfl (Below.refl _ _))) k⟩
theorem Rl_ {wa Wa W1 : World} (h : d.R e w W1.heap.size ok v xs) (hb : Aside0 (Below wa.heap.size wa Wa)) (t : BwTo_ wa.heap.size Wa W1 := by ((with_reducible repeat (first | apply Go.Proofs.YtddkbhglbkfelaaGreatDoorW.PrintWords.bw_a | apply Go.Proofs.YtddkbhglbkfelaaGreatDoorW.PrintWords.bw_N | apply Go.Proofs.YtddkbhglbkfelaaGreatDoorW.PrintWords.bw_1 | refine Go.Proofs.YtddkbhglbkfelaaGreatDoorW.PrintWords.bw_s ?_ (Go.Proofs.YtddkbhglbkfelaaGreatDoorW.PrintWords.Aside0.out (by assumption)))); exact Go.Proofs.YtddkbhglbkfelaaGreatDoorW.PrintWords.bw_r _ _)) : Aside0 (d.R e w wa.heap.size ok v xs) := ⟨Kd.R_lower h (qbz (t wa rfl hb.out))⟩
theorem kM_ {p : Nat → Prop} (h : Aside0 (d.R e w base (fun k => p k ∧ ok k) v xs)) (t : BwTo_ w.heap.size w W := by ((with_reducible repeat (first | apply Go.Proofs.YtddkbhglbkfelaaGreatDoorW.PrintWords.bw_a | apply Go.Proofs.YtddkbhglbkfelaaGreatDoorW.PrintWords.bw_N | apply Go.Proofs.YtddkbhglbkfelaaGreatDoorW.PrintWords.bw_1)); exact Go.Proofs.YtddkbhglbkfelaaGreatDoorW.PrintWords.bw_r _ _)) : d.R e W base ok v xs := Kd.R_below (Kd.R_mono h.out (fun _ hk => hk.2)) (t w rfl (Below.refl _ _))
end
def BpTo_ (w W : World) (g : Nat) (t : TypeId) (c0 cs : Array Value) : Prop := w.heap[g]? = some (.cells c0 t (0, 0)) → W.heap[g]? = some (.cells cs t (0, 0))
section
variable {w W : World} {g : Nat} {t : TypeId} {c0 cs : Array Value}
theorem bp_r : BpTo_ w w g t c0 c0 := id
theorem bp_a (h : BpTo_ w W g t c0 cs) (o : Obj) : BpTo_ w (W.alloc o) g t c0 cs := fun k => qka (h k) o
theorem bp_N (h : BpTo_ w W g t c0 cs) (n : Nat) : BpTo_ w (W.drewN n) g t c0 cs := fun k => h k
theorem bp_1 (h : BpTo_ w W g t c0 cs) : BpTo_ w W.drew g t c0 cs := fun k => h k
theorem bp_f {p : Addr} {v : Value} (h : BpTo_ w W g t c0 cs) (hne : Aside0 (g ≠ p.block)) : BpTo_ w (W.setCell p v) g t c0 cs := fun k => qkr (h k) hne.out v
theorem bp_p {i : Nat} {v : Value} {cs' : Array Value} (h : BpTo_ w W g t c0 cs) (e : cs.setIfInBounds i v = cs') : BpTo_ w (W.setCell ⟨g, i, none⟩ v) g t c0 cs' := fun k => qkp (h k) i v e
theorem bp_ (h : Aside0 (w.heap[g]? = some (.cells c0 t (0, 0)))) (k : BpTo_ w W g t c0 cs := by (repeat' (first | with_reducible exact Go.Proofs.YtddkbhglbkfelaaGreatDoorW.PrintWords.bp_r | with_reducible apply Go.Proofs.YtddkbhglbkfelaaGreatDoorW.PrintWords.bp_p | with_reducible apply Go.Proofs.YtddkbhglbkfelaaGreatDoorW.PrintWords.bp_a | with_reducible apply Go.Proofs.YtddkbhglbkfelaaGreatDoorW.PrintWords.bp_N | with_reducible apply Go.Proofs.YtddkbhglbkfelaaGreatDoorW.PrintWords.bp_1 | with_reducible apply Go.Proofs.YtddkbhglbkfelaaGreatDoorW.PrintWords.bp_f | (with_reducible assumption) | rfl | assumption))) : W.heap[g]? = some (.cells cs t (0, 0)) := k h.out
end
theorem kC_ {α : Type} {d : Kd α} {w W : World} {A : Option Addr} {n : Nat} {xs : List α} (h : d.C w A n xs) (t : BwTo_ w.heap.size w W := by ((with_reducible repeat (first | apply Go.Proofs.YtddkbhglbkfelaaGreatDoorW.PrintWords.bw_a | apply Go.Proofs.YtddkbhglbkfelaaGreatDoorW.PrintWords.bw_N | apply Go.Proofs.YtddkbhglbkfelaaGreatDoorW.PrintWords.bw_1)); exact Go.Proofs.YtddkbhglbkfelaaGreatDoorW.PrintWords.bw_r _ _)) : d.C W A n xs := Kd.C_below h (t w rfl (Below.refl _ _))
theorem eqT {α : Type} [BEq α] [LawfulBEq α] {a b : α} (h : a = b) : (a == b) = true ∧ (a != b) = false := ⟨beq_iff_eq.mpr h, bne_eq_false_iff_eq.mpr h⟩
theorem eqF {α : Type} [BEq α] [LawfulBEq α] {a b : α} (h : ¬ a = b) : (a == b) = false ∧ (a != b) = true := ⟨beq_eq_false_iff_ne.mpr h, bne_iff_ne.mpr h⟩
theorem dcT {p : Prop} [i : Decidable p] (h : p) : decide p = true := decide_eq_true h
theorem dcF {p : Prop} [i : Decidable p] (h : ¬ p) : decide p = false := decide_eq_false h
theorem nm_ {α β : Type} {x : α} {f : α → Option β} {r : Option β} {G : Prop} (h : ∀ y, y = x → f y = r → G) : (some x).bind f = r → G := fun k => h x rfl k
theorem bn_ {α β : Type} {x : Option α} {f : α → Option β} {r : β} (h : x.bind f = some r) : ∃ y, Aside0 (x = some y) ∧ f y = some r := by obtain ⟨y, h1, h2⟩ := Option.bind_eq_some_iff.mp h; exact ⟨y, ⟨h1⟩, h2⟩
theorem so1 {α : Type} {a b : α} (h : some a = some b) : a = b := Option.some.inj h
theorem so2 {α β : Type} {a b : α} {c d : β} (h : some (a, c) = some (b, d)) : a = b ∧ c = d := by simpa only [Option.some.injEq, Prod.mk.injEq] using h
theorem so3 {α β γ : Type} {a b : α} {c d : β} {e f : γ} (h : some (a, c, e) = some (b, d, f)) : a = b ∧ c = d ∧ e = f := by simpa only [Option.some.injEq, Prod.mk.injEq] using h
theorem so4 {α β γ δ : Type} {a b : α} {c d : β} {e f : γ} {i j : δ} (h : some (a, c, e, i) = some (b, d, f, j)) : a = b ∧ c = d ∧ e = f ∧ i = j := by simpa only [Option.some.injEq, Prod.mk.injEq] using h
theorem so5 {α β γ δ ε : Type} {a b : α} {c d : β} {e f : γ} {i j : δ} {k l : ε} (h : some (a, c, e, i, k) = some (b, d, f, j, l)) : a = b ∧ c = d ∧ e = f ∧ i = j ∧ k = l := by simpa only [Option.some.injEq, Prod.mk.injEq] using h
theorem so6 {α β γ δ ε ζ : Type} {a b : α} {c d : β} {e f : γ} {i j : δ} {k l : ε} {m n : ζ} (h : some (a, c, e, i, k, m) = some (b, d, f, j, l, n)) : a = b ∧ c = d ∧ e = f ∧ i = j ∧ k = l ∧ m = n := by simpa only [Option.some.injEq, Prod.mk.injEq] using h
theorem fe_ {p : Prop} (h : p := by first | rfl | (simp; done) | (simp [*]; done) | (simp [bne]; done)) : p := h
theorem fr_ {p : Prop} (h : p := by first | rfl | (simp [errW_none, errW_some] <;> rfl) | (simp [*, errW_none, errW_some] <;> rfl)) : p := h
theorem hc_ {w W : World} {ad : Addr} {v : Value} (hb : Aside0 (Below w.heap.size w W)) (h : w.cell? ad = some v) : W.cell? ad = some v := (hb.out.cell (World.block_lt_of_cell? w _ h)).trans h
theorem zf2_ {w : World} {g : Nat} {t : TypeId} {v0 v1 : Value} (h : Aside0 (w.heap[g]? = some (.cells #[v0, v1] t (0, 0)))) : w.cell? ⟨g, 0, none⟩ = some v0 ∧ w.cell? ⟨g, 1, none⟩ = some v1 ∧ w.frozen? ⟨g, 0, none⟩ = false ∧ w.frozen? ⟨g, 1, none⟩ = false := ⟨(qkc h.out 0).trans rfl, (qkc h.out 1).trans rfl, qkf h.out 0, qkf h.out 1⟩
theorem zf3_ {w : World} {g : Nat} {t : TypeId} {v0 v1 v2 : Value} (h : Aside0 (w.heap[g]? = some (.cells #[v0, v1, v2] t (0, 0)))) : w.cell? ⟨g, 0, none⟩ = some v0 ∧ w.cell? ⟨g, 1, none⟩ = some v1 ∧ w.cell? ⟨g, 2, none⟩ = some v2 ∧ w.frozen? ⟨g, 0, none⟩ = false ∧ w.frozen? ⟨g, 1, none⟩ = false ∧ w.frozen? ⟨g, 2, none⟩ = false := ⟨(qkc h.out 0).trans rfl, (qkc h.out 1).trans rfl, (qkc h.out 2).trans rfl, qkf h.out 0, qkf h.out 1, qkf h.out 2⟩
theorem zf4_ {w : World} {g : Nat} {t : TypeId} {v0 v1 v2 v3 : Value} (h : Aside0 (w.heap[g]? = some (.cells #[v0, v1, v2, v3] t (0, 0)))) : w.cell? ⟨g, 0, none⟩ = some v0 ∧ w.cell? ⟨g, 1, none⟩ = some v1 ∧ w.cell? ⟨g, 2, none⟩ = some v2 ∧ w.cell? ⟨g, 3, none⟩ = some v3 ∧ w.frozen? ⟨g, 0, none⟩ = false ∧ w.frozen? ⟨g, 1, none⟩ = false ∧ w.frozen? ⟨g, 2, none⟩ = false ∧ w.frozen? ⟨g, 3, none⟩ = false := ⟨(qkc h.out 0).trans rfl, (qkc h.out 1).trans rfl, (qkc h.out 2).trans rfl, (qkc h.out 3).trans rfl, qkf h.out 0, qkf h.out 1, qkf h.out 2, qkf h.out 3⟩
end Go.Proofs.YtddkbhglbkfelaaGreatDoorW.PrintWords

namespace Go.Proofs.YtddkbhglbkfelaaGreatDoorW.PrintLast
open Go.RowKit Go.Proofs.YtddkbhglbkfelaaGreatDoorW.PrintWords
section
variable {P : Program} {md : Region.Mode} {ops : Array Oper} {Q : Exit → Act → World → Prop} {S : World → Prop} {ds : List Nat}
theorem pu_ (i : Nat) (N : Option Tmp) {oi : Oper} {v : Value} {fuel : Nat} {l : Array Bool} {a : Act} {w : World} {l' : Array Bool} {T : Bool × List (List Nat × List Nat)} (hT : Aside0 (rtab md ops = T)) {a' : Act}
    (h : wpAnyLast P md ops Q S ds fuel l' a' w) (hl : l.setIfInBounds i true = l' := by simp only [List.setIfInBounds_toArray, List.set_cons_zero, List.set_cons_succ]; rfl) (hi : ops[i]? = some oi := by exact rfl) (hN : oi.dst = N := by exact rfl) (hc : anyT T l.toList l'.toList i = true := by kernel_rfl)
    (hQ : ∀ c a w, Q (.panic c) (a.put oi.dst v) w → Q (.panic c) a w := by exact fun _ _ _ h => h) (hy : Yields P ops oi v a := by refine Or.inl ⟨by rfl, ?_⟩; intro w'; go_simp; with_reducible rfl)
    (ha : a.put N v = a' := by simp only [Act.put, List.setIfInBounds_toArray, List.set_cons_zero, List.set_cons_succ, i64_w, i32_w]; rfl) : wpAnyLast P md ops Q S ds (fuel + 1) l a w :=
  (fun _ => pure_ l' hi hN (any_of hT.out hc) hQ hy ha h) hl
theorem nr_ {fuel : Nat} {l : Array Bool} {a a' : Act} {w : World} (h : wpAnyLast P md ops Q S ds fuel l a' w) (ha : a = a' := by first | (simp only [putAll, Act.put, List.setIfInBounds_toArray, List.set_cons_zero, List.set_cons_succ]; done) | (simp only [putAll, Act.put, List.setIfInBounds_toArray, List.set_cons_zero, List.set_cons_succ]; rfl)) : wpAnyLast P md ops Q S ds fuel l a w := norm_ ha h
end
end Go.Proofs.YtddkbhglbkfelaaGreatDoorW.PrintLast
namespace Go.Proofs.YtddkbhglbkfelaaGreatDoor.T
open Go.RowKit Go.Proofs.YtddkbhglbkfelaaGreatDoorW.PrintWords Go.Proofs.YtddkbhglbkfelaaGreatDoorW.PrintLast Go.Proofs.YtddkbhglbkfelaaGreatDoorW.PrintMore Go.Proofs.YtddkbhglbkfelaaGreatDoorX
attribute [local go_sem] max2_int min2_int max_two min_two max_three min_three max_four min_four
set_option linter.unusedVariables false
set_option linter.unusedSimpArgs false

def errW : Option Int → Value
 | none => .nilIface
 | some c => .iface 65 (.int .i64 c)
theorem errW_none : errW none = .nilIface := rfl
theorem errW_some (c : Int) : errW (some c) = .iface 65 (.int .i64 c) := rfl

theorem info3 : (Tryz.prog.info? 3).map (fun i => (i.zero, i.size, i.bytes)) = some (some (.int .i64 0), 1, 8) := by kernel_rfl
theorem info5 : (Tryz.prog.info? 5).map (fun i => (i.zero, i.size, i.bytes)) = some (some (.int .u8 0), 1, 1) := by kernel_rfl
theorem info63 : (Tryz.prog.info? 63).map (fun i => (i.zero, i.size, i.bytes)) = some (some (.agg #[(.int .i64 0), (.int .i64 0), (.string ⟨#[]⟩), (.bool false)]), 4, 40) := by kernel_rfl
theorem info64 : (Tryz.prog.info? 64).map (fun i => (i.zero, i.size, i.bytes)) = some (some (.slice none 0 0), 1, 24) := by kernel_rfl
theorem info68 : (Tryz.prog.info? 68).map (fun i => (i.zero, i.size, i.bytes)) = some (some (.agg #[(.string ⟨#[]⟩), (.bool false), (.slice none 0 0)]), 3, 48) := by kernel_rfl
theorem info118 : (Tryz.prog.info? 118).map (fun i => (i.zero, i.size, i.bytes)) = some (some (.agg #[(.string ⟨#[]⟩), (.int .i64 0), (.bool false), (.bool false)]), 4, 32) := by kernel_rfl
/-! #### struct type 118 -/
structure S118 where
 f0 : ByteArray
 f1 : Int
 f2 : Bool
 f3 : Bool
def z118 : S118 := ⟨(⟨#[]⟩ : ByteArray), (0 : Int), false, false⟩
def k118 : Kd S118 := Kd.iso (Kd.pair Kd.string (Kd.pair (Kd.int .i64) (Kd.pair Kd.bool Kd.bool))) (fun x : S118 => (x.f0, x.f1, x.f2, x.f3))
theorem k118_open {w : World} {x : S118} {cs : List Value} (h : k118.K w x cs) : cs = [.string x.f0, .int .i64 x.f1, .bool x.f2, .bool x.f3] := by
 obtain ⟨_, _, rfl, rfl, ⟨_, _, rfl, rfl, ⟨_, _, rfl, rfl, rfl⟩⟩⟩ := h
 exact rfl
theorem k118_mkM (w : World) (base : Nat) (ok : Nat → Prop) (x : S118)  : k118.M w base ok x [.string x.f0, .int .i64 x.f1, .bool x.f2, .bool x.f3] := ⟨[.string x.f0], [.int .i64 x.f1, .bool x.f2, .bool x.f3], rfl, rfl, ⟨[.int .i64 x.f1], [.bool x.f2, .bool x.f3], rfl, rfl, ⟨[.bool x.f2], [.bool x.f3], rfl, rfl, rfl⟩⟩⟩
def rd_T118 (xs : List S118) (i : Int) : S118 := xs.getD i.toNat z118
theorem at_T118 {w : World} {A : Option Addr} {n : Nat} {xs : List S118} (h : Kd.C k118 w A n xs) (i : Int) (h0 : 0 ≤ i) (h1 : i < n) : ∃ ad , A = some ad ∧ w.cell? (ad.add (i.toNat * 4)) = some (.string (rd_T118 xs i).f0) ∧ w.cell? ⟨(ad.add (i.toNat * 4)).block, (ad.add (i.toNat * 4)).off + 1, none⟩ = some (.int .i64 (rd_T118 xs i).f1) ∧ w.cell? ⟨(ad.add (i.toNat * 4)).block, (ad.add (i.toNat * 4)).off + 2, none⟩ = some (.bool (rd_T118 xs i).f2) ∧ w.cell? ⟨(ad.add (i.toNat * 4)).block, (ad.add (i.toNat * 4)).off + 3, none⟩ = some (.bool (rd_T118 xs i).f3) := by
 obtain ⟨ad, c, e, _, hK, hc0⟩ := Kd.C_get h z118 i h0 h1
 have hc : ∀ j u, c[j]? = some u → w.cell? (ad.add (i.toNat * 4 + j)) = some u := hc0
 obtain rfl := k118_open hK
 exact ⟨ad, e, hc 0 _ rfl, by rw [← add_field _ _ 1 (by omega)]; exact hc 1 _ rfl, by rw [← add_field _ _ 2 (by omega)]; exact hc 2 _ rfl, by rw [← add_field _ _ 3 (by omega)]; exact hc 3 _ rfl⟩

/-! #### struct type 59 -/
structure S59 where
 f0 : ByteArray
 f1 : (List S118)
def z59 : S59 := ⟨(⟨#[]⟩ : ByteArray), ([] : List S118)⟩
def k59 : Kd S59 := Kd.iso (Kd.pair Kd.string (Kd.slice 118 k118)) (fun x : S59 => (x.f0, x.f1))
theorem k59_open {w : World} {x : S59} {cs : List Value} (h : k59.K w x cs) : ∃ A1 c1, cs = [.string x.f0, .slice A1 x.f1.length c1] ∧ x.f1.length ≤ c1 ∧ k118.C w A1 x.f1.length x.f1 := by
 obtain ⟨_, _, rfl, rfl, ⟨A1, c1, rfl, l1, g1⟩⟩ := h
 exact ⟨A1, c1, rfl, l1, g1⟩
theorem k59_mkM (w : World) (base : Nat) (ok : Nat → Prop) (x : S59) {v1 : Value} (g1 : k118.R 118 w base ok v1 x.f1) : k59.M w base ok x [.string x.f0, v1] := ⟨[.string x.f0], [v1], rfl, rfl, ⟨v1, rfl, g1⟩⟩
def rd_T59 (xs : List S59) (i : Int) : S59 := xs.getD i.toNat z59
theorem at_T59 {w : World} {A : Option Addr} {n : Nat} {xs : List S59} (h : Kd.C k59 w A n xs) (i : Int) (h0 : 0 ≤ i) (h1 : i < n) : ∃ ad A1 c1, A = some ad ∧ w.cell? (ad.add (i.toNat * 2)) = some (.string (rd_T59 xs i).f0) ∧ w.cell? ⟨(ad.add (i.toNat * 2)).block, (ad.add (i.toNat * 2)).off + 1, none⟩ = some (.slice A1 (rd_T59 xs i).f1.length c1) ∧ (rd_T59 xs i).f1.length ≤ c1 ∧ k118.C w A1 (rd_T59 xs i).f1.length (rd_T59 xs i).f1 := by
 obtain ⟨ad, c, e, _, hK, hc0⟩ := Kd.C_get h z59 i h0 h1
 have hc : ∀ j u, c[j]? = some u → w.cell? (ad.add (i.toNat * 2 + j)) = some u := hc0
 obtain ⟨A1, c1, rfl, l1, g1⟩ := k59_open hK
 exact ⟨ad, A1, c1, e, hc 0 _ rfl, by rw [← add_field _ _ 1 (by omega)]; exact hc 1 _ rfl, l1, g1⟩

/-! #### struct type 63 -/
structure S63 where
 f0 : Int
 f1 : Int
 f2 : ByteArray
 f3 : Bool
def z63 : S63 := ⟨(0 : Int), (0 : Int), (⟨#[]⟩ : ByteArray), false⟩
def k63 : Kd S63 := Kd.iso (Kd.pair (Kd.int .i64) (Kd.pair (Kd.int .i64) (Kd.pair Kd.string Kd.bool))) (fun x : S63 => (x.f0, x.f1, x.f2, x.f3))
theorem k63_open {w : World} {x : S63} {cs : List Value} (h : k63.K w x cs) : cs = [.int .i64 x.f0, .int .i64 x.f1, .string x.f2, .bool x.f3] := by
 obtain ⟨_, _, rfl, rfl, ⟨_, _, rfl, rfl, ⟨_, _, rfl, rfl, rfl⟩⟩⟩ := h
 exact rfl
theorem k63_mkM (w : World) (base : Nat) (ok : Nat → Prop) (x : S63)  : k63.M w base ok x [.int .i64 x.f0, .int .i64 x.f1, .string x.f2, .bool x.f3] := ⟨[.int .i64 x.f0], [.int .i64 x.f1, .string x.f2, .bool x.f3], rfl, rfl, ⟨[.int .i64 x.f1], [.string x.f2, .bool x.f3], rfl, rfl, ⟨[.string x.f2], [.bool x.f3], rfl, rfl, rfl⟩⟩⟩
def rd_T63 (xs : List S63) (i : Int) : S63 := xs.getD i.toNat z63
theorem at_T63 {w : World} {A : Option Addr} {n : Nat} {xs : List S63} (h : Kd.C k63 w A n xs) (i : Int) (h0 : 0 ≤ i) (h1 : i < n) : ∃ ad , A = some ad ∧ w.cell? (ad.add (i.toNat * 4)) = some (.int .i64 (rd_T63 xs i).f0) ∧ w.cell? ⟨(ad.add (i.toNat * 4)).block, (ad.add (i.toNat * 4)).off + 1, none⟩ = some (.int .i64 (rd_T63 xs i).f1) ∧ w.cell? ⟨(ad.add (i.toNat * 4)).block, (ad.add (i.toNat * 4)).off + 2, none⟩ = some (.string (rd_T63 xs i).f2) ∧ w.cell? ⟨(ad.add (i.toNat * 4)).block, (ad.add (i.toNat * 4)).off + 3, none⟩ = some (.bool (rd_T63 xs i).f3) := by
 obtain ⟨ad, c, e, _, hK, hc0⟩ := Kd.C_get h z63 i h0 h1
 have hc : ∀ j u, c[j]? = some u → w.cell? (ad.add (i.toNat * 4 + j)) = some u := hc0
 obtain rfl := k63_open hK
 exact ⟨ad, e, hc 0 _ rfl, by rw [← add_field _ _ 1 (by omega)]; exact hc 1 _ rfl, by rw [← add_field _ _ 2 (by omega)]; exact hc 2 _ rfl, by rw [← add_field _ _ 3 (by omega)]; exact hc 3 _ rfl⟩

def rd_L9 (xs : List (List S63)) (i : Int) : (List S63) := xs.getD i.toNat ([] : List S63)
theorem at_L9 {w : World} {A : Option Addr} {n : Nat} {xs : List (List S63)} (h : Kd.C (Kd.slice 63 k63) w A n xs) (i : Int) (h0 : 0 ≤ i) (h1 : i < n) : ∃ ad A0 c0, A = some ad ∧ w.cell? (ad.add i.toNat) = some (.slice A0 (rd_L9 xs i).length c0) ∧ (rd_L9 xs i).length ≤ c0 ∧ k63.C w A0 (rd_L9 xs i).length (rd_L9 xs i) := by
 obtain ⟨ad, c, e, _, hK, hc0⟩ := Kd.C_get h ([] : List S63) i h0 h1
 have hc : ∀ j u, c[j]? = some u → w.cell? (ad.add (i.toNat * 1 + j)) = some u := hc0
 obtain ⟨A0, c0, rfl, l0, g0⟩ := hK
 exact ⟨ad, A0, c0, e, by have hq := hc 0 _ rfl; rwa [Nat.mul_one, Nat.add_zero] at hq, l0, g0⟩

/-! #### struct type 50 -/
structure S50 where
 f0 : ByteArray
 f1 : (List (List S63))

/-! #### struct type 68 -/
structure S68 where
 f0 : ByteArray
 f1 : Bool
 f2 : (List S63)
def z68 : S68 := ⟨(⟨#[]⟩ : ByteArray), false, ([] : List S63)⟩
def k68 : Kd S68 := Kd.iso (Kd.pair Kd.string (Kd.pair Kd.bool (Kd.slice 63 k63))) (fun x : S68 => (x.f0, x.f1, x.f2))
theorem k68_open {w : World} {x : S68} {cs : List Value} (h : k68.K w x cs) : ∃ A2 c2, cs = [.string x.f0, .bool x.f1, .slice A2 x.f2.length c2] ∧ x.f2.length ≤ c2 ∧ k63.C w A2 x.f2.length x.f2 := by
 obtain ⟨_, _, rfl, rfl, ⟨_, _, rfl, rfl, ⟨A2, c2, rfl, l2, g2⟩⟩⟩ := h
 exact ⟨A2, c2, rfl, l2, g2⟩
theorem k68_mkM (w : World) (base : Nat) (ok : Nat → Prop) (x : S68) {v2 : Value} (g2 : k63.R 63 w base ok v2 x.f2) : k68.M w base ok x [.string x.f0, .bool x.f1, v2] := ⟨[.string x.f0], [.bool x.f1, v2], rfl, rfl, ⟨[.bool x.f1], [v2], rfl, rfl, ⟨v2, rfl, g2⟩⟩⟩
def rd_T68 (xs : List S68) (i : Int) : S68 := xs.getD i.toNat z68
theorem at_T68 {w : World} {A : Option Addr} {n : Nat} {xs : List S68} (h : Kd.C k68 w A n xs) (i : Int) (h0 : 0 ≤ i) (h1 : i < n) : ∃ ad A2 c2, A = some ad ∧ w.cell? (ad.add (i.toNat * 3)) = some (.string (rd_T68 xs i).f0) ∧ w.cell? ⟨(ad.add (i.toNat * 3)).block, (ad.add (i.toNat * 3)).off + 1, none⟩ = some (.bool (rd_T68 xs i).f1) ∧ w.cell? ⟨(ad.add (i.toNat * 3)).block, (ad.add (i.toNat * 3)).off + 2, none⟩ = some (.slice A2 (rd_T68 xs i).f2.length c2) ∧ (rd_T68 xs i).f2.length ≤ c2 ∧ k63.C w A2 (rd_T68 xs i).f2.length (rd_T68 xs i).f2 := by
 obtain ⟨ad, c, e, _, hK, hc0⟩ := Kd.C_get h z68 i h0 h1
 have hc : ∀ j u, c[j]? = some u → w.cell? (ad.add (i.toNat * 3 + j)) = some u := hc0
 obtain ⟨A2, c2, rfl, l2, g2⟩ := k68_open hK
 exact ⟨ad, A2, c2, e, hc 0 _ rfl, by rw [← add_field _ _ 1 (by omega)]; exact hc 1 _ rfl, by rw [← add_field _ _ 2 (by omega)]; exact hc 2 _ rfl, l2, g2⟩

end Go.Proofs.YtddkbhglbkfelaaGreatDoor.T
