/- Plain lemmas, without the program: texts of plain letters; bytes as numbers; loops by their rounds. -/
import Derived.Shelf.GgClosure.StringsIndexFunc
import Derived.Test.YtddkbhglbkfelaaDoorPsWWords
set_option linter.unusedVariables false
set_option linter.unusedSimpArgs false
namespace Go.Proofs.YtddkbhglbkfelaaDoorX
open Go.RowKit Go.Proofs.YtddkbhglbkfelaaDoorW.PrintWords

theorem toList_data (s : ByteArray) : s.toList = s.data.toList := ByteArray.toList_eq s
theorem size_data (s : ByteArray) : s.data.toList.length = s.size := by rw [Array.length_toList]; rfl

/-! ### rounds -/
theorem ev_step {α : Type} {g f : Nat → Option α} {r : α} (h : ∀ k, g (k + 1) = f k) (hf : Ev f r) : Ev g r := Ev.step h hf
theorem ev_bind {α β : Type} {g : Nat → Option α} {f : Nat → α → Option β} {a : α} {r : β} (h : Ev g a) (k : Ev (fun n => f n a) r) : Ev (fun n => (g n).bind (f n)) r := Ev.bind h k
theorem ev_if_pos {α : Type} {c : Prop} [Decidable c] {f g : Nat → Option α} {r : α} (hc : c) (h : Ev f r) : Ev (fun k => if c then f k else g k) r := by simpa [hc] using h
theorem ev_if_neg {α : Type} {c : Prop} [Decidable c] {f g : Nat → Option α} {r : α} (hc : ¬ c) (h : Ev g r) : Ev (fun k => if c then f k else g k) r := by simpa [hc] using h
theorem ev_some {α : Type} (r : α) : Ev (fun _ => some r) r := ⟨0, fun _ _ => rfl⟩
theorem ev_bind_some {α β : Type} {f : Nat → α → Option β} {a : α} {r : β} (k : Ev (fun n => f n a) r) : Ev (fun n => (some a).bind (f n)) r := k
theorem ev_exists {α : Type} {g : Nat → Option α} {r : α} (h : Ev g r) : ∃ k, g k = some r := h.rounds

/-! ### numbers -/
theorem wrap_succ {j : Nat} (h : j < 9223372036854775807) : wrap64 ((j : Int) + 1) = ((j + 1 : Nat) : Int) := by unfold wrap64; omega
theorem wf_i64 {n : Int} (h : (Lit.int .i64 n).wf = true) : -9223372036854775808 ≤ n ∧ n ≤ 9223372036854775807 := by
  simp [Lit.wf, IntKind.min, IntKind.max, IntKind.bits, IntKind.signed] at h
  omega

/-! ### texts of plain letters -/
def np (r : Nat) : Bool := decide (r < 32) || decide (126 < r)
def plainC (c : UInt8) : Bool := decide (32 ≤ c.toNat) && decide (c.toNat ≤ 126)
def plainT (s : ByteArray) : Bool := s.data.toList.all plainC
theorem get_bang (s : ByteArray) (i : Nat) (h : i < s.size) : s.get! i = s.data.toList[i]'(by rw [size_data]; exact h) := by
  have h2 : i < s.data.size := h
  have : s.get! i = s.data[i]! := by cases s; rfl
  rw [this, getElem!_pos s.data i h2]
  simp
theorem decode_low (s : ByteArray) (i : Nat) (h : (s.get! i).toNat < 128) : Utf8.decode s i = ((s.get! i).toNat, 1) := by
  unfold Utf8.decode
  simp only [Nat.add_zero]
  rw [if_pos h]
theorem decode_high (s : ByteArray) (i : Nat) (h : ¬ (s.get! i).toNat < 128) : 128 ≤ (Utf8.decode s i).1 := by
  unfold Utf8.decode
  simp only [Nat.add_zero]
  rw [if_neg h]
  repeat' split
  all_goals first | omega | (rename_i hlast; simp only [Bool.and_eq_true, decide_eq_true_eq] at hlast; omega) | simp [Utf8.runeError]
theorem idxFrom_plain (s : ByteArray) : ∀ (f pos : Nat), s.size ≤ pos + f → (Lib.idxFuncFrom np true s f pos = -1 ↔ ((s.data.toList.drop pos).all plainC = true))
  | 0, pos, h => by
    simp only [Lib.idxFuncFrom, true_iff]
    rw [List.drop_eq_nil_of_le (by rw [size_data]; omega)]
    rfl
  | f + 1, pos, h => by
    unfold Lib.idxFuncFrom
    by_cases hp : pos < s.size
    · rw [if_pos hp]
      have hl : pos < s.data.toList.length := by rw [size_data]; exact hp
      have hd : s.data.toList.drop pos = s.data.toList[pos] :: s.data.toList.drop (pos + 1) := List.drop_eq_getElem_cons hl
      have hg := get_bang s pos hp
      rw [hd, List.all_cons]
      by_cases hb : (s.get! pos).toNat < 128
      · rw [decode_low s pos hb]
        by_cases hn : np (s.get! pos).toNat = true
        · simp only
          rw [if_pos hn]
          have : plainC s.data.toList[pos] = false := by
            rw [← hg]
            unfold np at hn
            unfold plainC
            simp only [Bool.or_eq_true, decide_eq_true_eq] at hn
            simp only [Bool.and_eq_false_iff, decide_eq_false_iff_not]
            omega
          rw [this]
          simp only [Bool.false_and, Bool.false_eq_true, iff_false]
          omega
        · simp only
          rw [if_neg hn]
          have : plainC s.data.toList[pos] = true := by
            rw [← hg]
            unfold np at hn
            unfold plainC
            simp only [Bool.or_eq_true, decide_eq_true_eq, not_or] at hn
            simp only [Bool.and_eq_true, decide_eq_true_eq]
            omega
          rw [this, Bool.true_and]
          exact idxFrom_plain s f (pos + 1) (by omega)
      · have h128 := decode_high s pos hb
        have hn : np (Utf8.decode s pos).1 = true := by
          unfold np
          simp only [Bool.or_eq_true, decide_eq_true_eq]
          omega
        rw [if_pos hn]
        have : plainC s.data.toList[pos] = false := by
          rw [← hg]
          unfold plainC
          simp only [Bool.and_eq_false_iff, decide_eq_false_iff_not]
          omega
        rw [this]
        simp only [Bool.false_and, Bool.false_eq_true, iff_false]
        omega
    · rw [if_neg hp, List.drop_eq_nil_of_le (by rw [size_data]; omega)]
      simp
/-- strings.IndexFunc over 'no plain letter': -1 just where all are plain. -/
theorem idx_plain (s : ByteArray) : 0 ≤ Lib.idxFunc np true s ↔ plainT s = false := by
  have h := idxFrom_plain s s.size 0 (by omega)
  rw [List.drop_zero] at h
  have hr := Lib.idxFunc_range np true s
  have e : Lib.idxFunc np true s = Lib.idxFuncFrom np true s s.size 0 := rfl
  unfold plainT
  constructor
  · intro h0
    rw [← Bool.not_eq_true]
    intro h1
    have := h.2 h1
    omega
  · intro h0
    rcases hr with h1 | h1
    · rw [e] at h1
      have := h.1 h1
      rw [this] at h0; cases h0
    · exact h1.1

/-! ### bytes as numbers -/
theorem bytesOf_range (s : ByteArray) : ∀ x ∈ bytesOf s, 0 ≤ x ∧ x ≤ 255 := by
  intro x hx
  unfold bytesOf at hx
  obtain ⟨b, _, rfl⟩ := List.mem_map.1 hx
  have := b.toNat_lt
  omega
end Go.Proofs.YtddkbhglbkfelaaDoorX
