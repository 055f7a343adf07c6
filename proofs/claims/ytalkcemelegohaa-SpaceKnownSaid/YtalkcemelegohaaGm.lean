/- Rows of places that are set or not: set in a run, counted. -/
import Derived.Test.YtalkcemelegohaaSlZ
set_option linter.unusedVariables false
namespace Go.Proofs.Ytalkcemelegohaa
open Go.RowKit Go.Cof

abbrev O (op : List Bool) (i : Nat) : Prop := op.getD i false = true
/-! opened and closed places -/
def setN (op : List Bool) (x : Nat) : Nat → Bool → List Bool
  | 0, _ => op
  | n + 1, v => (setN op x n v).set (x + n) v
abbrev setR (op : List Bool) (x y : Nat) (v : Bool) : List Bool := setN op x (y - x) v
theorem setN_len (op : List Bool) (x : Nat) (v : Bool) : ∀ n, (setN op x n v).length = op.length
  | 0 => rfl
  | n + 1 => by rw [setN, List.length_set, setN_len op x v n]
theorem setN_at {op : List Bool} {x i : Nat} {v : Bool} : ∀ {n : Nat}, O (setN op x n v) i ↔ if x ≤ i ∧ i < x + n ∧ i < op.length then v = true else O op i
  | 0 => by rw [setN, if_neg (by omega)]
  | n + 1 => by
    have ih := setN_at (op := op) (x := x) (i := i) (v := v) (n := n)
    unfold O at ih ⊢
    rw [setN, List.getD_eq_getElem?_getD, List.getElem?_set]
    by_cases e : x + n = i
    · subst e
      rw [if_pos rfl, setN_len]
      by_cases hi : x + n < op.length
      · rw [if_pos hi, if_pos ⟨by omega, by omega, hi⟩]; rfl
      · rw [if_neg hi, if_neg (by omega), List.getD_eq_getElem?_getD, List.getElem?_eq_none (by omega)]
    · rw [if_neg e, ← List.getD_eq_getElem?_getD, ih]
      by_cases h : x ≤ i ∧ i < x + n ∧ i < op.length
      · rw [if_pos h, if_pos ⟨h.1, by omega, h.2.2⟩]
      · rw [if_neg h, if_neg (fun hh => h ⟨hh.1, by omega, hh.2.2⟩)]
theorem setR_at {op : List Bool} {x y i : Nat} {v : Bool} : O (setR op x y v) i ↔ if x ≤ i ∧ i < y ∧ i < op.length then v = true else O op i := by
  rw [setN_at]
  by_cases h : x ≤ i ∧ i < y ∧ i < op.length
  · rw [if_pos h, if_pos ⟨h.1, by omega, h.2.2⟩]
  · rw [if_neg h, if_neg (fun hh => h ⟨hh.1, by omega, hh.2.2⟩)]
theorem setR_add {op : List Bool} {x k : Nat} {v : Bool} : setR op x (x + k) v = setN op x k v := by show setN op x (x + k - x) v = _; rw [Nat.add_sub_cancel_left]
theorem O.lt {op : List Bool} {i : Nat} (h : O op i) : i < op.length := by
  unfold O at h
  rw [List.getD_eq_getElem?_getD] at h
  by_cases hi : i < op.length
  · exact hi
  · rw [List.getElem?_eq_none (by omega)] at h; simp at h
theorem O_ext {l m : List Bool} (hl : l.length = m.length) (h : ∀ i, O l i ↔ O m i) : l = m := by
  refine List.ext_getElem hl fun i h1 h2 => ?_
  have := h i
  unfold O at this
  rw [List.getD_eq_getElem?_getD, List.getElem?_eq_getElem h1, List.getD_eq_getElem?_getD, List.getElem?_eq_getElem h2] at this
  simp only [Option.getD_some] at this
  cases ha : l[i] <;> cases hb : m[i] <;> simp_all
theorem setN_step {op : List Bool} {a i : Nat} {v : Bool} (h : a ≤ i) : setN op a (i + 1 - a) v = (setN op a (i - a) v).set i v := by
  rw [Nat.succ_sub h, setN, Nat.add_sub_cancel' h]
def cntB : List Bool → Nat
  | [] => 0
  | b :: l => (if b then 1 else 0) + cntB l
theorem cnt_app {l m : List Bool} : cntB (l ++ m) = cntB l + cntB m := by
  induction l with
  | nil => simp [cntB]
  | cons b l ih => rw [List.cons_append, cntB, cntB, ih]; omega
theorem cnt_set : ∀ {l : List Bool} {i : Nat} {v : Bool}, i < l.length → cntB (l.set i v) + (if O l i then 1 else 0) = cntB l + (if v then 1 else 0)
  | [], i, v, h => by simp at h
  | b :: l, 0, v, h => by
    rw [List.set_cons_zero, cntB, cntB]
    have : O (b :: l) 0 ↔ b = true := Iff.rfl
    simp only [this]
    omega
  | b :: l, i + 1, v, h => by
    have ih := cnt_set (l := l) (i := i) (v := v) (by simpa using h)
    rw [List.set_cons_succ, cntB, cntB]
    have : O (b :: l) (i + 1) ↔ O l i := Iff.rfl
    simp only [this]
    omega
theorem cnt_close {op : List Bool} {x : Nat} : ∀ {n : Nat}, x + n ≤ op.length → (∀ i, x ≤ i → i < x + n → O op i) → cntB (setN op x n false) + n = cntB op
  | 0, _, _ => rfl
  | n + 1, hl, h => by
    have ih := cnt_close (op := op) (x := x) (n := n) (by omega) fun i h1 h2 => h i h1 (by omega)
    have h1 := cnt_set (l := setN op x n false) (i := x + n) (v := false) (by rw [setN_len]; omega)
    have h2 : O (setN op x n false) (x + n) := by rw [setN_at, if_neg (by omega)]; exact h _ (by omega) (by omega)
    rw [if_pos h2] at h1
    rw [setN]
    simp at h1
    omega
theorem cnt_open {op : List Bool} {x : Nat} : ∀ {n : Nat}, x + n ≤ op.length → (∀ i, x ≤ i → i < x + n → ¬ O op i) → cntB (setN op x n true) = cntB op + n
  | 0, _, _ => rfl
  | n + 1, hl, h => by
    have ih := cnt_open (op := op) (x := x) (n := n) (by omega) fun i h1 h2 => h i h1 (by omega)
    have h1 := cnt_set (l := setN op x n true) (i := x + n) (v := true) (by rw [setN_len]; omega)
    have h2 : ¬ O (setN op x n true) (x + n) := by rw [setN_at, if_neg (by omega)]; exact h _ (by omega) (by omega)
    rw [if_neg h2] at h1
    rw [setN]
    simp at h1
    omega
theorem cnt_none (n : Nat) : cntB (List.replicate n false) = 0 := by
  induction n with
  | zero => rfl
  | succ n ih => rw [List.replicate_succ, cntB, ih]; rfl
theorem cnt_len : ∀ l : List Bool, cntB l ≤ l.length
  | [] => Nat.le_refl _
  | b :: l => by
    have := cnt_len l
    rw [cntB, List.length_cons]
    split <;> omega
/-- Fewer places are set where fewer are set; two rows together have at most the sum. -/
theorem cnt_mono : ∀ {l m : List Bool}, l.length = m.length → (∀ i, O l i → O m i) → cntB l ≤ cntB m
  | [], _, _, _ => Nat.zero_le _
  | b :: l, [], h, _ => by simp at h
  | b :: l, c :: m, h, hi => by
    have ih := cnt_mono (l := l) (m := m) (by simpa using h) fun i h => hi (i + 1) h
    have h0 : b = true → c = true := hi 0
    rw [cntB, cntB]
    cases b <;> cases c <;> simp_all <;> omega
theorem cnt_union : ∀ {l m q : List Bool}, l.length = m.length → q.length = m.length → (∀ i, O l i → O m i ∨ O q i) → cntB l ≤ cntB m + cntB q
  | [], _, _, _, _, _ => Nat.zero_le _
  | b :: l, [], _, h, _, _ => by simp at h
  | b :: l, c :: m, [], _, h, _ => by simp at h
  | b :: l, c :: m, d :: q, h, h2, hi => by
    have ih := cnt_union (l := l) (m := m) (q := q) (by simpa using h) (by simpa using h2) fun i h => hi (i + 1) h
    have h0 : b = true → c = true ∨ d = true := hi 0
    rw [cntB, cntB, cntB]
    cases b <;> cases c <;> cases d <;> simp_all <;> omega
end Go.Proofs.Ytalkcemelegohaa
