/- The lists of the greatest free blocks. The plain part. -/
import Derived.Test.YtkcpjgdmfjhlkaaPa
import Derived.Test.YtkcpjgdmfjhlkaaGb
set_option linter.unusedVariables false
namespace Go.Proofs.Ytkcpjgdmfjhlkaa
open Go.RowKit Go.Cof

/-- Seven lists, rising, of the blocks of S. -/
structure Pl (fs : List (List Int)) (S : Nat → Nat → Prop) : Prop where
  len : fs.length = 7
  srt : ∀ j : Nat, j < 7 → (Cof.get fs (j : Int)).Pairwise (· < ·)
  mem : ∀ j : Nat, j < 7 → ∀ v, v ∈ Cof.get fs (j : Int) ↔ ∃ a : Nat, v = a ∧ S a j
theorem sorted_ext : ∀ {xs ys : List Int}, xs.Pairwise (· < ·) → ys.Pairwise (· < ·) → (∀ v, v ∈ xs ↔ v ∈ ys) → xs = ys
  | [], [], _, _, _ => rfl
  | [], y :: ys, _, _, h => by have := (h y).2 (by simp); cases this
  | x :: xs, [], _, _, h => by have := (h x).1 (by simp); cases this
  | x :: xs, y :: ys, h1, h2, h => by
    obtain ⟨a1, a2⟩ := List.pairwise_cons.1 h1
    obtain ⟨b1, b2⟩ := List.pairwise_cons.1 h2
    have e : x = y := by
      have hx := (h x).1 (by simp)
      have hy := (h y).2 (by simp)
      rcases List.mem_cons.1 hx with e | hx
      · exact e
      · rcases List.mem_cons.1 hy with e | hy
        · exact e.symm
        · have := b1 x hx; have := a1 y hy; omega
    subst e
    refine congrArg (x :: ·) (sorted_ext a2 b2 fun v => ?_)
    constructor
    · intro hv
      rcases List.mem_cons.1 ((h v).1 (by simp [hv])) with e | hh
      · subst e; have := a1 v hv; omega
      · exact hh
    · intro hv
      rcases List.mem_cons.1 ((h v).2 (by simp [hv])) with e | hh
      · subst e; have := b1 v hv; omega
      · exact hh
theorem Pl.uniq {fs gs : List (List Int)} {S : Nat → Nat → Prop} (h : Pl fs S) (g : Pl gs S) : fs = gs :=
  get_ext (by rw [h.len, g.len]) fun j hj => sorted_ext (h.srt j (by have := h.len; omega)) (g.srt j (by have := h.len; omega)) fun v => by rw [h.mem j (by have := h.len; omega), g.mem j (by have := h.len; omega)]
theorem Pl.iff {fs : List (List Int)} {S S' : Nat → Nat → Prop} (h : Pl fs S) (hi : ∀ a j, j ≤ 6 → (S a j ↔ S' a j)) : Pl fs S' :=
  ⟨h.len, h.srt, fun j hj v => by rw [h.mem j hj]; exact ⟨fun ⟨a, e, s⟩ => ⟨a, e, (hi a j (by omega)).1 s⟩, fun ⟨a, e, s⟩ => ⟨a, e, (hi a j (by omega)).2 s⟩⟩⟩
/-! one list -/
def insS (v : Int) (xs : List Int) : List Int := xs.take (rkI v xs) ++ v :: xs.drop (rkI v xs)
theorem ins_mem {v w : Int} {xs : List Int} : w ∈ insS v xs ↔ w = v ∨ w ∈ xs := by
  unfold insS
  have e : w ∈ xs ↔ w ∈ xs.take (rkI v xs) ∨ w ∈ xs.drop (rkI v xs) := by rw [← List.mem_append, List.take_append_drop]
  rw [List.mem_append, List.mem_cons, e]
  constructor
  · rintro (h | h | h)
    · exact .inr (.inl h)
    · exact .inl h
    · exact .inr (.inr h)
  · rintro (h | h | h)
    · exact .inr (.inl h)
    · exact .inl h
    · exact .inr (.inr h)
theorem rk_take {v w : Int} {xs : List Int} (h : w ∈ xs.take (rkI v xs)) : w < v := by
  obtain ⟨i, hi, rfl⟩ := List.getElem_of_mem h
  rw [List.length_take] at hi
  rw [List.getElem_take, ← get_getElem (by omega)]
  exact rk_lt (by omega)
theorem rk_drop {v w : Int} {xs : List Int} (hs : xs.Pairwise (· < ·)) (h : w ∈ xs.drop (rkI v xs)) : v ≤ w := by
  obtain ⟨i, hi, rfl⟩ := List.getElem_of_mem h
  rw [List.length_drop] at hi
  rw [List.getElem_drop, ← get_getElem (by omega)]
  have h0 := rk_ge (v := v) (xs := xs) (by omega)
  by_cases e : i = 0
  · subst e; exact h0
  · have := pw_get hs (i := rkI v xs) (j := rkI v xs + i) (by omega) (by omega)
    omega
theorem ins_srt {v : Int} {xs : List Int} (hs : xs.Pairwise (· < ·)) (hv : v ∉ xs) : (insS v xs).Pairwise (· < ·) := by
  unfold insS
  refine List.pairwise_append.2 ⟨hs.sublist (List.take_sublist _ _), List.pairwise_cons.2 ⟨fun w hw => ?_, hs.sublist (List.drop_sublist _ _)⟩, fun a ha b hb => ?_⟩
  · have h1 := rk_drop hs hw
    have : w ≠ v := fun e => hv (e ▸ List.mem_of_mem_drop hw)
    omega
  · have h1 := rk_take ha
    rcases List.mem_cons.1 hb with rfl | hb
    · exact h1
    · have := rk_drop hs hb
      omega
theorem ins_len {v : Int} {xs : List Int} : (insS v xs).length = xs.length + 1 := by
  have := rk_le v xs
  unfold insS
  rw [List.length_append, List.length_cons, List.length_take, List.length_drop]
  omega
theorem ins_last {v : Int} {xs : List Int} (h : ∀ w ∈ xs, w < v) : insS v xs = xs ++ [v] := by
  have e : rkI v xs = xs.length := rk_eq (Nat.le_refl _) (fun j hj => h _ (get_mem' (by omega) (by omega))) (fun h => absurd h (Nat.lt_irrefl _))
  unfold insS
  rw [e, List.take_length, List.drop_length]
theorem era_mem {v w : Int} {xs : List Int} (hs : xs.Pairwise (· < ·)) (hv : v ∈ xs) : w ∈ xs.eraseIdx (rkI v xs) ↔ w ∈ xs ∧ w ≠ v := by
  obtain ⟨h1, h2⟩ := (rk_mem hs).2 hv
  rw [List.eraseIdx_eq_take_drop_succ, List.mem_append]
  have e : xs = xs.take (rkI v xs) ++ v :: xs.drop (rkI v xs + 1) := by
    have := List.drop_eq_getElem_cons h1
    rw [← get_getElem h1, h2] at this
    rw [← this, List.take_append_drop]
  have hn : w ∈ xs ↔ w ∈ xs.take (rkI v xs) ∨ w = v ∨ w ∈ xs.drop (rkI v xs + 1) := by
    have : w ∈ xs ↔ w ∈ xs.take (rkI v xs) ++ v :: xs.drop (rkI v xs + 1) := by rw [← e]
    rw [this, List.mem_append, List.mem_cons]
  rw [hn]
  constructor
  · rintro (h | h)
    · exact ⟨.inl h, by have := rk_take h; omega⟩
    · refine ⟨.inr (.inr h), ?_⟩
      obtain ⟨i, hi, rfl⟩ := List.getElem_of_mem h
      rw [List.length_drop] at hi
      rw [List.getElem_drop, ← get_getElem (by omega)]
      have := pw_get hs (i := rkI v xs) (j := rkI v xs + 1 + i) (by omega) (by omega)
      omega
  · rintro ⟨h | h | h, hne⟩
    · exact .inl h
    · exact absurd h hne
    · exact .inr h
theorem era_srt {xs : List Int} {i : Nat} (hs : xs.Pairwise (· < ·)) : (xs.eraseIdx i).Pairwise (· < ·) := hs.sublist (List.eraseIdx_sublist _ _)
/-! the seven -/
theorem get_set7 {fs : List (List Int)} (hl : fs.length = 7) {k j : Nat} (hk : k < 7) {l : List Int} : Cof.get (fs.set k l) (j : Int) = if k = j then l else Cof.get fs (j : Int) := get_set (by omega)
theorem Pl.ins {fs : List (List Int)} {S : Nat → Nat → Prop} (h : Pl fs S) {a k : Nat} (hk : k < 7) (hn : ¬ S a k) : Pl (fs.set k (insS a (Cof.get fs (k : Int)))) (fun b j => S b j ∨ (b = a ∧ j = k)) := by
  have hn' : (a : Int) ∉ Cof.get fs (k : Int) := fun hm => by
    obtain ⟨b, e, hb⟩ := (h.mem k hk _).1 hm
    have : a = b := by omega
    exact hn (this ▸ hb)
  refine ⟨by rw [List.length_set]; exact h.len, fun j hj => ?_, fun j hj v => ?_⟩
  · rw [get_set7 h.len hk]
    split
    · exact ins_srt (h.srt k hk) hn'
    · exact h.srt j hj
  · rw [get_set7 h.len hk]
    split
    · rename_i e; subst e
      rw [ins_mem, h.mem k hk]
      constructor
      · rintro (e | ⟨b, e, hb⟩)
        · exact ⟨a, e, .inr ⟨rfl, rfl⟩⟩
        · exact ⟨b, e, .inl hb⟩
      · rintro ⟨b, e, hb | ⟨rfl, _⟩⟩
        · exact .inr ⟨b, e, hb⟩
        · exact .inl e
    · rename_i e
      rw [h.mem j hj]
      exact ⟨fun ⟨b, e, hb⟩ => ⟨b, e, .inl hb⟩, fun ⟨b, e1, hb⟩ => ⟨b, e1, hb.elim id fun hh => absurd hh.2.symm e⟩⟩
theorem Pl.del {fs : List (List Int)} {S : Nat → Nat → Prop} (h : Pl fs S) {a k : Nat} (hk : k < 7) (hs : S a k) : Pl (fs.set k ((Cof.get fs (k : Int)).eraseIdx (rkI a (Cof.get fs (k : Int))))) (fun b j => S b j ∧ ¬ (b = a ∧ j = k)) := by
  have hm : (a : Int) ∈ Cof.get fs (k : Int) := (h.mem k hk _).2 ⟨a, rfl, hs⟩
  refine ⟨by rw [List.length_set]; exact h.len, fun j hj => ?_, fun j hj v => ?_⟩
  · rw [get_set7 h.len hk]
    split
    · exact era_srt (h.srt k hk)
    · exact h.srt j hj
  · rw [get_set7 h.len hk]
    split
    · rename_i e; subst e
      rw [era_mem (h.srt k hk) hm, h.mem k hk]
      exact ⟨fun ⟨⟨b, e, hb⟩, hne⟩ => ⟨b, e, hb, fun hh => hne (by rw [e, hh.1])⟩, fun ⟨b, e, hb, hne⟩ => ⟨⟨b, e, hb⟩, fun hh => hne ⟨by omega, rfl⟩⟩⟩
    · rename_i e
      rw [h.mem j hj]
      exact ⟨fun ⟨b, e1, hb⟩ => ⟨b, e1, hb, fun hh => e hh.2.symm⟩, fun ⟨b, e1, hb, _⟩ => ⟨b, e1, hb⟩⟩
/-! how many places -/
def sumF (fs : List (List Int)) : Nat → Nat
  | 0 => 0
  | n + 1 => sumF fs n + (Cof.get fs (n : Int)).length * 2 ^ n
theorem sum_set' {fs : List (List Int)} (hl : fs.length = 7) {k : Nat} (hk : k < 7) {l : List Int} : ∀ n, sumF (fs.set k l) n + (if k < n then (Cof.get fs (k : Int)).length * 2 ^ k else 0) = sumF fs n + (if k < n then l.length * 2 ^ k else 0)
  | 0 => by simp [sumF]
  | n + 1 => by
    have ih := sum_set' hl hk (l := l) n
    rw [sumF, sumF, get_set7 hl hk]
    by_cases e : k = n
    · subst e
      rw [if_pos rfl, if_pos (by omega), if_pos (by omega)]
      rw [if_neg (by omega), if_neg (by omega)] at ih
      omega
    · rw [if_neg e]
      by_cases h : k < n
      · rw [if_pos (by omega), if_pos (by omega)]
        rw [if_pos h, if_pos h] at ih
        omega
      · rw [if_neg (by omega), if_neg (by omega)]
        rw [if_neg h, if_neg h] at ih
        omega
theorem sum_ins {fs : List (List Int)} (hl : fs.length = 7) {k : Nat} (hk : k < 7) {v : Int} : sumF (fs.set k (insS v (Cof.get fs (k : Int)))) 7 = sumF fs 7 + 2 ^ k := by
  have := sum_set' hl hk (l := insS v (Cof.get fs (k : Int))) 7
  rw [if_pos hk, if_pos hk, ins_len, Nat.add_mul] at this
  omega
theorem sum_del {fs : List (List Int)} (hl : fs.length = 7) {k : Nat} (hk : k < 7) {i : Nat} (hi : i < (Cof.get fs (k : Int)).length) : sumF (fs.set k ((Cof.get fs (k : Int)).eraseIdx i)) 7 + 2 ^ k = sumF fs 7 := by
  have := sum_set' hl hk (l := (Cof.get fs (k : Int)).eraseIdx i) 7
  rw [if_pos hk, if_pos hk, List.length_eraseIdx_of_lt hi] at this
  obtain ⟨q, hq⟩ : ∃ q, (Cof.get fs (k : Int)).length = q + 1 := ⟨(Cof.get fs (k : Int)).length - 1, by omega⟩
  rw [hq, Nat.add_sub_cancel, Nat.add_mul] at this
  omega
theorem sum_has {fs : List (List Int)} {k : Nat} : ∀ {n : Nat}, k < n → (Cof.get fs (k : Int)).length * 2 ^ k ≤ sumF fs n
  | 0, h => by omega
  | n + 1, h => by
    rw [sumF]
    by_cases e : k = n
    · subst e; omega
    · have := sum_has (fs := fs) (k := k) (n := n) (by omega)
      omega
theorem sum_mono {fs : List (List Int)} {i : Nat} : ∀ {j : Nat}, i ≤ j → sumF fs i ≤ sumF fs j
  | 0, h => by rw [show i = 0 by omega]; exact Nat.le_refl _
  | j + 1, h => by
    by_cases e : i = j + 1
    · rw [e]; exact Nat.le_refl _
    · have := sum_mono (fs := fs) (i := i) (j := j) (by omega)
      rw [sumF]; omega
theorem len_sum {fs : List (List Int)} {k : Nat} (hk : k < 7) : (Cof.get fs (k : Int)).length ≤ sumF fs 7 :=
  Nat.le_trans (Nat.le_mul_of_pos_right _ (two_pos k)) (sum_has hk)
def cntB : List Bool → Nat
  | [] => 0
  | b :: l => (if b then 1 else 0) + cntB l
theorem cnt_app {l m : List Bool} : cntB (l ++ m) = cntB l + cntB m := by
  induction l with
  | nil => simp [cntB]
  | cons b l ih => rw [List.cons_append, cntB, cntB, ih]; omega
theorem cnt_set : ∀ {l : List Bool} {i : Nat} {v : Bool}, i < l.length → cntB (l.set i v) + (if O l i then 1 else 0) = cntB l + (if v then 1 else 0)
  | [], i, v, h => by simp at h
  | b :: l, 0, v, h => by
    rw [List.set_cons_zero, cntB, cntB]
    have : O (b :: l) 0 ↔ b = true := Iff.rfl
    simp only [this]
    omega
  | b :: l, i + 1, v, h => by
    have ih := cnt_set (l := l) (i := i) (v := v) (by simpa using h)
    rw [List.set_cons_succ, cntB, cntB]
    have : O (b :: l) (i + 1) ↔ O l i := Iff.rfl
    simp only [this]
    omega
theorem cnt_close {op : List Bool} {x : Nat} : ∀ {n : Nat}, x + n ≤ op.length → (∀ i, x ≤ i → i < x + n → O op i) → cntB (setN op x n false) + n = cntB op
  | 0, _, _ => rfl
  | n + 1, hl, h => by
    have ih := cnt_close (op := op) (x := x) (n := n) (by omega) fun i h1 h2 => h i h1 (by omega)
    have h1 := cnt_set (l := setN op x n false) (i := x + n) (v := false) (by rw [setN_len]; omega)
    have h2 : O (setN op x n false) (x + n) := by rw [setN_at, if_neg (by omega)]; exact h _ (by omega) (by omega)
    rw [if_pos h2] at h1
    rw [setN]
    simp at h1
    omega
theorem cnt_open {op : List Bool} {x : Nat} : ∀ {n : Nat}, x + n ≤ op.length → (∀ i, x ≤ i → i < x + n → ¬ O op i) → cntB (setN op x n true) = cntB op + n
  | 0, _, _ => rfl
  | n + 1, hl, h => by
    have ih := cnt_open (op := op) (x := x) (n := n) (by omega) fun i h1 h2 => h i h1 (by omega)
    have h1 := cnt_set (l := setN op x n true) (i := x + n) (v := true) (by rw [setN_len]; omega)
    have h2 : ¬ O (setN op x n true) (x + n) := by rw [setN_at, if_neg (by omega)]; exact h _ (by omega) (by omega)
    rw [if_neg h2] at h1
    rw [setN]
    simp at h1
    omega
/-- What the program's lists are. -/
structure BOk (op : List Bool) (fs : List (List Int)) : Prop where
  pl : Pl fs (Mx op)
  sum : sumF fs 7 = cntB op
/-! a list that grows to the right: New, and the document's answer -/
theorem grow_step {op : List Bool} {fs : List (List Int)} {at_ k : Nat} (h : Pl fs (fun a j => Mx op a j ∧ a < at_)) (hk : k ≤ 6) (hm : Mx op at_ k) : Pl (fs.set k (Cof.get fs (k : Int) ++ [(at_ : Int)])) (fun a j => Mx op a j ∧ a < at_ + 2 ^ k) := by
  have hl : insS (at_ : Int) (Cof.get fs (k : Int)) = Cof.get fs (k : Int) ++ [(at_ : Int)] := ins_last fun w hw => by
    obtain ⟨a, e, ha⟩ := (h.mem k (by omega) w).1 hw
    have := ha.2
    omega
  rw [← hl]
  refine (h.ins (a := at_) (k := k) (by omega) (fun hh => by omega)).iff fun a j hj => ?_
  have hp := two_pos k
  constructor
  · rintro (⟨h1, h2⟩ | ⟨rfl, rfl⟩)
    · exact ⟨h1, by omega⟩
    · exact ⟨hm, by omega⟩
  · rintro ⟨h1, h2⟩
    by_cases h3 : a < at_
    · exact .inl ⟨h1, h3⟩
    · have hpj := two_pos j
      exact .inr (hm.same h1 hj hk (i := a) (Nat.le_refl _) (by omega) (by omega) (by omega))
theorem pl_end {op : List Bool} {fs : List (List Int)} {n : Nat} (hn : op.length ≤ n) (h : Pl fs (fun a j => Mx op a j ∧ a < n)) : Pl fs (Mx op) :=
  h.iff fun a j hj => ⟨fun hh => hh.1, fun hh => ⟨hh, by have := hh.1.len; have := two_pos j; omega⟩⟩
theorem pl_nil {op : List Bool} : Pl (List.replicate 7 []) (fun a j => Mx op a j ∧ a < 0) := by
  refine ⟨List.length_replicate, fun j hj => ?_, fun j hj v => ?_⟩
  all_goals rw [get_getElem (by rw [List.length_replicate]; exact hj), List.getElem_replicate]
  · exact List.Pairwise.nil
  · exact ⟨fun h => (by cases h), fun ⟨a, _, h⟩ => (by omega)⟩
end Go.Proofs.Ytkcpjgdmfjhlkaa
