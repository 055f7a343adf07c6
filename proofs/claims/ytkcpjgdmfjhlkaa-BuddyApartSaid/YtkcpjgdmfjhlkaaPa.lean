/- Blocks of places: the greatest free ones. The plain part. -/
import Derived.Test.YtkcpjgdmfjhlkaaSlZ
set_option linter.unusedVariables false
namespace Go.Proofs.Ytkcpjgdmfjhlkaa
open Go.RowKit Go.Cof

abbrev O (op : List Bool) (i : Nat) : Prop := op.getD i false = true
/-- All places of a block are there, and free. -/
def Fb (op : List Bool) (a j : Nat) : Prop := 2 ^ j ∣ a ∧ ∀ i, a ≤ i → i < a + 2 ^ j → O op i
def par (a j : Nat) : Nat := a / 2 ^ (j + 1) * 2 ^ (j + 1)
def Mx (op : List Bool) (a j : Nat) : Prop := Fb op a j ∧ (j = 6 ∨ ¬ Fb op (par a j) (j + 1))
theorem two_pos (j : Nat) : 0 < 2 ^ j := Nat.pow_pos (by decide)
theorem two_succ (j : Nat) : 2 ^ (j + 1) = 2 ^ j + 2 ^ j := by rw [Nat.pow_succ]; omega
theorem dvd_le {j k : Nat} (h : j ≤ k) : 2 ^ j ∣ 2 ^ k := Nat.pow_dvd_pow 2 h
/-- Two blocks that share a place: the smaller lies in the greater. -/
theorem nest {a b j k i : Nat} (hjk : j ≤ k) (ha : 2 ^ j ∣ a) (hb : 2 ^ k ∣ b) (h1 : a ≤ i) (h2 : i < a + 2 ^ j) (h3 : b ≤ i) (h4 : i < b + 2 ^ k) : b ≤ a ∧ a + 2 ^ j ≤ b + 2 ^ k := by
  obtain ⟨x, rfl⟩ := ha
  obtain ⟨y, rfl⟩ := Nat.dvd_trans (dvd_le hjk) hb
  obtain ⟨z, hz⟩ := dvd_le hjk
  have hp := two_pos j
  rw [hz] at h4 ⊢
  have e1 : y < x + 1 := by
    refine Nat.lt_of_mul_lt_mul_left (a := 2 ^ j) ?_
    rw [Nat.mul_add, Nat.mul_one]; omega
  have e2 : x < y + z := by
    refine Nat.lt_of_mul_lt_mul_left (a := 2 ^ j) ?_
    rw [Nat.mul_add]; omega
  have f1 := Nat.mul_le_mul_left (2 ^ j) (show y ≤ x by omega)
  have f2 := Nat.mul_le_mul_left (2 ^ j) (show x + 1 ≤ y + z by omega)
  rw [Nat.mul_add, Nat.mul_add, Nat.mul_one] at f2
  omega
theorem par_dvd (a j : Nat) : 2 ^ (j + 1) ∣ par a j := Nat.dvd_mul_left ..
theorem par_in {a j : Nat} (ha : 2 ^ j ∣ a) : par a j ≤ a ∧ a + 2 ^ j ≤ par a j + 2 ^ (j + 1) := by
  have h1 : par a j ≤ a := Nat.div_mul_le_self a _
  have h2 : a < par a j + 2 ^ (j + 1) := by
    have := Nat.lt_div_mul_add (a := a) (two_pos (j + 1))
    exact this
  exact nest (Nat.le_succ j) ha (par_dvd a j) (Nat.le_refl _) (by have := two_pos j; omega) h1 h2
theorem Fb.sub {op : List Bool} {a b j k : Nat} (h : Fb op b k) (ha : 2 ^ j ∣ a) (h1 : b ≤ a) (h2 : a + 2 ^ j ≤ b + 2 ^ k) : Fb op a j := ⟨ha, fun i h3 h4 => h.2 i (by omega) (by omega)⟩
/-- A block that shares a place with a greater one lies in it, and so does what is a step greater. -/
theorem par_nest {a b j k i : Nat} (hjk : j < k) (ha : 2 ^ j ∣ a) (hb : 2 ^ k ∣ b) (h1 : a ≤ i) (h2 : i < a + 2 ^ j) (h3 : b ≤ i) (h4 : i < b + 2 ^ k) : b ≤ par a j ∧ par a j + 2 ^ (j + 1) ≤ b + 2 ^ k := by
  have hp := par_in ha
  exact nest hjk (par_dvd a j) hb (by omega) (by omega) h3 h4
theorem cover {op : List Bool} : ∀ (n : Nat) {a j : Nat}, j + n = 6 → Fb op a j → ∃ b k, j ≤ k ∧ k ≤ 6 ∧ Mx op b k ∧ b ≤ a ∧ a + 2 ^ j ≤ b + 2 ^ k
  | 0, a, j, hj, h => ⟨a, j, Nat.le_refl _, by omega, ⟨h, .inl (by omega)⟩, Nat.le_refl _, Nat.le_refl _⟩
  | n + 1, a, j, hj, h => by
    by_cases hp : Fb op (par a j) (j + 1)
    · obtain ⟨b, k, h1, h2, h3, h4, h5⟩ := cover n (by omega) hp
      have := par_in h.1
      exact ⟨b, k, by omega, h2, h3, by omega, by omega⟩
    · exact ⟨a, j, Nat.le_refl _, by omega, ⟨h, .inr hp⟩, Nat.le_refl _, Nat.le_refl _⟩
theorem Mx.cov {op : List Bool} {a j : Nat} (hj : j ≤ 6) (h : Fb op a j) : ∃ b k, j ≤ k ∧ k ≤ 6 ∧ Mx op b k ∧ b ≤ a ∧ a + 2 ^ j ≤ b + 2 ^ k := cover (6 - j) (by omega) h
/-- What shares a place with a greatest block lies in it. -/
theorem Mx.has {op : List Bool} {a b j k i : Nat} (h : Mx op b k) (hf : Fb op a j) (hj : j ≤ 6) (h1 : a ≤ i) (h2 : i < a + 2 ^ j) (h3 : b ≤ i) (h4 : i < b + 2 ^ k) : j ≤ k ∧ b ≤ a ∧ a + 2 ^ j ≤ b + 2 ^ k := by
  by_cases hjk : j ≤ k
  · exact ⟨hjk, nest hjk hf.1 h.1.1 h1 h2 h3 h4⟩
  · exfalso
    rcases h.2 with h6 | h6
    · omega
    · have := par_nest (show k < j by omega) h.1.1 hf.1 h3 h4 h1 h2
      exact h6 (hf.sub (par_dvd b k) this.1 this.2)
theorem Mx.same {op : List Bool} {a b j k i : Nat} (h : Mx op b k) (g : Mx op a j) (hj : j ≤ 6) (hk : k ≤ 6) (h1 : a ≤ i) (h2 : i < a + 2 ^ j) (h3 : b ≤ i) (h4 : i < b + 2 ^ k) : a = b ∧ j = k := by
  have e1 := h.has g.1 hj h1 h2 h3 h4
  have e2 := g.has h.1 hk h3 h4 h1 h2
  exact ⟨by omega, by omega⟩
/-! opened and closed places -/
def setN (op : List Bool) (x : Nat) : Nat → Bool → List Bool
  | 0, _ => op
  | n + 1, v => (setN op x n v).set (x + n) v
abbrev setR (op : List Bool) (x y : Nat) (v : Bool) : List Bool := setN op x (y - x) v
theorem setN_len (op : List Bool) (x : Nat) (v : Bool) : ∀ n, (setN op x n v).length = op.length
  | 0 => rfl
  | n + 1 => by rw [setN, List.length_set, setN_len op x v n]
theorem setN_at {op : List Bool} {x i : Nat} {v : Bool} : ∀ {n : Nat}, O (setN op x n v) i ↔ if x ≤ i ∧ i < x + n ∧ i < op.length then v = true else O op i
  | 0 => by rw [setN, if_neg (by omega)]
  | n + 1 => by
    have ih := setN_at (op := op) (x := x) (i := i) (v := v) (n := n)
    unfold O at ih ⊢
    rw [setN, List.getD_eq_getElem?_getD, List.getElem?_set]
    by_cases e : x + n = i
    · subst e
      rw [if_pos rfl, setN_len]
      by_cases hi : x + n < op.length
      · rw [if_pos hi, if_pos ⟨by omega, by omega, hi⟩]; rfl
      · rw [if_neg hi, if_neg (by omega), List.getD_eq_getElem?_getD, List.getElem?_eq_none (by omega)]
    · rw [if_neg e, ← List.getD_eq_getElem?_getD, ih]
      by_cases h : x ≤ i ∧ i < x + n ∧ i < op.length
      · rw [if_pos h, if_pos ⟨h.1, by omega, h.2.2⟩]
      · rw [if_neg h, if_neg (fun hh => h ⟨hh.1, by omega, hh.2.2⟩)]
theorem setR_at {op : List Bool} {x y i : Nat} {v : Bool} : O (setR op x y v) i ↔ if x ≤ i ∧ i < y ∧ i < op.length then v = true else O op i := by
  rw [setN_at]
  by_cases h : x ≤ i ∧ i < y ∧ i < op.length
  · rw [if_pos h, if_pos ⟨h.1, by omega, h.2.2⟩]
  · rw [if_neg h, if_neg (fun hh => h ⟨hh.1, by omega, hh.2.2⟩)]
theorem setR_add {op : List Bool} {x k : Nat} {v : Bool} : setR op x (x + k) v = setN op x k v := by show setN op x (x + k - x) v = _; rw [Nat.add_sub_cancel_left]
theorem O.lt {op : List Bool} {i : Nat} (h : O op i) : i < op.length := by
  unfold O at h
  rw [List.getD_eq_getElem?_getD] at h
  by_cases hi : i < op.length
  · exact hi
  · rw [List.getElem?_eq_none (by omega)] at h; simp at h
theorem Fb.len {op : List Bool} {a j : Nat} (h : Fb op a j) : a + 2 ^ j ≤ op.length := by
  have hp := two_pos j
  have := (h.2 (a + 2 ^ j - 1) (by omega) (by omega)).lt
  omega
/-- Take: what is greatest behind it. -/
theorem take_mx {op : List Bool} {at_ k o : Nat} (ho : o ≤ k) (hk : k ≤ 6) (hm : Mx op at_ k) (a j : Nat) (hj : j ≤ 6) :
    Mx (setR op at_ (at_ + 2 ^ o) false) a j ↔ (Mx op a j ∧ ¬ (a = at_ ∧ j = k)) ∨ (o ≤ j ∧ j < k ∧ a = at_ + 2 ^ j) := by
  have hpo := two_pos o
  have hpk := two_pos k
  have hle : at_ + 2 ^ o ≤ at_ + 2 ^ k := Nat.add_le_add_left (Nat.pow_le_pow_right (by decide) ho) _
  have hlen := hm.1.len
  have hT : ∀ i, O (setR op at_ (at_ + 2 ^ o) false) i ↔ (O op i ∧ ¬ (at_ ≤ i ∧ i < at_ + 2 ^ o)) := fun i => by
    rw [setR_at]
    by_cases h : at_ ≤ i ∧ i < at_ + 2 ^ o ∧ i < op.length
    · rw [if_pos h]
      exact ⟨fun h => (by cases h), fun hh => absurd ⟨h.1, h.2.1⟩ hh.2⟩
    · rw [if_neg h]
      exact ⟨fun hh => ⟨hh, fun g => h ⟨g.1, g.2, hh.lt⟩⟩, fun hh => hh.1⟩
  have hdo : 2 ^ o ∣ at_ := Nat.dvd_trans (dvd_le ho) hm.1.1
  have up : ∀ {b m : Nat}, Fb (setR op at_ (at_ + 2 ^ o) false) b m → Fb op b m := fun {b m} h => ⟨h.1, fun i h1 h2 => ((hT i).1 (h.2 i h1 h2)).1⟩
  have dn : ∀ {b m : Nat}, Fb op b m → (b + 2 ^ m ≤ at_ ∨ at_ + 2 ^ o ≤ b) → Fb (setR op at_ (at_ + 2 ^ o) false) b m := fun {b m} h hd => ⟨h.1, fun i h1 h2 => (hT i).2 ⟨h.2 i h1 h2, by omega⟩⟩
  have out : ∀ {b m : Nat}, Fb (setR op at_ (at_ + 2 ^ o) false) b m → (b + 2 ^ m ≤ at_ ∨ at_ + 2 ^ o ≤ b) := fun {b m} h => by
    have hpm := two_pos m
    by_cases h1 : b + 2 ^ m ≤ at_
    · exact .inl h1
    · by_cases h2 : at_ + 2 ^ o ≤ b
      · exact .inr h2
      · exfalso
        have := (hT (max b at_)).1 (h.2 (max b at_) (by omega) (by omega))
        exact this.2 (by omega)
  constructor
  · intro h
    have hf := up h.1
    obtain ⟨b, m, h1, h2, h3, h4, h5⟩ := Mx.cov hj hf
    have hpj := two_pos j
    have hpm := two_pos m
    by_cases hs : at_ < b + 2 ^ m ∧ b < at_ + 2 ^ k
    · obtain ⟨rfl, rfl⟩ := hm.same h3 h2 hk (i := max b at_) (by omega) (by omega) (by omega) (by omega)
      right
      have ho' := out h.1
      have hjk : j < m := by
        by_cases e : j = m
        · subst e
          exfalso
          omega
        · omega
      have h6 : ¬ Fb (setR op b (b + 2 ^ o) false) (par a j) (j + 1) := by
        rcases h.2 with h6 | h6
        · omega
        · exact h6
      have hpin := par_in hf.1
      have hpn := par_nest hjk hf.1 hm.1.1 (Nat.le_refl a) (by omega) h4 (by omega)
      have hps := two_succ j
      have hoj : o ≤ j := by
        apply Classical.byContradiction
        intro hoj
        apply h6
        refine dn (hm.1.sub (par_dvd a j) hpn.1 hpn.2) ?_
        apply Classical.byContradiction
        intro hd
        have := nest (show j + 1 ≤ o by omega) (par_dvd a j) hdo (i := max (par a j) b) (by omega) (by omega) (by omega) (by omega)
        omega
      have hle2 : 2 ^ o ≤ 2 ^ j := Nat.pow_le_pow_right (by decide) hoj
      have hdj : 2 ^ j ∣ b := Nat.dvd_trans (dvd_le (by omega)) hm.1.1
      have hdj1 : 2 ^ (j + 1) ∣ b := Nat.dvd_trans (dvd_le (by omega)) hm.1.1
      have hge : b + 2 ^ j ≤ a := by
        apply Classical.byContradiction
        intro hc
        have := nest (Nat.le_refl j) hf.1 hdj (i := a) (Nat.le_refl _) (by omega) h4 (by omega)
        omega
      refine ⟨hoj, hjk, ?_⟩
      apply Classical.byContradiction
      intro hne
      have hge2 : b + 2 ^ (j + 1) ≤ a := by
        apply Classical.byContradiction
        intro hc
        have := nest (Nat.le_refl j) hf.1 (Nat.dvd_add hdj (Nat.dvd_refl _)) (i := a) (Nat.le_refl _) (by omega) (show b + 2 ^ j ≤ a by omega) (by omega)
        omega
      apply h6
      refine dn (hm.1.sub (par_dvd a j) hpn.1 hpn.2) (.inr ?_)
      apply Classical.byContradiction
      intro hc
      have := nest (Nat.le_refl (j + 1)) (par_dvd a j) hdj1 (i := max (par a j) b) (by omega) (by omega) (by omega) (by omega)
      omega
    · left
      have hfb : Fb (setR op at_ (at_ + 2 ^ o) false) b m := dn h3.1 (by omega)
      have := h.has hfb h2 (i := a) h4 (by omega) (Nat.le_refl _) (by omega)
      have e1 : a = b := by omega
      have e2 : j = m := by omega
      subst e1 e2
      exact ⟨h3, fun hh => by omega⟩
  · rintro (⟨h, hne⟩ | ⟨h1, h2, rfl⟩)
    · have hpj := two_pos j
      have hd : a + 2 ^ j ≤ at_ ∨ at_ + 2 ^ o ≤ a := by
        apply Classical.byContradiction
        intro hc
        exact hne (hm.same h hj hk (i := max a at_) (by omega) (by omega) (by omega) (by omega))
      refine ⟨dn h.1 hd, ?_⟩
      rcases h.2 with h6 | h6
      · exact .inl h6
      · exact .inr fun hp => h6 (up hp)
    · have hs := two_succ j
      have hpj := two_pos j
      have hle2 : 2 ^ o ≤ 2 ^ j := Nat.pow_le_pow_right (by decide) h1
      have hle3 : 2 ^ (j + 1) ≤ 2 ^ k := Nat.pow_le_pow_right (by decide) h2
      have hdj : 2 ^ j ∣ at_ := Nat.dvd_trans (dvd_le (by omega)) hm.1.1
      have hdj1 : 2 ^ (j + 1) ∣ at_ := Nat.dvd_trans (dvd_le (by omega)) hm.1.1
      have hpe : par (at_ + 2 ^ j) j = at_ := by
        have hp1 := par_in (a := at_ + 2 ^ j) (j := j) (Nat.dvd_add hdj (Nat.dvd_refl _))
        have := nest (Nat.le_refl (j + 1)) (par_dvd (at_ + 2 ^ j) j) hdj1 (i := at_ + 2 ^ j) (by omega) (by omega) (by omega) (by omega)
        omega
      refine ⟨dn (hm.1.sub (Nat.dvd_add hdj (Nat.dvd_refl _)) (by omega) (by omega)) (by omega), .inr ?_⟩
      rw [hpe]
      intro hp
      have := out hp
      omega
/-- Give: the block that all came together to is greatest; the others stay. -/
theorem give_mx {op : List Bool} {a0 o c m : Nat} (hlen : a0 + 2 ^ o ≤ op.length) (hcl : ∀ i, a0 ≤ i → i < a0 + 2 ^ o → ¬ O op i) (hm6 : m ≤ 6) (hin : c ≤ a0 ∧ a0 + 2 ^ o ≤ c + 2 ^ m) (hc : Fb (setR op a0 (a0 + 2 ^ o) true) c m)
    (hend : m = 6 ∨ ¬ ∃ b, Mx op b m ∧ par b m = par c m) (a j : Nat) (hj : j ≤ 6) :
    Mx (setR op a0 (a0 + 2 ^ o) true) a j ↔ (a = c ∧ j = m) ∨ (Mx op a j ∧ ¬ (c ≤ a ∧ a + 2 ^ j ≤ c + 2 ^ m)) := by
  have hpo := two_pos o
  have hpm := two_pos m
  have hT : ∀ i, O (setR op a0 (a0 + 2 ^ o) true) i ↔ (O op i ∨ (a0 ≤ i ∧ i < a0 + 2 ^ o)) := fun i => by
    rw [setR_at]
    by_cases h : a0 ≤ i ∧ i < a0 + 2 ^ o ∧ i < op.length
    · rw [if_pos h]; exact ⟨fun _ => .inr ⟨h.1, h.2.1⟩, fun _ => rfl⟩
    · rw [if_neg h]
      exact ⟨.inl, fun hh => hh.elim id fun g => absurd ⟨g.1, g.2, by omega⟩ h⟩
  have up : ∀ {b k : Nat}, Fb op b k → Fb (setR op a0 (a0 + 2 ^ o) true) b k := fun {b k} h => ⟨h.1, fun i h1 h2 => (hT i).2 (.inl (h.2 i h1 h2))⟩
  have dn : ∀ {b k : Nat}, Fb (setR op a0 (a0 + 2 ^ o) true) b k → (b + 2 ^ k ≤ a0 ∨ a0 + 2 ^ o ≤ b) → Fb op b k := fun {b k} h hd => ⟨h.1, fun i h1 h2 => by
    rcases (hT i).1 (h.2 i h1 h2) with g | g
    · exact g
    · omega⟩
  have out : ∀ {b k : Nat}, Fb op b k → (b + 2 ^ k ≤ a0 ∨ a0 + 2 ^ o ≤ b) := fun {b k} h => by
    have hpk := two_pos k
    apply Classical.byContradiction
    intro hd
    exact hcl (max b a0) (by omega) (by omega) (h.2 (max b a0) (by omega) (by omega))
  have hmx : Mx (setR op a0 (a0 + 2 ^ o) true) c m := by
    refine ⟨hc, ?_⟩
    rcases hend with h6 | h6
    · exact .inl h6
    · by_cases e6 : m = 6
      · exact .inl e6
      right
      intro hp
      apply h6
      have hpi := par_in hc.1
      have hs := two_succ m
      have hpd := par_dvd c m
      have hpd2 : 2 ^ m ∣ par c m := Nat.dvd_trans (dvd_le (Nat.le_succ m)) hpd
      have key : ∀ b, 2 ^ m ∣ b → par c m ≤ b → b + 2 ^ m ≤ par c m + 2 ^ (m + 1) → (b + 2 ^ m ≤ c ∨ c + 2 ^ m ≤ b) → ∃ b, Mx op b m ∧ par b m = par c m := fun b hb h1 h2 h3 => by
        have hpb : par b m = par c m := by
          have hpib := par_in hb
          have := nest (Nat.le_refl (m + 1)) (par_dvd b m) hpd (i := b) (by omega) (by omega) h1 (by omega)
          omega
        refine ⟨b, ⟨dn (hp.sub hb h1 h2) (by omega), .inr ?_⟩, hpb⟩
        rw [hpb]
        intro hq
        have := out hq
        omega
      by_cases e : c = par c m
      · exact key (par c m + 2 ^ m) (Nat.dvd_add hpd2 (Nat.dvd_refl _)) (by omega) (by omega) (by omega)
      · have : par c m + 2 ^ m ≤ c := by
          apply Classical.byContradiction
          intro hcc
          have := nest (Nat.le_refl m) hc.1 hpd2 (i := c) (Nat.le_refl _) (by omega) hpi.1 (by omega)
          omega
        exact key (par c m) hpd2 (Nat.le_refl _) (by omega) (by omega)
  have hpj := two_pos j
  constructor
  · intro h
    by_cases hs : c < a + 2 ^ j ∧ a < c + 2 ^ m
    · exact .inl (hmx.same h hj hm6 (i := max a c) (by omega) (by omega) (by omega) (by omega))
    · right
      refine ⟨⟨dn h.1 (by omega), ?_⟩, by omega⟩
      rcases h.2 with h6 | h6
      · exact .inl h6
      · exact .inr fun hp => h6 (up hp)
  · rintro (⟨rfl, rfl⟩ | ⟨h, hne⟩)
    · exact hmx
    · have hd := out h.1
      have hap : c + 2 ^ m ≤ a ∨ a + 2 ^ j ≤ c := by
        apply Classical.byContradiction
        intro hcc
        have := hmx.has (up h.1) hj (i := max a c) (by omega) (by omega) (by omega) (by omega)
        exact hne ⟨this.2.1, this.2.2⟩
      refine ⟨up h.1, ?_⟩
      rcases h.2 with h6 | h6
      · exact .inl h6
      · by_cases e6 : j = 6
        · exact .inl e6
        right
        intro hp
        apply h6
        refine dn hp ?_
        have hpi := par_in h.1.1
        have hs := two_succ j
        apply Classical.byContradiction
        intro hcc
        have hpp := two_pos (j + 1)
        have := hmx.has hp (by omega) (i := max (par a j) a0) (by omega) (by omega) (by omega) (by omega)
        exact hne ⟨by omega, by omega⟩
end Go.Proofs.Ytkcpjgdmfjhlkaa
