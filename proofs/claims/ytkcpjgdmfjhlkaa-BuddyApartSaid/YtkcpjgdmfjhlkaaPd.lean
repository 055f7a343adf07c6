/- What is taken; the lists, by definition. The plain part. -/
import Derived.Test.YtkcpjgdmfjhlkaaRd
set_option linter.unusedVariables false
namespace Go.Proofs.Ytkcpjgdmfjhlkaa
open Go.RowKit Go.Cof

theorem fb_iff {op : List Bool} {a j : Nat} : Fb op a j ↔ 2 ^ j ∣ a ∧ allR op a (2 ^ j) = true := by unfold Fb; rw [allR_iff]
instance (op : List Bool) (a j : Nat) : Decidable (Fb op a j) := decidable_of_iff _ fb_iff.symm
instance (op : List Bool) (a j : Nat) : Decidable (Mx op a j) := inferInstanceAs (Decidable (_ ∧ (_ ∨ ¬ _)))
def rowF (op : List Bool) (j : Nat) : List Int := ((List.range op.length).filter fun a => decide (Mx op a j)).map fun (a : Nat) => (a : Int)
def lsF (op : List Bool) : List (List Int) := [rowF op 0, rowF op 1, rowF op 2, rowF op 3, rowF op 4, rowF op 5, rowF op 6]
theorem lsF_get {op : List Bool} {j : Nat} (h : j < 7) : Cof.get (lsF op) (j : Int) = rowF op j := by
  match j, h with
  | 0, _ => rfl
  | 1, _ => rfl
  | 2, _ => rfl
  | 3, _ => rfl
  | 4, _ => rfl
  | 5, _ => rfl
  | 6, _ => rfl
theorem lsF_pl (op : List Bool) : Pl (lsF op) (Mx op) := by
  refine ⟨rfl, fun j hj => ?_, fun j hj v => ?_⟩
  · rw [lsF_get hj]
    unfold rowF
    refine List.pairwise_map.2 ?_
    exact (List.pairwise_lt_range.sublist List.filter_sublist).imp fun h => by omega
  · rw [lsF_get hj]
    unfold rowF
    rw [List.mem_map]
    constructor
    · rintro ⟨a, ha, rfl⟩
      exact ⟨a, rfl, of_decide_eq_true (List.mem_filter.1 ha).2⟩
    · rintro ⟨a, rfl, ha⟩
      refine ⟨a, List.mem_filter.2 ⟨List.mem_range.2 ?_, decide_eq_true ha⟩, rfl⟩
      have := ha.1.len
      have := two_pos j
      omega
theorem BOk.fs {op : List Bool} {fs : List (List Int)} (h : BOk op fs) : fs = lsF op := h.pl.uniq (lsF_pl op)
/-- A block that is taken. -/
structure Tkb (op : List Bool) (a k : Nat) : Prop where
  k6 : k ≤ 6
  dv : 2 ^ k ∣ a
  le : a + 2 ^ k ≤ op.length
  cl : ∀ i, a ≤ i → i < a + 2 ^ k → ¬ O op i
structure TkOk (op : List Bool) (tk : Int → Option Int) : Prop where
  blk : ∀ v o, tk v = some o → ∃ a k : Nat, v = a ∧ o = k ∧ Tkb op a k
  apart : ∀ (a k b m : Nat), tk (a : Int) = some (k : Int) → tk (b : Int) = some (m : Int) → a ≠ b → a + 2 ^ k ≤ b ∨ b + 2 ^ m ≤ a
theorem TkOk.nil {op : List Bool} : TkOk op (fun _ => none) := ⟨fun v o h => (by cases h), fun a k b m h => (by cases h)⟩
theorem TkOk.take {op : List Bool} {tk : Int → Option Int} (h : TkOk op tk) {a o : Nat} (ho : o ≤ 6) (hd : 2 ^ o ∣ a) (hl : a + 2 ^ o ≤ op.length) (hc : ∀ i, a ≤ i → i < a + 2 ^ o → O op i) : TkOk (setN op a (2 ^ o) false) (updI tk a (some o)) := by
  have hcl : ∀ i, O (setN op a (2 ^ o) false) i → O op i ∧ ¬ (a ≤ i ∧ i < a + 2 ^ o) := fun i hi => by
    rw [setN_at] at hi
    by_cases e : a ≤ i ∧ i < a + 2 ^ o ∧ i < op.length
    · rw [if_pos e] at hi; cases hi
    · rw [if_neg e] at hi; exact ⟨hi, fun g => e ⟨g.1, g.2, hi.lt⟩⟩
  have hsep : ∀ b m : Nat, tk (b : Int) = some (m : Int) → a + 2 ^ o ≤ b ∨ b + 2 ^ m ≤ a := fun b m hb => by
    obtain ⟨b', m', e1, e2, hk⟩ := h.blk _ _ hb
    obtain rfl : b = b' := by omega
    obtain rfl : m = m' := by omega
    have hp := two_pos m
    have hpo := two_pos o
    apply Classical.byContradiction
    intro hh
    exact hk.cl (max a b) (by omega) (by omega) (hc (max a b) (by omega) (by omega))
  refine ⟨fun v q hv => ?_, fun b k c m h1 h2 hne => ?_⟩
  · by_cases e : (a : Int) = v
    · have hv : (if (a : Int) = v then some (o : Int) else tk v) = some q := hv
      rw [if_pos e] at hv
      cases hv
      refine ⟨a, o, e.symm, rfl, ho, hd, by rw [setN_len]; exact hl, fun i h1 h2 hh => (hcl i hh).2 ⟨h1, h2⟩⟩
    · have hv : (if (a : Int) = v then some (o : Int) else tk v) = some q := hv
      rw [if_neg e] at hv
      obtain ⟨b, k, e1, e2, hk⟩ := h.blk _ _ hv
      exact ⟨b, k, e1, e2, hk.k6, hk.dv, by rw [setN_len]; exact hk.le, fun i h1 h2 hh => hk.cl i h1 h2 (hcl i hh).1⟩
  · have h1 : (if (a : Int) = b then some (o : Int) else tk b) = some k := h1
    have h2 : (if (a : Int) = c then some (o : Int) else tk c) = some m := h2
    by_cases e1 : (a : Int) = b
    · rw [if_pos e1] at h1
      rw [if_neg (by omega)] at h2
      cases h1
      have := hsep c m h2
      omega
    · rw [if_neg e1] at h1
      by_cases e2 : (a : Int) = c
      · rw [if_pos e2] at h2
        cases h2
        have := hsep b k h1
        omega
      · rw [if_neg e2] at h2
        exact h.apart b k c m h1 h2 hne
theorem TkOk.give {op : List Bool} {tk : Int → Option Int} (h : TkOk op tk) {a o : Nat} (ht : tk (a : Int) = some (o : Int)) : TkOk (setN op a (2 ^ o) true) (updI tk a none) := by
  obtain ⟨a', o', e1, e2, hk⟩ := h.blk _ _ ht
  obtain rfl : a = a' := by omega
  obtain rfl : o = o' := by omega
  refine ⟨fun v q hv => ?_, fun b k c m h1 h2 hne => ?_⟩
  · have hv : (if (a : Int) = v then none else tk v) = some q := hv
    by_cases e : (a : Int) = v
    · rw [if_pos e] at hv; cases hv
    · rw [if_neg e] at hv
      obtain ⟨b, k, e1, e2, hb⟩ := h.blk _ _ hv
      subst e1 e2
      have hap := h.apart a o b k ht hv (by omega)
      refine ⟨b, k, rfl, rfl, hb.k6, hb.dv, by rw [setN_len]; exact hb.le, fun i h1 h2 hh => ?_⟩
      rcases (open_at hk.le).1 hh with g | g
      · exact hb.cl i h1 h2 g
      · omega
  · have h1 : (if (a : Int) = b then none else tk b) = some (k : Int) := h1
    have h2 : (if (a : Int) = c then none else tk c) = some (m : Int) := h2
    by_cases e1 : (a : Int) = b
    · rw [if_pos e1] at h1; cases h1
    · by_cases e2 : (a : Int) = c
      · rw [if_pos e2] at h2; cases h2
      · rw [if_neg e1] at h1
        rw [if_neg e2] at h2
        exact h.apart b k c m h1 h2 hne
/-- The document's Taken. -/
structure TlR (tl : List Int) (tk : Int → Option Int) (n : Nat) : Prop where
  len : tl.length = n
  get : ∀ i : Nat, i < n → Cof.get tl (i : Int) = match tk i with | some o => 1 + o | none => 0
theorem TlR.nil (n : Nat) : TlR (List.replicate n 0) (fun _ => none) n := ⟨List.length_replicate, fun i hi => by rw [get_getElem (by rw [List.length_replicate]; exact hi), List.getElem_replicate]⟩
theorem TlR.set {tl : List Int} {tk : Int → Option Int} {n a : Nat} (h : TlR tl tk n) (ha : a < n) (v : Option Int) : TlR (tl.set a (match v with | some o => 1 + o | none => 0)) (updI tk a v) n := by
  refine ⟨by rw [List.length_set]; exact h.len, fun i hi => ?_⟩
  rw [get_set (by rw [h.len]; exact ha)]
  by_cases e : a = i
  · subst e
    rw [if_pos rfl]
    show _ = match (if (a : Int) = (a : Int) then v else tk a) with | some o => 1 + o | none => 0
    rw [if_pos rfl]
  · rw [if_neg e, h.get i hi]
    show _ = match (if (a : Int) = (i : Int) then v else tk i) with | some o => 1 + o | none => 0
    rw [if_neg (by omega)]
/-- A Take finds what it finds. -/
theorem take_way (op : List Bool) (o : Nat) (ho : o ≤ 6) : (∀ j : Nat, o ≤ j → j ≤ 6 → Cof.get (lsF op) (j : Int) = []) ∨ ∃ k a : Nat, o ≤ k ∧ k ≤ 6 ∧ (∀ j : Nat, o ≤ j → j < k → Cof.get (lsF op) (j : Int) = []) ∧ Cof.get (lsF op) (k : Int) ≠ [] ∧ Cof.get (Cof.get (lsF op) (k : Int)) 0 = a ∧ Mx op a k := by
  have key : ∀ m, o + m ≤ 7 → (∀ j : Nat, o ≤ j → j < o + m → Cof.get (lsF op) (j : Int) = []) ∨ ∃ k : Nat, o ≤ k ∧ k < o + m ∧ (∀ j : Nat, o ≤ j → j < k → Cof.get (lsF op) (j : Int) = []) ∧ Cof.get (lsF op) (k : Int) ≠ [] := by
    intro m
    induction m with
    | zero => exact fun _ => .inl fun j h1 h2 => by omega
    | succ m ih =>
      intro hm
      rcases ih (by omega) with h | ⟨k, h1, h2, h3, h4⟩
      · by_cases e : Cof.get (lsF op) ((o + m : Nat) : Int) = []
        · refine .inl fun j h1 h2 => ?_
          by_cases e2 : j = o + m
          · rw [e2]; exact e
          · exact h j h1 (by omega)
        · exact .inr ⟨o + m, by omega, by omega, h, e⟩
      · exact .inr ⟨k, h1, by omega, h3, h4⟩
  rcases key (7 - o) (by omega) with h | ⟨k, h1, h2, h3, h4⟩
  · exact .inl fun j h5 h6 => h j h5 (by omega)
  · right
    have hl : 0 < (Cof.get (lsF op) (k : Int)).length := List.length_pos_iff.2 h4
    obtain ⟨a, e, ha⟩ := ((lsF_pl op).mem k (by omega) _).1 (get_mem' (l := Cof.get (lsF op) (k : Int)) (i := 0) (by omega) (by omega))
    exact ⟨k, a, h1, by omega, h3, h4, e, ha⟩
theorem Mx.open {op : List Bool} {a k o : Nat} (h : Mx op a k) (ho : o ≤ k) : 2 ^ o ∣ a ∧ a + 2 ^ o ≤ op.length ∧ ∀ i, a ≤ i → i < a + 2 ^ o → O op i := by
  have hle : 2 ^ o ≤ 2 ^ k := Nat.pow_le_pow_right (by decide) ho
  have := h.1.len
  exact ⟨Nat.dvd_trans (dvd_le ho) h.1.1, by omega, fun i h1 h2 => h.1.2 i h1 (by omega)⟩
end Go.Proofs.Ytkcpjgdmfjhlkaa
