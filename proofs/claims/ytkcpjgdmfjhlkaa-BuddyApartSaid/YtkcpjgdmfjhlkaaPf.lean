/- BuddyApart: the places held, the plain part. -/
import Derived.Test.YtkcpjgdmfjhlkaaPe
import Derived.Test.YtkcpjgdmfjhlkaaRd
set_option linter.unusedVariables false
namespace Go.Proofs.Ytkcpjgdmfjhlkaa
open Go.RowKit Go.Cof

def neg (op : List Bool) : List Bool := op.map fun b => !b
theorem neg_len (op : List Bool) : (neg op).length = op.length := List.length_map ..
theorem neg_set (op : List Bool) (i : Nat) (v : Bool) : (neg op).set i (!v) = neg (op.set i v) := by
  unfold neg; rw [List.map_set]
theorem neg_step {op : List Bool} {a i : Nat} {v : Bool} (h : a ≤ i) : (neg (setN op a (i - a) v)).set i (!v) = neg (setN op a (i + 1 - a) v) := by
  rw [setN_step h, neg_set]
theorem neg_get {op : List Bool} {i : Nat} (h : i < op.length) : Cof.get (neg op) (i : Int) = !(Cof.get op (i : Int)) := by
  rw [get_getElem (by rw [neg_len]; exact h), get_getElem h]
  unfold neg; rw [List.getElem_map]
theorem neg_t {op : List Bool} {i : Nat} (h : i < op.length) (ho : O op i) : Cof.get (neg op) (i : Int) = false := by
  rw [neg_get h, show Cof.get op (i : Int) = true from ho]; rfl
theorem neg_f {op : List Bool} {i : Nat} (h : i < op.length) (ho : ¬ O op i) : Cof.get (neg op) (i : Int) = true := by
  rw [neg_get h]
  cases e : Cof.get op (i : Int) with
  | true => exact absurd e ho
  | false => rfl
theorem neg_allO (n : Nat) : neg (allO n) = List.replicate n false := by
  unfold neg allO; rw [List.map_replicate]; rfl
theorem no_fit {op : List Bool} {o : Nat} (ho : o ≤ 6) (h : ∀ j : Nat, o ≤ j → j ≤ 6 → Cof.get (lsF op) (j : Int) = []) : ¬ ∃ a, 2 ^ o ∣ a ∧ a + 2 ^ o ≤ op.length ∧ ∀ i, a ≤ i → i < a + 2 ^ o → O op i := by
  rintro ⟨a, hd, _, hf⟩
  obtain ⟨b, k, h1, h2, h3, _⟩ := Mx.cov ho (show Fb op a o from ⟨hd, hf⟩)
  have := ((lsF_pl op).mem k (by omega) (b : Int)).2 ⟨b, rfl, h3⟩
  rw [h k h1 h2] at this
  cases this
theorem dvd_next {P a b : Nat} (hP : 0 < P) (ha : P ∣ a) (hb : P ∣ b) (h : b < a + P) : b < a ∨ b = a := by
  by_cases e : b < a
  · exact .inl e
  · have h1 : P ∣ b - a := Nat.dvd_sub hb ha
    have := Nat.eq_zero_of_dvd_of_lt h1 (by omega)
    exact .inr (by omega)
/-- What is held covers what is closed. -/
def Cov (op : List Bool) (hs : List Hb) : Prop := ∀ i, i < op.length → ¬ O op i → ∃ x ∈ hs, ∃ a k : Nat, x.1 = a ∧ x.2 = k ∧ a ≤ i ∧ i < a + 2 ^ k
theorem O_rep {n i : Nat} (h : i < n) : O (allO n) i := by
  unfold O allO
  rw [List.getD_eq_getElem?_getD, List.getElem?_eq_getElem (by rw [List.length_replicate]; exact h), List.getElem_replicate]; rfl
theorem Cov.nil (n : Nat) : Cov (allO n) [] := fun i hi h => by
  have hi : i < (List.replicate n true).length := hi
  rw [List.length_replicate] at hi
  exact absurd (O_rep hi) h
theorem Cov.take {op : List Bool} {hs : List Hb} (h : Cov op hs) {a o : Nat} : Cov (setN op a (2 ^ o) false) (hs ++ [((a : Int), (o : Int))]) := fun i hi hc => by
  rw [setN_len] at hi
  by_cases e : a ≤ i ∧ i < a + 2 ^ o
  · exact ⟨_, List.mem_append_right _ (List.mem_singleton.2 rfl), a, o, rfl, rfl, e.1, e.2⟩
  · rw [setN_at, if_neg (fun g => e ⟨g.1, g.2.1⟩)] at hc
    obtain ⟨x, hx, q⟩ := h i hi hc
    exact ⟨x, List.mem_append_left _ hx, q⟩
theorem Cov.give {op : List Bool} {hs : List Hb} {tk : Int → Option Int} (h : Cov op hs) (hk : HOk tk hs) {q a k : Nat} (hq : q < hs.length) (e1 : (Cof.get hs (q : Int)).1 = a) (e2 : (Cof.get hs (q : Int)).2 = k) : Cov (setN op a (2 ^ k) true) (hs.eraseIdx q) := fun i hi hc => by
  rw [setN_len] at hi
  rw [setN_at] at hc
  by_cases e : a ≤ i ∧ i < a + 2 ^ k ∧ i < op.length
  · rw [if_pos e] at hc; exact absurd rfl hc
  · rw [if_neg e] at hc
    obtain ⟨x, hx, b, m, f1, f2, f3, f4⟩ := h i hi hc
    refine ⟨x, era_in hq hx fun e3 => e ?_, b, m, f1, f2, f3, f4⟩
    have h1 := hk.tt x hx
    have h2 := hk.tt _ (get_mem' (l := hs) (i := (q : Int)) (by omega) (by omega))
    rw [e3, h2] at h1
    have h1 := Option.some.inj h1
    have hm : m = k := by omega
    subst hm
    exact ⟨by omega, by omega, hi⟩
theorem Cov.none {op : List Bool} (h : Cov op []) : op = allO op.length := by
  refine O_ext (by unfold allO; rw [List.length_replicate]) fun i => ?_
  by_cases hi : i < op.length
  · refine ⟨fun _ => O_rep hi, fun _ => ?_⟩
    by_cases e : O op i
    · exact e
    · obtain ⟨x, hx, _⟩ := h i hi e
      cases hx
  · constructor
    · intro g; exact absurd g.lt hi
    · intro g
      have := g.lt
      unfold allO at this
      rw [List.length_replicate] at this
      exact absurd this hi
theorem cnt_le' (op : List Bool) : cntB op ≤ op.length := BOk.cnt_le.cle op
end Go.Proofs.Ytkcpjgdmfjhlkaa
