/- Turned rows, in plain lists. -/
import Derived.Test.YtgbcagcaaegciaaPb
set_option linter.unusedVariables false
namespace Go.Proofs.Ytgbcagcaaegciaa
open Go.RowKit Go.Cof

/-- zs is ys, turned by j. -/
structure Rot (j : Nat) (ys zs : List Int) : Prop where
  len : zs.length = ys.length
  get : ∀ k : Nat, k < ys.length → Cof.get zs (k : Int) = Cof.get ys ((k + j) % ys.length : Nat)
theorem Rot.refl (ys : List Int) : Rot 0 ys ys := ⟨rfl, fun k hk => by rw [Nat.add_zero, Nat.mod_eq_of_lt hk]⟩
theorem Rot.one (y : Int) (t : List Int) : Rot 1 (y :: t) (t ++ [y]) := by
  refine ⟨by rw [List.length_append]; rfl, fun k hk => ?_⟩
  rw [List.length_cons] at hk ⊢
  rw [get_app]
  by_cases h : k < t.length
  · rw [if_pos h, Nat.mod_eq_of_lt (by omega), get_cons_succ]
  · obtain rfl : k = t.length := by omega
    rw [if_neg h, Nat.sub_self, Nat.mod_self]
    rfl
theorem Rot.trans {i j : Nat} {xs ys zs : List Int} (h : Rot i xs ys) (g : Rot j ys zs) : Rot (i + j) xs zs := by
  refine ⟨g.len.trans h.len, fun k hk => ?_⟩
  rw [g.get k (by rw [h.len]; exact hk), h.len, h.get _ (Nat.mod_lt _ (by omega))]
  congr 2
  rw [Nat.mod_add_mod]
  congr 1
  omega
section
variable {σ : Type} (ans : σ → Int → Bool) (nx : σ → Int → σ) (pin : Int)
theorem nextGo_rot : ∀ (n k : Nat) (ys : List Int) (s : σ), ∃ j, (nextGo ans nx pin n k ys s).1.2.1 = k + j ∧ j ≤ n ∧ Rot j ys (nextGo ans nx pin n k ys s).2.1
  | 0, k, ys, s => ⟨0, rfl, Nat.le_refl _, Rot.refl ys⟩
  | n + 1, k, [], s => ⟨0, rfl, Nat.zero_le _, Rot.refl []⟩
  | n + 1, k, y :: t, s => by
    rw [nextGo]
    split
    · obtain ⟨j, h1, h2, h3⟩ := nextGo_rot n (k + 1) (t ++ [y]) s
      exact ⟨1 + j, by rw [h1]; omega, by omega, (Rot.one y t).trans h3⟩
    · split
      · obtain ⟨j, h1, h2, h3⟩ := nextGo_rot n (k + 1) (t ++ [y]) (nx s y)
        exact ⟨1 + j, by rw [h1]; omega, by omega, (Rot.one y t).trans h3⟩
      · exact ⟨1, rfl, by omega, Rot.one y t⟩
theorem nextF_rot (ys : List Int) (s : σ) : (nextF ans nx pin ys s).1.2.1 ≤ 2 * ys.length + 1 ∧ Rot (nextF ans nx pin ys s).1.2.1 ys (nextF ans nx pin ys s).2.1 := by
  unfold nextF
  split
  · rename_i h; subst h; exact ⟨Nat.zero_le _, Rot.refl []⟩
  · obtain ⟨j, h1, h2, h3⟩ := nextGo_rot ans nx pin (2 * ys.length + 1) 0 ys s
    rw [h1, Nat.zero_add]
    exact ⟨h2, h3⟩
end
/-- The bits of those that are there. -/
structure There (ys : List Int) (s : List Bool) (c : Nat) : Prop where
  ok : YOk ys
  len : ys.length = c
  all : ∀ y ∈ ys, 0 ≤ y ∧ y < 30
  bits : s.length = 30
  bit : ∀ j : Nat, j < 30 → Cof.get s j = decide ((j : Int) ∈ ys)
theorem There.start : There [] (List.replicate 30 false) 0 := by
  refine ⟨YOk.nil, rfl, fun y h => (by cases h), List.length_replicate, fun j hj => ?_⟩
  rw [get_getElem (by rw [List.length_replicate]; exact hj), List.getElem_replicate]
  rfl
theorem pigeon : ∀ (n : Nat) (ys : List Int), ys.Nodup → (∀ y ∈ ys, 0 ≤ y ∧ y < (n : Int)) → ys.length ≤ n
  | 0, ys, _, h => by
    cases ys with
    | nil => exact Nat.le_refl _
    | cons y t => have := h y List.mem_cons_self; omega
  | n + 1, ys, hn, h => by
    by_cases hm : (n : Int) ∈ ys
    · have h1 := rmI_len hn hm
      have h2 := pigeon n (rmI n ys) (rmI_nodup hn) (fun y hy => by
        have h3 := List.mem_filter.1 hy
        have h4 := h y h3.1
        have h5 : ¬ (n : Int) = y := by simpa [qI] using h3.2
        omega)
      have := List.length_pos_of_mem hm
      omega
    · have h2 := pigeon n ys hn (fun y hy => by
        have h4 := h y hy
        have h5 : ¬ y = (n : Int) := fun e => hm (e ▸ hy)
        omega)
      omega
theorem There.few {ys : List Int} {s : List Bool} {c : Nat} (h : There ys s c) : c ≤ 30 := by
  have := pigeon 30 ys h.ok.nodup h.all
  rw [h.len] at this
  exact this
theorem There.has {ys : List Int} {s : List Bool} {c : Nat} (h : There ys s c) {j : Nat} (hj : j < 30) {b : Bool} (hb : Cof.get s j = b) : b = decide ((j : Int) ∈ ys) := by rw [← hb]; exact h.bit j hj
theorem There.add {ys : List Int} {s : List Bool} {c : Nat} (h : There ys s c) {j : Nat} (hj : j < 30) (hm : (j : Int) ∉ ys) : addE ys j = 0 ∧ There (ys ++ [(j : Int)]) (s.set j true) (c + 1) := by
  have hf := h.few
  have h1 : addE ys j = 0 := addE_ok (by omega) hm (by rw [h.len]; omega)
  have h2 := h.ok.add (j : Int)
  rw [addT_ok h1] at h2
  refine ⟨h1, h2, by rw [List.length_append, h.len]; rfl, fun y hy => ?_, by rw [List.length_set]; exact h.bits, fun k hk => ?_⟩
  · rcases List.mem_append.1 hy with h3 | h3
    · exact h.all y h3
    · rw [List.mem_singleton.1 h3]; omega
  · rw [get_set (by rw [h.bits]; exact hj)]
    by_cases e : j = k
    · subst e
      rw [if_pos rfl, decide_eq_true (List.mem_append.2 (.inr (List.mem_singleton.2 rfl)))]
    · rw [if_neg e, h.bit k hk]
      have : (k : Int) ∈ ys ++ [(j : Int)] ↔ (k : Int) ∈ ys := by
        rw [List.mem_append, List.mem_singleton]
        constructor
        · rintro (h3 | h3)
          · exact h3
          · omega
        · exact .inl
      by_cases hk2 : (k : Int) ∈ ys
      · rw [decide_eq_true hk2, decide_eq_true (this.2 hk2)]
      · rw [decide_eq_false hk2, decide_eq_false (fun h3 => hk2 (this.1 h3))]
theorem There.rm {ys : List Int} {s : List Bool} {c : Nat} (h : There ys s c) {j : Nat} (hj : j < 30) (hm : (j : Int) ∈ ys) : There (rmI j ys) (s.set j false) (c - 1) ∧ 0 < c := by
  have hl := rmI_len h.ok.nodup hm
  have hp := List.length_pos_of_mem hm
  refine ⟨⟨h.ok.rm _, by rw [hl, h.len], fun y hy => h.all y (List.mem_filter.1 hy).1, by rw [List.length_set]; exact h.bits, fun k hk => ?_⟩, by rw [← h.len]; exact hp⟩
  rw [get_set (by rw [h.bits]; exact hj)]
  by_cases e : j = k
  · subst e
    rw [if_pos rfl, decide_eq_false (rmI_not_mem _ _)]
  · rw [if_neg e, h.bit k hk]
    have : (k : Int) ∈ rmI j ys ↔ (k : Int) ∈ ys := by
      unfold rmI
      rw [List.mem_filter]
      constructor
      · exact fun h3 => h3.1
      · intro h3
        refine ⟨h3, ?_⟩
        have : ¬ (j : Int) = k := by omega
        simp [qI, this]
    by_cases hk2 : (k : Int) ∈ ys
    · rw [decide_eq_true hk2, decide_eq_true (this.2 hk2)]
    · rw [decide_eq_false hk2, decide_eq_false (fun h3 => hk2 (this.1 h3))]
theorem There.perm {ys zs : List Int} {s : List Bool} {c : Nat} (h : There ys s c) (p : zs.Perm ys) : There zs s c :=
  ⟨⟨p.nodup_iff.2 h.ok.nodup, by rw [p.length_eq]; exact h.ok.len⟩, by rw [p.length_eq]; exact h.len, fun y hy => h.all y (p.mem_iff.1 hy), h.bits, fun j hj => by
    rw [h.bit j hj]
    by_cases hk2 : (j : Int) ∈ ys
    · rw [decide_eq_true hk2, decide_eq_true (p.mem_iff.2 hk2)]
    · rw [decide_eq_false hk2, decide_eq_false (fun h3 => hk2 (p.mem_iff.1 h3))]⟩
end Go.Proofs.Ytgbcagcaaegciaa
