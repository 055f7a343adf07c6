/- The row of the first numbers; Next where nothing is used. -/
import Derived.Test.YtgbcagcaaegciaaWc
set_option linter.unusedVariables false
namespace Go.Proofs.Ytgbcagcaaegciaa
open Go.RowKit Go.Cof

def seqI (n : Nat) : List Int := (List.range n).map fun (i : Nat) => (i : Int)
theorem seqI_len (n : Nat) : (seqI n).length = n := by unfold seqI; rw [List.length_map, List.length_range]
theorem seqI_succ (n : Nat) : seqI (n + 1) = seqI n ++ [(n : Int)] := by unfold seqI; rw [List.range_succ, List.map_append]; rfl
theorem seqI_get {n i : Nat} (h : i < n) : Cof.get (seqI n) (i : Int) = (i : Int) := by
  rw [get_getElem (by rw [seqI_len]; exact h)]
  unfold seqI
  rw [List.getElem_map, List.getElem_range]
theorem seqI_mem {n : Nat} {x : Int} : x ∈ seqI n ↔ 0 ≤ x ∧ x < n := by
  unfold seqI
  rw [List.mem_map]
  constructor
  · rintro ⟨i, hi, rfl⟩
    have := List.mem_range.1 hi
    omega
  · intro h
    exact ⟨x.toNat, List.mem_range.2 (by omega), by omega⟩
theorem seqI_add {n : Nat} (h : n < 4096) : addE (seqI n) (n : Int) = 0 ∧ addT (seqI n) (n : Int) = seqI (n + 1) := by
  have h1 : addE (seqI n) (n : Int) = 0 := addE_ok (by omega) (fun hm => by have := seqI_mem.1 hm; omega) (by rw [seqI_len]; omega)
  exact ⟨h1, by rw [addT_ok h1, seqI_succ]⟩
theorem nextC_head {pin y : Int} {t : List Int} (h : ¬ y = pin) : nextC false pin (y :: t) = ((y, 1, 0), t ++ [y], ()) := by
  unfold nextC
  rw [nextF_some _ _ _ (by simp)]
  exact nextGo_found (constA false) constN pin h rfl
theorem nextC_pin {pin z : Int} {t : List Int} (h : ¬ z = pin) : nextC false pin (pin :: z :: t) = ((z, 2, 0), t ++ [pin] ++ [z], ()) := by
  unfold nextC
  rw [nextF_some _ _ _ (by simp)]
  rw [show 2 * (pin :: z :: t).length + 1 = (2 * t.length + 3 + 1) + 1 from by simp only [List.length_cons]; omega, nextGo_pin, List.cons_append]
  exact nextGo_found (constA false) constN pin h rfl
theorem next_at {n h : Nat} {pin : Int} (hh : h < n) (hp : ¬ (h : Int) = pin) : nextC false pin (rotL (seqI n) h) = (((h : Int), 1, 0), rotL (seqI n) ((h + 1) % n), ()) := by
  obtain ⟨t, h1, h2⟩ := rotL_step (xs := seqI n) (h := h) (by rw [seqI_len]; exact hh)
  rw [seqI_len] at h2
  rw [seqI_get hh] at h1 h2
  rw [h1, h2]
  exact nextC_head hp
theorem next_pin {n h : Nat} {pin : Int} (hn : 2 ≤ n) (hh : h < n) (hp : (h : Int) = pin) : nextC false pin (rotL (seqI n) h) = (((((h + 1) % n : Nat) : Int), 2, 0), rotL (seqI n) (((h + 1) % n + 1) % n), ()) := by
  have h3 : (h + 1) % n < n := Nat.mod_lt _ (by omega)
  obtain ⟨t, h1, h2⟩ := rotL_step (xs := seqI n) (h := h) (by rw [seqI_len]; exact hh)
  obtain ⟨u, g1, g2⟩ := rotL_step (xs := seqI n) (h := (h + 1) % n) (by rw [seqI_len]; exact h3)
  rw [seqI_len] at h2 g2
  rw [seqI_get hh] at h1 h2
  rw [seqI_get h3] at g1 g2
  have hne : ¬ (((h + 1) % n : Nat) : Int) = pin := by
    rw [← hp]
    by_cases hc : h + 1 = n
    · rw [hc, Nat.mod_self]; omega
    · rw [Nat.mod_eq_of_lt (by omega)]; omega
  rw [h2] at g1
  cases t with
  | nil =>
    have := congrArg List.length h1
    rw [rotL_len, seqI_len] at this
    simp at this
    omega
  | cons z t =>
    rw [List.cons_append] at g1
    obtain ⟨hz, ht⟩ := List.cons.inj g1
    rw [h1, hp, hz, nextC_pin hne, g2, ← ht, hp]
end Go.Proofs.Ytgbcagcaaegciaa
