/- Walks of the reference's Find, Pages, Spans. -/
import Derived.Test.YtalkcemelegohaaGreatVmPa
set_option linter.unusedVariables false
set_option maxRecDepth 100000
namespace Go.Proofs.YtalkcemelegohaaGreat.Vm
open Go.RowKit Go.Cof

def rfindP (l : List Rg) (page : Int) : Rg × Bool × Int :=
  if checkE l ≠ 0 then (⟨0, 0, 0⟩, false, checkE l) else if ¬ (0 ≤ page ∧ page ≤ 1048575) then (⟨0, 0, 0⟩, false, 2) else
  match l.find? (hasP page) with | some r => (r, true, 0) | none => (⟨0, 0, 0⟩, false, 0)
theorem rfindP_1 {l : List Rg} {page : Int} (h : ¬ checkE l = 0) : rfindP l page = (⟨0, 0, 0⟩, false, checkE l) := by unfold rfindP; rw [if_pos h]
theorem rfindP_2 {l : List Rg} {page : Int} (h : ¬ ¬ checkE l = 0) (h1 : ¬ (0 ≤ page ∧ page ≤ 1048575)) : rfindP l page = (⟨0, 0, 0⟩, false, 2) := by unfold rfindP; rw [if_neg h, if_pos h1]
theorem rfindP_3 {l : List Rg} {page : Int} {r : Rg} (h : ¬ ¬ checkE l = 0) (h1 : 0 ≤ page ∧ page ≤ 1048575) (h2 : l.find? (hasP page) = some r) : rfindP l page = (r, true, 0) := by unfold rfindP; rw [if_neg h, if_neg (by omega), h2]
theorem rfindP_4 {l : List Rg} {page : Int} (h : ¬ ¬ checkE l = 0) (h1 : 0 ≤ page ∧ page ≤ 1048575) (h2 : l.find? (hasP page) = none) : rfindP l page = (⟨0, 0, 0⟩, false, 0) := by unfold rfindP; rw [if_neg h, if_neg (by omega), h2]
theorem find_at {α : Type} [Inhabited α] {f : α → Bool} : ∀ {l : List α} {i : Nat}, i < l.length → (∀ j : Nat, j < i → f (Cof.get l j) = false) → f (Cof.get l i) = true → l.find? f = some (Cof.get l i)
  | [], i, h, _, _ => by simp at h
  | r :: l, 0, _, _, h => by rw [List.find?_cons_of_pos (by exact h)]; rfl
  | r :: l, i + 1, hi, h1, h2 => by
    have h3 := h1 0 (by omega)
    have eg : ∀ j : Nat, Cof.get (r :: l) ((j + 1 : Nat) : Int) = Cof.get l (j : Int) := fun j => by
      unfold Cof.get
      rw [Int.toNat_natCast, Int.toNat_natCast]
      rfl
    rw [List.find?_cons_of_neg (by rw [show r = Cof.get (r :: l) ((0 : Nat) : Int) from rfl, h3]; simp), eg]
    exact find_at (by simp at hi; omega) (fun j hj => by rw [← eg]; exact h1 (j + 1) (by omega)) (by rw [← eg]; exact h2)
theorem find_none {α : Type} [Inhabited α] {f : α → Bool} {l : List α} (h : ∀ j : Nat, j < l.length → f (Cof.get l j) = false) : l.find? f = none := by
  rw [List.find?_eq_none]
  intro x hx
  obtain ⟨i, hi, rfl⟩ := List.getElem_of_mem hx
  have := h i hi
  unfold Cof.get at this
  rw [Int.toNat_natCast, List.getD_eq_getElem?_getD, List.getElem?_eq_getElem hi] at this
  have h2 : f l[i] = false := this
  rw [h2]; simp
end Go.Proofs.YtalkcemelegohaaGreat.Vm
