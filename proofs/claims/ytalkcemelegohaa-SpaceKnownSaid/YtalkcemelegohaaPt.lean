/- Address spaces: what is done to one; plain. -/
import Derived.Test.YtalkcemelegohaaPs
set_option linter.unusedVariables false
set_option maxRecDepth 100000
namespace Go.Proofs.Ytalkcemelegohaa
open Go.RowKit Go.Cof
open Vm (Rg encRg rgV checkE prm lastR Fol Fine Made atP hasP)

def conv (u : List Rg × Int × Int) : List Rg × Int × Int × Int := (u.1, u.2.1, 0, u.2.2)
def doF (l : List Rg) (h k p n q : Int) : List Rg × Int × Int × Int :=
  if k % 4 = 0 then mapF l h p n q else if k % 4 = 1 then conv (unmapF l h p n) else if k % 4 = 2 then conv (protectF l h p n q) else conv (brkF l h n)
theorem nil_good : scheck [] 0 = 0 := by decide +kernel
theorem made_good {l : List Rg} {h f t : Int} {x : List Rg × Int} {y : Option Int} (hs : SGood l h) (hm : ∀ a, x = (a, 0) → Made l a f t y) (ht : t ≤ 524288) : scheck (madeF x h).1 (madeF x h).2.1 = 0 := by
  obtain ⟨xs, e⟩ := x
  unfold madeF
  by_cases he : e = 0
  · subst he
    rw [if_pos rfl]
    exact sgood_iff.2 (hs.low (hm xs rfl) ht)
  · rw [if_neg he]; exact nil_good
theorem unmap_good (l : List Rg) (h p n : Int) : scheck (unmapF l h p n).1 (unmapF l h p n).2.1 = 0 := by
  unfold unmapF
  by_cases hz : scheck l h = 0
  · rw [if_neg (by omega)]
    by_cases hl : lowP p n
    · rw [if_neg (fun h => h hl)]
      exact made_good (f := p) (t := p + n) (sgood_iff.1 hz) (fun a ha => Vm.cut_made ha) (by unfold lowP at hl; omega)
    · rw [if_pos hl]; exact nil_good
  · rw [if_pos hz]; exact nil_good
theorem protect_good (l : List Rg) (h p n q : Int) : scheck (protectF l h p n q).1 (protectF l h p n q).2.1 = 0 := by
  unfold protectF
  by_cases hz : scheck l h = 0
  · rw [if_neg (by omega)]
    by_cases hl : lowP p n ∧ prm q = true
    · rw [if_neg (fun h => h hl)]
      exact made_good (f := p) (t := p + n) (sgood_iff.1 hz) (fun a ha => (Vm.prot_made ha).1) (by have := hl.1; unfold lowP at this; omega)
    · rw [if_pos hl]; exact nil_good
  · rw [if_pos hz]; exact nil_good
theorem map_good (l : List Rg) (h p n q : Int) : scheck (mapF l h p n q).1 (mapF l h p n q).2.1 = 0 := by
  obtain ⟨⟨a, hh, at_, e⟩, hX⟩ : ∃ X, mapF l h p n q = X := ⟨_, rfl⟩
  rw [hX]
  by_cases he : e = 0
  · subst he
    have md := map_done hX
    show scheck a hh = 0
    rw [md.hp]; exact sgood_iff.2 md.good
  · have key : ∀ x : List Rg × Int, ∀ hp pp, mapM x hp pp = (a, hh, at_, e) → a = [] ∧ hh = 0 := fun x hp pp hm => by
      obtain ⟨xs, e'⟩ := x
      unfold mapM at hm
      by_cases h' : e' = 0
      · subst h'; rw [if_pos rfl] at hm; cases hm; exact absurd rfl he
      · rw [if_neg h'] at hm; cases hm; exact ⟨rfl, rfl⟩
    have : a = [] ∧ hh = 0 := by
      unfold mapF at hX
      split at hX
      · have e1 := congrArg Prod.fst hX; have e2 := congrArg (fun x => x.2.1) hX; exact ⟨e1.symm, e2.symm⟩
      · split at hX
        · cases hX; exact ⟨rfl, rfl⟩
        · split at hX
          · split at hX
            · exact key _ _ _ hX
            · cases hX; exact ⟨rfl, rfl⟩
          · exact key _ _ _ hX
    obtain ⟨rfl, rfl⟩ := this
    exact nil_good
theorem brk_good (l : List Rg) (h n : Int) : scheck (brkF l h n).1 (brkF l h n).2.1 = 0 := by
  obtain ⟨⟨a, hh, e⟩, hX⟩ : ∃ X, brkF l h n = X := ⟨_, rfl⟩
  rw [hX]
  by_cases he : e = 0
  · subst he
    obtain ⟨h1, h2, _⟩ := brk_made (brk_was hX) hX
    show scheck a hh = 0
    rw [h1]; exact sgood_iff.2 h2
  · have key : ∀ x : List Rg × Int, ∀ hp, madeF x hp = (a, hh, e) → a = [] ∧ hh = 0 := fun x hp hm => by
      obtain ⟨xs, e'⟩ := x
      unfold madeF at hm
      by_cases h' : e' = 0
      · subst h'; rw [if_pos rfl] at hm; cases hm; exact absurd rfl he
      · rw [if_neg h'] at hm; cases hm; exact ⟨rfl, rfl⟩
    have : a = [] ∧ hh = 0 := by
      unfold brkF at hX
      split at hX
      · have e1 := congrArg Prod.fst hX; have e2 := congrArg (fun x => x.2.1) hX; exact ⟨e1.symm, e2.symm⟩
      · split at hX
        · cases hX; exact ⟨rfl, rfl⟩
        · split at hX
          · exact key _ _ hX
          · split at hX
            · exact key _ _ hX
            · have e3 := congrArg (fun x => x.2.2) hX; exact absurd e3.symm he
    obtain ⟨rfl, rfl⟩ := this
    exact nil_good
theorem do_good (l : List Rg) (h k p n q : Int) : scheck (doF l h k p n q).1 (doF l h k p n q).2.1 = 0 := by
  unfold doF
  split
  · exact map_good l h p n q
  · split
    · exact unmap_good l h p n
    · split
      · exact protect_good l h p n q
      · exact brk_good l h n
end Go.Proofs.Ytalkcemelegohaa
