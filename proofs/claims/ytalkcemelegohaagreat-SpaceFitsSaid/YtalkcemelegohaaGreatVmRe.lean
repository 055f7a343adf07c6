/- Walk of the reference's Gap. -/
import Derived.Test.YtalkcemelegohaaGreatVmPa
set_option linter.unusedVariables false
set_option maxRecDepth 100000
namespace Go.Proofs.YtalkcemelegohaaGreat.Vm
open Go.RowKit Go.Cof

def gstep (l : List Rg) (n from_ to best p : Int) : Int := if p < from_ ∨ p > to - n ∨ (0 ≤ best ∧ best ≤ p) ∨ 0 < (betw l p (p + n)).length then best else p
def cands (l : List Rg) (from_ : Int) : List Int := from_ :: l.map Rg.end
def rgapB (l : List Rg) (n from_ to : Int) : Int := (cands l from_).foldl (gstep l n from_ to) (-1)
def rgapP (l : List Rg) (n from_ to : Int) : Int × Bool × Int :=
  if checkE l ≠ 0 then (0, false, checkE l) else if ¬ (1 ≤ n ∧ n ≤ 1048576) ∨ ¬ (0 ≤ from_ ∧ from_ ≤ 1048576) ∨ ¬ (from_ ≤ to ∧ to ≤ 1048576) then (0, false, 2) else
  if rgapB l n from_ to < 0 then (0, false, 0) else (rgapB l n from_ to, true, 0)
theorem rgapP_1 {l : List Rg} {n from_ to : Int} (h : ¬ checkE l = 0) : rgapP l n from_ to = (0, false, checkE l) := by unfold rgapP; rw [if_pos h]
theorem rgapP_2 {l : List Rg} {n from_ to : Int} (h : ¬ ¬ checkE l = 0) (h1 : ¬ (1 ≤ n ∧ n ≤ 1048576) ∨ ¬ (0 ≤ from_ ∧ from_ ≤ 1048576) ∨ ¬ (from_ ≤ to ∧ to ≤ 1048576)) : rgapP l n from_ to = (0, false, 2) := by unfold rgapP; rw [if_neg h, if_pos h1]
theorem rgapP_3 {l : List Rg} {n from_ to b : Int} (h : ¬ ¬ checkE l = 0) (h1 : ¬ (¬ (1 ≤ n ∧ n ≤ 1048576) ∨ ¬ (0 ≤ from_ ∧ from_ ≤ 1048576) ∨ ¬ (from_ ≤ to ∧ to ≤ 1048576))) (hb : b = rgapB l n from_ to) (h2 : b < 0) : rgapP l n from_ to = (0, false, 0) := by unfold rgapP; rw [if_neg h, if_neg h1, ← hb, if_pos h2]
theorem rgapP_4 {l : List Rg} {n from_ to b : Int} (h : ¬ ¬ checkE l = 0) (h1 : ¬ (¬ (1 ≤ n ∧ n ≤ 1048576) ∨ ¬ (0 ≤ from_ ∧ from_ ≤ 1048576) ∨ ¬ (from_ ≤ to ∧ to ≤ 1048576))) (hb : b = rgapB l n from_ to) (h2 : ¬ b < 0) : rgapP l n from_ to = (b, true, 0) := by unfold rgapP; rw [if_neg h, if_neg h1, ← hb, if_neg h2]
theorem cands_take (l : List Rg) (from_ : Int) (k : Nat) (h : k < l.length) : (cands l from_).take (k + 2) = (cands l from_).take (k + 1) ++ [(Cof.get l k).end] := by
  unfold cands
  rw [List.take_succ_cons, List.take_succ_cons, ← List.map_take, ← List.map_take, take_snoc _ _ h, List.map_append]
  rfl
end Go.Proofs.YtalkcemelegohaaGreat.Vm
