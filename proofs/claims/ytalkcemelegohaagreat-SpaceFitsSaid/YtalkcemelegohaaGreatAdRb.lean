/- Tables: the document's answer. -/
import Derived.Test.YtalkcemelegohaaGreatAdWc
set_option linter.unusedVariables false
set_option maxRecDepth 100000
namespace Go.Proofs.YtalkcemelegohaaGreat.Ad
open Go.RowKit Go.Cof

theorem cnt_put {b : List Bool} {k : Nat} (hk : k < b.length) : cntB (b.set k true) = if O b k then cntB b else cntB b + 1 := by
  have h := cnt_set (l := b) (i := k) (v := true) hk
  by_cases ho : O b k
  · rw [if_pos ho] at h ⊢; simp at h; omega
  · rw [if_neg ho] at h ⊢; simp at h; omega
theorem put_same {b : List Bool} {k : Nat} (hk : k < b.length) (ho : O b k) : b.set k true = b := by
  have e : b[k] = true := by
    unfold O at ho
    rw [List.getD_eq_getElem?_getD, List.getElem?_eq_getElem hk] at ho
    exact ho
  rw [← e, List.set_getElem_self]
end Go.Proofs.YtalkcemelegohaaGreat.Ad
