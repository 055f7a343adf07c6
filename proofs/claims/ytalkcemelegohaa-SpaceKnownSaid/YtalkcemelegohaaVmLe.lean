/- The program's Find answers as the reference's. -/
import Derived.Test.YtalkcemelegohaaVmPc
import Derived.Test.YtalkcemelegohaaVmRd
import Derived.Test.YtalkcemelegohaaVmB
set_option linter.unusedVariables false
set_option maxRecDepth 100000
namespace Go.Proofs.Ytalkcemelegohaa.Vm
open Go.RowKit Go.Cof

theorem findP_ref {l : List Rg} {page : Int} : rfindP l page = findP l page := by
  unfold rfindP findP
  by_cases hc : checkE l = 0
  · have hc' : ¬ checkE l ≠ 0 := by omega
    rw [if_neg hc', if_neg hc']
    have hg := Good.of_check hc
    by_cases hp : page < 0 ∨ 1048576 ≤ page
    · rw [if_pos (by omega), if_pos hp]
    · rw [if_neg (by omega), if_neg hp]
      have ho := firstN_out (l := l) (page := page)
      have hd : l.find? (hasP page) = (l.drop (firstN l page)).find? (hasP page) := by
        conv => lhs; rw [← List.take_append_drop (firstN l page) l]
        rw [List.find?_append, List.find?_eq_none.2 fun r hr => by rw [hasP_iff]; have := ho r hr; omega]
        rfl
      rw [hd]
      by_cases hlt : firstN l page < l.length
      · have he := firstN_end hlt
        have hdg := drop_get l (firstN l page) hlt
        rw [hdg]
        have hg2 : Good (Cof.get l (firstN l page : Nat) :: l.drop (firstN l page + 1)) := by rw [← hdg]; exact hg.sub (List.drop_sublist _ _)
        by_cases hpp : (Cof.get l (firstN l page : Nat)).p ≤ page
        · rw [if_pos ⟨hlt, hpp⟩, List.find?_cons_of_pos (hasP_iff.2 ⟨hpp, he⟩)]
        · have hlt2 := hg2.cons.1.lt
          rw [if_neg fun h => hpp h.2, List.find?_eq_none.2 fun r hr => by
            rw [hasP_iff]
            rcases List.mem_cons.1 hr with rfl | hr
            · omega
            · have := (hg2.cons.2.2 r hr).le; omega]
      · rw [if_neg fun h => hlt h.1, List.drop_of_length_le (by omega)]
        rfl
  · rw [if_pos hc, if_pos hc]
end Go.Proofs.Ytalkcemelegohaa.Vm
