/- Total, Shape, Limit: the program's. -/
import Derived.Test.YthmllhihldbfoaaPlWk
set_option linter.unusedVariables false
namespace Go.Proofs.Ythmllhihldbfoaa.Pl
open Go.RowKit Go.Cof

def sh0 : Sh := ⟨0, 0, 0, 0⟩
theorem thE_zero {d : Cd} {p : Int} (h : thE d p = 0) : MayF d ∧ ∃ n : Nat, p = n ∧ n < d.ps.length := by
  unfold thE at h
  split at h
  · rename_i hm
    split at h
    · rename_i hp
      exact ⟨MayP.all hm, p.toNat, by omega, by omega⟩
    · exact absurd h (by decide)
  · exact absurd h (by decide)
def totE (d : Cd) (p : Int) : Int := if thE d p = 0 then toF d p.toNat else 0
def shpE (d : Cd) (p : Int) : Sh := if thE d p = 0 then shF (Cof.get d.ps p) else sh0
end Go.Proofs.Ythmllhihldbfoaa.Pl
