/- Address spaces: Unmap. Address spaces: Protect. Address spaces: Unmap, the document's. Address spaces: Protect, the document's. -/
import Derived.Test.YtalkcemelegohaaGreatSA
import Derived.Test.YtalkcemelegohaaGreatVmB
import Derived.Test.YtalkcemelegohaaGreatVmRe
import Derived.Test.YtalkcemelegohaaGreatVmPa
import Derived.Test.YtalkcemelegohaaGreatVmPb
set_option linter.unusedVariables false
set_option maxRecDepth 100000
namespace Go.Proofs.YtalkcemelegohaaGreat
open Go.RowKit Go.Cof
open Vm (Rg encRg rgV checkE prm lastR Fol Good)

/-- An answer: a space of one's own, and what is wrong. -/
def SRes (x : List Rg × Int × Int) (v : Value) (L : List HProp) : Prop := ∃ o : Ow Rg, o.xs = x.1 ∧ o.m = o.xs.length ∧ v = .tuple #[.agg #[o.v, iV x.2.1], iV x.2.2] ∧ L = [o.own encRg]
theorem SRes.none {x : List Rg × Int × Int} {e : Int} (h : x = ([], 0, e)) : SRes x (.tuple #[.agg #[.slice .none 0 0, iV 0], iV e]) [(⟨.none, 0, 0, []⟩ : Ow Rg).own encRg] := by
  subst h; exact ⟨⟨.none, 0, 0, []⟩, rfl, rfl, rfl, rfl⟩
def madeF (x : List Rg × Int) (h : Int) : List Rg × Int × Int := if x.2 = 0 then (x.1, h, 0) else ([], 0, x.2)
def unmapF (l : List Rg) (h p n : Int) : List Rg × Int × Int :=
  if scheck l h ≠ 0 then ([], 0, scheck l h) else if ¬ lowP p n then ([], 0, 2) else madeF (Vm.cutP l p n) h
theorem made_ok (A : Option Addr) (m c : Nat) (h : Int) : FnC Tryz.prog 23 [.slice A m c, iV h, iV 0] (fun _ => True) (.tuple #[.agg #[.slice A m c, iV h], iV 0]) := made_spec A m c h 0
theorem made_bad (A : Option Addr) (m c : Nat) (h e : Int) (he : ¬ e = 0) : FnC Tryz.prog 23 [.slice A m c, iV h, iV e] (fun _ => True) (.tuple #[.agg #[.slice none 0 0, iV 0], iV e]) := by
  have := made_spec A m c h e; rwa [if_neg he] at this
end Go.Proofs.YtalkcemelegohaaGreat
set_option linter.unusedVariables false
set_option maxRecDepth 100000
namespace Go.Proofs.YtalkcemelegohaaGreat
open Go.RowKit Go.Cof
open Vm (Rg encRg rgV checkE prm lastR Fol Good)

def protectF (l : List Rg) (h p n q : Int) : List Rg × Int × Int :=
  if scheck l h ≠ 0 then ([], 0, scheck l h) else if ¬ (lowP p n ∧ prm q = true) then ([], 0, 2) else madeF (Vm.protP l p n q) h
end Go.Proofs.YtalkcemelegohaaGreat
set_option linter.unusedVariables false
set_option maxRecDepth 100000
namespace Go.Proofs.YtalkcemelegohaaGreat
open Go.RowKit Go.Cof
open Vm (Rg encRg rgV checkE prm lastR Fol Good)

end Go.Proofs.YtalkcemelegohaaGreat
set_option linter.unusedVariables false
set_option maxRecDepth 100000
namespace Go.Proofs.YtalkcemelegohaaGreat
open Go.RowKit Go.Cof
open Vm (Rg encRg rgV checkE prm lastR Fol Good)

end Go.Proofs.YtalkcemelegohaaGreat
