/- The law SpaceKnown: what is known of its closed calls; the code cut into segments. -/
import Derived.Test.YtalkcemelegohaaLw
import Derived.Test.YtalkcemelegohaaSo
import Derived.Test.YtalkcemelegohaaLf
set_option linter.unusedVariables false
set_option maxRecDepth 100000
namespace Go.Proofs.Ytalkcemelegohaa
open Go.RowKit Go.Cof
open Vm (Rg encRg rgV)

def tlC : Code → Code
  | .seq _ d => d
  | c => c
def dropC : Nat → Code → Code
  | 0, c => c
  | k + 1, c => tlC (dropC k c)
abbrev pt (b : Nat) : Value := .pointer (some ⟨b, 0, none⟩)
abbrev spc (b n : Nat) (h : Int) : Value := .agg #[.slice (some ⟨b, 0, none⟩) n n, iV h]
theorem X_hold {P : Program} {F : Frz} {n : Nat} {c : Code} {Q : Exit → Act → World → Prop} {e : Env} {L : List HProp} (h : True → X P F n c Q e L) : X P F n c Q e L := h trivial
theorem X_sub {P : Program} {F : Frz} {n : Nat} {c : Code} {Q : Exit → Act → World → Prop} {e e' : Env} {L : List HProp} (h : X P F n c Q e L) (hs : Sub e e') : X P F n c Q e' L := .mk fun a w hf hw => h a w (hf.sub hs) hw
-- refine Ctr.intro Try.func8 rfl rfl (by decide +kernel) fun F hpre => ?_
def bodyC : Option Code → Code
  | some c => c
  | none => .skip
noncomputable def kc (k : Nat) : Code := dropC k (bodyC Try.f8.body)
theorem k_map : mapF fourL 4 524287 1 3 = ([⟨1, 2, 3⟩, ⟨524287, 5, 3⟩], 4, 524287, 0) := by decide +kernel
theorem k_mapF : mapF [⟨1, 524287, 1⟩] 0 0 1 1 = ([], 0, 0, 171) := by decide +kernel
theorem k_un1 : unmapF fourL 4 2 9 = ([⟨1, 1, 3⟩, ⟨524288, 4, 3⟩], 4, 0) := by decide +kernel
theorem k_un2 : unmapF fourL 4 0 1 = ([], 0, 2) := by decide +kernel
theorem k_un3 : unmapF fourL 4 524280 9 = ([], 0, 2) := by decide +kernel
theorem k_un4 : unmapF fourL 4 1 65 = ([], 0, 2) := by decide +kernel
theorem k_pr1 : protectF fourL 4 1 1 0 = ([⟨1, 1, 0⟩, ⟨2, 1, 3⟩, ⟨524288, 4, 3⟩], 4, 0) := by decide +kernel
theorem k_pr2 : protectF fourL 4 1 3 0 = ([], 0, 170) := by decide +kernel
theorem k_pr3 : protectF fourL 4 524288 1 0 = ([], 0, 2) := by decide +kernel
theorem k_bk0 : brkF fourL 4 0 = ([⟨1, 2, 3⟩], 0, 0) := by decide +kernel
theorem k_bk1 : brkF fourL 4 68 = ([⟨1, 2, 3⟩, ⟨524288, 68, 3⟩], 68, 0) := by decide +kernel
theorem k_bk2 : brkF fourL 4 69 = ([], 0, 2) := by decide +kernel
theorem k_bk3 : brkF fourL 4 (-1) = ([], 0, 2) := by decide +kernel
theorem k_bk4 : brkF [⟨524288, 1000, 3⟩] 1000 1025 = ([], 0, 2) := by decide +kernel
theorem k_bk5 : brkF [⟨524288, 1000, 3⟩] 1000 1024 = ([⟨524288, 1024, 3⟩], 1024, 0) := by decide +kernel
theorem k_bk6 : brkF fourL 4 4 = (fourL, 4, 0) := by decide +kernel
theorem k_ac1 : accF fourL 4 256 8 true = 0 := by decide +kernel
theorem k_ac2 : accF fourL 4 0 1 false = 170 := by decide +kernel
theorem k_ac3 : accF fourL 4 134217728 4 true = 0 := by decide +kernel
theorem k_ac4 : accF fourL 4 255 2 false = 2 := by decide +kernel
theorem k_ac5 : accF fourL 4 268435456 1 false = 10 := by decide +kernel
theorem k_ac6 : accF fourL 4 134218752 1 false = 170 := by decide +kernel
end Go.Proofs.Ytalkcemelegohaa
