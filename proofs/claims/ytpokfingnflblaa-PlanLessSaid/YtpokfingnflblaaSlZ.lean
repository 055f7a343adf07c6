/- Array values built. -/
import Derived.Test.YtpokfingnflblaaSlY
set_option linter.unusedVariables false
set_option linter.unusedSectionVars false
namespace Go.Cof
open Go.RowKit
section
variable {P : Program} {T : Tab} {F : Frz} {n : Nat} {Q : Exit → Act → World → Prop} {e : Env} {L : List HProp} {ops : Array Oper} {l : List Oper} {d : Option Tmp} {ty : TypeId} {pos : String} {af : Array Edge}
theorem XL_buildA (hT : TabOk P T) {t el : TypeId} {k : Nat} {parts : List (Nat × Operand)} {vs : List (Nat × Value)} {z : Value} {ti i2 : TI} {r : List Value} {e' : Env} (ht : look T t = some ti) (hz : ti.zero = some z) (hd : ti.desc = .array k el) (he : look T el = some i2) (hv : evp e parts = some vs)
    (hr : fillA i2.size z.cells.toList vs = some r) (hp : putE n d (.agg r.toArray) e = some e') (h : XL P F n ops l Q e' L) : XL P F n ops (⟨d, .build t parts.toArray, ty, pos, af, none⟩ :: l) Q e L :=
  XL_val (o := ⟨d, .build t parts.toArray, ty, pos, af, none⟩) rfl hp (fun a w hf hs => by
    have hu := hT.und t ti ht
    rw [hd] at hu
    have h3 := fillA_eq i2.size vs _ _ hr
    have h4 := hf.evp hv
    have h6 : (parts.toArray.map fun (i, x) => (i, a.eval x)).toList = vs := by simpa using h4
    simp only [execOp, Instr.build, Sem.run_bind, run_zeroValue hT w ht hz, Result.andThen_ok, run_underlying hu, run_sizeOf hT w he]
    rw [h6]
    have h7 : z.cells.toList.toArray = z.cells := by simp
    rw [h7] at h3
    rw [h3]
    rfl) h
end
end Go.Cof
