/- Results that are slices; whole elements. -/
import Derived.Test.YtpokfingnflblaaSlL
set_option linter.unusedVariables false
set_option linter.unusedSectionVars false
namespace Go.Cof
open Go.RowKit

section
variable {P : Program} {F G : Frz} {n : Nat} {ops : Array Oper} {l : List Oper} {Q : Exit → Act → World → Prop} {e : Env} {L : List HProp} {kd : Nat → Kin} {σ : List Nat}
theorem XD_bool {j : Nat} {b : Bool} (h1 : b = true → XD P G F n ops kd σ Q ((j, .bool true) :: e) L) (h2 : b = false → XD P G F n ops kd σ Q ((j, .bool false) :: e) L) : XD P G F n ops kd σ Q ((j, .bool b) :: e) L := by
  cases b
  · exact h2 rfl
  · exact h1 rfl
end
theorem fin_nil {α : Type} (E : Enc α) {L : List HProp} : ∀ g, stars L g → stars [(⟨none, 0, 0, []⟩ : Ow α).own E] g := fun _ _ => stars_new (own_nil E _) trivial
/-- A slice of the call's own that reads as a list, and a number beside it. -/
def LRes {α : Type} (E : Enc α) (xs : List α) (r : Value) (v : Value) (L : List HProp) : Prop := ∃ o : Ow α, o.xs = xs ∧ o.m = o.xs.length ∧ v = .tuple #[o.v, r] ∧ L = [o.own E]
theorem LRes.nil {α : Type} {E : Enc α} {xs : List α} {r : Value} (h : xs = []) {u : Value} (hu : u = r) : LRes E xs r (.tuple #[.slice none 0 0, u]) [(⟨none, 0, 0, []⟩ : Ow α).own E] := ⟨⟨none, 0, 0, []⟩, h.symm, rfl, by rw [hu], rfl⟩
end Go.Cof
