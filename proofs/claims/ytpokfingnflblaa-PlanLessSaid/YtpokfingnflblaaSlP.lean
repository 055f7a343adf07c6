/- Loops with four parts that change; a slice of one's own that grows. -/
import Derived.Test.YtpokfingnflblaaSlO
set_option linter.unusedVariables false
set_option linter.unusedSectionVars false
namespace Go.Cof
open Go.RowKit
section
variable {P : Program} {F : Frz} {n : Nat} {Q : Exit → Act → World → Prop} {e : Env} {L : List HProp} {α β γ δ : Type}
theorem X_loopD4 {c : Code} (ks : List Nat) (D : α → β → γ → δ → Env) (M : α → β → γ → δ → List HProp) (p : α → β → γ → δ → Prop) (μ : α → β → γ → δ → Nat) (a0 : α) (b0 : β) (c0 : γ) (d0 : δ) {e1 : Env} (hk : pickA ks e [] = some e1) (h0 : p a0 b0 c0 d0) (he : Sub (D a0 b0 c0 d0) e) (hL : ∀ h, stars L h → stars (M a0 b0 c0 d0) h)
    (round : ∀ a b x y, p a b x y → X P F n c (Exit.then (fun ac w => ∃ j : α × β × γ × δ, p j.1 j.2.1 j.2.2.1 j.2.2.2 ∧ μ j.1 j.2.1 j.2.2.1 j.2.2.2 < μ a b x y ∧ Fr n (D j.1 j.2.1 j.2.2.1 j.2.2.2 ++ e1) ac ∧ St F w (M j.1 j.2.1 j.2.2.1 j.2.2.2)) Q) (D a b x y ++ e1) (M a b x y)) : X P F n (.loop c) Q e L :=
  X_loopD (ι := α × β × γ × δ) ks (fun j => D j.1 j.2.1 j.2.2.1 j.2.2.2) (fun j => M j.1 j.2.1 j.2.2.1 j.2.2.2) (fun j => p j.1 j.2.1 j.2.2.1 j.2.2.2) (fun j => μ j.1 j.2.1 j.2.2.1 j.2.2.2) (a0, b0, c0, d0) hk h0 he hL fun j h => round j.1 j.2.1 j.2.2.1 j.2.2.2 h
end
theorem own_n {α : Type} {E : Enc α} {A : Option Addr} {m n c : Nat} {xs : List α} (h : m = n) {g : Hp} (o : own E A m c xs g) : own E A n c xs g := h ▸ o
section
variable {P : Program} {F G : Frz} {n : Nat} {ops : Array Oper} {l : List Oper} {Q : Exit → Act → World → Prop} {e : Env} {L : List HProp} {kd : Nat → Kin} {σ : List Nat}
theorem XL_boolF {j : Nat} {b : Bool} {p : Prop} (f : b = true → p) (h1 : b = true → p → XL P F n ops l Q ((j, .bool true) :: e) L) (h2 : b = false → XL P F n ops l Q ((j, .bool false) :: e) L) : XL P F n ops l Q ((j, .bool b) :: e) L := XL_bool (fun h => h1 h (f h)) h2
end
end Go.Cof
