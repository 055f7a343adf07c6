/- Loops unrolled; slots and parts let go of at a region; calls of function values. -/
import Derived.Test.YtpokfingnflblaaSlS
import Derived.LoopN
set_option linter.unusedVariables false
set_option linter.unusedSectionVars false
namespace Go.Cof
open Go.RowKit

section
variable {P : Program} {T : Tab} {F : Frz} {n : Nat} {Q : Exit → Act → World → Prop} {e : Env} {L : List HProp} {ops : Array Oper} {l : List Oper} {d : Option Tmp} {ty : TypeId} {pos : String} {af : Array Edge}
/-- A loop, walked round by round: k + 1 rounds at most. -/
theorem X_unroll {c : Code} (k : Nat) (h : X P F n c (Exit.then (Code.rounds P c Q k) Q) e L) : X P F n (.loop c) Q e L := .mk fun a w hf hs => wp_loop_rounds (k + 1) (h.out a w hf hs)
theorem Y_unroll {c : Code} {k : Nat} (h : X P F n c (Exit.then (Code.rounds P c Q k) Q) e L) : Y F n (Exit.then (Code.rounds P c Q (k + 1)) Q) .normal e L := .mk fun a w hf hs => h.out a w hf hs
/-- A region, told with fewer slots and parts. -/
theorem X_regionG {id : Nat} (ks ps : List Nat) {e1 : Env} {M R : List HProp} {o : List Oper} (hk : pickA ks e [] = some e1) (hL : takeP L ps = some (M, R)) (h : XL P F n o.toArray o Q e1 M) : X P F n (.region id o.toArray false) Q e L :=
  .mk fun a w hf hs => wp_region_lit (h.out a w (hf.pick hk) (hs.imp fun g hg => stars_only ps hL g hg))
theorem X_regionE {id : Nat} (ks : List Nat) {e1 : Env} {o : List Oper} (hk : pickA ks e [] = some e1) (h : XL P F n o.toArray o Q e1 L) : X P F n (.region id o.toArray false) Q e L :=
  .mk fun a w hf hs => wp_region_lit (h.out a w (hf.pick hk) hs)
/-- Calls of a function value. -/
theorem XL_fnV {f : FuncId} {x : Operand} {args : List Operand} {ats : Array TypeId} {fi ca : Array Value} {vs us : List Value} {pre : Hp → Prop} {r : Value} {e' : Env} (hs : FnC P f us pre r) (hx : ev e x = some (.func (.func f) fi ca)) (hv : evs e args = some vs) (hu : fi.toList ++ vs ++ ca.toList = us) (hp : putE n d r e = some e')
    (hpre : ∀ g : Hp, Hp.le F.heap g → stars L g → pre g) (h : XL P F n ops l Q e' L) : XL P F n ops (⟨d, .call ⟨.value x, args.toArray, ats⟩, ty, pos, af, none⟩ :: l) Q e L :=
  XL_enter (o := ⟨d, .call ⟨.value x, args.toArray, ats⟩, ty, pos, af, none⟩) rfl (args := us) (Φ := fun v M => v = r ∧ M = L) (fun a w hf => by rw [← hu]; exact run_call hs.1 hf hx hv w)
    (fun w hw => (Ctr.call (A := []) hs hw hpre).mono fun _ _ ⟨v, L', he, ⟨h1, h2⟩, hs'⟩ => ⟨v, L, he, ⟨h1, rfl⟩, by rw [h2] at hs'; exact hs'⟩)
    (fun v M ⟨h1, h2⟩ => ⟨e', by rw [h1]; exact hp, by rw [h2]; exact h⟩)
theorem XL_callV {f : FuncId} (ks : List Nat) {x : Operand} {args : List Operand} {ats : Array TypeId} {fi ca : Array Value} {vs us : List Value} {pre : Hp → Prop} {A R : List HProp} {Φ : Value → List HProp → Prop} {e' : Value → Env} (hs : Ctr P f us pre A Φ) (hk : takeP L ks = some (A, R)) (hx : ev e x = some (.func (.func f) fi ca)) (hv : evs e args = some vs)
    (hu : fi.toList ++ vs ++ ca.toList = us) (hp : ∀ v, putE n d v e = some (e' v)) (hpre : ∀ g : Hp, Hp.le F.heap g → stars R g → pre g)
    (h : ∀ v L', Φ v L' → XL P F n ops l Q (e' v) (L' ++ R)) : XL P F n ops (⟨d, .call ⟨.value x, args.toArray, ats⟩, ty, pos, af, none⟩ :: l) Q e L :=
  XL_callR (A := A) hs hx hv hu hp (fun _ h => stars_take ks hk h) hpre h
/-- A call whose result is one of those of a relation, told by equations with what is made. -/
theorem XL_callX {f : FuncId} {ι : Type} (ks : List Nat) {args : List Operand} {ats : Array TypeId} {vs : List Value} {pre : Hp → Prop} {A R : List HProp} {V : ι → Value} {M : ι → List HProp} {φ : ι → Prop} {e' : ι → Env} (hs : Ctr P f vs pre A (fun v K => ∃ i, φ i ∧ v = V i ∧ K = M i)) (hk : takeP L ks = some (A, R)) (hv : evs e args = some vs)
    (hp : ∀ i, putE n d (V i) e = some (e' i)) (hpre : ∀ g : Hp, Hp.le F.heap g → stars R g → pre g) (h : ∀ i, φ i → XL P F n ops l Q (e' i) (M i ++ R)) : XL P F n ops (⟨d, .call ⟨.value (.func f), args.toArray, ats⟩, ty, pos, af, none⟩ :: l) Q e L :=
  XL_enter (o := ⟨d, .call ⟨.value (.func f), args.toArray, ats⟩, ty, pos, af, none⟩) rfl (args := vs) (Φ := fun v K => ∃ i, φ i ∧ v = V i ∧ K = M i ++ R) (fun a w hf => by have := run_call hs.1 hf (d := d) (ty := ty) (pos := pos) (af := af) (ats := ats) (x := .func f) rfl hv w; simpa using this)
    (fun w hw => (Ctr.call hs (hw.imp fun _ => stars_take ks hk) hpre).mono fun _ _ ⟨v, L', he, ⟨i, h0, h1, h2⟩, hs'⟩ => ⟨v, _, he, ⟨i, h0, h1, rfl⟩, by rw [h2] at hs'; exact hs'⟩)
    (fun v K ⟨i, h0, h1, h2⟩ => ⟨e' i, by rw [h1]; exact hp i, by rw [h2]; exact h i h0⟩)
end
end Go.Cof
