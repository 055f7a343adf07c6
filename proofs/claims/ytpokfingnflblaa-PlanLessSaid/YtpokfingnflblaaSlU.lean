/- Lists told plainly: cells, parts. -/
import Derived.Test.YtpokfingnflblaaSlT
set_option linter.unusedVariables false
set_option linter.unusedSectionVars false
namespace Go.Cof
open Go.RowKit

/-- The same list, its links told one by one. -/
inductive NL {α : Type _} : List α → List α → Prop where
  | nil : NL [] []
  | cons {a : α} {l l' : List α} (h : NL l l') : NL (a :: l) (a :: l')
theorem NL.eq {α : Type _} {l l' : List α} (h : NL l l') : l = l' := by
  induction h with
  | nil => rfl
  | cons _ ih => rw [ih]
section
variable {P : Program} {T : Tab} {F G : Frz} {n : Nat} {Q : Exit → Act → World → Prop} {e : Env} {L L' : List HProp} {ops : Array Oper} {l : List Oper} {kd : Nat → Kin} {σ : List Nat}
theorem X_regionN {id : Nat} {o : List Oper} (hn : NL L L') (h : XL P F n o.toArray o Q e L') : X P F n (.region id o.toArray false) Q e L := by rw [hn.eq]; exact X_region h
theorem X_regionEN {id : Nat} (ks : List Nat) {e1 : Env} {o : List Oper} (hk : pickA ks e [] = some e1) (hn : NL L L') (h : XL P F n o.toArray o Q e1 L') : X P F n (.region id o.toArray false) Q e L := by rw [hn.eq]; exact X_regionE ks hk h
theorem XL_nL (hn : NL L L') (h : XL P F n ops l Q e L') : XL P F n ops l Q e L := by rw [hn.eq]; exact h
theorem X_nL {c : Code} (hn : NL L L') (h : X P F n c Q e L') : X P F n c Q e L := by rw [hn.eq]; exact h
theorem XL_nB {b : Nat} {cs cs' : List Value} {et : TypeId} (hn : NL cs cs') (h : XL P F n ops l Q e (blk b cs' et :: L)) : XL P F n ops l Q e (blk b cs et :: L) := by rw [hn.eq]; exact h
theorem XL_nK (k : Nat) {b : Nat} {cs cs' : List Value} {et : TypeId} (hk : L[k]? = some (blk b cs et)) (hn : NL cs cs') (h : XL P F n ops l Q e (L.set k (blk b cs' et))) : XL P F n ops l Q e L := by
  rw [← hn.eq] at h
  exact XL_conv k (blk b cs et) hk (fun _ h => h) h
theorem XL_aggN {j : Nat} {cs cs' : List Value} (hn : NL cs cs') (h : XL P F n ops l Q ((j, .agg cs'.toArray) :: e) L) : XL P F n ops l Q ((j, .agg cs.toArray) :: e) L := by rw [hn.eq]; exact h
theorem XD_aggN {j : Nat} {cs cs' : List Value} (hn : NL cs cs') (h : XD P G F n ops kd σ Q ((j, .agg cs'.toArray) :: e) L) : XD P G F n ops kd σ Q ((j, .agg cs.toArray) :: e) L := by rw [hn.eq]; exact h
variable {d : Option Tmp} {ty : TypeId} {pos : String} {af : Array Edge}
theorem XV_idxl (hT : TabOk P T) {t el : TypeId} {i1 : TI} {de2 : TypeDesc} {z2 : Option Value} {sz2 by2 : Nat} {x ix : Operand} {b o m c : Nat} {k : IntKind} {i : Int} (hx : ev e x = some (.slice (some ⟨b, o, none⟩) m c)) (hi : ev e ix = some (.int k i)) (ht : look T t = some i1) (hd : i1.desc = .slice el) (he : look T el = some ⟨de2, z2, sz2, by2⟩)
    (h0 : 0 ≤ i) (h1 : i < m) : XV P G n ⟨d, .indexAddr t x ix, ty, pos, af, none⟩ e (.pointer (some ⟨b, o + i.toNat * sz2, none⟩)) := .mk fun a w hf hs => by
  have hr := run_idx (P := P) hT ht hd he (A := some ⟨b, o, none⟩) (c := c) (k := k) rfl h0 h1 w
  simp only [bs, Option.getD_some, Addr.add_lit] at hr
  simp [execOp, hf.ev hx, hf.ev hi, hr]
end
end Go.Cof
