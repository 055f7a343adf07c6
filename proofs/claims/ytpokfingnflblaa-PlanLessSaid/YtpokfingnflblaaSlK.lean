/- Regions that draw, each of their orders walked. -/
import Derived.Test.YtpokfingnflblaaSlJ
set_option linter.unusedVariables false
set_option linter.unusedSectionVars false
namespace Go.Cof
open Go.RowKit

section
variable {P : Program} {F : Frz} {n : Nat} {Q : Exit → Act → World → Prop} {e : Env} {L : List HProp} {ops : Array Oper} {k : Nat} {listed : Array Bool}
theorem wp_fromNo {o : Oper} {a : Act} {w : World} {K : Act → World → Prop} (hh : o.wp P a w K NoQ) : o.wp P a w K Q := by
  unfold Oper.wp at *
  generalize (execOp a.eval o).run P w = r at *
  cases r with
  | ok n w' =>
    cases n <;> simp only [Oper.upon] at hh ⊢ <;> first | exact hh | skip
    · exact hh.mono fun e w'' he => by
        cases e with
        | returned v => exact he
        | panicked ch => exact he.elim
        | outgrown => obtain ⟨_, _, hx⟩ := he; exact hx.elim
  | halt x w' =>
    cases x <;> simp only [Oper.upon] at hh ⊢
    exact hh.elim
/-- What is left of a region, in any order. -/
structure XN (P : Program) (F : Frz) (n : Nat) (ops : Array Oper) (Q : Exit → Act → World → Prop) (k : Nat) (listed : Array Bool) (e : Env) (L : List HProp) : Prop where
  out : ∀ a w, Fr n e a → St F w L → wpAny P .any ops Q k listed a w
def QN (P : Program) (ops : Array Oper) (Q : Exit → Act → World → Prop) (k : Nat) (listed : Array Bool) : Exit → Act → World → Prop := fun x a w => x = .normal ∧ wpAny P .any ops Q k listed a w
theorem X_any {id : Nat} {li : Array Bool} (hm : P.follows .mixedOrders = true) (hl : Array.replicate ops.size false = li) (hk : ops.size = k) (h : XN P F n ops Q k li e L) : X P F n (.region id ops true) Q e L := .mk fun a w hf hs =>
  wp_region_any hm (by rw [hl, hk]; exact h.out a _ hf hs.drew)
theorem XN_nil (hr : Region.ready .any ops listed = []) (h : Y F n Q .normal e L) : XN P F n ops Q 0 listed e L := .mk fun a w hf hs => ⟨hr, h.out a w hf hs⟩
/-- One of those that are ready. -/
structure XI (P : Program) (F : Frz) (n : Nat) (ops : Array Oper) (Q : Exit → Act → World → Prop) (k : Nat) (listed : Array Bool) (i : Nat) (e : Env) (L : List HProp) : Prop where
  out : ∀ a w, Fr n e a → St F w L → wpOp P ops Q i (wpAny P .any ops Q k listed) a w
theorem XN_one {i : Nat} {li : Array Bool} (hr : Region.ready .any ops listed = [i]) (hl : listed.setIfInBounds i true = li) (h : XI P F n ops Q k li i e L) : XN P F n ops Q (k + 1) listed e L := .mk fun a w hf hs =>
  ⟨fun h0 => (by rw [hr] at h0; cases h0), fun j hj => by rw [hr] at hj; simp at hj; subst hj; rw [hl]; exact h.out a w hf hs⟩
theorem XN_two {i j : Nat} {li lj : Array Bool} (hr : Region.ready .any ops listed = [i, j]) (hl : listed.setIfInBounds i true = li) (hl' : listed.setIfInBounds j true = lj) (h : XI P F n ops Q k li i e L) (h' : XI P F n ops Q k lj j e L) : XN P F n ops Q (k + 1) listed e L := .mk fun a w hf hs =>
  ⟨fun h0 => (by rw [hr] at h0; cases h0), fun x hx => by
    rw [hr] at hx
    simp at hx
    rcases hx with rfl | rfl
    · rw [hl]; exact h.out a w hf hs
    · rw [hl']; exact h'.out a w hf hs⟩
theorem XN_three {i j m : Nat} {li lj lm : Array Bool} (hr : Region.ready .any ops listed = [i, j, m]) (hl : listed.setIfInBounds i true = li) (hl' : listed.setIfInBounds j true = lj) (hl2 : listed.setIfInBounds m true = lm) (h : XI P F n ops Q k li i e L) (h' : XI P F n ops Q k lj j e L) (h2 : XI P F n ops Q k lm m e L) : XN P F n ops Q (k + 1) listed e L := .mk fun a w hf hs =>
  ⟨fun h0 => (by rw [hr] at h0; cases h0), fun x hx => by
    rw [hr] at hx
    simp at hx
    rcases hx with rfl | rfl | rfl
    · rw [hl]; exact h.out a w hf hs
    · rw [hl']; exact h'.out a w hf hs
    · rw [hl2]; exact h2.out a w hf hs⟩
theorem XI_do {i : Nat} {o : Oper} (hi : ops[i]? = some o) (h : XL P F n ops [o] (QN P ops Q k listed) e L) : XI P F n ops Q k listed i e L := .mk fun a w hf hs => by
  have := h.out a w hf hs
  unfold wpOp
  rw [hi]
  unfold wpList at this
  simp only
  split at this
  · rename_i hw
    rw [if_pos hw]
    rcases this with this | ⟨_, _, _, hx⟩
    · exact .inl (wp_fromNo (wp_noq (fun x _ _ hx h => hx h.1) (fun a' w' hx => hx.2) this))
    · exact absurd hx.1 (by simp)
  · rename_i hw
    rw [if_neg hw]
    exact this.2
theorem Y_n (h : XN P F n ops Q k listed e L) : Y F n (QN P ops Q k listed) .normal e L := .mk fun a w hf hs => ⟨rfl, h.out a w hf hs⟩
end
/-! an operation behind one that was passed over; which kind of goal there is -/
section
variable {P : Program} {F G : Frz} {n : Nat} {Q : Exit → Act → World → Prop} {e : Env} {L : List HProp} {ops : Array Oper} {kd : Nat → Kin} {σ : List Nat}
theorem wanted_undef {o : Oper} {j : Nat} {b : Bool} {t : Tmp} {a : Act} (hf : Fr n e a) (hg : o.guard = some (j, b)) (hd : (ops[j]?).bind (·.dst) = some t) (hv : look e t = some undef) : Region.wanted o (yielded ops a.tmps) = false := by
  have := hf.get t _ hv
  simp only [Region.wanted, hg, yielded, hd, Option.bind_some]
  rw [Array.getD_eq_getD_getElem?] at this
  cases hx : a.tmps[t]? with
  | none => rfl
  | some u => rw [hx] at this; simp at this; subst this; rfl
theorem XD_nou {i j : Nat} {o : Oper} {b : Bool} {t : Tmp} {e' : Env} (hi : ops[i]? = some o) (hg : o.guard = some (j, b)) (hd : (ops[j]?).bind (·.dst) = some t) (hb : look e t = some undef) (hp : putE n o.dst undef e = some e') (h : XD P G F n ops kd σ Q e' L) : XD P G F n ops kd (i :: σ) Q e L := .mk fun a w hf hs => by
  show opW P ops kd _ i _ a w
  rw [opW_at hi, if_neg (by rw [wanted_undef hf hg hd hb]; simp)]
  exact h.out _ w (hf.put hp) hs
theorem XL_guard_nou {o : Oper} {l : List Oper} {j : Nat} {b : Bool} {t : Tmp} {e' : Env} (hg : o.guard = some (j, b)) (hd : (ops[j]?).bind (·.dst) = some t) (hv : look e t = some undef) (hp : putE n o.dst undef e = some e')
    (h : XL P F n ops l Q e' L) : XL P F n ops (o :: l) Q e L := .mk fun a w hf hs => by
  unfold wpList
  rw [if_neg (by rw [wanted_undef hf hg hd hv]; simp)]
  exact h.out _ w (hf.put hp) hs
theorem XL_id {l : List Oper} (h : XL P F n ops l Q e L) : XL P F n ops l Q e L := h
theorem XD_id (h : XD P G F n ops kd σ Q e L) : XD P G F n ops kd σ Q e L := h
theorem X_id {c : Code} (h : X P F n c Q e L) : X P F n c Q e L := h
theorem Y_id {x : Exit} (h : Y F n Q x e L) : Y F n Q x e L := h
end
end Go.Cof
