/- Arrays that come in. -/
import Derived.Test.YtpokfingnflblaaSlQ
import Derived.OpenShut
set_option linter.unusedVariables false
namespace Go.Cof
open Go.RowKit
theorem flat_parts {α : Type} (E : Enc α) : ∀ (ys : List α) (cs : List Value), cs.length = ys.length * E.sz → (∀ (i : Nat) (y : α), ys[i]? = some y → (cs.drop (i * E.sz)).take E.sz = E.enc y) → cs = flat E ys
  | [], cs, hl, _ => by
    simp only [List.length_nil, Nat.zero_mul] at hl
    rw [List.eq_nil_of_length_eq_zero hl]; rfl
  | y :: ys, cs, hl, h => by
    have h0 := h 0 y rfl
    rw [Nat.zero_mul, List.drop_zero] at h0
    have hr := flat_parts E ys (cs.drop E.sz) (by rw [List.length_drop, hl, List.length_cons, Nat.succ_mul]; omega) fun i z hz => by
      have := h (i + 1) z (by simpa using hz)
      rw [List.drop_drop]
      rwa [show E.sz + i * E.sz = (i + 1) * E.sz from by rw [Nat.succ_mul]; omega]
    have e : flat E (y :: ys) = E.enc y ++ flat E ys := rfl
    rw [e, ← h0, ← hr, List.take_append_drop]
/-- A list of a known length. -/
def Vec (α : Type) (n : Nat) : Type := { l : List α // l.length = n }
def encV {α : Type} (E : Enc α) (n : Nat) (hn : 0 < n) : Enc (Vec α n) := ⟨fun x => flat E x.1, n * E.sz, fun x => by rw [flat_length, x.2], Nat.mul_pos hn E.pos, fun x u hu => flat_one E _ u hu⟩
def Dec.array {P : Program} {t e : TypeId} {α : Type} {n : Nat} (D : Dec P e α) (ht : P.underlying t = some (.array n e)) (hc : P.cellsOf e = D.E.sz) (hct : P.cellsOf t = n * D.E.sz) (hn : 0 < n) : Dec P t (Vec α n) where
  E := encV D.E n hn
  good := fun h x => ∀ a ∈ x.1, D.good h a
  opn := fun {H enc w base spare held fuel cs x} h hw => by
    obtain ⟨xs, m, _, rfl, hl, hlen, hx⟩ := DataW.trod_array ht h
    have hws : ∀ m ∈ (DataW.agg (xs.map (·.1)) : DataW H).weights P t, m ≤ reachBytes := fun m hm => by
      have := List.all_eq_true.1 hw m hm; simpa using this
    simp only [DataW.weights, ht] at hws
    obtain ⟨ys, h1, h2⟩ := choose_list (p := fun i y => D.good (World.hp w) y ∧ (cs.drop (i * D.E.sz)).take D.E.sz = D.E.enc y) n fun i hi => by
      have hy := hx i hi
      rw [hc, List.getElem?_eq_getElem (by omega)] at hy
      obtain ⟨y, e1, hg⟩ := D.opn hy (List.all_eq_true.2 fun m hm => by
        have := hws m (weightsAll_mem (i := i) (d := (xs[i]'(by omega)).1) (by rw [List.getElem?_map, List.getElem?_eq_getElem (by omega)]; rfl) hm)
        simpa using this)
      exact ⟨y, hg, e1⟩
    refine ⟨⟨ys, h1⟩, flat_parts D.E ys cs (by rw [hl, hct, h1]) fun i y hy => (h2 i y hy).2, fun y hy => ?_⟩
    obtain ⟨i, hi⟩ := List.getElem?_of_mem hy
    exact (h2 i y hi).1
theorem Dec.arg_array {H : Type} {enc : TypeId × Value → H} {P : Program} {w : World} {r : Reach} {b0 base : Nat} {sp : Nat → Bool} {held : Bool} {t e : TypeId} {v : Value} {d : DataW H} {ps : List MemPlace} {α : Type} {n : Nat} (D : Dec P t α) (ht : P.underlying t = some (.array n e)) (hval : Value.okWide P w r b0 t v) (hd : DataW.Trod enc P w base sp held t v d ps) (hw : (d.weights P t).all (· ≤ reachBytes) = true) : ∃ a : α, v = .agg (D.E.enc a).toArray ∧ D.good (World.hp w) a := by
  obtain ⟨fuel, hf⟩ := hd
  obtain ⟨a, h1, h2⟩ := D.opn hf hw
  have : ∃ cs, v = .agg cs := by
    simp only [Value.okWide, ht] at hval
    obtain ⟨cs, h1, _⟩ := hval
    exact ⟨cs, h1⟩
  obtain ⟨cs, rfl⟩ := this
  refine ⟨a, ?_, h2⟩
  rw [← h1]
  simp [Value.cells]
section
variable {P : Program} {G F : Frz} {n : Nat} {ops : Array Oper} {kd : Nat → Kin} {σ : List Nat} {Q : Exit → Act → World → Prop} {e : Env} {L : List HProp} {i : Nat} {d : Option Tmp} {ty : TypeId} {pos : String} {af : Array Edge} {t : TypeId} {x y : Operand} {g : Nat × Bool} {o : Oper}
theorem XD_uL (hi : ops[i]? = some ⟨d, .load t x, ty, pos, af, none⟩) (h : XD P G F n ops kd (i :: σ) Q e L) : XD P G F n ops kd (i :: σ) Q e L := h
theorem XD_gL (hi : ops[i]? = some ⟨d, .load t x, ty, pos, af, some g⟩) (h : XD P G F n ops kd (i :: σ) Q e L) : XD P G F n ops kd (i :: σ) Q e L := h
theorem XD_uI (hi : ops[i]? = some ⟨d, .indexAddr t x y, ty, pos, af, none⟩) (h : XD P G F n ops kd (i :: σ) Q e L) : XD P G F n ops kd (i :: σ) Q e L := h
theorem XD_gI (hi : ops[i]? = some ⟨d, .indexAddr t x y, ty, pos, af, some g⟩) (h : XD P G F n ops kd (i :: σ) Q e L) : XD P G F n ops kd (i :: σ) Q e L := h
theorem XD_u (hi : ops[i]? = some o) (hg : o.guard = none) (h : XD P G F n ops kd (i :: σ) Q e L) : XD P G F n ops kd (i :: σ) Q e L := h
theorem XD_g (hi : ops[i]? = some o) (hg : o.guard = some g) (h : XD P G F n ops kd (i :: σ) Q e L) : XD P G F n ops kd (i :: σ) Q e L := h
end
end Go.Cof
