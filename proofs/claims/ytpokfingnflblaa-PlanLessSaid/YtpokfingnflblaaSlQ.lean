/- Structs that may be compared, out of a table; readings turned. -/
import Derived.Test.YtpokfingnflblaaSlP
set_option linter.unusedVariables false
set_option linter.unusedSectionVars false
namespace Go.Cof
open Go.RowKit
def memB (t : Nat) : List Nat → Bool
  | [] => false
  | s :: l => bif Nat.beq t s then true else memB t l
/-- Structs that may be compared. -/
def eqsB (P : Program) (T : Tab) : List Nat → Bool
  | [] => true
  | t :: l => (!P.stoodInHeld t && (match P.underlying t with | some (.struct fs) => fs.toList.all (fun f => !decide (f.name = "_")) | _ => false)) && eqsB P T l
theorem eqsB_ok {P : Program} {T : Tab} : ∀ {ts : List Nat}, eqsB P T ts = true → ∀ t, memB t ts = true → P.stoodInHeld t = false ∧ ∀ fs, P.underlying t = some (.struct fs) → ∀ f ∈ fs.toList, ¬ f.name = "_"
  | [], _, _, h => by cases h
  | s :: l, hb, t, h => by
    simp only [eqsB, Bool.and_eq_true] at hb
    simp only [memB] at h
    cases hc : Nat.beq t s with
    | true =>
      have e := Nat.eq_of_beq_eq_true hc
      subst e
      refine ⟨by simpa using hb.1.1, fun fs hfs f hf => ?_⟩
      have := hb.1.2
      rw [hfs] at this
      simp only [List.all_eq_true] at this
      simpa using this f hf
    | false => rw [hc] at h; exact eqsB_ok hb.2 t h
def eqGo (g : TypeId → Value → Value → Option Bool) (T : Tab) (xs ys : List Value) : List Field → Option Bool
  | [] => some true
  | f :: fs => match partV T f.type xs f.offset, partV T f.type ys f.offset with
    | some a, some b => match g f.type a b, eqGo g T xs ys fs with
      | some p, some q => some (p && q)
      | _, _ => none
    | _, _ => none
def eqT (T : Tab) (ts : List Nat) : Nat → TypeId → Value → Value → Option Bool
  | 0, _, _, _ => none
  | d + 1, t, x, y => match look T t with
    | none => none
    | some i => match i.desc, x, y with
      | .bool, .bool a, .bool b => some (decide (a = b))
      | .int _, .int k a, .int k' b => bif eqKind k k' then some (decide (a = b)) else none
      | .struct fs, .agg xs, .agg ys => bif memB t ts then eqGo (eqT T ts d) T xs.toList ys.toList fs.toList else none
      | _, _, _ => none
section
variable {P : Program} {T : Tab} (hT : TabOk P T) {ts : List Nat} (hts : eqsB P T ts = true)
include hT hts
theorem eqT_run : ∀ (d m : Nat) (t : TypeId) (x y : Value) (b : Bool) (w : World), eqT T ts d t x y = some b → d ≤ m → (Op.equalIn m t x y).run P w = .ok b w
  | 0, _, _, _, _, _, _, h, _ => by cases h
  | d + 1, 0, _, _, _, _, _, _, hm => by omega
  | d + 1, m + 1, t, x, y, b, w, h, hm => by
    have ih := fun t x y b w h => eqT_run d m t x y b w h (by omega)
    unfold eqT at h
    cases hl : look T t with
    | none => rw [hl] at h; cases h
    | some i =>
      rw [hl] at h
      have hu := hT.und t i hl
      simp only at h
      split at h
      · rename_i a b' hd
        cases h
        rw [hd] at hu
        rw [run_equalIn_bool' _ _ _ _ _ hu]
        cases a <;> cases b' <;> rfl
      · rename_i k a k' b' hd
        cases hk : eqKind k k' with
        | false => rw [hk] at h; cases h
        | true =>
          rw [hk] at h
          simp only [cond_true, Option.some.injEq] at h
          rw [eqKind_eq hk]
          rw [hd] at hu
          rw [run_equalIn_int _ _ _ _ _ _ _ hu, ← h]
          by_cases hab : a = b' <;> simp [hab]
      · rename_i fs xs ys hd
        rw [hd] at hu
        cases hmem : memB t ts with
        | false => rw [hmem] at h; cases h
        | true =>
        rw [hmem] at h
        simp only [cond_true] at h
        have hfo : P.fieldsOf t = fs := by unfold Program.fieldsOf; rw [hu]
        have hok := eqsB_ok hts t hmem
        have hnb := hok.2 fs hu
        rw [run_equalIn_struct w m t xs ys (by rw [hfo]; exact hu) hok.1, hfo]
        clear hfo hu hd hok
        revert h hnb
        generalize fs.toList = l
        intro h hnb
        induction l generalizing b with
        | nil => simp only [eqGo, Option.some.injEq] at h; subst h; simp [Op.eqFields]
        | cons f l ihl =>
          simp only [eqGo] at h
          have hn := hnb f (by simp)
          split at h
          · rename_i u v h1 h2
            split at h
            · rename_i p q h3 h4
              cases h
              simp only [Op.eqFields, ne_eq, hn, not_false_eq_true, if_true, Sem.run_bind, run_part hT w h1, run_part hT w h2, Result.andThen_ok, ih _ _ _ _ w h3]
              cases p with
              | false => simp
              | true => simpa using ihl _ h4 fun x hx => hnb x (by simp [hx])
            · cases h
          · cases h
      · cases h
end
theorem EqE.ofT {P : Program} {T : Tab} {α : Type} {E : Enc α} {t : TypeId} [DecidableEq α] (hT : TabOk P T) (ts : List Nat) (hts : eqsB P T ts = true) (hg : P.eqGuardType P.depth t = false) (d : Nat) (hd : Nat.ble d 10000 = true) (h : ∀ a b : α, eqT T ts d t (.agg (E.enc a).toArray) (.agg (E.enc b).toArray) = some (decide (a = b))) : EqE P T t E :=
  ⟨hg, fun a b w => eqT_run hT hts d 10000 t _ _ _ w (h a b) (Nat.le_of_ble_eq_true hd)⟩
theorem flat_map {α β : Type} {E : Enc α} {E' : Enc β} (f : α → β) (h : ∀ x, E.enc x = E'.enc (f x)) (xs : List α) : flat E xs = flat E' (xs.map f) := by
  induction xs with
  | nil => rfl
  | cons x xs ih => simp only [flat, List.flatMap_cons, List.map_cons] at ih ⊢; rw [ih, h]
theorem rdS.map {α β : Type} {E : Enc α} {E' : Enc β} {g : Hp} {A : Option Addr} {m : Nat} {xs : List α} (r : rdS E g A m xs) (f : α → β) (h : ∀ x, E.enc x = E'.enc (f x)) : rdS E' g A m (xs.map f) := ⟨by rw [List.length_map]; exact r.1, by rw [← flat_map f h]; exact r.2⟩
theorem rdS.take {α : Type} {E : Enc α} {g : Hp} {A : Option Addr} {m : Nat} {xs : List α} (r : rdS E g A m xs) (k : Nat) (hk : k ≤ m) : rdS E g A k (xs.take k) := by
  refine ⟨by rw [List.length_take, ← r.1]; omega, fun h => r.2.1 ?_, fun j u hu => r.2.2 j u ?_⟩
  · rw [flat_length] at h ⊢
    have := r.1
    rw [List.length_take] at h
    exact Nat.lt_of_lt_of_le h (Nat.mul_le_mul_right _ (Nat.min_le_right _ _))
  · rw [← flat_take, List.getElem?_take] at hu
    split at hu
    · exact hu
    · cases hu
end Go.Cof
