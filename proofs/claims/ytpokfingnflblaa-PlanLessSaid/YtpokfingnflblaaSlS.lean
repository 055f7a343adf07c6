/- '==' of arrays of whole numbers. -/
import Derived.Test.YtpokfingnflblaaSlR
set_option linter.unusedVariables false
set_option linter.unusedSectionVars false
namespace Go.Cof
open Go.RowKit
theorem all_range_eqI : ∀ (xs ys : List Int), xs.length = ys.length → ((List.range xs.length).all fun i => decide (xs.getD i 0 = ys.getD i 0)) = decide (xs = ys)
  | [], [], _ => rfl
  | x :: xs, y :: ys, h => by
    have ih := all_range_eqI xs ys (by simpa using h)
    rw [List.length_cons, List.range_succ_eq_map, List.all_cons, List.all_map]
    simp only [List.getD_cons_zero, Function.comp_def, List.getD_cons_succ, ih]
    by_cases h1 : x = y <;> by_cases h2 : xs = ys <;> simp [h1, h2]
  | [], _ :: _, h => by simp at h
  | _ :: _, [], h => by simp at h
section
variable {P : Program} (w : World)
theorem run_equalIn_ints (d : Nat) (t e : TypeId) (n : Nat) (k : IntKind) (ht : P.underlying t = some (.array n e)) (he : P.underlying e = some (.int k)) (hsz : ∀ w, (sizeOf e).run P w = .ok 1 w)
    (xs ys : List Int) (hx : xs.length = n) (hy : ys.length = n) :
    (Op.equalIn (d + 2) t (.agg (xs.map (Value.int k)).toArray) (.agg (ys.map (Value.int k)).toArray)).run P w = .ok (decide (xs = ys)) w := by
  rw [← all_range_eqI xs ys (hx.trans hy.symm), hx, List.range_eq_range', Op.equalIn]
  simp only [Sem.run_bind, run_underlying ht, Result.andThen_ok, hsz, Std.Legacy.Range.forIn_eq_forIn_range', Std.Legacy.Range.size, Nat.sub_zero, Nat.add_sub_cancel, Nat.div_one]
  have hl : ∀ i ∈ List.range' 0 n 1, i < n := fun i hi => by simpa using (List.mem_range'_1.1 hi).2
  generalize List.range' 0 n 1 = l at hl ⊢
  induction l with
  | nil => simp
  | cons i l ih =>
    have hi : i < n := hl i (by simp)
    have px : (part e (xs.map (Value.int k)).toArray (i * 1)).run P w = .ok (Value.int k (xs.getD i 0)) w := by
      simp [part, isAgg, run_underlying he, List.getD, List.getElem?_eq_getElem (show i < xs.length by omega)]
    have py : (part e (ys.map (Value.int k)).toArray (i * 1)).run P w = .ok (Value.int k (ys.getD i 0)) w := by
      simp [part, isAgg, run_underlying he, List.getD, List.getElem?_eq_getElem (show i < ys.length by omega)]
    have pe : (Op.equalIn (d + 1) e (Value.int k (xs.getD i 0)) (Value.int k (ys.getD i 0))).run P w = .ok (decide (xs.getD i 0 = ys.getD i 0)) w := by
      rw [run_equalIn_int w d e k k _ _ he]
      congr 1
    simp only [List.forIn_cons, Sem.run_bind, px, py, pe, Result.andThen_ok, List.all_cons]
    cases hb : (decide (xs.getD i 0 = ys.getD i 0))
    · simp
    · simp only [Bool.not_true, Bool.false_eq_true, if_false, Sem.run_pure, Result.andThen_ok, Bool.true_and]
      exact ih fun j hj => hl j (by simp [hj])
end
section
variable {P : Program} {T : Tab} {F G : Frz} {n : Nat} {Q : Exit → Act → World → Prop} {e : Env} {L : List HProp} {ops : Array Oper} {l : List Oper} {d : Option Tmp} {ty : TypeId} {pos : String} {af : Array Edge}
/-- Arrays of whole numbers that may be compared. -/
structure EqI (P : Program) (t : TypeId) (k : IntKind) (m : Nat) : Prop where
  guard : P.eqGuardType P.depth t = false
  el : ∃ e, P.underlying t = some (.array m e) ∧ P.underlying e = some (.int k) ∧ ∀ w, (sizeOf e).run P w = .ok 1 w
theorem EqI.of {t el : TypeId} {k : IntKind} {m : Nat} (hT : TabOk P T) {i j : TI} (ht : look T t = some i) (hd : i.desc = .array m el) (he : look T el = some j) (hk : j.desc = .int k) (hs : j.size = 1) (hg : P.eqGuardType P.depth t = false) : EqI P t k m :=
  ⟨hg, el, by rw [hT.und t i ht, hd], by rw [hT.und el j he, hk], fun w => by rw [run_sizeOf hT w he, hs]⟩
theorem XV_neqI {t : TypeId} {k : IntKind} {m : Nat} (hE : EqI P t k m) {x y : Operand} {a b : List Int} {ty2 : TypeId} (ha : a.length = m) (hb : b.length = m) (hx : ev e x = some (.agg (flat (encI k) a).toArray)) (hy : ev e y = some (.agg (flat (encI k) b).toArray)) : XV P G n ⟨d, .binOp .neq t x y ty2, ty, pos, af, none⟩ e (.bool (decide (¬ a = b))) := .mk fun ac w hf _ => by
  obtain ⟨el, h1, h2, h3⟩ := hE.el
  have := run_equalIn_ints (P := P) w 9998 t el m k h1 h2 h3 a b ha hb
  rw [← flat_i, ← flat_i] at this
  simp only [execOp, Sem.run_bind, hf.ev hx, hf.ev hy, run_eqGuard_agg w _ _ _ _ _ _ hE.guard, Result.andThen_ok, run_neq_struct, this, decide_not]
  rfl
theorem XL_neqI {t : TypeId} {k : IntKind} {m : Nat} (hE : EqI P t k m) {x y : Operand} {a b : List Int} {ty2 : TypeId} {e' : Env} (ha : a.length = m) (hb : b.length = m) (hx : ev e x = some (.agg (flat (encI k) a).toArray)) (hy : ev e y = some (.agg (flat (encI k) b).toArray)) (hp : putE n d (.bool (decide (¬ a = b))) e = some e') (h : XL P F n ops l Q e' L) : XL P F n ops (⟨d, .binOp .neq t x y ty2, ty, pos, af, none⟩ :: l) Q e L :=
  XL_val (o := ⟨d, .binOp .neq t x y ty2, ty, pos, af, none⟩) rfl hp (fun ac w hf hs => (XV_neqI (P := P) (G := F) (n := n) (d := d) (ty := ty) (pos := pos) (af := af) (ty2 := ty2) hE ha hb hx hy).out ac w hf hs.nil) h
/-- A whole array of one's own, loaded in a region that draws. -/
theorem XV_loadA (hT : TabOk P T) {α : Type} {E : Enc α} {t el : TypeId} {x : Operand} {b m len : Nat} {xs : List α} {ti : TI} (hx : ev e x = some (.pointer (some ⟨b, 0, none⟩))) (r : rdS E G.heap (some ⟨b, 0, none⟩) m xs) (hz : E.sz = 1) (h1 : len = m) (ht : look T t = some ti) (hd : ti.desc = .array len el) (hsz : ti.size = len) : XV P G n ⟨d, .load t x, ty, pos, af, none⟩ e (.agg (flat E xs).toArray) := .mk fun a w hf hs => by
  have hr0 := r.le hs.frz
  have hv : partV T t (flat E xs) 0 = some (.agg (flat E xs).toArray) := by
    have hagg : ti.agg = true := by unfold TI.agg; rw [hd]
    simp only [partV, ht, hagg, cond_true, List.drop_zero]
    rw [List.take_of_length_le (by rw [flat_length, hsz, ← hr0.1, hz, h1]; omega)]
  have hr := run_load_cells (P := P) hT hv (a := ⟨b, 0, none⟩) (w := w) (fun j u hj => cellH_world (hr0.2.2 j u hj)) (fun ti' h' => by
    rw [ht] at h'; cases h'; rw [hsz, flat_length, ← hr0.1, hz]; omega)
  rw [Addr.add_lit, Nat.zero_add] at hr
  simp [execOp, hf.ev hx, hr]
end
end Go.Cof
