/- Results out of cells; whole elements; structs compared. -/
import Derived.Test.YtpokfingnflblaaSlN
import Derived.Laws.StructEq
set_option linter.unusedVariables false
set_option linter.unusedSectionVars false
namespace Go.Cof
open Go.RowKit

theorem ble_refl (n : Nat) : Nat.ble n n = true := by simp
/-! ### results -/
structure RV (P : Program) (F : Frz) (n : Nat) (e : Env) (L : List HProp) (r : ResultVar) (v : Value) : Prop where
  out : ∀ a w, Fr n e a → St F w L → (match r with | .tmp t => (pure (a.tmps.getD t undef) : Sem Value) | .cell x t => do loadVar t (← asAddr (a.tmps.getD x undef))).run P w = .ok v w
section
variable {P : Program} {T : Tab} {F : Frz} {n : Nat} {e : Env} {L : List HProp} {fn : Func} {Φ : Value → List HProp → Prop} {L' : List HProp}
theorem RV.tmp {t : Tmp} {v : Value} (h : look e t = some v) : RV P F n e L (.tmp t) v := ⟨fun a w hf _ => by simp [← hf.get t v h]⟩
theorem RV.cell (hT : TabOk P T) (k : Nat) {x : Tmp} {t : TypeId} {b : Nat} {cs : List Value} {et : TypeId} {ti : TI} {v : Value} (hx : look e x = some (.pointer (some ⟨b, 0, none⟩))) (hk : L[k]? = some (blk b cs et)) (ht : look T t = some ti) (hv : partV T t cs 0 = some v)
    (hsz : Nat.ble ti.size cs.length = true) : RV P F n e L (.cell x t) v := ⟨fun a w hf hs => by
  obtain ⟨g, hg, _, hA⟩ := hs.at hk
  have hc := (blk_rd hA).le hg
  have hr := run_load_cells hT hv (a := ⟨b, 0, none⟩) (w := w) (fun j u hj => cellH_world (hc.2 j u hj)) (fun ti' h' => by
    rw [ht] at h'; cases h'; simpa [Nat.ble_eq] using hsz)
  rw [Addr.add_lit, Nat.zero_add] at hr
  have := hf.get x _ hx
  simp only [this]
  simpa [Instr.loadAt, Instr.sureAddr, asAddr] using hr⟩
/-- A whole array in a cell that is told as a list. -/
theorem RV.cellA {α : Type} {E : Enc α} (k : Nat) {x : Tmp} {t : TypeId} {b m c : Nat} {xs : List α} {ti : TI} {el : TypeId} (hT : TabOk P T) (hx : look e x = some (.pointer (some ⟨b, 0, none⟩))) (hk : L[k]? = some (own E (some ⟨b, 0, none⟩) m c xs)) (ht : look T t = some ti) (hd : ti.desc = .array m el)
    (hsz : ti.size = m * E.sz) : RV P F n e L (.cell x t) (.agg (flat E xs).toArray) := ⟨fun a w hf hs => by
  obtain ⟨g, hg, _, hA⟩ := hs.at hk
  have hr0 := (own_rd hA).le hg
  have hv : partV T t (flat E xs) 0 = some (.agg (flat E xs).toArray) := by
    have hagg : ti.agg = true := by unfold TI.agg; rw [hd]
    simp only [partV, ht, hagg, cond_true, List.drop_zero]
    rw [List.take_of_length_le (by rw [flat_length, hsz, hr0.1]; exact Nat.le_refl _)]
  have hr := run_load_cells hT hv (a := ⟨b, 0, none⟩) (w := w) (fun j u hj => cellH_world (hr0.2.2 j u hj)) (fun ti' h' => by
    rw [ht] at h'; cases h'; rw [hsz, flat_length, hr0.1]; omega)
  rw [Addr.add_lit, Nat.zero_add] at hr
  have := hf.get x _ hx
  simp only [this]
  simpa [Instr.loadAt, Instr.sureAddr, asAddr] using hr⟩
theorem Y_res1 {r1 : ResultVar} {v1 : Value} (hr : fn.results = #[r1]) (h1 : RV P F n e L r1 v1) (hL : ∀ h, stars L h → stars L' h) (h : Φ v1 L') : Y F n (bodyPost P fn (Post F Φ)) .ret e L := .mk fun a w hf hs =>
  ⟨hf.defers, v1, by
    have key : ∀ f : ResultVar → Sem Value, (f r1).run P w = .ok v1 w → (do let vs ← (#[r1] : Array ResultVar).mapM f; pure (if h : vs.size = 1 then vs[0] else .tuple vs) : Sem Value).run P w = .ok v1 w := fun f g1 => by simp [g1]
    unfold results
    rw [hr]
    exact key _ (h1.out a w hf hs), _, L', rfl, h, hs.imp hL⟩
theorem Y_res2 {r1 r2 : ResultVar} {v1 v2 : Value} (hr : fn.results = #[r1, r2]) (h1 : RV P F n e L r1 v1) (h2 : RV P F n e L r2 v2) (hL : ∀ h, stars L h → stars L' h) (h : Φ (.tuple #[v1, v2]) L') : Y F n (bodyPost P fn (Post F Φ)) .ret e L := .mk fun a w hf hs =>
  ⟨hf.defers, .tuple #[v1, v2], by
    have key : ∀ f : ResultVar → Sem Value, (f r1).run P w = .ok v1 w → (f r2).run P w = .ok v2 w → (do let vs ← (#[r1, r2] : Array ResultVar).mapM f; pure (if h : vs.size = 1 then vs[0] else .tuple vs) : Sem Value).run P w = .ok (.tuple #[v1, v2]) w := fun f g1 g2 => by simp [g1, g2]
    unfold results
    rw [hr]
    exact key _ (h1.out a w hf hs) (h2.out a w hf hs), _, L', rfl, h, hs.imp hL⟩
theorem Y_res3 {r1 r2 r3 : ResultVar} {v1 v2 v3 : Value} (hr : fn.results = #[r1, r2, r3]) (h1 : RV P F n e L r1 v1) (h2 : RV P F n e L r2 v2) (h3 : RV P F n e L r3 v3) (hL : ∀ h, stars L h → stars L' h) (h : Φ (.tuple #[v1, v2, v3]) L') : Y F n (bodyPost P fn (Post F Φ)) .ret e L := .mk fun a w hf hs =>
  ⟨hf.defers, .tuple #[v1, v2, v3], by
    have key : ∀ f : ResultVar → Sem Value, (f r1).run P w = .ok v1 w → (f r2).run P w = .ok v2 w → (f r3).run P w = .ok v3 w → (do let vs ← (#[r1, r2, r3] : Array ResultVar).mapM f; pure (if h : vs.size = 1 then vs[0] else .tuple vs) : Sem Value).run P w = .ok (.tuple #[v1, v2, v3]) w := fun f g1 g2 g3 => by simp [g1, g2, g3]
    unfold results
    rw [hr]
    exact key _ (h1.out a w hf hs) (h2.out a w hf hs) (h3.out a w hf hs), _, L', rfl, h, hs.imp hL⟩
end

/-! ### whole elements -/
section
variable {P : Program} {T : Tab} {F G : Frz} {n : Nat} {Q : Exit → Act → World → Prop} {e : Env} {L : List HProp} {ops : Array Oper} {l : List Oper} {d : Option Tmp} {ty : TypeId} {pos : String} {af : Array Edge} {α : Type} [Inhabited α] {E : Enc α}
theorem partV_all {t : TypeId} {ti : TI} {cs : List Value} (ht : look T t = some ti) (ha : ti.agg = true) (hs : cs.length ≤ ti.size) : partV T t cs 0 = some (.agg cs.toArray) := by
  simp only [partV, ht, ha, cond_true, List.drop_zero]
  rw [List.take_of_length_le hs]
theorem XL_elW (hT : TabOk P T) {A : Option Addr} {m : Nat} {xs : List α} {i : Int} {t : TypeId} {x : Operand} {ti : TI} {e' : Env} {sz : Nat} (hx : ev e x = some (.pointer (some ((bs A).add (i.toNat * sz))))) (r : rdS E F.heap A m xs) (hz : E.sz = sz) (h0 : 0 ≤ i) (h1 : i < m) (ht : look T t = some ti)
    (ha : ti.agg = true) (hsz : Nat.beq ti.size E.sz = true) (hp : putE n d (.agg (E.enc (get xs i)).toArray) e = some e') (h : XL P F n ops l Q e' L) : XL P F n ops (⟨d, .load t x, ty, pos, af, none⟩ :: l) Q e L :=
  XL_el hT hx r hz h0 h1 ht (partV_all ht ha (by rw [E.len]; exact Nat.le_of_eq (Nat.eq_of_beq_eq_true hsz).symm)) (by rw [Nat.eq_of_beq_eq_true hsz]; exact ble_refl _) hp h
theorem XL_eloW (hT : TabOk P T) (k : Nat) {A : Option Addr} {m c : Nat} {xs : List α} {i : Int} {t : TypeId} {x : Operand} {ti : TI} {e' : Env} {sz : Nat} (hk : L[k]? = some (own E A m c xs)) (hx : ev e x = some (.pointer (some ((bs A).add (i.toNat * sz))))) (hz : E.sz = sz) (h0 : 0 ≤ i) (h1 : i < m) (ht : look T t = some ti)
    (ha : ti.agg = true) (hsz : Nat.beq ti.size E.sz = true) (hp : putE n d (.agg (E.enc (get xs i)).toArray) e = some e') (h : XL P F n ops l Q e' L) : XL P F n ops (⟨d, .load t x, ty, pos, af, none⟩ :: l) Q e L :=
  XL_elo hT k hk hx hz h0 h1 ht (partV_all ht ha (by rw [E.len]; exact Nat.le_of_eq (Nat.eq_of_beq_eq_true hsz).symm)) (by rw [Nat.eq_of_beq_eq_true hsz]; exact ble_refl _) hp h
theorem XV_elW (hT : TabOk P T) {A : Option Addr} {m : Nat} {xs : List α} {i : Int} {t : TypeId} {x : Operand} {ti : TI} {sz : Nat} (hx : ev e x = some (.pointer (some ((bs A).add (i.toNat * sz))))) (r : rdS E G.heap A m xs) (hz : E.sz = sz) (h0 : 0 ≤ i) (h1 : i < m) (ht : look T t = some ti)
    (ha : ti.agg = true) (hsz : Nat.beq ti.size E.sz = true) : XV P G n ⟨d, .load t x, ty, pos, af, none⟩ e (.agg (E.enc (get xs i)).toArray) :=
  XV_el hT hx r hz h0 h1 ht (partV_all ht ha (by rw [E.len]; exact Nat.le_of_eq (Nat.eq_of_beq_eq_true hsz).symm)) (by rw [Nat.eq_of_beq_eq_true hsz]; exact ble_refl _)
/-- A block that is loaded whole. -/
theorem XL_loadW (hT : TabOk P T) (k : Nat) {t : TypeId} {x : Operand} {b : Nat} {cs : List Value} {et : TypeId} {ti : TI} {e' : Env} (hk : L[k]? = some (blk b cs et)) (hx : ev e x = some (.pointer (some ⟨b, 0, none⟩))) (ht : look T t = some ti) (ha : ti.agg = true)
    (hsz : Nat.beq ti.size cs.length = true) (hp : putE n d (.agg cs.toArray) e = some e') (h : XL P F n ops l Q e' L) : XL P F n ops (⟨d, .load t x, ty, pos, af, none⟩ :: l) Q e L :=
  XL_load hT k hk hx ht (partV_all ht ha (by rw [Nat.eq_of_beq_eq_true hsz]; exact Nat.le_refl _)) (by rw [Nat.zero_add, Nat.eq_of_beq_eq_true hsz]; exact ble_refl _) hp h
theorem XV_loadW (hT : TabOk P T) {t : TypeId} {x : Operand} {b : Nat} {cs : List Value} {et : TypeId} {ti : TI} (hx : ev e x = some (.pointer (some ⟨b, 0, none⟩))) (hb : blk b cs et G.heap) (ht : look T t = some ti) (ha : ti.agg = true)
    (hsz : Nat.beq ti.size cs.length = true) : XV P G n ⟨d, .load t x, ty, pos, af, none⟩ e (.agg cs.toArray) :=
  XV_load hT hx hb ht (partV_all ht ha (by rw [Nat.eq_of_beq_eq_true hsz]; exact Nat.le_refl _)) (by rw [Nat.zero_add, Nat.eq_of_beq_eq_true hsz]; exact ble_refl _)
/-- A block that is stored whole. -/
theorem XL_storeW (hT : TabOk P T) (k : Nat) {t : TypeId} {x y : Operand} {b : Nat} {cs vs : List Value} {et : TypeId} {ti : TI} (hk : L[k]? = some (blk b cs et)) (hx : ev e x = some (.pointer (some ⟨b, 0, none⟩))) (hy : ev e y = some (.agg vs.toArray)) (ht : look T t = some ti) (hl : Nat.beq vs.length ti.size = true)
    (hsz : Nat.beq cs.length ti.size = true) (h1 : vs.all Value.oneCell' = true) (h : XL P F n ops l Q e (L.set k (blk b vs et))) : XL P F n ops (⟨none, .store t x y, ty, pos, af, none⟩ :: l) Q e L :=
  XL_storeA hT k hk hx hy ht (Nat.eq_of_beq_eq_true hl) (Nat.eq_of_beq_eq_true hsz) (by simpa using h1) h
/-- An element that is stored whole. -/
theorem XL_putW (hT : TabOk P T) (k : Nat) (x' : α) {t : TypeId} {x y : Operand} {b o m c i : Nat} {xs : List α} {ti : TI} (hk : L[k]? = some (own E (some ⟨b, 0, none⟩) m c xs)) (hx : ev e x = some (.pointer (some ⟨b, o, none⟩))) (ho : o = i * E.sz) (hy : ev e y = some (.agg (E.enc x').toArray)) (ht : look T t = some ti)
    (hl : Nat.beq E.sz ti.size = true) (hi : i < m) (h : XL P F n ops l Q e (L.set k (own E (some ⟨b, 0, none⟩) m c (xs.set i x')))) : XL P F n ops (⟨none, .store t x y, ty, pos, af, none⟩ :: l) Q e L :=
  XL_put hT k (i := i) (f := 0) (vs := E.enc x') (x' := x') hk hx (by rw [ho]; rfl) hy ht (by simp [Value.cells]) (by rw [E.len]; exact Nat.eq_of_beq_eq_true hl) hi (by rw [Nat.zero_add, E.len]; exact ble_refl _) (by rw [List.all_eq_true]; exact fun u hu => E.one x' u hu) (by
    rw [putAt_eq _ _ _ (by rw [E.len, E.len]; omega)]
    simp
    exact Nat.le_of_eq (by rw [E.len, E.len])) h
end

/-! ### '==' of structs -/
section
variable {P : Program} {T : Tab} {F G : Frz} {n : Nat} {Q : Exit → Act → World → Prop} {e : Env} {L : List HProp} {ops : Array Oper} {l : List Oper} {d : Option Tmp} {ty : TypeId} {pos : String} {af : Array Edge} {α : Type} {E : Enc α}
/-- Two values that stand for data. -/
structure EqE (P : Program) (T : Tab) (t : TypeId) {α : Type} [DecidableEq α] (E : Enc α) : Prop where
  guard : P.eqGuardType P.depth t = false
  eq : ∀ (a b : α) (w : World), (Op.equalIn 10000 t (.agg (E.enc a).toArray) (.agg (E.enc b).toArray)).run P w = .ok (decide (a = b)) w
theorem XV_eq {t : TypeId} [DecidableEq α] (hE : EqE P T t E) {x y : Operand} {a b : α} {ty2 : TypeId} (hx : ev e x = some (.agg (E.enc a).toArray)) (hy : ev e y = some (.agg (E.enc b).toArray)) : XV P G n ⟨d, .binOp .eql t x y ty2, ty, pos, af, none⟩ e (.bool (decide (a = b))) := .mk fun ac w hf _ => by
  simp only [execOp, Sem.run_bind, hf.ev hx, hf.ev hy, run_eqGuard_agg w _ _ _ _ _ _ hE.guard, Result.andThen_ok, run_eql_struct, hE.eq]
  rfl
theorem XV_neq {t : TypeId} [DecidableEq α] (hE : EqE P T t E) {x y : Operand} {a b : α} {ty2 : TypeId} (hx : ev e x = some (.agg (E.enc a).toArray)) (hy : ev e y = some (.agg (E.enc b).toArray)) : XV P G n ⟨d, .binOp .neq t x y ty2, ty, pos, af, none⟩ e (.bool (decide (¬ a = b))) := .mk fun ac w hf _ => by
  simp only [execOp, Sem.run_bind, hf.ev hx, hf.ev hy, run_eqGuard_agg w _ _ _ _ _ _ hE.guard, Result.andThen_ok, run_neq_struct, hE.eq, decide_not]
  rfl
theorem XL_eq {t : TypeId} [DecidableEq α] (hE : EqE P T t E) {x y : Operand} {a b : α} {ty2 : TypeId} {e' : Env} (hx : ev e x = some (.agg (E.enc a).toArray)) (hy : ev e y = some (.agg (E.enc b).toArray)) (hp : putE n d (.bool (decide (a = b))) e = some e') (h : XL P F n ops l Q e' L) : XL P F n ops (⟨d, .binOp .eql t x y ty2, ty, pos, af, none⟩ :: l) Q e L :=
  XL_val (o := ⟨d, .binOp .eql t x y ty2, ty, pos, af, none⟩) rfl hp (fun ac w hf hs => (XV_eq (P := P) (G := F) (n := n) (d := d) (ty := ty) (pos := pos) (af := af) (ty2 := ty2) hE hx hy).out ac w hf hs.nil) h
theorem XL_neq {t : TypeId} [DecidableEq α] (hE : EqE P T t E) {x y : Operand} {a b : α} {ty2 : TypeId} {e' : Env} (hx : ev e x = some (.agg (E.enc a).toArray)) (hy : ev e y = some (.agg (E.enc b).toArray)) (hp : putE n d (.bool (decide (¬ a = b))) e = some e') (h : XL P F n ops l Q e' L) : XL P F n ops (⟨d, .binOp .neq t x y ty2, ty, pos, af, none⟩ :: l) Q e L :=
  XL_val (o := ⟨d, .binOp .neq t x y ty2, ty, pos, af, none⟩) rfl hp (fun ac w hf hs => (XV_neq (P := P) (G := F) (n := n) (d := d) (ty := ty) (pos := pos) (af := af) (ty2 := ty2) hE hx hy).out ac w hf hs.nil) h
end
end Go.Cof
