/- Calls, structs, slices of slices, literals. -/
import Derived.Test.YtpokfingnflblaaSlC
set_option linter.unusedVariables false
set_option linter.unusedSectionVars false
namespace Go.Cof
open Go.RowKit

section
variable {P : Program} {T : Tab} {F : Frz} {n : Nat} {Q : Exit → Act → World → Prop} {e : Env} {L : List HProp} {ops : Array Oper} {l : List Oper} {d : Option Tmp} {ty : TypeId} {pos : String} {af : Array Edge}

theorem run_call {f : FuncId} (hc : Callable P f) {a : Act} (hf : Fr n e a) {x : Operand} {args : List Operand} {ats : Array TypeId} {fi ca : Array Value} {vs : List Value} (hx : ev e x = some (.func (.func f) fi ca)) (hv : evs e args = some vs) (w : World) :
    (execOp a.eval ⟨d, .call ⟨.value x, args.toArray, ats⟩, ty, pos, af, none⟩).run P w = .ok (.enter f (fi.toList ++ vs ++ ca.toList).toArray) w := by
  have := hf.evs hv
  simp only [execOp, resolve, Deferred.ofValue, hf.ev hx, Sem.run_bind, Sem.run_pure, Result.andThen_ok, invoke]
  rw [run_callFunc hc]
  congr 2
  rw [← Array.toList_inj]
  simp [this]

/-- A call by a contract. R: what is owned besides. -/
theorem XL_callR {f : FuncId} {x : Operand} {args : List Operand} {ats : Array TypeId} {fi ca : Array Value} {vs us : List Value} {pre : Hp → Prop} {A R : List HProp} {Φ : Value → List HProp → Prop} {e' : Value → Env} (hs : Ctr P f us pre A Φ) (hx : ev e x = some (.func (.func f) fi ca)) (hv : evs e args = some vs)
    (hu : fi.toList ++ vs ++ ca.toList = us) (hp : ∀ v, putE n d v e = some (e' v)) (hL : ∀ h, stars L h → stars (A ++ R) h) (hpre : ∀ g : Hp, Hp.le F.heap g → stars R g → pre g)
    (h : ∀ v L', Φ v L' → XL P F n ops l Q (e' v) (L' ++ R)) : XL P F n ops (⟨d, .call ⟨.value x, args.toArray, ats⟩, ty, pos, af, none⟩ :: l) Q e L :=
  XL_enter (o := ⟨d, .call ⟨.value x, args.toArray, ats⟩, ty, pos, af, none⟩) rfl (args := us) (Φ := fun v M => ∃ L', Φ v L' ∧ M = L' ++ R) (fun a w hf => by rw [← hu]; exact run_call hs.1 hf hx hv w)
    (fun w hw => (hs.call (hw.imp hL) hpre).mono fun _ _ ⟨v, L', he, hΦ, hs'⟩ => ⟨v, _, he, ⟨L', hΦ, rfl⟩, hs'⟩)
    (fun v M ⟨L', hΦ, hM⟩ => ⟨_, hp v, hM ▸ h v L' hΦ⟩)
/-- A call of a named function that is handed nothing that is owned. -/
theorem XL_call {f : FuncId} {args : List Operand} {ats : Array TypeId} {vs : List Value} {pre : Hp → Prop} {Φ : Value → List HProp → Prop} {e' : Value → Env} (hs : Ctr P f vs pre [] Φ) (hv : evs e args = some vs)
    (hp : ∀ v, putE n d v e = some (e' v)) (hpre : ∀ g : Hp, Hp.le F.heap g → stars L g → pre g)
    (h : ∀ v L', Φ v L' → XL P F n ops l Q (e' v) (L' ++ L)) : XL P F n ops (⟨d, .call ⟨.value (.func f), args.toArray, ats⟩, ty, pos, af, none⟩ :: l) Q e L :=
  XL_callR (A := []) hs rfl hv (by simp) hp (fun _ h => h) hpre h
/-- One that is handed the k-th part. -/
theorem XL_call1 {f : FuncId} (k : Nat) {args : List Operand} {ats : Array TypeId} {vs : List Value} {pre : Hp → Prop} {A : HProp} {Φ : Value → List HProp → Prop} {e' : Value → Env} (hs : Ctr P f vs pre [A] Φ) (hk : L[k]? = some A) (hv : evs e args = some vs)
    (hp : ∀ v, putE n d v e = some (e' v)) (hpre : ∀ g : Hp, Hp.le F.heap g → stars (L.eraseIdx k) g → pre g)
    (h : ∀ v L', Φ v L' → XL P F n ops l Q (e' v) (L' ++ L.eraseIdx k)) : XL P F n ops (⟨d, .call ⟨.value (.func f), args.toArray, ats⟩, ty, pos, af, none⟩ :: l) Q e L :=
  XL_callR (A := [A]) hs rfl hv (by simp) hp (fun _ h => stars_perm (perm_at hk) h) hpre h

/-! structs -/
def fillV (T : Tab) (fs : Array Field) (cells : List Value) : List (Nat × Value) → Option (List Value)
  | [] => some cells
  | (i, v) :: rest =>
    match fs[i]? with
    | none => none
    | some f => match look T f.type with
      | none => none
      | some ti => bif Nat.beq v.cells.toList.length ti.size && Nat.ble (f.offset + v.cells.toList.length) cells.length then fillV T fs (putAt cells f.offset v.cells.toList) rest else none
def fillA (sz : Nat) (cells : List Value) : List (Nat × Value) → Option (List Value)
  | [] => some cells
  | (i, v) :: rest => bif Nat.beq v.cells.toList.length sz && Nat.ble (i * sz + v.cells.toList.length) cells.length then fillA sz (putAt cells (i * sz) v.cells.toList) rest else none
def evp (e : Env) : List (Nat × Operand) → Option (List (Nat × Value))
  | [] => some []
  | (i, x) :: l => match ev e x with
    | none => none
    | some v => match evp e l with
      | none => none
      | some vs => some ((i, v) :: vs)
theorem Fr.evp {a : Act} (hf : Fr n e a) : ∀ {l : List (Nat × Operand)} {vs : List (Nat × Value)}, Cof.evp e l = some vs → l.map (fun (i, x) => (i, a.eval x)) = vs
  | [], _, h => by simp only [Cof.evp, Option.some.injEq] at h; simp [h]
  | (i, x) :: l, vs, h => by
    simp only [Cof.evp] at h
    cases h1 : Cof.ev e x with
    | none => rw [h1] at h; cases h
    | some v =>
      rw [h1] at h
      simp only at h
      cases h2 : Cof.evp e l with
      | none => rw [h2] at h; cases h
      | some us =>
        rw [h2] at h
        simp only [Option.some.injEq] at h
        rw [← h, List.map_cons, hf.evp h2]
        simp only [hf.ev h1]
theorem foldl_putAt (i : Nat) : ∀ (vs : List Value) (k : Nat) (cs : Array Value), ((vs.zipIdx k).foldl (fun cs (x : Value × Nat) => cs.setIfInBounds (i + x.2) x.1) cs) = (putAt cs.toList (i + k) vs).toArray
  | [], k, cs => by simp [putAt]
  | v :: vs, k, cs => by
    simp only [List.zipIdx_cons, List.foldl_cons, putAt]
    rw [foldl_putAt i vs (k + 1)]
    simp [Nat.add_assoc]
theorem fill_step {place : Nat → Option (Nat × Nat)} {cells : List Value} {i off sz : Nat} {v : Value} {rest : List (Nat × Value)} (hp : place i = some (off, sz)) (h1 : v.cells.toList.length = sz) (h2 : off + v.cells.toList.length ≤ cells.length) :
    Instr.fill place cells.toArray ((i, v) :: rest) = Instr.fill place (putAt cells off v.cells.toList).toArray rest := by
  have e1 : v.cells.size = sz := by simpa using h1
  have e2 : ¬ (off + v.cells.size > cells.length) := by simp at h2; omega
  have hf := foldl_putAt off v.cells.toList 0 cells.toArray
  rw [Nat.add_zero] at hf
  simp only [Instr.fill, hp, e1, List.size_toArray]
  have e3 : ¬ (off + sz > cells.length) := by rw [← e1]; exact e2
  simp only [ne_eq, not_true_eq_false, decide_false, Bool.false_or, e3, Bool.false_eq_true, if_false]
  rw [← hf]
  congr 1
  rw [← Array.foldl_toList]
  congr 1
  simp
theorem fillV_eq (hT : TabOk P T) {fs : Array Field} {place : Nat → Option (Nat × Nat)} (hpl : ∀ i f ti, fs[i]? = some f → look T f.type = some ti → place i = some (f.offset, ti.size)) : ∀ (l : List (Nat × Value)) (cells r : List Value), fillV T fs cells l = some r → Instr.fill place cells.toArray l = some r.toArray
  | [], cells, r, h => by simp only [fillV, Option.some.injEq] at h; simp [Instr.fill, h]
  | (i, v) :: rest, cells, r, h => by
    simp only [fillV] at h
    split at h
    · cases h
    · rename_i f hf
      split at h
      · cases h
      · rename_i ti hti
        cases hc : (Nat.beq v.cells.toList.length ti.size && Nat.ble (f.offset + v.cells.toList.length) cells.length) with
        | false => rw [hc] at h; cases h
        | true =>
          rw [hc] at h
          simp only [cond_true] at h
          rw [Bool.and_eq_true] at hc
          rw [fill_step (hpl i f ti hf hti) (Nat.eq_of_beq_eq_true hc.1) (Nat.le_of_ble_eq_true hc.2)]
          exact fillV_eq hT hpl rest _ r h
theorem fillA_eq (sz : Nat) : ∀ (l : List (Nat × Value)) (cells r : List Value), fillA sz cells l = some r → Instr.fill (fun i => some (i * sz, sz)) cells.toArray l = some r.toArray
  | [], cells, r, h => by simp only [fillA, Option.some.injEq] at h; simp [Instr.fill, h]
  | (i, v) :: rest, cells, r, h => by
    simp only [fillA] at h
    cases hc : (Nat.beq v.cells.toList.length sz && Nat.ble (i * sz + v.cells.toList.length) cells.length) with
    | false => rw [hc] at h; cases h
    | true =>
      rw [hc] at h
      simp only [cond_true] at h
      rw [Bool.and_eq_true] at hc
      rw [fill_step rfl (Nat.eq_of_beq_eq_true hc.1) (Nat.le_of_ble_eq_true hc.2)]
      exact fillA_eq sz rest _ r h
/-- All fields' types are in the table. -/
def fldsIn (T : Tab) : List Field → Bool
  | [] => true
  | f :: l => (look T f.type).isSome && fldsIn T l
theorem run_places (hT : TabOk P T) (w : World) : ∀ (l : List Field), fldsIn T l = true → ∃ ps : List (Nat × Nat), (l.mapM (fun (f : Field) => (do pure (f.offset, ← sizeOf f.type) : Sem (Nat × Nat)))).run P w = .ok ps w ∧ ∀ (i : Nat) (f : Field) (ti : TI), l[i]? = some f → look T f.type = some ti → ps[i]? = some (f.offset, ti.size)
  | [], _ => ⟨[], by simp, fun i f ti h => by simp at h⟩
  | f :: l, h => by
    simp only [fldsIn, Bool.and_eq_true] at h
    obtain ⟨ti, hti⟩ := Option.isSome_iff_exists.1 h.1
    obtain ⟨ps, hr, hps⟩ := run_places hT w l h.2
    refine ⟨(f.offset, ti.size) :: ps, ?_, fun i g tj hg htj => ?_⟩
    · simp only [List.mapM_cons, Sem.run_bind, run_sizeOf hT w hti, Result.andThen_ok, Sem.run_pure, hr]
    · cases i with
      | zero => simp at hg; subst hg; rw [hti] at htj; cases htj; rfl
      | succ i => simpa using hps i g tj (by simpa using hg) htj
theorem XL_build (hT : TabOk P T) {t : TypeId} {parts : List (Nat × Operand)} {vs : List (Nat × Value)} {z : Value} {ti : TI} {fs : Array Field} {r : List Value} {e' : Env} (ht : look T t = some ti) (hz : ti.zero = some z) (hd : ti.desc = .struct fs) (hin : fldsIn T fs.toList = true) (hv : evp e parts = some vs)
    (hr : fillV T fs z.cells.toList vs = some r) (hp : putE n d (.agg r.toArray) e = some e') (h : XL P F n ops l Q e' L) : XL P F n ops (⟨d, .build t parts.toArray, ty, pos, af, none⟩ :: l) Q e L :=
  XL_val (o := ⟨d, .build t parts.toArray, ty, pos, af, none⟩) rfl hp (fun a w hf hs => by
    have hu := hT.und t ti ht
    rw [hd] at hu
    obtain ⟨ps, h1, h2⟩ := run_places hT w fs.toList hin
    have h3 := fillV_eq hT (place := (ps.toArray[·]?)) (fun i f tj hf htj => by simpa using h2 i f tj (by simpa using hf) htj) vs _ _ hr
    have h4 := hf.evp hv
    have h5 : (fs.mapM (fun (f : Field) => (do pure (f.offset, ← sizeOf f.type) : Sem (Nat × Nat)))).run P w = .ok ps.toArray w := by
      rw [show fs = fs.toList.toArray from by simp, List.mapM_toArray]
      simp only [Sem.run_map, h1, Result.andThen_ok]
    have h6 : (parts.toArray.map fun (i, x) => (i, a.eval x)).toList = vs := by simpa using h4
    simp only [execOp, Instr.build, Sem.run_bind, run_zeroValue hT w ht hz, Result.andThen_ok, run_underlying hu, h5]
    rw [h6]
    have h7 : z.cells.toList.toArray = z.cells := by simp
    rw [h7] at h3
    rw [h3]
    rfl) h
end
end Go.Cof
