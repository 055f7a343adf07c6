/- Loops unrolled; slots and parts let go of at a region; calls of function values. Lists told plainly: cells, parts. append within one's own slice; the first element of a kind; lists. As SlN; a value behind one of the first operations may hang on another of them. And cuts at any code. append of zeros; copy into the spare room of one's own slice; slices.overlaps; calls with a state of their own. Masks and shifts; an index into a string or an array's value. Array values built. '==' of arrays of whole numbers, told positively. Maps: a block that holds entries, told by what each key has. The rules of the walk over it. One cell of a block, at a place told by a number; a list of lists, each in its own memory. A body with a label in it: what comes behind is as if there were none, as long as nothing jumps. A slice seen as an array's address, in a region that draws. -/
import Derived.Test.YtalkcemelegohaaSlS
import Derived.LoopN
import Derived.Lib.AppendZerosOnto
import Derived.Lib.Overlaps
import Derived.Maps.Keyed
import Derived.MapKept
import Derived.Scope
set_option linter.unusedVariables false
set_option linter.unusedSectionVars false
namespace Go.Cof
open Go.RowKit

section
variable {P : Program} {T : Tab} {F : Frz} {n : Nat} {Q : Exit → Act → World → Prop} {e : Env} {L : List HProp} {ops : Array Oper} {l : List Oper} {d : Option Tmp} {ty : TypeId} {pos : String} {af : Array Edge}
/-- A loop, walked round by round: k + 1 rounds at most. -/
theorem X_unroll {c : Code} (k : Nat) (h : X P F n c (Exit.then (Code.rounds P c Q k) Q) e L) : X P F n (.loop c) Q e L := .mk fun a w hf hs => wp_loop_rounds (k + 1) (h.out a w hf hs)
theorem Y_unroll {c : Code} {k : Nat} (h : X P F n c (Exit.then (Code.rounds P c Q k) Q) e L) : Y F n (Exit.then (Code.rounds P c Q (k + 1)) Q) .normal e L := .mk fun a w hf hs => h.out a w hf hs
/-- A region, told with fewer slots and parts. -/
theorem X_regionG {id : Nat} (ks ps : List Nat) {e1 : Env} {M R : List HProp} {o : List Oper} (hk : pickA ks e [] = some e1) (hL : takeP L ps = some (M, R)) (h : XL P F n o.toArray o Q e1 M) : X P F n (.region id o.toArray false) Q e L :=
  .mk fun a w hf hs => wp_region_lit (h.out a w (hf.pick hk) (hs.imp fun g hg => stars_only ps hL g hg))
theorem X_regionE {id : Nat} (ks : List Nat) {e1 : Env} {o : List Oper} (hk : pickA ks e [] = some e1) (h : XL P F n o.toArray o Q e1 L) : X P F n (.region id o.toArray false) Q e L :=
  .mk fun a w hf hs => wp_region_lit (h.out a w (hf.pick hk) hs)
/-- Calls of a function value. -/
theorem XL_fnV {f : FuncId} {x : Operand} {args : List Operand} {ats : Array TypeId} {fi ca : Array Value} {vs us : List Value} {pre : Hp → Prop} {r : Value} {e' : Env} (hs : FnC P f us pre r) (hx : ev e x = some (.func (.func f) fi ca)) (hv : evs e args = some vs) (hu : fi.toList ++ vs ++ ca.toList = us) (hp : putE n d r e = some e')
    (hpre : ∀ g : Hp, Hp.le F.heap g → stars L g → pre g) (h : XL P F n ops l Q e' L) : XL P F n ops (⟨d, .call ⟨.value x, args.toArray, ats⟩, ty, pos, af, none⟩ :: l) Q e L :=
  XL_enter (o := ⟨d, .call ⟨.value x, args.toArray, ats⟩, ty, pos, af, none⟩) rfl (args := us) (Φ := fun v M => v = r ∧ M = L) (fun a w hf => by rw [← hu]; exact run_call hs.1 hf hx hv w)
    (fun w hw => (Ctr.call (A := []) hs hw hpre).mono fun _ _ ⟨v, L', he, ⟨h1, h2⟩, hs'⟩ => ⟨v, L, he, ⟨h1, rfl⟩, by rw [h2] at hs'; exact hs'⟩)
    (fun v M ⟨h1, h2⟩ => ⟨e', by rw [h1]; exact hp, by rw [h2]; exact h⟩)
theorem XL_callV {f : FuncId} (ks : List Nat) {x : Operand} {args : List Operand} {ats : Array TypeId} {fi ca : Array Value} {vs us : List Value} {pre : Hp → Prop} {A R : List HProp} {Φ : Value → List HProp → Prop} {e' : Value → Env} (hs : Ctr P f us pre A Φ) (hk : takeP L ks = some (A, R)) (hx : ev e x = some (.func (.func f) fi ca)) (hv : evs e args = some vs)
    (hu : fi.toList ++ vs ++ ca.toList = us) (hp : ∀ v, putE n d v e = some (e' v)) (hpre : ∀ g : Hp, Hp.le F.heap g → stars R g → pre g)
    (h : ∀ v L', Φ v L' → XL P F n ops l Q (e' v) (L' ++ R)) : XL P F n ops (⟨d, .call ⟨.value x, args.toArray, ats⟩, ty, pos, af, none⟩ :: l) Q e L :=
  XL_callR (A := A) hs hx hv hu hp (fun _ h => stars_take ks hk h) hpre h
/-- A call whose result is one of those of a relation, told by equations with what is made. -/
theorem XL_callX {f : FuncId} {ι : Type} (ks : List Nat) {args : List Operand} {ats : Array TypeId} {vs : List Value} {pre : Hp → Prop} {A R : List HProp} {V : ι → Value} {M : ι → List HProp} {φ : ι → Prop} {e' : ι → Env} (hs : Ctr P f vs pre A (fun v K => ∃ i, φ i ∧ v = V i ∧ K = M i)) (hk : takeP L ks = some (A, R)) (hv : evs e args = some vs)
    (hp : ∀ i, putE n d (V i) e = some (e' i)) (hpre : ∀ g : Hp, Hp.le F.heap g → stars R g → pre g) (h : ∀ i, φ i → XL P F n ops l Q (e' i) (M i ++ R)) : XL P F n ops (⟨d, .call ⟨.value (.func f), args.toArray, ats⟩, ty, pos, af, none⟩ :: l) Q e L :=
  XL_enter (o := ⟨d, .call ⟨.value (.func f), args.toArray, ats⟩, ty, pos, af, none⟩) rfl (args := vs) (Φ := fun v K => ∃ i, φ i ∧ v = V i ∧ K = M i ++ R) (fun a w hf => by have := run_call hs.1 hf (d := d) (ty := ty) (pos := pos) (af := af) (ats := ats) (x := .func f) rfl hv w; simpa using this)
    (fun w hw => (Ctr.call hs (hw.imp fun _ => stars_take ks hk) hpre).mono fun _ _ ⟨v, L', he, ⟨i, h0, h1, h2⟩, hs'⟩ => ⟨v, _, he, ⟨i, h0, h1, rfl⟩, by rw [h2] at hs'; exact hs'⟩)
    (fun v K ⟨i, h0, h1, h2⟩ => ⟨e' i, by rw [h1]; exact hp i, by rw [h2]; exact h i h0⟩)
end
end Go.Cof
set_option linter.unusedVariables false
set_option linter.unusedSectionVars false
namespace Go.Cof
open Go.RowKit

/-- The same list, its links told one by one. -/
inductive NL {α : Type _} : List α → List α → Prop where
  | nil : NL [] []
  | cons {a : α} {l l' : List α} (h : NL l l') : NL (a :: l) (a :: l')
theorem NL.eq {α : Type _} {l l' : List α} (h : NL l l') : l = l' := by
  induction h with
  | nil => rfl
  | cons _ ih => rw [ih]
section
variable {P : Program} {T : Tab} {F G : Frz} {n : Nat} {Q : Exit → Act → World → Prop} {e : Env} {L L' : List HProp} {ops : Array Oper} {l : List Oper} {kd : Nat → Kin} {σ : List Nat}
theorem X_regionN {id : Nat} {o : List Oper} (hn : NL L L') (h : XL P F n o.toArray o Q e L') : X P F n (.region id o.toArray false) Q e L := by rw [hn.eq]; exact X_region h
theorem X_regionEN {id : Nat} (ks : List Nat) {e1 : Env} {o : List Oper} (hk : pickA ks e [] = some e1) (hn : NL L L') (h : XL P F n o.toArray o Q e1 L') : X P F n (.region id o.toArray false) Q e L := by rw [hn.eq]; exact X_regionE ks hk h
theorem XL_nL (hn : NL L L') (h : XL P F n ops l Q e L') : XL P F n ops l Q e L := by rw [hn.eq]; exact h
theorem X_nL {c : Code} (hn : NL L L') (h : X P F n c Q e L') : X P F n c Q e L := by rw [hn.eq]; exact h
theorem XL_nB {b : Nat} {cs cs' : List Value} {et : TypeId} (hn : NL cs cs') (h : XL P F n ops l Q e (blk b cs' et :: L)) : XL P F n ops l Q e (blk b cs et :: L) := by rw [hn.eq]; exact h
theorem XL_nK (k : Nat) {b : Nat} {cs cs' : List Value} {et : TypeId} (hk : L[k]? = some (blk b cs et)) (hn : NL cs cs') (h : XL P F n ops l Q e (L.set k (blk b cs' et))) : XL P F n ops l Q e L := by
  rw [← hn.eq] at h
  exact XL_conv k (blk b cs et) hk (fun _ h => h) h
theorem XL_aggN {j : Nat} {cs cs' : List Value} (hn : NL cs cs') (h : XL P F n ops l Q ((j, .agg cs'.toArray) :: e) L) : XL P F n ops l Q ((j, .agg cs.toArray) :: e) L := by rw [hn.eq]; exact h
theorem XD_aggN {j : Nat} {cs cs' : List Value} (hn : NL cs cs') (h : XD P G F n ops kd σ Q ((j, .agg cs'.toArray) :: e) L) : XD P G F n ops kd σ Q ((j, .agg cs.toArray) :: e) L := by rw [hn.eq]; exact h
variable {d : Option Tmp} {ty : TypeId} {pos : String} {af : Array Edge}
theorem XV_idxl (hT : TabOk P T) {t el : TypeId} {i1 : TI} {de2 : TypeDesc} {z2 : Option Value} {sz2 by2 : Nat} {x ix : Operand} {b o m c : Nat} {k : IntKind} {i : Int} (hx : ev e x = some (.slice (some ⟨b, o, none⟩) m c)) (hi : ev e ix = some (.int k i)) (ht : look T t = some i1) (hd : i1.desc = .slice el) (he : look T el = some ⟨de2, z2, sz2, by2⟩)
    (h0 : 0 ≤ i) (h1 : i < m) : XV P G n ⟨d, .indexAddr t x ix, ty, pos, af, none⟩ e (.pointer (some ⟨b, o + i.toNat * sz2, none⟩)) := .mk fun a w hf hs => by
  have hr := run_idx (P := P) hT ht hd he (A := some ⟨b, o, none⟩) (c := c) (k := k) rfl h0 h1 w
  simp only [bs, Option.getD_some, Addr.add_lit] at hr
  simp [execOp, hf.ev hx, hf.ev hi, hr]
end
end Go.Cof
set_option linter.unusedVariables false
set_option linter.unusedSectionVars false
namespace Go.Cof
open Go.RowKit

section
variable {P : Program} {T : Tab} {F : Frz} {n : Nat} {Q : Exit → Act → World → Prop} {e : Env} {L : List HProp} {ops : Array Oper} {l : List Oper} {d : Option Tmp} {ty : TypeId} {pos : String} {af : Array Edge}
variable {α : Type} [Inhabited α] {E : Enc α}
/-- append(s[:q], ys...), where so many elements of s lie behind its q-th one: they are laid over. -/
theorem XL_appC (hT : TabOk P T) (k : Nat) {s x : Operand} {t el : TypeId} {i1 i2 : TI} {b m c c0 q m' c' : Nat} {B : Option Addr} {xs ys : List α} {e' : Env} (hk : L[k]? = some (own E (some ⟨b, 0, none⟩) m c xs)) (hv : evs e [s, x] = some [.slice (some ⟨b, 0, none⟩) q c0, .slice B m' c']) (hB : ∀ w, St F w L → rdS E (World.hp w) B m' ys)
    (hq : q + m' ≤ m) (hc : c0 = c) (ht : look T t = some i1) (hd : i1.desc = .slice el) (he : look T el = some i2) (hsz : i2.size = E.sz) (hp : putE n d (.slice (some ⟨b, 0, none⟩) (q + m') c) e = some e')
    (h : XL P F n ops l Q e' (L.set k (own E (some ⟨b, 0, none⟩) m c (xs.take q ++ ys ++ xs.drop (q + m'))))) : XL P F n ops (⟨d, .call ⟨.builtin .append, #[s, x], #[t, t]⟩, ty, pos, af, none⟩ :: l) Q e L :=
  XL_next (o := ⟨d, .call ⟨.builtin .append, #[s, x], #[t, t]⟩, ty, pos, af, none⟩) rfl fun a w hf hs => by
    subst hc
    have hu := hT.und t i1 ht
    rw [hd] at hu
    obtain ⟨xi, g1, g2, g3, g4⟩ := hT.inf el i2 he
    have hxs : xi.size = E.sz := by rw [g3, hsz]
    have hr0 := hB w hs
    obtain ⟨g, hg, _, hA⟩ := hs.at hk
    have hown := own_len hA
    obtain ⟨cs, hrun⟩ := run_built (P := P) (d := d) (ty := ty) (pos := pos) (af := af) (b := .append) (ats := #[t, t]) hf hv w
    by_cases hm0 : m' = 0
    · subst hm0
      have hys : ys = [] := List.eq_nil_of_length_eq_zero hr0.1.symm
      subst hys
      refine ⟨.slice (some ⟨b, 0, none⟩) (q + 0) c0, w, e', _, .inl ?_, hp, ?_, h⟩
      · rw [hrun]
        have hl0 : ∀ (x : Addr), (loadCells x 0).run P w = .ok #[] w := fun x => by simpa using run_loadCells_list (P := P) w x [] (by simp)
        have hq2 : q ≤ c0 := by omega
        cases B <;> simp [builtin, Builtin.append_, run_underlying hu, sizeOf, typeInfo, g1, Builtin.lenOf, hq2, Builtin.firstCells, storeCells, hl0]
      · have : xs.take q ++ [] ++ xs.drop (q + 0) = xs := by simp
        rw [this]
        exact hs.perm ((perm_at hk).trans (perm_set hk))
    · obtain ⟨ad, hBa⟩ : ∃ ad, B = some ad := Option.isSome_iff_exists.1 (hr0.pos (by omega))
      subst hBa
      obtain ⟨cur, et, hb, hfit, hs'⟩ := st_many hs hk (ys := ys) (q := q) (by rw [← hr0.1]; exact hq)
      have hnl : (flat E ys).length = m' * xi.size := by rw [flat_length, hr0.1, hxs]
      have hr := append_room (P := P) w t ty el et xi hu g1 b q c0 cur hb ad m' c' (flat E ys) hnl (fun j u hj => cellH_world (hr0.2.2 j u hj)) (flat_one E ys) (by omega) (by rw [hxs]; exact hfit)
      rw [← hr0.1] at hs'
      rw [hxs] at hr
      refine ⟨_, _, e', _, .inl ?_, hp, hs', h⟩
      rw [hrun]
      simp [builtin, hr]
/-- Elements of one's own slice, read at a place that is told by its number. -/
theorem place_lit {b o i sz f : Nat} (ho : o = i * sz + f) : (⟨b, o, none⟩ : Addr) = ((bs (some ⟨b, 0, none⟩)).add (i * sz)).add f := by
  subst ho
  show _ = ((⟨b, 0, none⟩ : Addr).add _).add _
  rw [Addr.add_lit, Addr.add_lit, Nat.zero_add]
theorem XL_ld (hT : TabOk P T) (k : Nat) {i f : Nat} {b m c o : Nat} {xs : List α} {t : TypeId} {x : Operand} {v : Value} {ti : TI} {e' : Env} (hk : L[k]? = some (own E (some ⟨b, 0, none⟩) m c xs)) (hx : ev e x = some (.pointer (some ⟨b, o, none⟩))) (ho : o = i * E.sz + f) (h1 : i < m) (ht : look T t = some ti)
    (hv : partV T t (E.enc (get xs (i : Int))) f = some v) (hsz : Nat.ble (f + ti.size) E.sz = true) (hp : putE n d v e = some e') (h : XL P F n ops l Q e' L) : XL P F n ops (⟨d, .load t x, ty, pos, af, none⟩ :: l) Q e L :=
  XL_val (o := ⟨d, .load t x, ty, pos, af, none⟩) rfl hp (fun a w hf hs => by
    obtain ⟨g, hg, _, hA⟩ := hs.at hk
    have hr := el_load hT hg (own_rd hA) (i := (i : Int)) (by omega) (by omega) ht hv (by simpa [Nat.ble_eq] using hsz)
    rw [Int.toNat_natCast, ← place_lit ho] at hr
    simp [execOp, hf.ev hx, hr]) h
theorem XL_ldW (hT : TabOk P T) (k : Nat) {i : Nat} {b m c o : Nat} {xs : List α} {t : TypeId} {x : Operand} {ti : TI} {e' : Env} (hk : L[k]? = some (own E (some ⟨b, 0, none⟩) m c xs)) (hx : ev e x = some (.pointer (some ⟨b, o, none⟩))) (ho : o = i * E.sz) (h1 : i < m) (ht : look T t = some ti)
    (ha : ti.agg = true) (hsz : ti.size = E.sz) (hp : putE n d (.agg (E.enc (get xs (i : Int))).toArray) e = some e') (h : XL P F n ops l Q e' L) : XL P F n ops (⟨d, .load t x, ty, pos, af, none⟩ :: l) Q e L :=
  XL_ld hT k (f := 0) hk hx (by omega) h1 ht (partV_all ht ha (by rw [E.len, hsz]; exact Nat.le_refl _)) (by rw [Nat.zero_add, hsz]; exact ble_refl _) hp h
theorem XL_putA (hT : TabOk P T) (k : Nat) (x' : α) {t : TypeId} {x y : Operand} {b m c sz : Nat} {i : Int} {xs : List α} {ti : TI} (hk : L[k]? = some (own E (some ⟨b, 0, none⟩) m c xs)) (hx : ev e x = some (.pointer (some ((bs (some ⟨b, 0, none⟩)).add (i.toNat * sz))))) (hz : E.sz = sz) (hy : ev e y = some (.agg (E.enc x').toArray)) (ht : look T t = some ti)
    (hl : ti.size = E.sz) (hi : i.toNat < m) (h : XL P F n ops l Q e (L.set k (own E (some ⟨b, 0, none⟩) m c (xs.set i.toNat x')))) : XL P F n ops (⟨none, .store t x y, ty, pos, af, none⟩ :: l) Q e L :=
  XL_putW hT k x' hk (o := i.toNat * sz) (by rw [hx]; show some (Value.pointer (some ((⟨b, 0, none⟩ : Addr).add _))) = _; rw [Addr.add_lit, Nat.zero_add]) (by rw [hz]) hy ht (by simp [hl]) hi h
end

/-! the first of a kind -/
section
variable {α : Type} [Inhabited α]
def firstQ (q : α → Bool) (l : List α) : Nat := (l.takeWhile fun x => !q x).length
theorem firstQ_le (q : α → Bool) (l : List α) : firstQ q l ≤ l.length := (List.takeWhile_sublist _).length_le
theorem get_cons_succ (x : α) (l : List α) (i : Nat) : get (x :: l) ((i + 1 : Nat) : Int) = get l (i : Int) := by
  unfold get
  rw [Int.toNat_natCast, Int.toNat_natCast]
  rfl
theorem firstQ_cons_t {q : α → Bool} {x : α} {l : List α} (h : q x = true) : firstQ q (x :: l) = 0 := by
  unfold firstQ
  rw [List.takeWhile_cons, h]
  rfl
theorem firstQ_cons_f {q : α → Bool} {x : α} {l : List α} (h : q x = false) : firstQ q (x :: l) = firstQ q l + 1 := by
  unfold firstQ
  rw [List.takeWhile_cons, h]
  rfl
theorem firstQ_eq {q : α → Bool} : ∀ {l : List α} {i : Nat}, i ≤ l.length → (∀ j : Nat, j < i → q (get l j) = false) → (i < l.length → q (get l i) = true) → firstQ q l = i
  | [], i, h, _, _ => by simp at h; subst h; rfl
  | x :: l, 0, _, _, h => firstQ_cons_t (h (by simp))
  | x :: l, i + 1, h, h1, h2 => by
    have h0 : q x = false := h1 0 (by omega)
    rw [firstQ_cons_f h0, firstQ_eq (i := i) (by simp at h; omega) (fun j hj => by rw [← get_cons_succ x]; exact h1 (j + 1) (by omega)) (fun hi => by rw [← get_cons_succ x]; exact h2 (by simp; omega))]
theorem firstQ_lt {q : α → Bool} : ∀ {l : List α}, firstQ q l < l.length → q (get l (firstQ q l)) = true
  | [], h => by simp [firstQ] at h
  | x :: l, h => by
    cases hq : q x with
    | true => rw [firstQ_cons_t hq]; exact hq
    | false =>
      rw [firstQ_cons_f hq] at h ⊢
      rw [get_cons_succ]
      exact firstQ_lt (by simp at h; omega)
theorem firstQ_before {q : α → Bool} : ∀ {l : List α} {j : Nat}, j < firstQ q l → q (get l j) = false
  | [], j, h => by simp [firstQ] at h
  | x :: l, j, h => by
    cases hq : q x with
    | true => rw [firstQ_cons_t hq] at h; omega
    | false =>
      rw [firstQ_cons_f hq] at h
      cases j with
      | zero => exact hq
      | succ j => rw [get_cons_succ]; exact firstQ_before (by omega)
theorem firstQ_none {q : α → Bool} {l : List α} : firstQ q l = l.length ↔ ∀ x ∈ l, q x = false := by
  induction l with
  | nil => simp [firstQ]
  | cons x l ih =>
    cases hq : q x with
    | true => rw [firstQ_cons_t hq]; simp [hq]
    | false => rw [firstQ_cons_f hq]; simp [hq, ih]
/-- Its place as a number; -1: there is none. -/
def idxI (q : α → Bool) (l : List α) : Int := if firstQ q l < l.length then (firstQ q l : Int) else -1
theorem get_mem' {l : List α} {i : Int} (h0 : 0 ≤ i) (h1 : i < l.length) : get l i ∈ l := List.mem_of_getElem? (get_some h0 h1)
theorem take_snoc' (xs : List α) (i : Nat) (h : i < xs.length) : xs.take (i + 1) = xs.take i ++ [get xs i] := by
  have := get_some (xs := xs) (i := (i : Int)) (by omega) (by omega)
  rw [Int.toNat_natCast] at this
  rw [List.take_add_one, this]
  rfl
theorem get_ext {xs ys : List α} (hl : xs.length = ys.length) (h : ∀ j : Nat, j < xs.length → get xs j = get ys j) : xs = ys := by
  refine List.ext_getElem? fun i => ?_
  by_cases hi : i < xs.length
  · have h1 := get_some (xs := xs) (i := (i : Int)) (by omega) (by omega)
    have h2 := get_some (xs := ys) (i := (i : Int)) (by omega) (by omega)
    rw [Int.toNat_natCast] at h1 h2
    rw [h1, h2, h i hi]
  · rw [List.getElem?_eq_none (by omega), List.getElem?_eq_none (by omega)]
theorem get_set {xs : List α} {i j : Nat} {x : α} (h : i < xs.length) : get (xs.set i x) (j : Int) = if i = j then x else get xs (j : Int) := by
  unfold get
  rw [Int.toNat_natCast, List.getD_eq_getElem?_getD, List.getD_eq_getElem?_getD, List.getElem?_set]
  by_cases hi : i = j
  · subst hi; simp [h]
  · simp [hi]
theorem get_getElem {xs : List α} {i : Nat} (h : i < xs.length) : get xs (i : Int) = xs[i] := by
  unfold get
  rw [Int.toNat_natCast, List.getD_eq_getElem?_getD, List.getElem?_eq_getElem h]
  rfl
theorem get_app {xs ys : List α} {i : Nat} : get (xs ++ ys) (i : Int) = if i < xs.length then get xs i else get ys ((i - xs.length : Nat) : Int) := by
  unfold get
  rw [Int.toNat_natCast, Int.toNat_natCast, List.getD_eq_getElem?_getD, List.getD_eq_getElem?_getD, List.getD_eq_getElem?_getD]
  split
  · rw [List.getElem?_append_left (by assumption)]
  · rw [List.getElem?_append_right (by omega)]
end
end Go.Cof
set_option linter.unusedVariables false
set_option linter.unusedSectionVars false
namespace Go.Cof
open Go.RowKit

def okHeadW (fu : Nat) (ops : Array Oper) (kd : Nat → Kin) (I : List Nat) (i q : Nat) : Bool :=
  (decide (kd q = .m) && freeB ops i q) || okPair fu ops kd (fun _ => false) i q || (freeB ops i q && I.any (fun z => depF ops fu q z))
def okWayW (fu : Nat) (ops : Array Oper) (kd : Nat → Kin) (I : List Nat) (x : Way) : Bool :=
  Nat.beq x.all.length ops.size && (List.range ops.size).all (fun i => x.all.contains i) && x.all.all (fun i => Nat.blt i ops.size) && pairsB (fun p q => !Nat.beq p q) x.all &&
  x.all.all (okOne ops kd (fun _ => false)) && pairsB (okPair fu ops kd (fun _ => false)) (x.pre ++ x.post) && x.pre.all (fun p => decide (kd p = .s) && okPair fu ops kd (fun _ => false) p x.i) && decide (kd x.i = .m) && x.post.all (okHeadW fu ops kd I x.i)
def okFamW (fu : Nat) (ops : Array Oper) (kd : Nat → Kin) (S : List Way) : Bool := Region.noSelect ops && S.all (okWayW fu ops kd (S.map Way.i)) && covered fu ops kd S && !S.isEmpty

section
variable {P : Program} {ops : Array Oper} {kd : Nat → Kin} {C : World → Prop}
structure WayOkW (fu : Nat) (ops : Array Oper) (kd : Nat → Kin) (I : List Nat) (listed : Array Bool) (fuel : Nat) (x : Way) : Prop where
  len : fuel = x.pre.length + x.post.length + 1
  nd : (x.pre ++ x.i :: x.post).Nodup
  mem : ∀ j, j ∈ x.pre ++ x.i :: x.post ↔ j < ops.size ∧ listed.getD j false = false
  pw : (x.pre ++ x.post).Pairwise (fun p q => okPair fu ops kd (fun _ => false) p q = true)
  hs : ∀ p ∈ x.pre, kd p = .s ∧ okPair fu ops kd (fun _ => false) p x.i = true
  hm : kd x.i = .m
  hd : ∀ q ∈ x.post, okHeadW fu ops kd I x.i q = true
  one : ∀ p ∈ x.pre ++ x.i :: x.post, okOne ops kd (fun _ => false) p = true
theorem freeB_spec {i q : Nat} (h : freeB ops i q = true) : ∃ op, ops[i]? = some op ∧ ∀ e ∈ op.after, Region.binds .any e = true → e.on ≠ q := by
  unfold freeB at h
  split at h
  · rename_i op e1
    refine ⟨op, e1, fun e he hb heq => ?_⟩
    simp only [Bool.not_eq_true'] at h
    rw [List.any_eq_false] at h
    have h5 := h e (by simpa using he)
    simp [hb, heq] at h5
  · cases h
theorem okHeadW_spec {fu i q : Nat} {I : List Nat} (h : okHeadW fu ops kd I i q = true) : (∃ op, ops[i]? = some op ∧ ∀ e ∈ op.after, Region.binds .any e = true → e.on ≠ q) ∧ (kd q = .m ∨ okPair fu ops kd (fun _ => false) i q = true ∨ ∃ z ∈ I, depF ops fu q z = true) := by
  unfold okHeadW at h
  rw [Bool.or_eq_true, Bool.or_eq_true, Bool.and_eq_true, Bool.and_eq_true] at h
  rcases h with (⟨h1, h2⟩ | h1) | ⟨h1, h2⟩
  · exact ⟨freeB_spec h2, .inl (by simpa using h1)⟩
  · obtain ⟨op, _, h2, _, h3, _⟩ := okPair_spec h1
    exact ⟨⟨op, h2, h3⟩, .inr (.inl h1)⟩
  · exact ⟨freeB_spec h1, .inr (.inr (by simpa using h2))⟩
theorem fam_anyW {fu : Nat} {I : List Nat} {Q : Exit → Act → World → Prop} (hsel : ∀ (j : Nat) (o : Oper) cs b, ops[j]? = some o → o.op ≠ .select cs b) : ∀ (fuel : Nat) (S : List Way) (listed : Array Bool) (a : Act) (w : World), S ≠ [] → (∀ z ∈ I, ∃ x ∈ S, x.i = z) → listed.size = ops.size →
    (∀ x ∈ S, WayOkW fu ops kd I listed fuel x) → (∀ q, q < ops.size → listed.getD q false = false → kd q = .s ∨ ∃ x ∈ S, x.i = q ∨ depF ops fu q x.i = true) →
    (∀ k o, ops[k]? = some o → listed.getD k false = true → ∀ e ∈ o.after, Region.binds .any e = true → listed.getD e.on false = true) → C w →
    (∀ x ∈ S, wlx P ops kd C (fun a w => Q .normal a w) (x.pre ++ x.i :: x.post) a w) → wpAny P .any ops Q fuel listed a w
  | 0, S, listed, a, w, hne, hI, hsz, hok, hcov, hdown, hC, h => by
    obtain ⟨x, hx⟩ := List.exists_mem_of_ne_nil S hne
    have := (hok x hx).len
    omega
  | fuel + 1, S, listed, a, w, hne, hI, hsz, hok, hcov, hdown, hC, h => by
    have getD_tf : ∀ i, i < ops.size → (listed.getD i true = listed.getD i false) := fun i hi => by
      rw [Array.getD_eq_getD_getElem?, Array.getD_eq_getD_getElem?, Array.getElem?_eq_getElem (by omega)]; rfl
    refine ⟨fun hr => ?_, fun i hi => ?_⟩
    · exfalso
      obtain ⟨x, hx⟩ := List.exists_mem_of_ne_nil S hne
      have k := hok x hx
      obtain ⟨p, l, hpl, hfree⟩ : ∃ p l, x.pre ++ x.i :: x.post = p :: l ∧ ∀ op, ops[p]? = some op → ∀ q ∈ l, ∀ e ∈ op.after, Region.binds .any e = true → e.on ≠ q := by
        cases hp : x.pre with
        | nil =>
          refine ⟨x.i, x.post, rfl, fun op ho q hq e he hb => ?_⟩
          obtain ⟨⟨op', h1, h2⟩, _⟩ := okHeadW_spec (k.hd q hq)
          rw [ho] at h1; cases h1
          exact h2 e he hb
        | cons p l =>
          refine ⟨p, l ++ x.i :: x.post, rfl, fun op ho q hq e he hb => ?_⟩
          have key : okPair fu ops kd (fun _ => false) p q = true := by
            have hpw := k.pw
            rw [hp, List.cons_append] at hpw
            rcases List.mem_append.1 hq with h1 | h1
            · exact List.rel_of_pairwise_cons hpw (List.mem_append.2 (.inl h1))
            · cases h1 with
              | head => exact (k.hs p (by rw [hp]; simp)).2
              | tail _ h1 => exact List.rel_of_pairwise_cons hpw (List.mem_append.2 (.inr h1))
          obtain ⟨op', _, h1, _, h2, _⟩ := okPair_spec key
          rw [ho] at h1; cases h1
          exact h2 e he hb
      have hpm : p ∈ x.pre ++ x.i :: x.post := by rw [hpl]; simp
      have hp := (k.mem p).1 hpm
      have h1 := k.one p hpm
      unfold okOne at h1
      split at h1
      · rename_i o ho
        simp only [Bool.and_eq_true, List.all_eq_true, Bool.or_eq_true, Bool.not_eq_true'] at h1
        have : p ∈ Region.ready .any ops listed := by
          refine mem_ready.2 ⟨by rw [getD_tf p hp.1]; exact hp.2, o, ho, fun e he hb => ?_⟩
          have h2 := h1.1 e (by simpa using he)
          rw [hb] at h2
          simp only [Bool.true_eq_false, false_or] at h2
          have hlt : e.on < ops.size := by simpa [Nat.blt_eq] using h2.1
          cases hc : listed.getD e.on false with
          | true => rfl
          | false =>
            exfalso
            have hmem := (k.mem e.on).2 ⟨hlt, hc⟩
            rw [hpl] at hmem
            rcases List.mem_cons.1 hmem with h3 | h3
            · have := h2.2; rw [h3, Nat.beq_refl] at this; cases this
            · exact hfree o ho _ h3 e he hb rfl
        rw [hr] at this
        cases this
      · cases h1
    · obtain ⟨h1, oi, hoi, hall⟩ := mem_ready.1 hi
      have hlt : i < ops.size := (Array.getElem?_eq_some_iff.1 hoi).1
      rw [getD_tf i hlt] at h1
      have nodep : ∀ j, listed.getD j false = false → depF ops fu i j = true → False := fun j hj hd => by
        have := depF_listed hdown fu i j (fun o ho e he hb => by rw [hoi] at ho; cases ho; exact hall e he hb) hd
        rw [hj] at this; cases this
      have hget : ∀ k, (listed.setIfInBounds i true).getD k false = if k = i then true else listed.getD k false := fun k => by
        simp only [Array.getD_eq_getD_getElem?, Array.getElem?_setIfInBounds]
        by_cases hk : k = i
        · subst hk; simp [hsz, hlt]
        · rw [if_neg (fun e => hk e.symm), if_neg hk]
      have hdown' : ∀ k o, ops[k]? = some o → (listed.setIfInBounds i true).getD k false = true → ∀ e ∈ o.after, Region.binds .any e = true → (listed.setIfInBounds i true).getD e.on false = true := fun k o ho hk e he hb => by
        rw [hget] at hk ⊢
        split
        · rfl
        · split at hk
          · rename_i e1; subst e1; rw [hoi] at ho; cases ho; exact hall e he hb
          · exact hdown k o ho hk e he hb
      have free : ∀ j, listed.getD j false = false → okPair fu ops kd (fun _ => false) j i = true → kd j = .s ∧ ∃ oj, ops[j]? = some oj ∧ oj.apart ops oi = true := fun j hj hp => by
        obtain ⟨op, oq, e1, e2, _, h3⟩ := okPair_spec hp
        rw [hoi] at e2; cases e2
        rcases h3 with h3 | h3
        · exact ⟨h3.1, op, e1, h3.2.1⟩
        · exact (nodep j hj h3).elim
      by_cases hkm : kd i = .m
      · -- it turns memory
        rcases hcov i hlt h1 with hc | ⟨x, hx, hc⟩
        · rw [hkm] at hc; cases hc
        have k := hok x hx
        have hc : x.i = i := hc.elim id fun hc => (nodep x.i ((k.mem x.i).1 (by simp)).2 hc).elim
        subst hc
        have hw := wlx_bubble hoi hsel (by rw [hkm]; simp) x.pre x.post (fun j hj => free j ((k.mem j).1 (by simp [hj])).2 (k.hs j hj).2) a w hC (h x hx)
        refine op_step hoi (by rw [hkm]; simp) hC (fun a' w' hC' hK => ?_) hw
        have hnd := k.nd
        have hni : x.i ∉ x.pre ++ x.post := fun hm => by
          have h2 := List.nodup_append.1 hnd
          rcases List.mem_append.1 hm with h3 | h3
          · exact h2.2.2 x.i h3 x.i (by simp) rfl
          · exact (List.nodup_cons.1 h2.2.1).1 h3
        refine sched_any (fu := fu) hsel fuel (x.pre ++ x.post) _ a' w' (by have := k.len; rw [List.length_append]; omega) (by simpa using hsz) (hnd.sublist ((List.Sublist.refl _).append (List.sublist_cons_self _ _))) (fun j => ?_) hdown' k.pw (fun p hp => k.one p (by rcases List.mem_append.1 hp with h2 | h2 <;> simp [h2])) (.inl hC') hK
        rw [hget]
        constructor
        · intro hj
          have hne : j ≠ x.i := fun e => hni (e ▸ hj)
          rw [if_neg hne]
          exact (k.mem j).1 (by rcases List.mem_append.1 hj with h2 | h2 <;> simp [h2])
        · rintro ⟨h2, h3⟩
          split at h3
          · cases h3
          · rename_i hne
            have := (k.mem j).2 ⟨h2, h3⟩
            rcases List.mem_append.1 this with h4 | h4
            · simp [h4]
            · cases h4 with
              | head => exact absurd rfl hne
              | tail _ h5 => exact List.mem_append.2 (.inr h5)
      · -- a value
        have hpre : ∀ x ∈ S, i ∈ x.pre := fun x hx => by
          have k := hok x hx
          have hu := ((k.mem x.i).1 (by simp)).2
          have := (k.mem i).2 ⟨hlt, h1⟩
          rcases List.mem_append.1 this with h4 | h4
          · exact h4
          · exfalso
            rcases List.mem_cons.1 h4 with h5 | h5
            · rw [h5] at hkm; exact hkm k.hm
            · rcases (okHeadW_spec (k.hd i h5)).2 with h6 | h6
              · exact hkm h6
              · rcases h6 with h6 | ⟨z, hz, h6⟩
                · have := (free x.i hu h6).1
                  rw [k.hm] at this; cases this
                · obtain ⟨y, hy, rfl⟩ := hI z hz
                  exact nodep y.i (((hok y hy).mem y.i).1 (by simp)).2 h6
        obtain ⟨x0, hx0⟩ := List.exists_mem_of_ne_nil S hne
        have hks : kd i = .s := ((hok x0 hx0).hs i (hpre x0 hx0)).1
        -- i ahead of all others, in each order
        have front : ∀ x ∈ S, opW P ops kd C i (wlx P ops kd C (fun a w => Q .normal a w) (x.pre.erase i ++ x.i :: x.post)) a w := fun x hx => by
          have k := hok x hx
          obtain ⟨l1, l2, hni, e1, e2⟩ := List.exists_erase_eq (hpre x hx)
          rw [e2, List.append_assoc]
          have hw := h x hx
          rw [e1, List.append_assoc, List.cons_append] at hw
          refine wlx_bubble hoi hsel (by rw [hks]; simp) l1 (l2 ++ x.i :: x.post) (fun j hj => free j ((k.mem j).1 (by rw [e1]; simp [hj])).2 ?_) a w hC hw
          have hpw := k.pw
          rw [e1, List.append_assoc] at hpw
          exact (List.pairwise_append.1 hpw).2.2 j hj i (by simp)
        have rest : ∀ a', (∀ x ∈ S, wlx P ops kd C (fun a w => Q .normal a w) (x.pre.erase i ++ x.i :: x.post) a' w) → wpAny P .any ops Q fuel (listed.setIfInBounds i true) a' w := fun a' ha' => by
          refine fam_anyW (fu := fu) (I := I) hsel fuel (S.map fun x => ⟨x.pre.erase i, x.i, x.post⟩) _ a' w (by simpa using hne) (fun z hz => by obtain ⟨y, hy, e⟩ := hI z hz; exact ⟨_, List.mem_map.2 ⟨y, hy, rfl⟩, e⟩) (by simpa using hsz) (fun y hy => ?_) (fun q hq hl => ?_) hdown' hC (fun y hy => ?_)
          · obtain ⟨x, hx, rfl⟩ := List.mem_map.1 hy
            have k := hok x hx
            have hp := hpre x hx
            have hne : i ≠ x.i := fun e => by rw [e, k.hm] at hks; cases hks
            have hnp : x.pre.Nodup := (List.nodup_append.1 k.nd).1
            have hle : (x.pre.erase i).Sublist x.pre := List.erase_sublist
            have hpos : 0 < x.pre.length := List.length_pos_of_mem hp
            refine ⟨by have := k.len; simp only [List.length_erase_of_mem hp]; omega, k.nd.sublist (hle.append (List.Sublist.refl _)), fun j => ?_, k.pw.sublist (hle.append (List.Sublist.refl _)), fun p hp => k.hs p (hle.mem hp), k.hm, k.hd, fun p hp => k.one p ((hle.append (List.Sublist.refl _)).mem hp)⟩
            rw [hget]
            have hni : i ∉ x.post := fun hm => by
              have h2 := List.nodup_append.1 k.nd
              exact h2.2.2 i hp i (by simp [hm]) rfl
            have hmm := k.mem j
            simp only [List.mem_append, List.mem_cons] at hmm ⊢
            rw [hnp.mem_erase_iff]
            by_cases hji : j = i
            · subst hji
              simp [hne, hni]
            · simp only [if_neg hji]
              rw [← hmm]
              simp [hji]
          · rw [hget] at hl
            split at hl
            · cases hl
            · rcases hcov q hq hl with h2 | ⟨x, hx, h2⟩
              · exact .inl h2
              · exact .inr ⟨_, List.mem_map.2 ⟨x, hx, rfl⟩, h2⟩
          · obtain ⟨x, hx, rfl⟩ := List.mem_map.1 hy
            exact ha' x hx
        unfold wpOp
        rw [hoi]
        simp only
        have f0 := front x0 hx0
        rw [opW_at hoi] at f0
        by_cases hw : Region.wanted oi (yielded ops a.tmps) = true
        · rw [if_pos hw] at f0 ⊢
          rw [hks] at f0
          obtain ⟨v, g1, _⟩ := f0
          left
          unfold Oper.wp
          rw [g1 w hC]
          refine rest _ fun x hx => ?_
          have f1 := front x hx
          rw [opW_at hoi, if_pos hw, hks] at f1
          obtain ⟨u, g2, g3⟩ := f1
          have := (g1 w hC).symm.trans (g2 w hC)
          simp only [Result.ok.injEq, Next.value.injEq, and_true] at this
          rw [this]
          exact g3
        · rw [if_neg hw]
          refine rest _ fun x hx => ?_
          have f1 := front x hx
          rw [opW_at hoi, if_neg hw] at f1
          exact f1
theorem wp_region_famW {fu : Nat} {id : Nat} {Q : Exit → Act → World → Prop} {a : Act} {w : World} (S : List Way) (hm : P.follows .mixedOrders = true) (hok : okFamW fu ops kd S = true) (hC : C { w with drawn := w.drawn + 1 })
    (h : ∀ x ∈ S, wlx P ops kd C (fun a w => Q .normal a w) (x.pre ++ x.i :: x.post) a { w with drawn := w.drawn + 1 }) : (Code.region id ops true).wp P Q a w := by
  simp only [okFamW, Bool.and_eq_true, Bool.not_eq_true'] at hok
  obtain ⟨⟨⟨h1, h2⟩, h3⟩, h4⟩ := hok
  have h2 := List.all_eq_true.1 h2
  refine wp_region_any hm (fam_anyW (fu := fu) (I := S.map Way.i) (kd := kd) (C := C) (Region.noSelect_spec h1) ops.size S (Array.replicate ops.size false) a _ (by intro e; rw [e] at h4; cases h4) (fun z hz => by obtain ⟨y, hy, e⟩ := List.mem_map.1 hz; exact ⟨y, hy, e⟩) (by simp) (fun x hx => ?_) (fun q hq _ => ?_) (fun k o ho hk => ?_) hC h)
  · have := h2 x hx
    simp only [okWayW, Bool.and_eq_true, List.all_eq_true, decide_eq_true_eq] at this
    obtain ⟨⟨⟨⟨⟨⟨⟨⟨g1, g2⟩, g3⟩, g4⟩, g5⟩, g6⟩, g7⟩, g8⟩, g9⟩ := this
    refine ⟨?_, ?_, fun j => ?_, pairsB_pairwise g6, g7, g8, g9, g5⟩
    · have := Nat.eq_of_beq_eq_true g1; rw [← this]; simp [Way.all]; omega
    · exact (pairsB_pairwise g4).imp (fun {p q} hpq e => by subst e; rw [Nat.beq_refl] at hpq; cases hpq)
    · constructor
      · intro hj
        have : j < ops.size := by simpa [Nat.blt_eq] using g3 j hj
        exact ⟨this, by simp [Array.getD_eq_getD_getElem?, this]⟩
      · rintro ⟨hj, _⟩
        have := g2 j (by simpa using hj)
        simpa [Way.all] using this
  · simp only [covered, List.all_eq_true] at h3
    have := h3 q (by simpa using hq)
    simp only [Bool.or_eq_true, decide_eq_true_eq, List.any_eq_true] at this
    rcases this with (h5 | ⟨x, hx, h5⟩) | ⟨x, hx, h5⟩
    · exact .inl h5
    · exact .inr ⟨x, hx, .inl (Nat.eq_of_beq_eq_true h5)⟩
    · exact .inr ⟨x, hx, .inr h5⟩
  · exfalso
    rw [Array.getD_eq_getD_getElem?] at hk
    by_cases hlt : k < ops.size
    · simp [hlt] at hk
    · rw [Array.getElem?_eq_none (by simpa using hlt)] at hk; cases hk
end
section
variable {P : Program} {F : Frz} {n : Nat} {Q : Exit → Act → World → Prop} {e : Env} {L : List HProp} {ops : Array Oper}
/-- The first operation that turns memory is one of two. -/
theorem X_drawW {id : Nat} (x y : Way) (kd : Nat → Kin) (fu : Nat) {M R : List HProp} (hk : Split L M R) (hm : P.follows .mixedOrders = true) (hok : okFamW fu ops kd [x, y] = true)
    (h1 : ∀ G : Frz, Hp.le F.heap G.heap → stars M G.heap → (∀ w L, St G w L → St F w (L ++ M)) → XD P G G n ops kd (x.pre ++ x.i :: x.post) Q e R)
    (h2 : ∀ G : Frz, Hp.le F.heap G.heap → stars M G.heap → (∀ w L, St G w L → St F w (L ++ M)) → XD P G G n ops kd (y.pre ++ y.i :: y.post) Q e R) : X P F n (.region id ops true) Q e L := .mk fun a w hf hs => by
  have hs2 : St F w (M ++ R) := hs.perm hk.perm
  obtain ⟨k, a', d', c⟩ := hs2.own
  obtain ⟨hM, hR, dMR, hMk, hRk, cM, cR⟩ := stars_append.1 c
  have dM : Hp.disj F.heap hM := d'.mono (Hp.le_refl F.heap) hMk
  have hG : St { F with heap := Hp.or F.heap hM } w R := ⟨hs.os, hs.tape, hs.output, hs.size, Hp.or_le hs.frz (hMk.trans a'), hR, hRk.trans a', Hp.disj_or (d'.mono (Hp.le_refl F.heap) hRk) dMR, cR⟩
  have thaw : ∀ w' L', St { F with heap := Hp.or F.heap hM } w' L' → St F w' (L' ++ M) := fun w' L' hw => by
    refine ⟨hw.os, hw.tape, hw.output, hw.size, (Hp.le_or_left _ _).trans hw.frz, ?_⟩
    obtain ⟨q, q1, q2, q3⟩ := hw.own
    have dq : Hp.disj hM q := q2.mono (Hp.le_or_right dM) (Hp.le_refl q)
    exact ⟨Hp.or q hM, Hp.or_le q1 ((Hp.le_or_right dM).trans hw.frz), (Hp.disj_or (q2.mono (Hp.le_or_left _ _) (Hp.le_refl q)).symm dM.symm).symm, stars_append.2 ⟨q, hM, dq.symm, Hp.le_or_left _ _, Hp.le_or_right dq.symm, q3, cM⟩⟩
  have g1 := (h1 { F with heap := Hp.or F.heap hM } (Hp.le_or_left _ _) (stars_up cM (Hp.le_or_right dM)) thaw).out _ _ hf hG.drew
  have g2 := (h2 { F with heap := Hp.or F.heap hM } (Hp.le_or_left _ _) (stars_up cM (Hp.le_or_right dM)) thaw).out _ _ hf hG.drew
  refine wp_region_famW (fu := fu) (kd := kd) (C := fun w => St { F with heap := Hp.or F.heap hM } w []) [x, y] hm hok hG.drew.nil fun z hz => ?_
  rcases List.mem_cons.1 hz with rfl | hz
  · exact g1
  · obtain rfl := List.mem_singleton.1 hz
    exact g2
end

section
variable {P : Program} {F : Frz} {n : Nat} {Q : Exit → Act → World → Prop} {e : Env} {L : List HProp}
theorem X_then {c : Code} (h : X P F n c (Exit.then (fun a w => Q .normal a w) Q) e L) : X P F n c Q e L := by
  have : Exit.then (fun a w => Q .normal a w) Q = Q := by
    funext x a w
    cases x <;> rfl
  rwa [this] at h
/-- Ways that meet again at the end of a code. -/
theorem X_cutQ {c : Code} {ι : Type} (ks : List Nat) (D : ι → Env) (M : ι → List HProp) (p : ι → Prop) {e1 : Env} (hk : pickA ks e [] = some e1) (h1 : X P F n c (Exit.then (fun a w => ∃ j, p j ∧ Fr n (D j ++ e1) a ∧ St F w (M j)) Q) e L)
    (h2 : ∀ j, p j → Y F n Q .normal (D j ++ e1) (M j)) : X P F n c Q e L := by
  exact X_then (X_cutD ks D M p hk h1 fun j hj => ⟨fun a w hf hs => (h2 j hj).out a w hf hs⟩)
end
end Go.Cof
set_option linter.unusedVariables false
set_option linter.unusedSectionVars false
namespace Go.Cof
open Go.RowKit

section
variable {P : Program} {T : Tab} {F : Frz} {n : Nat} {Q : Exit → Act → World → Prop} {e : Env} {L : List HProp} {ops : Array Oper} {l : List Oper} {d : Option Tmp} {ty : TypeId} {pos : String} {af : Array Edge}
variable {α : Type} [Inhabited α] {E : Enc α}
theorem first_cells {w : World} {A : Option Addr} {m q c : Nat} {xs : List α} (r : rdS E (World.hp w) A m xs) (hq : q ≤ m) : (Builtin.firstCells E.sz q (.slice A q c)).run P w = .ok (flat E (xs.take q)).toArray w := by
  have hlt : (xs.take q).length = q := by rw [List.length_take, ← r.1]; exact Nat.min_eq_left hq
  cases A with
  | none =>
    have hm : m = 0 := by
      rcases Nat.eq_zero_or_pos m with h0 | h0
      · exact h0
      · have := r.pos h0; cases this
    have : q = 0 := by omega
    subst this
    simp [Builtin.firstCells, flat]
  | some a =>
    refine run_firstCells_some (P := P) w E.sz q a q c (flat E (xs.take q)) (by rw [flat_length, hlt]) (fun j v hj => ?_)
    rw [← flat_take, List.getElem?_take] at hj
    split at hj
    · exact cellH_world (r.2.2 j v hj)
    · cases hj
/-- append(s[:q], make([]T, z)...), where there is no room: new memory. -/
theorem XL_appZ (z0 : α) (hT : TabOk P T) (k : Nat) {s x : Operand} {t tn el : TypeId} {i1 i2 i3 : TI} {kn kq : IntKind} {v : Value} {A : Option Addr} {m c q c' z bytes : Nat} {zi : Int} {xs : List α} {e' : Nat → Nat → Env} (hk : L[k]? = some (own E A m c xs)) (hv : evs e [s, x] = some [.slice A q c', .int kq zi]) (hzi : zi = (z : Int))
    (hq : q ≤ m) (hz0 : 0 < z) (hroom : c' < q + z) (ht : look T t = some i1) (hd : i1.desc = .slice el) (he : look T el = some i2) (hz : i2.zero = some v) (hE : E.enc z0 = v.cells.toList) (hsz : i2.size = E.sz) (htn : look T tn = some i3) (hdn : i3.desc = .int kn) (hby : i2.bytes = bytes) (hb1 : (q + z) * bytes ≤ 140737488355328) (hb2 : q + z ≤ 281474976710656)
    (hp : ∀ b c2, putE n d (.slice (some ⟨b, 0, none⟩) (q + z) c2) e = some (e' b c2)) (h : ∀ b c2, XL P F n ops l Q (e' b c2) (own E (some ⟨b, 0, none⟩) (q + z) c2 (xs.take q ++ List.replicate z z0) :: L)) : XL P F n ops (⟨d, .call ⟨.builtin .append, #[s, x], #[t, tn]⟩, ty, pos, af, none⟩ :: l) Q e L :=
  XL_next (o := ⟨d, .call ⟨.builtin .append, #[s, x], #[t, tn]⟩, ty, pos, af, none⟩) rfl fun a w hf hs => by
    subst hzi
    have hu := hT.und t i1 ht
    rw [hd] at hu
    have hun := hT.und tn i3 htn
    rw [hdn] at hun
    obtain ⟨xi, g1, g2, g3, g4⟩ := hT.inf el i2 he
    have hzs : v.cells.size = E.sz := by have := E.len z0; rw [hE] at this; simpa using this
    obtain ⟨g, hg, _, hA⟩ := hs.at hk
    have hrd := (own_rd hA).le hg
    have hlt : (xs.take q).length = q := by rw [List.length_take, ← hrd.1]; exact Nat.min_eq_left hq
    have hrd2 : rdS E (World.hp w.drew) A m xs := hrd
    have hold := first_cells (P := P) (c := c') hrd2 hq
    have hxs : xi.size = E.sz := by rw [g3, hsz]
    rw [← hxs] at hold
    have hbq : z * xi.bytes ≤ 281474976710656 := by
      rw [g4, hby]
      have : z * bytes ≤ (q + z) * bytes := Nat.mul_le_mul_right _ (by omega)
      omega
    have hr := Go.Lib.run_append_grow_zeros (P := P) w t tn ty el xi v kq kn hu hun g1 (by rw [g2, hz]) A q c' (flat E (xs.take q)) hold z hz0 (by rw [hxs]; exact E.pos) hroom (by omega) hbq (growslice_fits hroom (by rw [g4, hby]; exact hb1))
    have hml : q + z ≤ maxLen := by simp only [maxLen]; omega
    have hcl := grownCap_le_maxLen w (q + z) c' el hml
    have hcg := grownCap_ge w (q + z) c' el
    have hzc : ∀ j, (Builtin.zeroCells v.cells j).size = j * E.sz := fun j => by rw [size_zeroCells, hzs]
    have hzl : (Builtin.zeroCells v.cells z).toList = flat E (List.replicate z z0) := by
      rw [flat_replicate, hE]
      have := made_list v.cells z (.inl (by rw [hzs]; exact E.pos))
      show (madeCells v.cells (z * v.cells.size)).toList = _
      rw [this]
    have hlen : (xs.take q ++ List.replicate z z0).length = q + z := by rw [List.length_append, hlt, List.length_replicate]
    obtain ⟨cs, hrun⟩ := run_built (P := P) (d := d) (ty := ty) (pos := pos) (af := af) (b := .append) (ats := #[t, tn]) hf hv w
    refine ⟨_, _, e' w.heap.size (grownCap w (q + z) c' el), _, .inl (by rw [hrun]; simp [builtin, hr]; rfl), hp _ _, (hs.drew).alloc (.inr ⟨w.heap.size, _, el, rfl, by simp [Hp.one]; rfl, hlen.symm, hcg, hcl, ?_, ?_⟩), h _ _⟩
    · simp only [Array.size_append, List.size_toArray, flat_length, hlt, hzc, ← Nat.add_mul]
      congr 1
      omega
    · simp only [Array.toList_append, hzl]
      rw [flat_append]
      have : (q + z) * E.sz = (flat E (xs.take q) ++ flat E (List.replicate z z0)).length := by rw [← flat_append, flat_length, hlen]
      rw [this, ← List.append_assoc]
      exact List.take_left

/-! copy into the spare room -/
theorem own_grow {b m c : Nat} {xs ys : List α} {g : Hp} (o : own E (some ⟨b, 0, none⟩) m c xs g) {q : Nat} (hq : q ≤ m) (hm : m ≤ q + ys.length) (hc : q + ys.length ≤ c) {w : World} (hg : Hp.le g (World.hp w)) :
    ∃ cur et, w.heap[b]? = some (.cells cur et (0, 0)) ∧ q * E.sz + (flat E ys).length ≤ cur.size ∧
      own E (some ⟨b, 0, none⟩) (q + ys.length) c (xs.take q ++ ys) (Hp.one b (.cells (cur.toList.take (q * E.sz) ++ flat E ys ++ cur.toList.drop (q * E.sz + (flat E ys).length)).toArray et (0, 0))) ∧ g b ≠ none := by
  rcases o with ⟨h1, _⟩ | ⟨q', cur, et, h1, h2, h3, h4, h5, h6, h7⟩
  · cases h1
  · simp only [Option.some.injEq, Addr.mk.injEq, and_true] at h1
    subst h1
    have hfl : (flat E ys).length = ys.length * E.sz := flat_length E ys
    have hcm : (q + ys.length) * E.sz ≤ cur.size := by rw [h6]; exact Nat.mul_le_mul_right _ hc
    have hqm : q * E.sz ≤ m * E.sz := Nat.mul_le_mul_right _ hq
    rw [Nat.add_mul] at hcm
    have hcl : cur.toList.length = cur.size := by simp
    refine ⟨cur, et, hg _ _ h2, by rw [hfl]; omega, .inr ⟨b, _, et, rfl, by simp only [Hp.one, if_true]; rfl, ?_, hc, h5, ?_, ?_⟩, by rw [h2]; simp⟩
    · simp only [List.length_append, List.length_take]; omega
    · simp only [List.size_toArray, List.length_append, List.length_take, List.length_drop, hcl, hfl]; rw [h6] at hcm ⊢; omega
    · simp only []
      rw [flat_append, ← flat_take, ← h7, List.take_take, Nat.min_eq_left hqm]
      have e2 : (q + ys.length) * E.sz = (cur.toList.take (q * E.sz) ++ flat E ys).length := by
        rw [List.length_append, List.length_take, hfl, hcl, Nat.add_mul]; omega
      rw [e2]
      exact List.take_left
theorem st_grow {w : World} {k b m c : Nat} {xs ys : List α} (hs : St F w L) (hk : L[k]? = some (own E (some ⟨b, 0, none⟩) m c xs)) {q : Nat} (hq : q ≤ m) (hm : m ≤ q + ys.length) (hc : q + ys.length ≤ c) :
    ∃ cur et, w.heap[b]? = some (.cells cur et (0, 0)) ∧ q * E.sz + (flat E ys).length ≤ cur.size ∧
      St F (w.setRow b (cur.toList.take (q * E.sz) ++ flat E ys ++ cur.toList.drop (q * E.sz + (flat E ys).length)).toArray) (L.set k (own E (some ⟨b, 0, none⟩) (q + ys.length) c (xs.take q ++ ys))) := by
  obtain ⟨g, hg, _, hA⟩ := hs.at hk
  obtain ⟨cur, et, hb, hfit, _, _⟩ := own_grow hA hq hm hc hg
  refine ⟨cur, et, hb, hfit, hs.turnAt hk fun g' hg' hA' => ?_⟩
  obtain ⟨cur', et', hb', _, hown, hne⟩ := own_grow hA' hq hm hc hg'
  rw [hb] at hb'
  cases hb'
  refine ⟨b, hne, rfl, rfl, rfl, by simp, fun j hj _ => setRow_other w b j _ (fun h => hj h), _, fun j o hj => ?_, hown⟩
  simp only [Hp.one] at hj
  split at hj
  · rename_i e1; cases hj; subst e1; exact ⟨st_row hb _, .inl hne⟩
  · cases hj
/-- copy(s[q:], ys), laid over its end and into its spare room. -/
theorem XL_copyG (hT : TabOk P T) (k q : Nat) {s x : Operand} {t t2 el : TypeId} {i1 i2 : TI} {b o m c dm dc m' c' j : Nat} {B : Option Addr} {xs ys : List α} {e' : Env} (hk : L[k]? = some (own E (some ⟨b, 0, none⟩) m c xs)) (hv : evs e [s, x] = some [.slice (some ⟨b, o, none⟩) dm dc, .slice B m' c']) (ho : o = q * E.sz) (hj : Nat.min m' dm = j) (hB : ∀ w, St F w L → rdS E (World.hp w) B j ys)
    (hq : q ≤ m) (hm : m ≤ q + j) (hc : q + j ≤ c) (ht : look T t = some i1) (hd : i1.desc = .slice el) (he : look T el = some i2) (hsz : i2.size = E.sz) (hp : putE n d (.int .i64 (j : Nat)) e = some e')
    (h : XL P F n ops l Q e' (L.set k (own E (some ⟨b, 0, none⟩) (q + j) c (xs.take q ++ ys)))) : XL P F n ops (⟨d, .call ⟨.builtin .copy, #[s, x], #[t, t2]⟩, ty, pos, af, none⟩ :: l) Q e L :=
  XL_next (o := ⟨d, .call ⟨.builtin .copy, #[s, x], #[t, t2]⟩, ty, pos, af, none⟩) rfl fun a w hf hs => by
    subst ho
    have hu := hT.und t i1 ht
    rw [hd] at hu
    have hr0 := hB w hs
    have hyl := hr0.1
    obtain ⟨cur, et, hb, hfit, hs'⟩ := st_grow hs hk (ys := ys) hq (by omega) (by omega)
    have hst := run_many (P := P) hb hfit (flat_one E _)
    rw [← hyl] at hs'
    obtain ⟨cs, hrun⟩ := run_built (P := P) (d := d) (ty := ty) (pos := pos) (af := af) (b := .copy) (ats := #[t, t2]) hf hv w
    refine ⟨.int .i64 (j : Nat), _, e', _, .inl ?_, hp, hs', h⟩
    rw [hrun]
    have hfc : (Builtin.firstCells E.sz (Nat.min m' dm) (.slice B m' c')).run P w = .ok (flat E ys).toArray w := by
      rw [hj]
      have h1 := first_cells (P := P) (c := c') hr0 (Nat.le_refl j)
      rw [List.take_of_length_le (by omega)] at h1
      cases B <;> exact h1
    simp only [builtin, Sem.run_bind, Builtin.copy_, run_underlying hu, Result.andThen_ok, Builtin.lenOf, Sem.run_pure, run_sizeOf hT w he, hsz, hfc, hst, List.getElem?_toArray, List.getElem?_cons_zero, List.getElem?_cons_succ]
    rw [← hj]
    rfl

theorem XL_copyJ (hT : TabOk P T) (k q j : Nat) {s x : Operand} {t t2 el : TypeId} {i1 i2 : TI} {b o m c dm dc m' c' : Nat} {B : Option Addr} {xs : List α} (ys : List α) {e' : Env} (hk : L[k]? = some (own E (some ⟨b, 0, none⟩) m c xs)) (hv : evs e [s, x] = some [.slice (some ⟨b, o, none⟩) dm dc, .slice B m' c']) (ho : o = q * E.sz) (hj : Nat.min m' dm = j) (hB : ∀ w, St F w L → rdS E (World.hp w) B j ys)
    (hq : q + j ≤ m) (ht : look T t = some i1) (hd : i1.desc = .slice el) (he : look T el = some i2) (hsz : i2.size = E.sz) (hp : putE n d (.int .i64 (j : Nat)) e = some e')
    (h : XL P F n ops l Q e' (L.set k (own E (some ⟨b, 0, none⟩) m c (xs.take q ++ ys ++ xs.drop (q + j))))) : XL P F n ops (⟨d, .call ⟨.builtin .copy, #[s, x], #[t, t2]⟩, ty, pos, af, none⟩ :: l) Q e L :=
  XL_next (o := ⟨d, .call ⟨.builtin .copy, #[s, x], #[t, t2]⟩, ty, pos, af, none⟩) rfl fun a w hf hs => by
    subst ho
    have hu := hT.und t i1 ht
    rw [hd] at hu
    have hr0 := hB w hs
    have hyl := hr0.1
    obtain ⟨cur, et, hb, hfit, hs'⟩ := st_many hs hk (ys := ys) (q := q) (by omega)
    have hst := run_many (P := P) hb hfit (flat_one E _)
    rw [← hyl] at hs'
    obtain ⟨cs, hrun⟩ := run_built (P := P) (d := d) (ty := ty) (pos := pos) (af := af) (b := .copy) (ats := #[t, t2]) hf hv w
    refine ⟨.int .i64 (j : Nat), _, e', _, .inl ?_, hp, hs', h⟩
    rw [hrun]
    have hfc : (Builtin.firstCells E.sz (Nat.min m' dm) (.slice B m' c')).run P w = .ok (flat E ys).toArray w := by
      rw [hj]
      have h1 := first_cells (P := P) (c := c') hr0 (Nat.le_refl j)
      rw [List.take_of_length_le (by omega)] at h1
      cases B <;> exact h1
    simp only [builtin, Sem.run_bind, Builtin.copy_, run_underlying hu, Result.andThen_ok, Builtin.lenOf, Sem.run_pure, run_sizeOf hT w he, hsz, hfc, hst, List.getElem?_toArray, List.getElem?_cons_zero, List.getElem?_cons_succ]
    rw [← hj]
    rfl

/-! slices.overlaps, of two blocks -/
theorem St.frozen {w : World} (hs : St F w L) {b : Nat} {cs : List Value} {et : TypeId} (hb : blk b cs et F.heap) : w.heap[b]? = some (.cells cs.toArray et (0, 0)) := hs.frz _ _ hb
theorem XL_ovl (hT : TabOk P T) (k : Nat) {f : FuncId} {fn : Func} {s x : Operand} {ats : Array TypeId} {t tr el e2 : TypeId} {i1 i2 : TI} {vb la lc b o m c lb cb : Nat} {us : List Value} {xs : List α} {e' : Env} (hf : P.funcs[f]? = some fn) (hname : (fn.name == "runtime.NumGoroutine") = false) (hbd : fn.body.isNone = true) (hnx : Extern.findNext fn = none)
    (hfe : Extern.find fn = some (Extern.SlicesOverlaps.overlaps #[t, t] #[tr])) (hk : L[k]? = some (own E (some ⟨b, 0, none⟩) m c xs)) (hc0 : 0 < c) (hb : blk vb us e2 F.heap) (hv : evs e [s, x] = some [.slice (some ⟨vb, 0, none⟩) la lc, .slice (some ⟨b, o, none⟩) lb cb])
    (ht : look T t = some i1) (hd : i1.desc = .slice el) (he : look T el = some i2) (hp : putE n d (.bool false) e = some e')
    (h : XL P F n ops l Q e' L) : XL P F n ops (⟨d, .call ⟨.value (.func f), #[s, x], ats⟩, ty, pos, af, none⟩ :: l) Q e L :=
  XL_val (o := ⟨d, .call ⟨.value (.func f), #[s, x], ats⟩, ty, pos, af, none⟩) rfl hp (fun a w hfr hs => by
    have hu := hT.und t i1 ht
    rw [hd] at hu
    obtain ⟨g, hg, hdj, hA⟩ := hs.at hk
    rcases hA with ⟨h1, _⟩ | ⟨q', cur, et, h1, h2, h3, h4, h5, h6, h7⟩
    · cases h1
    simp only [Option.some.injEq, Addr.mk.injEq, and_true] at h1
    subst h1
    have hne : vb ≠ b := fun e1 => by
      subst e1
      rcases hdj vb with h8 | h8
      · rw [show F.heap vb = _ from hb] at h8; cases h8
      · rw [h2] at h8; cases h8
    have hwv : w.heap[vb]? = some (.cells us.toArray e2 (0, 0)) := hs.frozen hb
    have hwb : w.heap[b]? = some (.cells cur et (0, 0)) := hg _ _ h2
    have hcur : cur.size ≠ 0 := by rw [h6]; exact Nat.mul_ne_zero (by omega) (by have := E.pos; omega)
    have key := Go.Lib.run_overlaps_apart (P := P) w t tr el hu i2.size (fun w => run_sizeOf hT w he) ⟨vb, 0, none⟩ ⟨b, o, none⟩ la lc lb cb hne e2 et us.toArray.size cur.size (by simp [World.shape?, hwv]) (by simp [World.shape?, hwb]) hcur (by simp [World.frozen?, hwv]) (by simp [World.frozen?, hwv])
    have hcf : (callFunc f #[.slice (some ⟨vb, 0, none⟩) la lc, .slice (some ⟨b, o, none⟩) lb cb]).run P w = .ok (.value (.bool false)) w := by
      rw [run_callFunc_extern hf hname hbd hnx hfe, key]
      rfl
    have hvs := hfr.evs hv
    simp only [execOp, resolve, Deferred.ofValue, Act.eval, Sem.run_bind, Sem.run_pure, Result.andThen_ok, invoke]
    rw [show (#[s, x] : Array Operand).map a.eval = #[.slice (some ⟨vb, 0, none⟩) la lc, .slice (some ⟨b, o, none⟩) lb cb] from by
      rw [← Array.toList_inj]; simpa using hvs]
    simpa using hcf) h
end
section
variable {P : Program} {T : Tab} {G : Frz} {n : Nat} {e : Env} {d : Option Tmp} {ty : TypeId} {pos : String} {af : Array Edge} {α : Type} [Inhabited α] {E : Enc α}
theorem XV_ld (hT : TabOk P T) {i f : Nat} {b m o : Nat} {xs : List α} {t : TypeId} {x : Operand} {v : Value} {ti : TI} (hx : ev e x = some (.pointer (some ⟨b, o, none⟩))) (r : rdS E G.heap (some ⟨b, 0, none⟩) m xs) (ho : o = i * E.sz + f) (h1 : i < m) (ht : look T t = some ti)
    (hv : partV T t (E.enc (get xs (i : Int))) f = some v) (hsz : Nat.ble (f + ti.size) E.sz = true) : XV P G n ⟨d, .load t x, ty, pos, af, none⟩ e v := .mk fun a w hf hs => by
  have hr := el_load (P := P) hT hs.frz r (i := (i : Int)) (by omega) (by omega) ht hv (by simpa [Nat.ble_eq] using hsz)
  rw [Int.toNat_natCast, ← place_lit ho] at hr
  simp [execOp, hf.ev hx, hr]
end
/-- A goal that the walk leaves alone. -/
theorem hold {p : Prop} (h : True → p) : p := h trivial
section
variable {P : Program} {F : Frz} {n : Nat} {e : Env} {L : List HProp} {fn : Func} {Φ : Value → List HProp → Prop} {L' : List HProp}
theorem Y_res4 {r1 r2 r3 r4 : ResultVar} {v1 v2 v3 v4 : Value} (hr : fn.results = #[r1, r2, r3, r4]) (h1 : RV P F n e L r1 v1) (h2 : RV P F n e L r2 v2) (h3 : RV P F n e L r3 v3) (h4 : RV P F n e L r4 v4) (hL : ∀ h, stars L h → stars L' h) (h : Φ (.tuple #[v1, v2, v3, v4]) L') : Y F n (bodyPost P fn (Post F Φ)) .ret e L := .mk fun a w hf hs =>
  ⟨hf.defers, .tuple #[v1, v2, v3, v4], by
    have key : ∀ f : ResultVar → Sem Value, (f r1).run P w = .ok v1 w → (f r2).run P w = .ok v2 w → (f r3).run P w = .ok v3 w → (f r4).run P w = .ok v4 w → (do let vs ← (#[r1, r2, r3, r4] : Array ResultVar).mapM f; pure (if h : vs.size = 1 then vs[0] else .tuple vs) : Sem Value).run P w = .ok (.tuple #[v1, v2, v3, v4]) w := fun f g1 g2 g3 g4 => by simp [g1, g2, g3, g4]
    unfold results
    rw [hr]
    exact key _ (h1.out a w hf hs) (h2.out a w hf hs) (h3.out a w hf hs) (h4.out a w hf hs), _, L', rfl, h, hs.imp hL⟩
end
end Go.Cof
set_option linter.unusedVariables false
set_option linter.unusedSectionVars false
namespace Go.Cof
open Go.RowKit

theorem nat_ofInt {n : Nat} (h : n < 18446744073709551616) : (BitVec.ofInt 64 (n : Int)).toNat = n := by
  rw [BitVec.ofInt_natCast, BitVec.toNat_ofNat]
  exact Nat.mod_eq_of_lt (by omega)
theorem and_nat (n j : Nat) : (n &&& (2 ^ j - 1)) = n % 2 ^ j := Nat.and_two_pow_sub_one_eq_mod n j
theorem pow_le62 {j : Nat} (hj : j ≤ 62) : (2 : Nat) ^ j ≤ 4611686018427387904 := by
  have := Nat.pow_le_pow_right (n := 2) (by decide) hj
  simpa using this
theorem and_u64 (j : Nat) (hj : j ≤ 62) {x m : Int} (hm : m = ((2 ^ j - 1 : Nat) : Int)) (h0 : 0 ≤ x) (h1 : x < 18446744073709551616) : bits .and .u64 x m = x % ((2 ^ j : Nat) : Int) := by
  obtain ⟨n, rfl⟩ := Int.eq_ofNat_of_zero_le h0
  subst hm
  have hp := pow_le62 hj
  have hn : n < 18446744073709551616 := by omega
  have hlt : n % 2 ^ j < 2 ^ j := Nat.mod_lt _ (Nat.pow_pos (by decide))
  show IntKind.u64.wrap (((BitVec.ofInt 64 (n : Int) &&& BitVec.ofInt 64 ((2 ^ j - 1 : Nat) : Int)).toNat : Nat) : Int) = _
  rw [BitVec.toNat_and, nat_ofInt hn, nat_ofInt (by omega), and_nat, wrap_u64 (by omega) (by omega)]
  rfl
theorem and_i64 (j : Nat) (hj : j ≤ 62) {x m : Int} (hm : m = ((2 ^ j - 1 : Nat) : Int)) (h0 : 0 ≤ x) (h1 : x < 9223372036854775808) : bits .and .i64 x m = x % ((2 ^ j : Nat) : Int) := by
  obtain ⟨n, rfl⟩ := Int.eq_ofNat_of_zero_le h0
  subst hm
  have hp := pow_le62 hj
  have hn : n < 18446744073709551616 := by omega
  have hlt : n % 2 ^ j < 2 ^ j := Nat.mod_lt _ (Nat.pow_pos (by decide))
  show IntKind.i64.wrap (((BitVec.ofInt 64 (n : Int) &&& BitVec.ofInt 64 ((2 ^ j - 1 : Nat) : Int)).toNat : Nat) : Int) = _
  rw [BitVec.toNat_and, nat_ofInt hn, nat_ofInt (by omega), and_nat, wrap_i64 (by omega) (by omega)]
  rfl
section
variable {P : Program} {T : Tab} {F : Frz} {n : Nat} {Q : Exit → Act → World → Prop} {e : Env} {L : List HProp} {ops : Array Oper} {l : List Oper} {d : Option Tmp} {ty : TypeId} {pos : String} {af : Array Edge}
theorem XL_strIx (hT : TabOk P T) {t : TypeId} {i1 : TI} {x ix : Operand} {s : ByteArray} {k : IntKind} {i : Int} {b : UInt8} {v : Int} {e' : Env} (ht : look T t = some i1) (hd : i1.desc = .string) (hx : ev e x = some (.string s)) (hi : ev e ix = some (.int k i)) (h0 : 0 ≤ i) (hb : s[i.toNat]? = some b) (hv : (b.toNat : Int) = v)
    (hp : putE n d (.int .u8 v) e = some e') (h : XL P F n ops l Q e' L) : XL P F n ops (⟨d, .index t x ix, ty, pos, af, none⟩ :: l) Q e L :=
  XL_val (o := ⟨d, .index t x ix, ty, pos, af, none⟩) rfl hp (fun a w hf hs => by
    have hu := hT.und t i1 ht
    rw [hd] at hu
    simp [execOp, hf.ev hx, hf.ev hi, Instr.index, asIntOf, run_underlying hu, h0, hb, ← hv]) h
theorem XL_arrIx (hT : TabOk P T) {t el : TypeId} {i1 i2 : TI} {x ix : Operand} {len : Nat} {cs : Array Value} {k : IntKind} {i : Int} {v : Value} {e' : Env} (ht : look T t = some i1) (hd : i1.desc = .array len el) (he : look T el = some i2) (hx : ev e x = some (.agg cs)) (hi : ev e ix = some (.int k i)) (h0 : 0 ≤ i) (h1 : i < len)
    (hv : partV T el cs.toList (i.toNat * i2.size) = some v) (hp : putE n d v e = some e') (h : XL P F n ops l Q e' L) : XL P F n ops (⟨d, .index t x ix, ty, pos, af, none⟩ :: l) Q e L :=
  XL_val (o := ⟨d, .index t x ix, ty, pos, af, none⟩) rfl hp (fun a w hf hs => by
    have hu := hT.und t i1 ht
    rw [hd] at hu
    have hr := run_part (P := P) hT w hv
    simp [execOp, hf.ev hx, hf.ev hi, Instr.index, asIntOf, run_underlying hu, h0, h1, run_sizeOf hT w he, hr]) h
end
end Go.Cof
set_option linter.unusedVariables false
set_option linter.unusedSectionVars false
namespace Go.Cof
open Go.RowKit
section
variable {P : Program} {T : Tab} {F : Frz} {n : Nat} {Q : Exit → Act → World → Prop} {e : Env} {L : List HProp} {ops : Array Oper} {l : List Oper} {d : Option Tmp} {ty : TypeId} {pos : String} {af : Array Edge}
theorem XL_buildA (hT : TabOk P T) {t el : TypeId} {k : Nat} {parts : List (Nat × Operand)} {vs : List (Nat × Value)} {z : Value} {ti i2 : TI} {r : List Value} {e' : Env} (ht : look T t = some ti) (hz : ti.zero = some z) (hd : ti.desc = .array k el) (he : look T el = some i2) (hv : evp e parts = some vs)
    (hr : fillA i2.size z.cells.toList vs = some r) (hp : putE n d (.agg r.toArray) e = some e') (h : XL P F n ops l Q e' L) : XL P F n ops (⟨d, .build t parts.toArray, ty, pos, af, none⟩ :: l) Q e L :=
  XL_val (o := ⟨d, .build t parts.toArray, ty, pos, af, none⟩) rfl hp (fun a w hf hs => by
    have hu := hT.und t ti ht
    rw [hd] at hu
    have h3 := fillA_eq i2.size vs _ _ hr
    have h4 := hf.evp hv
    have h6 : (parts.toArray.map fun (i, x) => (i, a.eval x)).toList = vs := by simpa using h4
    simp only [execOp, Instr.build, Sem.run_bind, run_zeroValue hT w ht hz, Result.andThen_ok, run_underlying hu, run_sizeOf hT w he]
    rw [h6]
    have h7 : z.cells.toList.toArray = z.cells := by simp
    rw [h7] at h3
    rw [h3]
    rfl) h
end
end Go.Cof
set_option linter.unusedVariables false
set_option linter.unusedSectionVars false
namespace Go.Cof
open Go.RowKit
section
variable {P : Program} {T : Tab} {F G : Frz} {n : Nat} {Q : Exit → Act → World → Prop} {e : Env} {L : List HProp} {ops : Array Oper} {l : List Oper} {d : Option Tmp} {ty : TypeId} {pos : String} {af : Array Edge}
theorem XV_eqI {t : TypeId} {k : IntKind} {m : Nat} (hE : EqI P t k m) {x y : Operand} {a b : List Int} {ty2 : TypeId} (ha : a.length = m) (hb : b.length = m) (hx : ev e x = some (.agg (flat (encI k) a).toArray)) (hy : ev e y = some (.agg (flat (encI k) b).toArray)) : XV P G n ⟨d, .binOp .eql t x y ty2, ty, pos, af, none⟩ e (.bool (decide (a = b))) := .mk fun ac w hf _ => by
  obtain ⟨el, h1, h2, h3⟩ := hE.el
  have := run_equalIn_ints (P := P) w 9998 t el m k h1 h2 h3 a b ha hb
  rw [← flat_i, ← flat_i] at this
  simp only [execOp, Sem.run_bind, hf.ev hx, hf.ev hy, run_eqGuard_agg w _ _ _ _ _ _ hE.guard, Result.andThen_ok, run_eql_struct, this]
  rfl
theorem XL_eqI {t : TypeId} {k : IntKind} {m : Nat} (hE : EqI P t k m) {x y : Operand} {a b : List Int} {ty2 : TypeId} {e' : Env} (ha : a.length = m) (hb : b.length = m) (hx : ev e x = some (.agg (flat (encI k) a).toArray)) (hy : ev e y = some (.agg (flat (encI k) b).toArray)) (hp : putE n d (.bool (decide (a = b))) e = some e') (h : XL P F n ops l Q e' L) : XL P F n ops (⟨d, .binOp .eql t x y ty2, ty, pos, af, none⟩ :: l) Q e L :=
  XL_val (o := ⟨d, .binOp .eql t x y ty2, ty, pos, af, none⟩) rfl hp (fun ac w hf hs => (XV_eqI (P := P) (G := F) (n := n) (d := d) (ty := ty) (pos := pos) (af := af) (ty2 := ty2) hE ha hb hx hy).out ac w hf hs.nil) h
end
end Go.Cof
set_option linter.unusedVariables false
set_option linter.unusedSectionVars false
namespace Go.Cof
open Go.RowKit
/-! ### association lists -/
section
variable {κ β : Type} [DecidableEq κ]
def alget : List (κ × β) → κ → Option β
  | [], _ => none
  | (j, u) :: l, k => if j = k then some u else alget l k
theorem alget_no {k : κ} : ∀ {l : List (κ × β)}, (∀ x ∈ l, x.1 ≠ k) → alget l k = none
  | [], _ => rfl
  | (j, u) :: l, h => by
    rw [alget, if_neg (h (j, u) (by simp))]
    exact alget_no fun x hx => h x (by simp [hx])
theorem alget_mem {k : κ} {v : β} : ∀ {l : List (κ × β)}, alget l k = some v → (k, v) ∈ l
  | [], h => by cases h
  | (j, u) :: l, h => by
    rw [alget] at h
    split at h
    · rename_i e; cases h; subst e; simp
    · exact List.mem_cons_of_mem _ (alget_mem h)
theorem alget_at {k : κ} {v : β} : ∀ {l : List (κ × β)} {i : Nat}, (l.map Prod.fst).Nodup → l[i]? = some (k, v) → alget l k = some v
  | [], i, _, h => by simp at h
  | (j, u) :: l, 0, _, h => by
    simp at h; obtain ⟨rfl, rfl⟩ := h
    rw [alget, if_pos rfl]
  | (j, u) :: l, i + 1, hn, h => by
    have hm : (k, v) ∈ l := List.mem_of_getElem? (by simpa using h)
    simp only [List.map_cons, List.nodup_cons] at hn
    have hne : j ≠ k := fun e => hn.1 (by rw [e]; exact List.mem_map.2 ⟨_, hm, rfl⟩)
    rw [alget, if_neg hne]
    exact alget_at (i := i) hn.2 (by simpa using h)
theorem alget_app {k q : κ} {v : β} : ∀ {l : List (κ × β)}, (∀ x ∈ l, x.1 ≠ k) → alget (l ++ [(k, v)]) q = if k = q then some v else alget l q
  | [], _ => by simp [alget]
  | (j, u) :: l, h => by
    have ih := alget_app (q := q) (v := v) (l := l) fun x hx => h x (by simp [hx])
    have hj := h (j, u) (by simp)
    rw [List.cons_append, alget, ih, alget]
    by_cases e : j = q
    · subst e; rw [if_pos rfl, if_pos rfl, if_neg (fun e => hj e.symm)]
    · rw [if_neg e, if_neg e]
theorem alget_set {k q : κ} {u v : β} : ∀ {l : List (κ × β)} {i : Nat}, (l.map Prod.fst).Nodup → l[i]? = some (k, u) → alget (l.set i (k, v)) q = if k = q then some v else alget l q
  | [], i, _, h => by simp at h
  | (j, w) :: l, 0, _, h => by
    simp at h; obtain ⟨rfl, rfl⟩ := h
    rw [List.set_cons_zero, alget, alget]
    split <;> rfl
  | (j, w) :: l, i + 1, hn, h => by
    have hm : (k, u) ∈ l := List.mem_of_getElem? (by simpa using h)
    simp only [List.map_cons, List.nodup_cons] at hn
    have hne : j ≠ k := fun e => hn.1 (by rw [e]; exact List.mem_map.2 ⟨_, hm, rfl⟩)
    rw [List.set_cons_succ, alget, alget, alget_set (i := i) hn.2 (by simpa using h)]
    by_cases e : j = q
    · subst e; rw [if_pos rfl, if_pos rfl, if_neg (fun e => hne e.symm)]
    · rw [if_neg e, if_neg e]
theorem alget_erase {k q : κ} {u : β} : ∀ {l : List (κ × β)} {i : Nat}, (l.map Prod.fst).Nodup → l[i]? = some (k, u) → alget (l.eraseIdx i) q = if k = q then none else alget l q
  | [], i, _, h => by simp at h
  | (j, w) :: l, 0, hn, h => by
    simp at h; obtain ⟨rfl, rfl⟩ := h
    simp only [List.map_cons, List.nodup_cons] at hn
    rw [List.eraseIdx_cons_zero, alget]
    split
    · rename_i e; subst e
      exact alget_no fun x hx e => hn.1 (by rw [← e]; exact List.mem_map.2 ⟨_, hx, rfl⟩)
    · rfl
  | (j, w) :: l, i + 1, hn, h => by
    have hm : (k, u) ∈ l := List.mem_of_getElem? (by simpa using h)
    simp only [List.map_cons, List.nodup_cons] at hn
    have hne : j ≠ k := fun e => hn.1 (by rw [e]; exact List.mem_map.2 ⟨_, hm, rfl⟩)
    rw [List.eraseIdx_cons_succ, alget, alget, alget_erase (i := i) hn.2 (by simpa using h)]
    by_cases e : j = q
    · subst e; rw [if_pos rfl, if_pos rfl, if_neg (fun e => hne e.symm)]
    · rw [if_neg e, if_neg e]
theorem map_modify {α γ : Type} (g : α → γ) (f : α → α) : ∀ (l : List α) (i : Nat) (e : α), l[i]? = some e → (l.modify i f).map g = (l.map g).set i (g (f e))
  | [], _, _, h => by simp at h
  | a :: r, 0, e, h => by simp at h; subst h; simp [List.modify]
  | a :: r, i + 1, e, h => by
    simp at h
    simp [List.modify_succ_cons, map_modify g f r i e h]
theorem fst_set {k : κ} {u v : β} : ∀ {l : List (κ × β)} {i : Nat}, l[i]? = some (k, u) → (l.set i (k, v)).map Prod.fst = l.map Prod.fst
  | [], i, h => by simp at h
  | (j, w) :: l, 0, h => by simp at h; simp [h.1]
  | (j, w) :: l, i + 1, h => by simp at h; simp [fst_set (v := v) h]
end
/-- A type of keys. -/
structure Kk (P : Program) (kt : TypeId) (κ : Type) where
  eK : κ → Value
  ok : κ → Prop
  keyed : Maps.Keyed P kt
  lit : ∀ x, ok x → ∃ l, keyOf P kt (eK x) = some l
  inj : ∀ x y, eK x = eK y → x = y
def Kk.int {P : Program} {kt : TypeId} (k : IntKind) (hk : P.underlying kt = some (.int k)) : Kk P kt Int where
  eK := fun x => .int k x
  ok := fun x => k.min ≤ x ∧ x ≤ k.max
  keyed := Maps.int_keyed hk
  lit := fun x hx => ⟨.int k x, by simp [keyOf, mapKey, hk, Lit.wf, hx]⟩
  inj := fun x y h => by cases h; rfl
section
variable {P : Program} {T : Tab} {κ β : Type} [DecidableEq κ] {kt : TypeId}
structure MpOk (K : Kk P kt κ) (eV : β → Value) (f : κ → Option β) (l : List (κ × β)) (es : Array MapEntry) (clock : Nat) : Prop where
  eq : es.toList.map (fun e => (e.key, e.val)) = l.map (fun x => (K.eK x.1, eV x.2))
  nd : (l.map Prod.fst).Nodup
  ok : ∀ x ∈ l, K.ok x.1
  get : ∀ k, f k = alget l k
  st : MapKept.Stamped es clock
def isMp (K : Kk P kt κ) (eV : β → Value) (b : Nat) (f : κ → Option β) : HProp := fun h => ∃ (l : List (κ × β)) (es : Array MapEntry) (clock : Nat), h b = some (.map es clock) ∧ MpOk K eV f l es clock
theorem isMp_le {K : Kk P kt κ} {eV : β → Value} {b : Nat} {f : κ → Option β} {h g : Hp} (o : isMp K eV b f h) (hl : Hp.le h g) : isMp K eV b f g := let ⟨l, es, c, a, m⟩ := o; ⟨l, es, c, hl _ _ a, m⟩
theorem isMp_at {K : Kk P kt κ} {eV : β → Value} {b : Nat} {f : κ → Option β} {L : List HProp} (k : Nat) (hk : L[k]? = some (isMp K eV b f)) {g : Hp} (h : stars L g) : isMp K eV b f g := let ⟨_, hl, hb⟩ := at_mem k hk h; isMp_le hb hl
theorem isMp_ok {K : Kk P kt κ} {eV : β → Value} {b : Nat} {f : κ → Option β} {h : Hp} (o : isMp K eV b f h) {k : κ} {v : β} (hv : f k = some v) : K.ok k := by
  obtain ⟨l, es, c, _, m⟩ := o
  rw [m.get] at hv
  exact m.ok _ (alget_mem hv)
variable {K : Kk P kt κ} {eV : β → Value} {f : κ → Option β} {l : List (κ × β)} {es : Array MapEntry} {clock : Nat}
theorem MpOk.keys (m : MpOk K eV f l es clock) : ∀ e ∈ es.toList, ∃ x ∈ l, e.key = K.eK x.1 := fun e he => by
  have h : (e.key, e.val) ∈ es.toList.map (fun e => (e.key, e.val)) := List.mem_map.2 ⟨e, he, rfl⟩
  rw [m.eq] at h
  obtain ⟨x, hx, hxe⟩ := List.mem_map.1 h
  exact ⟨x, hx, by simp at hxe; exact hxe.1.symm⟩
theorem MpOk.find (m : MpOk K eV f l es clock) (w : World) {k : κ} (hk : K.ok k) :
    ((Instr.findKey kt (K.eK k) es.toList).run P w = .ok none w ∧ f k = none ∧ ∀ x ∈ l, x.1 ≠ k) ∨ ∃ j e v, (Instr.findKey kt (K.eK k) es.toList).run P w = .ok (some (j, eV v)) w ∧ f k = some v ∧ es.toList[j]? = some e ∧ e.key = K.eK k ∧ l[j]? = some (k, v) := by
  obtain ⟨lx, hx⟩ := K.lit k hk
  rcases K.keyed.find w hx es.toList (fun e he => by obtain ⟨x, hx, hxe⟩ := m.keys e he; rw [hxe]; exact K.lit _ (m.ok x hx)) with ⟨h1, h2⟩ | ⟨j, e, h1, h2, h3⟩
  · left
    have hno : ∀ x ∈ l, x.1 ≠ k := fun x hx e => by
      have h : (K.eK x.1, eV x.2) ∈ l.map (fun x => (K.eK x.1, eV x.2)) := List.mem_map.2 ⟨x, hx, rfl⟩
      rw [← m.eq] at h
      obtain ⟨y, hy, hye⟩ := List.mem_map.1 h
      simp at hye
      exact h2 y hy (by rw [hye.1, e])
    exact ⟨h1, by rw [m.get]; exact alget_no hno, hno⟩
  · right
    have h4 : (es.toList.map (fun e => (e.key, e.val)))[j]? = some (e.key, e.val) := by rw [List.getElem?_map, h2]; rfl
    rw [m.eq, List.getElem?_map] at h4
    cases hl : l[j]? with
    | none => rw [hl] at h4; simp at h4
    | some x =>
      obtain ⟨k', v⟩ := x
      rw [hl] at h4
      simp at h4
      have hkk : k' = k := K.inj _ _ (by rw [h4.1, h3])
      subst hkk
      exact ⟨j, e, v, by rw [h1, ← h4.2], by rw [m.get]; exact alget_at m.nd hl, h2, h3, hl⟩
variable {t el : TypeId} {b : Nat} {w : World}
theorem run_mpLook (m : MpOk K eV f l es clock) (hb : w.heap[b]? = some (.map es clock)) (ht : P.underlying t = some (.map kt el)) {k : κ} (hk : K.ok k) {z : Value} (hz : (zeroValue el).run P w = .ok z w) (c : Bool) :
    (Instr.lookup t (.map (some b)) (K.eK k) c).run P w = .ok (bif c then .tuple #[(f k).elim z eV, .bool (f k).isSome] else (f k).elim z eV) w := by
  obtain ⟨lx, hx⟩ := K.lit k hk
  rcases m.find w hk with ⟨h1, h2, _⟩ | ⟨j, e, v, h1, h2, _⟩
  · rw [h2]
    cases c <;> simp [Instr.lookup, run_underlying ht, MapKept.run_getObj_map hb, K.keyed.check w _ hx, h1, hz, Result.andThen]
  · rw [h2]
    cases c <;> simp [Instr.lookup, run_underlying ht, MapKept.run_getObj_map hb, K.keyed.check w _ hx, h1, Result.andThen]
theorem run_mpPut (m : MpOk K eV f l es clock) (hb : w.heap[b]? = some (.map es clock)) (ht : P.underlying t = some (.map kt el)) {k : κ} (hk : K.ok k) (v : β) :
    ∃ l' es' clock', (Instr.mapUpdate t (.map (some b)) (K.eK k) (eV v)).run P w = .ok () { w with heap := w.heap.setIfInBounds b (.map es' clock') } ∧ MpOk K eV (fun j => if k = j then some v else f j) l' es' clock' := by
  obtain ⟨lx, hx⟩ := K.lit k hk
  rcases m.find w hk with ⟨h1, h2, h3⟩ | ⟨j, e, u, h1, h2, h3, h4, h5⟩
  · refine ⟨l ++ [(k, v)], es.push ⟨K.eK k, eV v, clock⟩, clock + 1, ?_, ?_, ?_, ?_, ?_, MapKept.stamped_push m.st fun x hx e => by
      obtain ⟨y, hy, hye⟩ := m.keys x hx
      exact h3 y hy (K.inj _ _ (by rw [← hye, e]))⟩
    · simp [Instr.mapUpdate, run_underlying ht, MapKept.run_getObj_map hb, K.keyed.check w _ hx, h1, MapKept.run_setObj_map _ hb, Result.andThen]
    · rw [Array.toList_push, List.map_append, List.map_append, m.eq]; rfl
    · rw [List.map_append, List.map_singleton]
      refine List.nodup_append.2 ⟨m.nd, by simp, fun a ha c hc => ?_⟩
      obtain ⟨y, hy, rfl⟩ := List.mem_map.1 ha
      rw [List.mem_singleton.1 hc]
      exact h3 y hy
    · intro x hx
      rcases List.mem_append.1 hx with hx | hx
      · exact m.ok x hx
      · rw [List.mem_singleton.1 hx]; exact hk
    · intro q
      rw [alget_app h3, ← m.get]
  · have hej : es[j]? = some e := by simpa using h3
    refine ⟨l.set j (k, v), es.modify j fun e => { e with key := K.eK k, val := eV v }, clock, ?_, ?_, ?_, ?_, ?_, MapKept.stamped_modify m.st j _ (fun _ _ => rfl) (fun x hx hxe => by rw [hej] at hxe; cases hxe; exact h4.symm)⟩
    · simp [Instr.mapUpdate, run_underlying ht, MapKept.run_getObj_map hb, K.keyed.check w _ hx, h1, MapKept.run_setObj_map _ hb, Result.andThen, hej, h4, K.keyed.stays w hx]
    · rw [Array.toList_modify, map_modify _ _ _ _ _ h3, m.eq, List.map_set]
    · rw [fst_set h5]; exact m.nd
    · intro x hx
      rcases List.mem_or_eq_of_mem_set hx with hx | rfl
      · exact m.ok x hx
      · exact hk
    · intro q
      rw [alget_set m.nd h5, ← m.get]
theorem run_mpDel (m : MpOk K eV f l es clock) (hb : w.heap[b]? = some (.map es clock)) (ht : P.underlying t = some (.map kt el)) {k : κ} (hk : K.ok k) (t2 ty : TypeId) (cs : Array Bool) :
    ∃ l' es' clock', (builtin .delete #[t, t2] ty cs #[.map (some b), K.eK k]).run P w = .ok (.value (.tuple #[])) { w with heap := w.heap.setIfInBounds b (.map es' clock') } ∧ MpOk K eV (fun j => if k = j then none else f j) l' es' clock' := by
  obtain ⟨lx, hx⟩ := K.lit k hk
  rcases m.find w hk with ⟨h1, h2, h3⟩ | ⟨j, e, u, h1, h2, h3, h4, h5⟩
  · refine ⟨l, es, clock, ?_, m.eq, m.nd, m.ok, fun q => ?_, m.st⟩
    · simp [builtin, Builtin.delete_, run_underlying ht, MapKept.run_getObj_map hb, K.keyed.check w _ hx, h1, MapKept.run_setObj_map _ hb, Result.andThen]
    · show (if k = q then none else f q) = _
      split
      · rename_i e; subst e; rw [alget_no h3]
      · exact m.get q
  · have hjl : j < es.toList.length := (List.getElem?_eq_some_iff.1 h3).1
    have hjs : j < es.size := by simpa using hjl
    have hsub : (es.eraseIdxIfInBounds j).toList = es.toList.eraseIdx j := by
      unfold Array.eraseIdxIfInBounds
      rw [dif_pos hjs]
      simp
    refine ⟨l.eraseIdx j, es.eraseIdxIfInBounds j, clock, ?_, ?_, ?_, ?_, ?_, MapKept.stamped_erase m.st j⟩
    · simp [builtin, Builtin.delete_, run_underlying ht, MapKept.run_getObj_map hb, K.keyed.check w _ hx, h1, MapKept.run_setObj_map _ hb, Result.andThen]
    · rw [hsub, ChangeMaps.map_eraseIdx, ChangeMaps.map_eraseIdx, m.eq]
    · rw [ChangeMaps.map_eraseIdx]; exact m.nd.sublist (List.eraseIdx_sublist _ _)
    · intro x hx
      exact m.ok x ((List.eraseIdx_sublist _ _).subset hx)
    · intro q
      rw [alget_erase m.nd h5, ← m.get]
end
section
variable {P : Program} {T : Tab} {F G : Frz} {n : Nat} {Q : Exit → Act → World → Prop} {e : Env} {L : List HProp} {ops : Array Oper} {l : List Oper} {d : Option Tmp} {ty : TypeId} {pos : String} {af : Array Edge} {κ β : Type} [DecidableEq κ] {kt : TypeId}
theorem XL_mkMap (K : Kk P kt κ) (eV : β → Value) {t : TypeId} {e' : Nat → Env} (hp : ∀ b, putE n d (.map (some b)) e = some (e' b)) (h : ∀ b, XL P F n ops l Q (e' b) (isMp K eV b (fun _ => none) :: L)) : XL P F n ops (⟨d, .makeMap t none, ty, pos, af, none⟩ :: l) Q e L :=
  XL_next (o := ⟨d, .makeMap t none, ty, pos, af, none⟩) rfl fun a w hf hs => ⟨.map (some w.heap.size), w.alloc (.map #[] 0), e' _, _, .inl (by simp [execOp, Instr.makeMap, newObj]; rfl), hp _, hs.alloc ⟨[], #[], 0, by simp [Hp.one], rfl, List.nodup_nil, fun x hx => (by cases hx), fun _ => rfl, MapKept.stamped_empty 0⟩, h _⟩
theorem XL_mpLook (hT : TabOk P T) (q : Nat) {K : Kk P kt κ} {eV : β → Value} {b : Nat} {f : κ → Option β} (k : κ) {t el : TypeId} {x ix : Operand} {c : Bool} {i1 i2 : TI} {z r : Value} {e' : Env} (hk : L[q]? = some (isMp K eV b f)) (hx : ev e x = some (.map (some b))) (hi : ev e ix = some (K.eK k)) (ht : look T t = some i1) (hd : i1.desc = .map kt el) (he : look T el = some i2) (hz : i2.zero = some z) (hok : K.ok k)
    (hr : (bif c then .tuple #[(f k).elim z eV, .bool (f k).isSome] else (f k).elim z eV) = r) (hp : putE n d r e = some e') (h : XL P F n ops l Q e' L) : XL P F n ops (⟨d, .lookup t x ix c, ty, pos, af, none⟩ :: l) Q e L :=
  XL_val (o := ⟨d, .lookup t x ix c, ty, pos, af, none⟩) rfl hp (fun a w hf hs => by
    obtain ⟨g, hg, _, ls, es, clock, hb, m⟩ := hs.at hk
    have hu := hT.und t i1 ht
    rw [hd] at hu
    have hr' := run_mpLook m (hg _ _ hb) hu hok (run_zeroValue hT w he hz) c
    rw [hr] at hr'
    simp [execOp, hf.ev hx, hf.ev hi, hr']) h
theorem XL_mpLookF (hT : TabOk P T) {K : Kk P kt κ} {eV : β → Value} {b : Nat} {f : κ → Option β} (k : κ) {t el : TypeId} {x ix : Operand} {c : Bool} {i1 i2 : TI} {z r : Value} {e' : Env} (hk : isMp K eV b f F.heap) (hx : ev e x = some (.map (some b))) (hi : ev e ix = some (K.eK k)) (ht : look T t = some i1) (hd : i1.desc = .map kt el) (he : look T el = some i2) (hz : i2.zero = some z) (hok : K.ok k)
    (hr : (bif c then .tuple #[(f k).elim z eV, .bool (f k).isSome] else (f k).elim z eV) = r) (hp : putE n d r e = some e') (h : XL P F n ops l Q e' L) : XL P F n ops (⟨d, .lookup t x ix c, ty, pos, af, none⟩ :: l) Q e L :=
  XL_val (o := ⟨d, .lookup t x ix c, ty, pos, af, none⟩) rfl hp (fun a w hf hs => by
    obtain ⟨ls, es, clock, hb, m⟩ := hk
    have hu := hT.und t i1 ht
    rw [hd] at hu
    have hr' := run_mpLook m (hs.frz _ _ hb) hu hok (run_zeroValue hT w he hz) c
    rw [hr] at hr'
    simp [execOp, hf.ev hx, hf.ev hi, hr']) h
theorem XV_mpLook (hT : TabOk P T) {K : Kk P kt κ} {eV : β → Value} {b : Nat} {f : κ → Option β} (k : κ) {t el : TypeId} {x ix : Operand} {c : Bool} {i1 i2 : TI} {z r : Value} (hk : isMp K eV b f G.heap) (hx : ev e x = some (.map (some b))) (hi : ev e ix = some (K.eK k)) (ht : look T t = some i1) (hd : i1.desc = .map kt el) (he : look T el = some i2) (hz : i2.zero = some z) (hok : K.ok k)
    (hr : (bif c then .tuple #[(f k).elim z eV, .bool (f k).isSome] else (f k).elim z eV) = r) : XV P G n ⟨d, .lookup t x ix c, ty, pos, af, none⟩ e r := .mk fun a w hf hs => by
    obtain ⟨ls, es, clock, hb, m⟩ := hk
    have hu := hT.und t i1 ht
    rw [hd] at hu
    have hr' := run_mpLook m (hs.frz _ _ hb) hu hok (run_zeroValue hT w he hz) c
    rw [hr] at hr'
    simp [execOp, hf.ev hx, hf.ev hi, hr']
theorem st_map {w : World} {q b : Nat} {K : Kk P kt κ} {eV : β → Value} {f f' : κ → Option β} (hs : St F w L) (hk : L[q]? = some (isMp K eV b f)) {es0 : Array MapEntry} {c0 : Nat} (hb : w.heap[b]? = some (.map es0 c0)) {ls : List (κ × β)} {es : Array MapEntry} {clock : Nat} (m : MpOk K eV f' ls es clock) :
    St F { w with heap := w.heap.setIfInBounds b (.map es clock) } (L.set q (isMp K eV b f')) := by
  have hlt : b < w.heap.size := (Array.getElem?_eq_some_iff.1 hb).1
  refine hs.turnAt hk fun g hg hA => ?_
  obtain ⟨l1, es1, c1, hb1, _⟩ := hA
  refine ⟨b, by rw [hb1]; simp, rfl, rfl, rfl, by simp, fun j hj _ => by simp [Array.getElem?_setIfInBounds, Ne.symm hj], Hp.one b (.map es clock), fun j o hj => ?_, ls, es, clock, by simp [Hp.one], m⟩
  simp only [Hp.one] at hj
  split at hj
  · rename_i e1; cases hj; subst e1; exact ⟨by simp [Array.getElem?_setIfInBounds, hlt], .inl (by rw [hb1]; simp)⟩
  · cases hj
theorem XL_mpPut (hT : TabOk P T) (q : Nat) {K : Kk P kt κ} {eV : β → Value} {b : Nat} {f : κ → Option β} (k : κ) (v : β) {t el : TypeId} {x ix y : Operand} {i1 : TI} (hk : L[q]? = some (isMp K eV b f)) (hx : ev e x = some (.map (some b))) (hi : ev e ix = some (K.eK k)) (hy : ev e y = some (eV v)) (ht : look T t = some i1) (hd : i1.desc = .map kt el) (hok : K.ok k)
    (h : XL P F n ops l Q e (L.set q (isMp K eV b (fun j => if k = j then some v else f j)))) : XL P F n ops (⟨none, .mapUpdate t x ix y, ty, pos, af, none⟩ :: l) Q e L :=
  XL_next (o := ⟨none, .mapUpdate t x ix y, ty, pos, af, none⟩) rfl fun a w hf hs => by
    obtain ⟨g, hg, _, ls, es, clock, hb, m⟩ := hs.at hk
    have hu := hT.und t i1 ht
    rw [hd] at hu
    obtain ⟨l', es', clock', hrun, m'⟩ := run_mpPut m (hg _ _ hb) hu hok v
    refine ⟨undef, { w with heap := w.heap.setIfInBounds b (.map es' clock') }, e, _, .inr ⟨rfl, ?_⟩, rfl, st_map hs hk (hg _ _ hb) m', h⟩
    simp [execOp, hf.ev hx, hf.ev hi, hf.ev hy, hrun]
theorem XL_mpDel (hT : TabOk P T) (q : Nat) {K : Kk P kt κ} {eV : β → Value} {b : Nat} {f : κ → Option β} (k : κ) {t t2 el : TypeId} {x ix : Operand} {i1 : TI} (hk : L[q]? = some (isMp K eV b f)) (hx : ev e x = some (.map (some b))) (hi : ev e ix = some (K.eK k)) (ht : look T t = some i1) (hd : i1.desc = .map kt el) (hok : K.ok k)
    (h : XL P F n ops l Q e (L.set q (isMp K eV b (fun j => if k = j then none else f j)))) : XL P F n ops (⟨none, .call ⟨.builtin .delete, #[x, ix], #[t, t2]⟩, ty, pos, af, none⟩ :: l) Q e L :=
  XL_next (o := ⟨none, .call ⟨.builtin .delete, #[x, ix], #[t, t2]⟩, ty, pos, af, none⟩) rfl fun a w hf hs => by
    obtain ⟨g, hg, _, ls, es, clock, hb, m⟩ := hs.at hk
    have hu := hT.und t i1 ht
    rw [hd] at hu
    obtain ⟨cs, hrun0⟩ := run_built (P := P) (d := none) (ty := ty) (pos := pos) (af := af) (b := .delete) (args := [x, ix]) (ats := #[t, t2]) (vs := [.map (some b), K.eK k]) hf (by simp [evs, hx, hi]) w
    obtain ⟨l', es', clock', hrun, m'⟩ := run_mpDel m (hg _ _ hb) hu hok t2 ty cs
    refine ⟨.tuple #[], { w with heap := w.heap.setIfInBounds b (.map es' clock') }, e, _, .inl ?_, rfl, st_map hs hk (hg _ _ hb) m', h⟩
    rw [hrun0]
    exact hrun
end
end Go.Cof
set_option linter.unusedVariables false
set_option linter.unusedSectionVars false
namespace Go.Cof
open Go.RowKit
section
variable {P : Program} {T : Tab} {F G : Frz} {n : Nat} {Q : Exit → Act → World → Prop} {e : Env} {L : List HProp} {ops : Array Oper} {l : List Oper} {d : Option Tmp} {ty : TypeId} {pos : String} {af : Array Edge}
theorem part_one {t : TypeId} {ti : TI} {cs : List Value} {o : Nat} {v : Value} (ht : look T t = some ti) (ha : ti.agg = false) (hc : cs[o]? = some v) : partV T t cs o = some v := by
  simp only [partV, ht, ha, cond_false]
  exact hc
theorem XL_loadI (hT : TabOk P T) (k : Nat) {t : TypeId} {x : Operand} {b o : Nat} {cs : List Value} {et : TypeId} {v : Value} {ti : TI} {e' : Env} (hk : L[k]? = some (blk b cs et)) (hx : ev e x = some (.pointer (some ⟨b, o, none⟩))) (ht : look T t = some ti) (ha : ti.agg = false) (hs : ti.size = 1) (hc : cs[o]? = some v) (hp : putE n d v e = some e')
    (h : XL P F n ops l Q e' L) : XL P F n ops (⟨d, .load t x, ty, pos, af, none⟩ :: l) Q e L :=
  XL_load hT k hk hx ht (part_one ht ha hc) (by rw [hs, Nat.ble_eq]; exact (List.getElem?_eq_some_iff.1 hc).1) hp h
theorem XV_loadI (hT : TabOk P T) {t : TypeId} {x : Operand} {b o : Nat} {cs : List Value} {et : TypeId} {v : Value} {ti : TI} (hb : blk b cs et G.heap) (hx : ev e x = some (.pointer (some ⟨b, o, none⟩))) (ht : look T t = some ti) (ha : ti.agg = false) (hs : ti.size = 1) (hc : cs[o]? = some v) : XV P G n ⟨d, .load t x, ty, pos, af, none⟩ e v :=
  XV_load hT hx hb ht (part_one ht ha hc) (by rw [hs, Nat.ble_eq]; exact (List.getElem?_eq_some_iff.1 hc).1)
theorem XV_idxal (hT : TabOk P T) {t el : TypeId} {i1 : TI} {de2 : TypeDesc} {z2 : Option Value} {sz2 by2 : Nat} {x ix : Operand} {b o m : Nat} {k : IntKind} {i : Int} (hx : ev e x = some (.pointer (some ⟨b, o, none⟩))) (hi : ev e ix = some (.int k i)) (ht : look T t = some i1) (hd : i1.desc = .array m el) (he : look T el = some ⟨de2, z2, sz2, by2⟩)
    (h0 : 0 ≤ i) (h1 : i < m) : XV P G n ⟨d, .indexAddr t x ix, ty, pos, af, none⟩ e (.pointer (some ⟨b, o + i.toNat * sz2, none⟩)) := .mk fun ac w hf hs => by
    have hu := hT.und t i1 ht
    rw [hd] at hu
    have hr : (Instr.indexAt t (.pointer (some ⟨b, o, none⟩)) (.int k i)).run P w = .ok (.pointer (some ⟨b, o + i.toNat * sz2, none⟩)) w := by
      have h2 := Addr.add_lit (b := b) (o := o) (i.toNat * sz2)
      simp [Instr.indexAt, run_underlying hu, asIntOf, h0, h1, run_sizeOf hT w he, Instr.sureAddr]
      exact h2
    simp [execOp, hf.ev hx, hf.ev hi, hr]
theorem putAt_one {cs : List Value} {o : Nat} {v : Value} (h : o < cs.length) : putAt cs o [v] = cs.set o v := by
  rw [putAt_eq _ _ _ (by show o + 1 ≤ cs.length; omega)]
  refine List.ext_getElem? fun i => ?_
  rw [List.getElem?_set, List.append_assoc]
  by_cases h1 : i < o
  · rw [List.getElem?_append_left (by rw [List.length_take]; omega), List.getElem?_take, if_pos h1, if_neg (by omega)]
  · rw [List.getElem?_append_right (by rw [List.length_take]; omega), List.length_take, Nat.min_eq_left (by omega)]
    by_cases h2 : i = o
    · subst h2; rw [if_pos rfl, if_pos h]; simp
    · rw [if_neg (fun e => h2 e.symm)]
      rw [List.getElem?_append_right (by simp; omega), List.getElem?_drop]
      congr 1
      simp; omega
theorem XL_storeI (hT : TabOk P T) (k : Nat) {t : TypeId} {x y : Operand} {b o : Nat} {cs : List Value} {et : TypeId} {v : Value} {ti : TI} (hk : L[k]? = some (blk b cs et)) (hx : ev e x = some (.pointer (some ⟨b, o, none⟩))) (hy : ev e y = some v) (ht : look T t = some ti) (hs : ti.size = 1) (hv : v.cells.toList = [v]) (h1 : v.oneCell' = true) (ho : o < cs.length)
    (h : XL P F n ops l Q e (L.set k (blk b (cs.set o v) et))) : XL P F n ops (⟨none, .store t x y, ty, pos, af, none⟩ :: l) Q e L := by
  refine XL_store hT k hk hx hy ht hv (by rw [hs]; rfl) (by rw [hs, Nat.ble_eq]; exact ho) (by simp [h1]) ?_
  rw [putAt_one ho]
  exact h
end
/-! a list of lists, each in its own memory -/
abbrev slV {α : Type} (q : In α) : Value := .slice q.A q.m q.c
instance {α : Type} : Inhabited (In α) := ⟨⟨none, 0, 0, []⟩⟩
def ownI {α : Type} (E : Enc α) (q : In α) : HProp := own E q.A q.m q.c q.xs
def allI {α : Type} (E : Enc α) (l : List (In α)) : HProp := stars (l.map (ownI E))
section
variable {α : Type} {E : Enc α}
theorem starsFlat {L M : List HProp} {h : Hp} (hs : stars (stars L :: M) h) : stars (L ++ M) h := by
  obtain ⟨g1, g2, d, a, b, hA, hB⟩ := hs
  exact stars_append.2 ⟨g1, g2, d, a, b, hA, hB⟩
theorem starsFold {L M : List HProp} {h : Hp} (hs : stars (L ++ M) h) : stars (stars L :: M) h := by
  obtain ⟨g1, g2, d, a, b, hA, hB⟩ := stars_append.1 hs
  exact ⟨g1, g2, d, a, b, hA, hB⟩
theorem map_erase' {α β : Type} (f : α → β) : ∀ (l : List α) (i : Nat), (l.map f).eraseIdx i = (l.eraseIdx i).map f
  | [], _ => rfl
  | a :: l, 0 => rfl
  | a :: l, i + 1 => by rw [List.map_cons, List.eraseIdx_cons_succ, List.eraseIdx_cons_succ, List.map_cons, map_erase' f l i]
theorem allI_out {l : List (In α)} {i : Nat} (hi : i < l.length) {M : List HProp} {h : Hp} (hs : stars (allI E l :: M) h) : stars (ownI E (Cof.get l (i : Int)) :: allI E (l.eraseIdx i) :: M) h := by
  have hk : (l.map (ownI E))[i]? = some (ownI E (Cof.get l (i : Int))) := by rw [List.getElem?_map, List.getElem?_eq_getElem hi, get_getElem hi]; rfl
  have h1 := stars_perm ((perm_at hk).append_right M) (starsFlat hs)
  rw [map_erase'] at h1
  have h2 : stars ([ownI E (Cof.get l (i : Int))] ++ ((l.eraseIdx i).map (ownI E) ++ M)) h := h1
  obtain ⟨g1, g2, d, a, b, hA, hB⟩ := stars_append.1 h2
  obtain ⟨k1, k2, d', a', b', hA', _⟩ := hA
  exact ⟨g1, g2, d, a, b, stars_up (L := [ownI E (Cof.get l (i : Int))]) ⟨k1, k2, d', a', b', hA', by assumption⟩ (Hp.le_refl _) |> fun hh => by obtain ⟨q1, _, _, qa, _, qA, _⟩ := hh; exact ownI_le qA qa, starsFold hB⟩
where
  ownI_le {q : In α} {g h : Hp} (o : ownI E q g) (hl : Hp.le g h) : ownI E q h := by
    rcases o with ⟨a, b, c, d⟩ | ⟨gg, cur, e, a, b, c⟩
    · exact .inl ⟨a, b, c, d⟩
    · exact .inr ⟨gg, cur, e, a, hl _ _ b, c⟩
theorem allI_in {l : List (In α)} {i : Nat} (hi : i < l.length) {q : In α} {M : List HProp} {h : Hp} (hs : stars (ownI E q :: allI E (l.eraseIdx i) :: M) h) : stars (allI E (l.set i q) :: M) h := by
  have h1 : stars (allI E (l.eraseIdx i) :: ownI E q :: M) h := stars_take [1] rfl hs
  have h2 := starsFlat h1
  have hk : (l.map (ownI E))[i]? = some (ownI E (Cof.get l (i : Int))) := by rw [List.getElem?_map, List.getElem?_eq_getElem hi, get_getElem hi]; rfl
  have hp : (ownI E q :: (l.eraseIdx i).map (ownI E)).Perm ((l.set i q).map (ownI E)) := by
    rw [List.map_set, ← map_erase']
    exact perm_set hk
  refine starsFold (stars_perm (?_ : List.Perm _ _) h2)
  refine List.Perm.trans ?_ (hp.append_right M)
  exact List.perm_middle
theorem allI_snoc {l : List (In α)} {q : In α} {M : List HProp} {h : Hp} (hs : stars (ownI E q :: allI E l :: M) h) : stars (allI E (l ++ [q]) :: M) h := by
  have h1 : stars (allI E l :: ownI E q :: M) h := stars_take [1] rfl hs
  have h2 := starsFlat h1
  refine starsFold ?_
  rw [List.map_append, List.append_assoc]
  exact h2
theorem allI_nil (h : Hp) : allI E [] h := trivial
theorem allI_rd {l : List (In α)} {h : Hp} (hs : allI E l h) {i : Nat} (hi : i < l.length) : rdS E h (Cof.get l (i : Int)).A (Cof.get l (i : Int)).m (Cof.get l (i : Int)).xs := by
  have hk : (l.map (ownI E))[i]? = some (ownI E (Cof.get l (i : Int))) := by rw [List.getElem?_map, List.getElem?_eq_getElem hi, get_getElem hi]; rfl
  obtain ⟨g, hl, hb⟩ := at_mem i hk hs
  exact (own_rd hb).le hl
theorem get_map {β : Type} [Inhabited β] (f : In α → β) {l : List (In α)} {i : Nat} (hi : i < l.length) : Cof.get (l.map f) (i : Int) = f (Cof.get l (i : Int)) := by
  rw [get_getElem (by simpa using hi), List.getElem_map, get_getElem hi]
end
end Go.Cof
set_option linter.unusedVariables false
set_option linter.unusedSectionVars false
namespace Go.Cof
open Go.RowKit
section
variable {P : Program} {F : Frz} {n : Nat} {Q : Exit → Act → World → Prop} {e : Env} {L : List HProp}
theorem X_scope {c : Code} (h : X P F n c (Exit.noGoto Q) e L) : X P F n (.scope c) Q e L := .mk fun a w hf hs => wp_scope_straight (h.out a w hf hs)
theorem X_label {l : Nat} (h : Y F n Q .normal e L) : X P F n (.label l) Q e L := .mk fun a w hf hs => wp_label (h.out a w hf hs)
theorem Y_scope_ret (h : Y F n Q .ret e L) : Y F n (Exit.noGoto Q) .ret e L := .mk fun a w hf hs => h.out a w hf hs
theorem Y_scope_normal (h : Y F n Q .normal e L) : Y F n (Exit.noGoto Q) .normal e L := .mk fun a w hf hs => h.out a w hf hs
theorem Y_scope_exit {id : Nat} (h : Y F n Q (.exit id) e L) : Y F n (Exit.noGoto Q) (.exit id) e L := .mk fun a w hf hs => h.out a w hf hs
end
end Go.Cof
namespace Go.Cof
open Go.RowKit
/-- What only reads, over a part that can be opened. -/
theorem Ctr.on {P : Program} {f : FuncId} {args : List Value} {r : Value} {A : HProp} {ι : Type} {φ : ι → Prop} {M : ι → List HProp} (hc : Callable P f) (ho : ∀ h, A h → ∃ x, φ x ∧ stars (M x) h) (hb : ∀ x, φ x → ∀ h, stars (M x) h → A h)
    (h : ∀ x, φ x → FnC P f args (fun g => stars (M x) g) r) : Ctr P f args (fun _ => True) [A] (fun v L => v = r ∧ L = [A]) := by
  refine ⟨hc, fun F w _ hs => ?_⟩
  obtain ⟨g, h1, h2, h3⟩ := hs.own
  obtain ⟨k1, k2, d', a', b', hA, hR⟩ := h3
  obtain ⟨x, hx, hM⟩ := ho _ hA
  have hs2 : St F w (M x) := ⟨hs.os, hs.tape, hs.output, hs.size, hs.frz, g, h1, h2, stars_up hM a'⟩
  refine (Ctr.call (A := []) (R := M x) (h x hx) hs2 (fun g hg hL => hL)).mono fun e w' ⟨v, L', he, ⟨hv, hL⟩, hs'⟩ => ⟨v, [A], he, ⟨hv, rfl⟩, ?_⟩
  subst hL
  exact hs'.imp fun g hg => stars_sub (by simp) (stars_shut (hb x hx) (show stars (M x ++ []) g by rw [List.append_nil]; exact hg))
end Go.Cof
namespace Go.Cof
open Go.RowKit
theorem place_at' {q n sz f i : Nat} (h : n = i) : ((bs (some (⟨q, 0, none⟩ : Addr))).add (n * sz)).add f = ⟨q, i * sz + f, none⟩ := by
  subst h
  show ((⟨q, 0, none⟩ : Addr).add _).add _ = _
  rw [Addr.add_lit, Addr.add_lit, Nat.zero_add]
theorem place_0 {q n sz i : Nat} (h : n = i) : (bs (some (⟨q, 0, none⟩ : Addr))).add (n * sz) = ⟨q, i * sz + 0, none⟩ := by
  subst h
  show (⟨q, 0, none⟩ : Addr).add _ = _
  rw [Addr.add_lit, Nat.zero_add, Nat.add_zero]
theorem allI_own {α : Type} {E : Enc α} {l : List (In α)} {i : Nat} (hi : i < l.length) {M : List HProp} {h : Hp} (hs : stars (allI E l :: M) h) : stars (own E (Cof.get l (i : Int)).A (Cof.get l (i : Int)).m (Cof.get l (i : Int)).c (Cof.get l (i : Int)).xs :: allI E (l.eraseIdx i) :: M) h := allI_out hi hs
theorem allI_put {α : Type} {E : Enc α} {l : List (In α)} {i : Nat} (hi : i < l.length) (q : In α) {M : List HProp} {h : Hp} (hs : stars (own E q.A q.m q.c q.xs :: allI E (l.eraseIdx i) :: M) h) : stars (allI E (l.set i q) :: M) h := allI_in (q := q) hi hs
end Go.Cof
namespace Go.Cof
open Go.RowKit
section
variable {P : Program} {T : Tab} {F G : Frz} {n : Nat} {Q : Exit → Act → World → Prop} {e : Env} {L : List HProp} {ops : Array Oper} {l : List Oper} {d : Option Tmp} {ty : TypeId} {pos : String} {af : Array Edge} {α : Type} {E : Enc α} [Inhabited α]
/-- A write of one cell into one's own slice, wherever it lies. -/
theorem XL_putO (hT : TabOk P T) (k : Nat) (x' : α) {t : TypeId} {x y : Operand} {A : Option Addr} {m c : Nat} {i : Int} {xs : List α} {v : Value} {ti : TI} (hk : L[k]? = some (own E A m c xs)) (hx : ev e x = some (.pointer (some ((bs A).add (i.toNat * 1))))) (hy : ev e y = some v) (hz : E.sz = 1) (ht : look T t = some ti) (hl : ti.size = 1) (hv : v.cells.toList = [v])
    (hi : i.toNat < m) (hx' : E.enc x' = [v]) (h : XL P F n ops l Q e (L.set k (own E A m c (xs.set i.toNat x')))) : XL P F n ops (⟨none, .store t x y, ty, pos, af, none⟩ :: l) Q e L := by
  refine XL_look (p := ∃ b, A = some ⟨b, 0, none⟩) (fun w hs => ?_) fun hp => ?_
  · obtain ⟨g, _, _, hA⟩ := hs.at hk
    exact own_some hA (by omega)
  · obtain ⟨b, rfl⟩ := hp
    refine XL_put1 hT k x' hk (o := i.toNat) ?_ hy hz ht hl hv hi hx' h
    rw [hx, place_0 (i := i.toNat) rfl]
    simp
end
end Go.Cof
set_option linter.unusedVariables false
set_option linter.unusedSectionVars false
namespace Go.Cof
open Go.RowKit
section
variable {P : Program} {T : Tab} {F G : Frz} {n : Nat} {Q : Exit → Act → World → Prop} {e : Env} {L : List HProp} {ops : Array Oper} {l : List Oper} {d : Option Tmp} {ty : TypeId} {pos : String} {af : Array Edge}
theorem XV_arr (hT : TabOk P T) {t el : TypeId} {i1 : TI} {x : Operand} {A : Option Addr} {m c k : Nat} (hx : ev e x = some (.slice A m c)) (ht : look T t = some i1) (hd : i1.desc = .array k el) (hk : k ≤ m) : XV P G n ⟨d, .sliceToArrayPointer t x, ty, pos, af, none⟩ e (.pointer A) := .mk fun ac w hf hs => by
  have hu := hT.und t i1 ht
  rw [hd] at hu
  simp [execOp, hf.ev hx, Instr.arrayAt, run_underlying hu, Nat.not_lt.2 hk]
end
end Go.Cof
