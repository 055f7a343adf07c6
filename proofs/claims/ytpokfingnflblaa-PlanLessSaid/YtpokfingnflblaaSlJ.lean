/- What a law is handed: arguments opened, of any shape of whole numbers, bools, structs, slices; the start, and the end. -/
import Derived.Test.YtpokfingnflblaaSlI
import Derived.ProofKit
import Derived.OpenShut
import Derived.Below
import Derived.Carry
import Derived.SizedLaws
set_option linter.unusedVariables false
set_option linter.unusedSectionVars false
namespace Go.Cof
open Go.RowKit

/-! calls whose answer is told -/
section
variable {P : Program} {T : Tab} {F : Frz} {n : Nat} {Q : Exit → Act → World → Prop} {e : Env} {L : List HProp} {ops : Array Oper} {l : List Oper} {d : Option Tmp} {ty : TypeId} {pos : String} {af : Array Edge}
theorem XL_callE {f : FuncId} (ks : List Nat) {args : List Operand} {ats : Array TypeId} {vs : List Value} {pre : Hp → Prop} {A R M : List HProp} {r : Value} {e' : Env} (hs : Ctr P f vs pre A (fun v L => v = r ∧ L = M)) (hk : takeP L ks = some (A, R)) (hv : evs e args = some vs)
    (hp : putE n d r e = some e') (hpre : ∀ g : Hp, Hp.le F.heap g → stars R g → pre g) (h : XL P F n ops l Q e' (M ++ R)) : XL P F n ops (⟨d, .call ⟨.value (.func f), args.toArray, ats⟩, ty, pos, af, none⟩ :: l) Q e L :=
  XL_enter (o := ⟨d, .call ⟨.value (.func f), args.toArray, ats⟩, ty, pos, af, none⟩) rfl (args := vs) (Φ := fun v K => v = r ∧ K = M ++ R) (fun a w hf => by have := run_call hs.1 hf (d := d) (ty := ty) (pos := pos) (af := af) (ats := ats) (x := .func f) rfl hv w; simpa using this)
    (fun w hw => (Ctr.call hs (hw.imp fun _ => stars_take ks hk) hpre).mono fun _ _ ⟨v, L', he, ⟨h1, h2⟩, hs'⟩ => ⟨v, _, he, ⟨h1, rfl⟩, by rw [h2] at hs'; exact hs'⟩)
    (fun v K ⟨h1, h2⟩ => ⟨e', by rw [h1]; exact hp, by rw [h2]; exact h⟩)
end
/-! numbers that are only known to lie somewhere; divisors, shifts that are no letters -/
section
variable {P : Program} {T : Tab} {F : Frz} {n : Nat} {Q : Exit → Act → World → Prop} {e : Env} {L : List HProp} {ops : Array Oper} {l : List Oper}
theorem XL_gen (j : Nat) {k : IntKind} {x : Int} (p : Int → Prop) (hp : p x) (h : ∀ y, p y → XL P F n ops l Q ((j, .int k y) :: e) L) : XL P F n ops l Q ((j, .int k x) :: e) L := h x hp
theorem XL_rem {j : Nat} {k : IntKind} {a b : Int} (hb : 0 < b) (h : ∀ y, -b < y → y < b → (0 ≤ a → 0 ≤ y) → y % b = a % b → XL P F n ops l Q ((j, .int k y) :: e) L) : XL P F n ops l Q ((j, .int k (a.tmod b)) :: e) L :=
  h _ (by
    have h1 := Int.natAbs_tmod a b
    have h2 := Nat.mod_lt a.natAbs (y := b.natAbs) (by omega)
    omega) (Int.tmod_lt_of_pos a hb) (fun h0 => Int.tmod_nonneg b h0) (by rw [Int.tmod_def, Int.sub_emod, Int.mul_emod_right, Int.sub_zero, Int.emod_emod])
theorem XL_remb {j : Nat} {k : IntKind} {a b : Int} (hb : 0 < b) (h : ∀ y, -b < y → y < b → (0 ≤ a → 0 ≤ y) → XL P F n ops l Q ((j, .int k y) :: e) L) : XL P F n ops l Q ((j, .int k (a.tmod b)) :: e) L := XL_rem hb fun y h1 h2 h3 _ => h y h1 h2 h3
theorem opV_rem {t t2 : TypeId} {x y : Operand} {k : IntKind} {a b : Int} (hx : ev e x = some (.int k a)) (hy : ev e y = some (.int k b)) (hb : b ≠ 0) : opV T e (.binOp .rem t x y t2) = some (.int k (a.tmod b)) := by
  simp only [opV, hx, hy, binV, intBin, if_neg hb]
  cases k <;> rfl
theorem opV_quo {t t2 : TypeId} {x y : Operand} {k : IntKind} {a b : Int} (hx : ev e x = some (.int k a)) (hy : ev e y = some (.int k b)) (hb : b ≠ 0) : opV T e (.binOp .quo t x y t2) = some (.int k (k.wrap (a.tdiv b))) := by
  simp only [opV, hx, hy, binV, intBin, if_neg hb]
  cases k <;> rfl
theorem opV_shl {t t2 : TypeId} {x y : Operand} {k k' : IntKind} {a b : Int} (hx : ev e x = some (.int k a)) (hy : ev e y = some (.int k' b)) (hb : 0 ≤ b) : opV T e (.binOp .shl t x y t2) = some (.int k (k.wrap (a * 2 ^ (min b.toNat k.bits)))) := by
  simp only [opV, hx, hy, binV, shiftBin, if_neg (Int.not_lt.2 hb)]
theorem opV_shr {t t2 : TypeId} {x y : Operand} {k k' : IntKind} {a b : Int} (hx : ev e x = some (.int k a)) (hy : ev e y = some (.int k' b)) (hb : 0 ≤ b) : opV T e (.binOp .shr t x y t2) = some (.int k (a / 2 ^ (min b.toNat k.bits))) := by
  simp only [opV, hx, hy, binV, shiftBin, if_neg (Int.not_lt.2 hb)]
end
/-- Ways that meet again, what comes next told by the end. -/
theorem X_cutB {P : Program} {F : Frz} {n : Nat} {Q : Exit → Act → World → Prop} {e : Env} {L : List HProp} {c : Code} {R : Act → World → Prop} {ι : Type} (E : ι → Env) (M : ι → List HProp) (p : ι → Prop) (h1 : X P F n c (Exit.then (fun a w => ∃ j, p j ∧ Fr n (E j) a ∧ St F w (M j)) Q) e L)
    (h2 : ∀ j, p j → Y F n (Exit.then R Q) .normal (E j) (M j)) : X P F n c (Exit.then R Q) e L := .mk fun a w hf hs => wp_mono (h1.out a w hf hs) fun x a' w' hq => by
  cases x with
  | normal => obtain ⟨j, g1, g2, g3⟩ := hq; exact (h2 j g1).out a' w' g2 g3
  | exit _ => exact hq
  | goto _ => exact hq
  | ret => exact hq
  | panic _ => exact hq
  | outgrown => exact hq
/-! the start -/
def Frz.of (W : World) : Frz := ⟨World.hp W, W.os, W.tape, W.output, W.heap.size⟩
theorem St.start (W : World) : St (Frz.of W) W [] := ⟨rfl, rfl, rfl, Nat.le_refl _, Hp.le_refl _, Hp.nil, ⟨fun b o h => by cases h⟩, ⟨fun b => .inr rfl⟩, trivial⟩
theorem St.below {W W' : World} {L : List HProp} (h : St (Frz.of W) W' L) : Below W.heap.size W W' :=
  ⟨h.os, h.tape, h.output, h.size, fun k hk => by
    have := h.frz k (W.heap[k]'hk) (by show W.heap[k]? = _; exact Array.getElem?_eq_getElem hk)
    rw [Array.getElem?_eq_getElem hk]; exact this⟩
theorem Ctr.out {P : Program} {f : FuncId} {args : List Value} {pre : Hp → Prop} {r : Value} {Φ : Value → List HProp → Prop} (h : Ctr P f args pre [] Φ) (hr : ∀ v L, Φ v L → v = r) {W : World} (hp : pre (World.hp W)) :
    Calls P f args.toArray W fun e W' => e = .returned r ∧ Below W.heap.size W W' :=
  (h.2 (Frz.of W) W hp (St.start W)).mono fun _ _ ⟨v, L', he, hΦ, hs⟩ => ⟨by rw [he, hr v L' hΦ], hs.below⟩

/-! lists -/
theorem flat_inv {α : Type} (E : Enc α) : ∀ (xs : List α) (j : Nat) (u : Value), (flat E xs)[j]? = some u → ∃ i x k, xs[i]? = some x ∧ (E.enc x)[k]? = some u ∧ j = i * E.sz + k
  | [], j, u, h => by simp [flat] at h
  | x :: xs, j, u, h => by
    simp only [flat, List.flatMap_cons] at h
    by_cases hj : j < E.sz
    · rw [List.getElem?_append_left (by rw [E.len]; exact hj)] at h
      exact ⟨0, x, j, rfl, h, by omega⟩
    · rw [List.getElem?_append_right (by rw [E.len]; omega), E.len] at h
      obtain ⟨i, y, k, h1, h2, h3⟩ := flat_inv E xs _ u h
      exact ⟨i + 1, y, k, h1, h2, by rw [Nat.succ_mul]; omega⟩
theorem choose_list {α : Type} {p : Nat → α → Prop} : ∀ n : Nat, (∀ i, i < n → ∃ x, p i x) → ∃ xs : List α, xs.length = n ∧ ∀ i x, xs[i]? = some x → p i x
  | 0, _ => ⟨[], rfl, fun i x h => by simp at h⟩
  | n + 1, h => by
    obtain ⟨xs, h1, h2⟩ := choose_list n fun i hi => h i (by omega)
    obtain ⟨y, hy⟩ := h n (by omega)
    refine ⟨xs ++ [y], by simp [h1], fun i x hx => ?_⟩
    by_cases hi : i < xs.length
    · rw [List.getElem?_append_left hi] at hx; exact h2 i x hx
    · rw [List.getElem?_append_right (by omega)] at hx
      have : i - xs.length = 0 := by
        have := (List.getElem?_eq_some_iff.1 hx).1
        simp at this; omega
      rw [this] at hx
      simp at hx
      subst hx
      rw [show i = n from by omega]
      exact hy

theorem take_succ_eq {α : Type} [Inhabited α] {xs ys : List α} {i : Nat} (h : xs.take i = ys.take i) (hx : i < xs.length) (hy : i < ys.length) (hg : Cof.get xs i = Cof.get ys i) : xs.take (i + 1) = ys.take (i + 1) := by
  have e1 := Cof.get_some (xs := xs) (i := (i : Int)) (by omega) (by omega)
  have e2 := Cof.get_some (xs := ys) (i := (i : Int)) (by omega) (by omega)
  rw [Int.toNat_natCast] at e1 e2
  rw [List.take_add_one, List.take_add_one, h, e1, e2, hg]
/-! a type's values, read -/
structure Dec (P : Program) (t : TypeId) (α : Type) where
  E : Enc α
  good : Hp → α → Prop
  opn : ∀ {H : Type} {enc : TypeId × Value → H} {w : World} {base : Nat} {spare : Nat → Bool} {held : Bool} {fuel : Nat} {cs : List Value} {x : DataW H × List MemPlace},
    DataW.trod enc P w base spare held fuel t cs = some x → (x.1.weights P t).all (· ≤ reachBytes) = true → ∃ a, cs = E.enc a ∧ good (World.hp w) a
def Dec.int {P : Program} {t : TypeId} (k : IntKind) (ht : P.underlying t = some (.int k)) : Dec P t Int where
  E := encI k
  good := fun _ n => k.min ≤ n ∧ n ≤ k.max
  opn := fun h _ => by
    obtain ⟨n, h1, _, h2⟩ := DataW.trod_int ht h
    exact ⟨n, h1, (by simpa [Lit.wf, Bool.and_eq_true] using h2)⟩
def Dec.bool {P : Program} {t : TypeId} (ht : P.underlying t = some .bool) : Dec P t Bool where
  E := encB
  good := fun _ _ => True
  opn := fun h _ => by
    obtain ⟨n, h1, _⟩ := DataW.trod_bool ht h
    exact ⟨n, h1, trivial⟩
/-- A slice that came in. -/
structure In (α : Type) where
  A : Option Addr
  m : Nat
  c : Nat
  xs : List α
def encIn (α : Type) : Enc (In α) := ⟨fun x => [.slice x.A x.m x.c], 1, fun _ => rfl, by decide, fun x u hu => by simp at hu; subst hu; rfl⟩
structure InOk {α : Type} (E : Enc α) (good : Hp → α → Prop) (by_ : Nat) (h : Hp) (s : In α) : Prop where
  rd : rdS E h s.A s.m s.xs
  le : s.m ≤ s.c
  max : s.c ≤ maxLen
  wt : s.m * by_ ≤ 140737488351232
  all : ∀ x ∈ s.xs, good h x
theorem weightsAll_mem {H : Type} {P : Program} {e : TypeId} {n : Nat} : ∀ {ds : List (DataW H)} {i : Nat} {d : DataW H}, ds[i]? = some d → n ∈ d.weights P e → n ∈ DataW.weightsAll P e ds
  | [], i, d, h, _ => by simp at h
  | y :: ds, 0, d, h, hn => by
    simp at h; subst h
    simp only [DataW.weightsAll, List.mem_append]; exact .inl hn
  | y :: ds, i + 1, d, h, hn => by
    simp only [DataW.weightsAll, List.mem_append]; exact .inr (weightsAll_mem (by simpa using h) hn)
theorem weightsEach_mem {H : Type} {P : Program} {n : Nat} : ∀ {ts : List TypeId} {ds : List (DataW H)} {i : Nat} {t : TypeId} {d : DataW H}, ts[i]? = some t → ds[i]? = some d → n ∈ d.weights P t → n ∈ DataW.weightsEach P ts ds
  | [], _, i, t, d, h, _, _ => by simp at h
  | _ :: _, [], i, t, d, _, h, _ => by simp at h
  | u :: ts, y :: ds, 0, t, d, h, h2, hn => by
    simp at h h2; subst h h2
    simp only [DataW.weightsEach, List.mem_append]; exact .inl hn
  | u :: ts, y :: ds, i + 1, t, d, h, h2, hn => by
    simp only [DataW.weightsEach, List.mem_append]; exact .inr (weightsEach_mem (by simpa using h) (by simpa using h2) hn)
def Dec.slice {P : Program} {t e : TypeId} {α : Type} (D : Dec P e α) (ht : P.underlying t = some (.slice e)) (hc : P.cellsOf e = D.E.sz) (hb : ∃ b, P.bytesOf e = b) : Dec P t (In α) where
  E := encIn α
  good := InOk D.E D.good (P.bytesOf e)
  opn := fun {H enc w base spare held fuel cs x} h hw => by
    rcases DataW.trod_slice ht h with ⟨rfl, _⟩ | ⟨a, len, cap, elems, rest, n, _, rfl, rfl, hb, hl, hm, hlen, hel, _, _⟩
    · exact ⟨⟨none, 0, 0, []⟩, rfl, ⟨rdS.nil _ _ _, Nat.le_refl _, Nat.zero_le _, by simp, fun _ h => by simp at h⟩⟩
    have hws : ∀ m ∈ (DataW.slice (elems.map (·.1)) (rest.map (·.1)) : DataW H).weights P t, m ≤ reachBytes := fun m hm => by
      have := List.all_eq_true.1 hw m hm; simpa using this
    simp only [DataW.weights, ht] at hws
    obtain ⟨xs, h1, h2⟩ := choose_list (p := fun i y => D.good (World.hp w) y ∧ ∀ k u, (D.E.enc y)[k]? = some u → w.cell? ((a.add (i * D.E.sz)).add k) = some u) len fun i hi => by
      have hy := hel i hi
      rw [hc, List.getElem?_eq_getElem (by omega)] at hy
      obtain ⟨cs, hcs, hy'⟩ := Option.bind_eq_some_iff.1 hy
      obtain ⟨y, rfl, hg⟩ := D.opn hy' (List.all_eq_true.2 fun m hm => by
        have := hws m (List.mem_cons_of_mem _ (List.mem_append_left _ (weightsAll_mem (i := i) (d := (elems[i]'(by omega)).1) (by rw [List.getElem?_map, List.getElem?_eq_getElem (by omega)]; rfl) hm)))
        simpa using this)
      refine ⟨y, hg, fun k u hu => ?_⟩
      have hk := World.cells?_some hcs
      rw [hk.2.2 k (by have := (List.getElem?_eq_some_iff.1 hu).1; rw [D.E.len] at this; exact this)]
      exact hu
    have hwt : len * P.bytesOf e ≤ 140737488351232 := by
      have := hws _ (List.mem_cons_self ..)
      rw [List.length_map, List.length_map, hlen] at this
      have h0 : len * P.bytesOf e ≤ (len + rest.length) * P.bytesOf e := Nat.mul_le_mul_right _ (Nat.le_add_right _ _)
      exact Nat.le_trans h0 this
    refine ⟨⟨some a, len, cap, xs⟩, rfl, ⟨⟨h1.symm, fun _ => rfl, fun j u hu => ?_⟩, hl, hm, hwt, fun x hx => ?_⟩⟩
    · obtain ⟨i, y, k, e1, e2, rfl⟩ := flat_inv _ _ _ _ hu
      have := (h2 i y e1).2 k u e2
      rw [Addr.add_add] at this
      exact this
    · obtain ⟨i, hi⟩ := List.getElem?_of_mem hx
      exact (h2 i x hi).1
/-- The fields from an offset on. -/
structure DecF (P : Program) (fs : List Field) (o : Nat) (α : Type) where
  enc : α → List Value
  sz : Nat
  len : ∀ x, (enc x).length = sz
  one : ∀ x u, u ∈ enc x → u.oneCell' = true
  good : Hp → α → Prop
  opn : ∀ {H : Type} {en : TypeId × Value → H} {w : World} {base : Nat} {spare : Nat → Bool} {held : Bool} {fuel : Nat} {cs : List Value} {xs : List (DataW H × List MemPlace)}, cs.length = o + sz → 
    (∀ (i : Nat) (f : Field), fs[i]? = some f → ∃ x : DataW H × List MemPlace, DataW.trod en P w base spare held fuel f.type ((cs.drop f.offset).take (P.cellsOf f.type)) = some x ∧ (x.1.weights P f.type).all (· ≤ reachBytes) = true) → ∃ a, cs.drop o = enc a ∧ good (World.hp w) a
def DecF.nil {P : Program} {o : Nat} : DecF P [] o Unit where
  enc := fun _ => []
  sz := 0
  len := fun _ => rfl
  one := fun _ _ h => by simp at h
  good := fun _ _ => True
  opn := fun hl _ => ⟨(), by rw [List.drop_of_length_le (by omega)], trivial⟩
def DecF.cons {P : Program} {f : Field} {fs : List Field} {o : Nat} {α β : Type} (D : Dec P f.type α) (ho : f.offset = o) (hc : P.cellsOf f.type = D.E.sz) (R : DecF P fs (o + D.E.sz) β) : DecF P (f :: fs) o (α × β) where
  enc := fun x => D.E.enc x.1 ++ R.enc x.2
  sz := D.E.sz + R.sz
  len := fun x => by rw [List.length_append, D.E.len, R.len]
  one := fun x u hu => by
    rcases List.mem_append.1 hu with h | h
    · exact D.E.one _ _ h
    · exact R.one _ _ h
  good := fun h x => D.good h x.1 ∧ R.good h x.2
  opn := fun {H en w base spare held fuel cs xs} hl h => by
    obtain ⟨x, hx, hw⟩ := h 0 f rfl
    rw [hc, ho] at hx
    obtain ⟨a, ha, hg⟩ := D.opn hx hw
    obtain ⟨b, hb, hg2⟩ := R.opn (cs := cs) (xs := xs) (by omega) fun i f' hf => h (i + 1) f' (by simpa using hf)
    refine ⟨(a, b), ?_, hg, hg2⟩
    show cs.drop o = D.E.enc a ++ R.enc b
    rw [← ha, ← hb, ← List.drop_drop, List.take_append_drop]
def Dec.struct {P : Program} {t : TypeId} {fs : Array Field} {α : Type} (ht : P.underlying t = some (.struct fs)) (R : DecF P fs.toList 0 α) (hc : P.cellsOf t = R.sz) (hp : 0 < R.sz) : Dec P t α where
  E := ⟨R.enc, R.sz, R.len, hp, R.one⟩
  good := R.good
  opn := fun {H enc w base spare held fuel cs x} h hw => by
    obtain ⟨xs, n, _, rfl, hl, hn, hx⟩ := DataW.trod_struct ht h
    have hws : ∀ m ∈ (DataW.agg (xs.map (·.1)) : DataW H).weights P t, m ≤ reachBytes := fun m hm => by
      have := List.all_eq_true.1 hw m hm; simpa using this
    simp only [DataW.weights, ht] at hws
    obtain ⟨a, ha, hg⟩ := R.opn (en := enc) (w := w) (base := base) (spare := spare) (held := held) (fuel := n) (cs := cs) (xs := xs) (by omega) fun i f hf => by
      have hf' : fs[i]? = some f := by simpa using hf
      have hi : i < xs.length := by rw [hn]; exact (Array.getElem?_eq_some_iff.1 hf').1
      refine ⟨xs[i], by rw [hx i f hf', List.getElem?_eq_getElem hi], List.all_eq_true.2 fun m hm => ?_⟩
      have := hws m (weightsEach_mem (i := i) (t := f.type) (d := xs[i].1) (by rw [List.getElem?_map, hf]; rfl) (by rw [List.getElem?_map, List.getElem?_eq_getElem hi]; rfl) hm)
      simpa using this
    exact ⟨a, by simpa using ha, hg⟩

/-! an argument -/
section
variable {H : Type} {enc : TypeId × Value → H} {P : Program} {w : World} {r : Reach} {b0 base : Nat} {sp : Nat → Bool} {held : Bool} {t : TypeId} {v : Value} {d : DataW H} {ps : List MemPlace} {α : Type}
theorem Dec.arg_slice {e : TypeId} (D : Dec P t (In α)) (hD : D.E = encIn α) (ht : P.underlying t = some (.slice e)) (hval : Value.okWide P w r b0 t v) (hd : DataW.Trod enc P w base sp held t v d ps) (hw : (d.weights P t).all (· ≤ reachBytes) = true) : ∃ s : In α, v = .slice s.A s.m s.c ∧ D.good (World.hp w) s := by
  obtain ⟨fuel, hf⟩ := hd
  obtain ⟨a, h1, h2⟩ := D.opn hf hw
  obtain ⟨x, l, c, rfl⟩ := Go.WideShapes.okWide_slice ht hval
  rw [hD] at h1
  simp [Value.cells, encIn] at h1
  obtain ⟨rfl, rfl, rfl⟩ := h1
  exact ⟨a, rfl, h2⟩
theorem Dec.arg_struct {fs : Array Field} (D : Dec P t α) (ht : P.underlying t = some (.struct fs)) (hval : Value.okWide P w r b0 t v) (hd : DataW.Trod enc P w base sp held t v d ps) (hw : (d.weights P t).all (· ≤ reachBytes) = true) : ∃ a : α, v = .agg (D.E.enc a).toArray ∧ D.good (World.hp w) a := by
  obtain ⟨fuel, hf⟩ := hd
  obtain ⟨a, h1, h2⟩ := D.opn hf hw
  obtain ⟨cs, rfl, _⟩ := Go.WideShapes.okWide_struct ht hval
  refine ⟨a, ?_, h2⟩
  rw [← h1]
  simp [Value.cells]
end
theorem wf_rng {k : IntKind} {n : Int} (h : (Lit.int k n).wf = true) : k.min ≤ n ∧ n ≤ k.max := by simpa [Lit.wf, Bool.and_eq_true] using h
theorem rng_u8 {x : Int} (h : IntKind.u8.min ≤ x ∧ x ≤ IntKind.u8.max) : 0 ≤ x ∧ x < 256 := ⟨h.1, Int.lt_of_le_of_lt h.2 (by decide)⟩
theorem rng_i64 {x : Int} (h : IntKind.i64.min ≤ x ∧ x ≤ IntKind.i64.max) : -9223372036854775808 ≤ x ∧ x ≤ 9223372036854775807 := ⟨Int.le_trans (by decide) h.1, Int.le_trans h.2 (by decide)⟩
theorem rng_u64 {x : Int} (h : IntKind.u64.min ≤ x ∧ x ≤ IntKind.u64.max) : 0 ≤ x ∧ x ≤ 18446744073709551615 := ⟨h.1, Int.le_trans h.2 (by decide)⟩
theorem weights_arg {H : Type} {P : Program} {ts : List TypeId} {ds : List (DataW H)} (h : (DataW.weightsEach P ts ds).all (· ≤ reachBytes) = true) {i : Nat} {t : TypeId} {d : DataW H} (ht : ts[i]? = some t) (hd : ds[i]? = some d) : (d.weights P t).all (· ≤ reachBytes) = true :=
  List.all_eq_true.2 fun n hn => List.all_eq_true.1 h n (weightsEach_mem ht hd hn)
end Go.Cof
