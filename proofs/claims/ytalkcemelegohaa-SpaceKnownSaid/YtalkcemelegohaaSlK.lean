/- The frame of a walk as a list of known slots; the memory as what is frozen and a list of owned parts. The rules of the walk over these two. No program is named. Types as a table, and the operations that touch no memory, as one function. Rows of memory: a block known whole, a slice that reads as a list (frozen or owned); the operations on them. Calls, structs, slices of slices, literals. Functions that only compute; parts opened and shut; cells at an absolute place; slices of slices; literals; make; append. Slices of slices, literals of slices, make, append, copy. Regions whose order the tape draws: one order, told by the prover, serves all. append, copy, clear on slices of one's own; whole arrays; encodings. Numbers: shifts and bits as sums and quotients. What a law is handed: arguments opened, of any shape of whole numbers, bools, structs, slices; the start, and the end. Regions that draw, each of their orders walked. -/
import Derived.WalkKit
import Derived.Orders
import Derived.ProofKit
import Derived.OpenShut
import Derived.Below
import Derived.Carry
import Derived.SizedLaws
set_option linter.unusedVariables false
namespace Go.Cof
open Go.RowKit

/-! ### slots -/
abbrev Env := List (Nat × Value)
def look {α : Type} : List (Nat × α) → Nat → Option α
  | [], _ => none
  | (j, v) :: e, k => bif Nat.beq k j then some v else look e k
def ev (e : Env) : Operand → Option Value
  | .tmp t => look e t
  | .const v => some v
  | .global g => some (.pointer (some ⟨g, 0, none⟩))
  | .func f => some (.func (.func f) #[] #[])

structure Fr (n : Nat) (e : Env) (a : Act) : Prop where
  size : a.tmps.size = n
  defers : a.defers = []
  get : ∀ k v, look e k = some v → a.tmps.getD k undef = v

theorem Fr.ev {n : Nat} {e : Env} {a : Act} (h : Fr n e a) {x : Operand} {v : Value} (hx : ev e x = some v) : a.eval x = v := by
  cases x with
  | tmp t => exact h.get t v hx
  | const u => simpa [Cof.ev, Act.eval] using hx
  | global g => simpa [Cof.ev, Act.eval] using hx
  | func f => simpa [Cof.ev, Act.eval] using hx

def putE (n : Nat) (d : Option Tmp) (v : Value) (e : Env) : Option Env :=
  match d with
  | none => some e
  | some d => bif Nat.blt d n then some ((d, v) :: e) else none

theorem Fr.put {n : Nat} {e e' : Env} {a : Act} (h : Fr n e a) {d : Option Tmp} {v : Value} (hp : putE n d v e = some e') : Fr n e' (a.put d v) := by
  cases d with
  | none => simp only [putE, Option.some.injEq] at hp; subst hp; exact h
  | some d =>
    simp only [putE] at hp
    cases hb : Nat.blt d n with
    | false => simp [hb] at hp
    | true =>
      simp only [hb, cond_true, Option.some.injEq] at hp
      subst hp
      have hd : d < n := by simpa [Nat.blt_eq] using hb
      refine ⟨by simp [Act.put, h.size], h.defers, fun k u hk => ?_⟩
      simp only [look] at hk
      by_cases e1 : k = d
      · subst e1
        rw [Nat.beq_refl] at hk
        simp only [cond_true, Option.some.injEq] at hk
        subst hk
        have : k < a.tmps.size := by rw [h.size]; exact hd
        simp [Act.put, Array.getD, this]
      · have hne : Nat.beq k d = false := by
          cases hc : Nat.beq k d with
          | false => rfl
          | true => exact absurd (Nat.eq_of_beq_eq_true hc) e1
        rw [hne] at hk
        simp only [cond_false] at hk
        have := h.get k u hk
        rw [← this]
        simp only [Act.put, Array.getD_eq_getD_getElem?, Array.getElem?_setIfInBounds]
        rw [if_neg (fun hh => e1 hh.symm)]

/-- What one list of slots says of another. -/
def Sub : Env → Env → Prop
  | [], _ => True
  | (k, v) :: e', e => look e k = some v ∧ Sub e' e
theorem Sub.get {e' e : Env} (h : Sub e' e) : ∀ k v, look e' k = some v → look e k = some v := by
  induction e' with
  | nil => intro k v hk; cases hk
  | cons p e' ih =>
    obtain ⟨j, u⟩ := p
    intro k v hk
    simp only [look] at hk
    cases hc : Nat.beq k j with
    | true =>
      rw [hc] at hk
      simp only [cond_true, Option.some.injEq] at hk
      rw [Nat.eq_of_beq_eq_true hc, ← hk]
      exact h.1
    | false =>
      rw [hc] at hk
      exact ih h.2 k v hk
theorem Fr.sub {n : Nat} {e' e : Env} {a : Act} (h : Fr n e a) (hs : Sub e' e) : Fr n e' a := ⟨h.size, h.defers, fun k v hk => h.get k v (hs.get k v hk)⟩

def envOf : Nat → List Value → Env
  | _, [] => []
  | i, v :: l => (i, v) :: envOf (i + 1) l
theorem look_envOf : ∀ (l : List Value) (i k : Nat) (v : Value), look (envOf i l) k = some v → i ≤ k ∧ l[k - i]? = some v
  | [], _, _, _, h => by cases h
  | u :: l, i, k, v, h => by
    simp only [envOf, look] at h
    cases hc : Nat.beq k i with
    | true =>
      rw [hc] at h
      have := Nat.eq_of_beq_eq_true hc
      subst this
      simp at h
      simp [h]
    | false =>
      rw [hc] at h
      have := look_envOf l (i + 1) k v h
      refine ⟨by omega, ?_⟩
      have e1 : k - i = (k - (i + 1)) + 1 := by omega
      rw [e1]
      simpa using this.2
theorem Fr.enter {args : List Value} {n : Nat} (h : args.length ≤ n) : Fr n (envOf 0 args) { tmps := args.toArray ++ Array.replicate (n - args.toArray.size) undef, defers := [] } := by
  refine ⟨by simp; omega, rfl, fun k v hk => ?_⟩
  have := (look_envOf args 0 k v hk).2
  simp only [Nat.sub_zero] at this
  have hl : k < args.length := (List.getElem?_eq_some_iff.1 this).1
  simp only [Array.getD_eq_getD_getElem?]
  rw [Array.getElem?_append_left (by simpa using hl)]
  simp [this]

/-! ### memory -/
abbrev Hp := Nat → Option Obj
abbrev HProp := Hp → Prop
structure Hp.disj (h g : Hp) : Prop where
  get : ∀ b, h b = none ∨ g b = none
structure Hp.le (h g : Hp) : Prop where
  get : ∀ b o, h b = some o → g b = some o
instance (h g : Hp) : CoeFun (Hp.disj h g) (fun _ => ∀ b, h b = none ∨ g b = none) := ⟨Hp.disj.get⟩
instance (h g : Hp) : CoeFun (Hp.le h g) (fun _ => ∀ b o, h b = some o → g b = some o) := ⟨Hp.le.get⟩
def Hp.or (h g : Hp) : Hp := fun b => match h b with | some o => some o | none => g b
theorem Hp.le_refl (h : Hp) : Hp.le h h := ⟨fun _ _ hh => hh⟩
theorem Hp.le.trans {h g k : Hp} (a : Hp.le h g) (b : Hp.le g k) : Hp.le h k := ⟨fun i o hh => b i o (a i o hh)⟩
theorem Hp.le_or_left (h g : Hp) : Hp.le h (Hp.or h g) := ⟨fun b o hh => by simp [Hp.or, hh]⟩
theorem Hp.le_or_right {h g : Hp} (d : Hp.disj h g) : Hp.le g (Hp.or h g) := ⟨fun b o hh => by
  rcases d b with h1 | h1
  · simp [Hp.or, h1, hh]
  · rw [h1] at hh; cases hh⟩
theorem Hp.or_le {h g k : Hp} (a : Hp.le h k) (b : Hp.le g k) : Hp.le (Hp.or h g) k := ⟨fun i o hh => by
  simp only [Hp.or] at hh
  split at hh
  · rename_i o' h1; cases hh; exact a i _ h1
  · exact b i o hh⟩
theorem Hp.disj.symm {h g : Hp} (d : Hp.disj h g) : Hp.disj g h := ⟨fun b => (d b).symm⟩
theorem Hp.disj.mono {h g h' g' : Hp} (d : Hp.disj h g) (a : Hp.le h' h) (b : Hp.le g' g) : Hp.disj h' g' := ⟨fun i => by
  rcases d i with h1 | h1
  · left
    cases hh : h' i with
    | none => rfl
    | some o => have := a i o hh; rw [h1] at this; cases this
  · right
    cases hh : g' i with
    | none => rfl
    | some o => have := b i o hh; rw [h1] at this; cases this⟩
theorem Hp.disj_or {h g k : Hp} (a : Hp.disj h k) (b : Hp.disj g k) : Hp.disj (Hp.or h g) k := ⟨fun i => by
  rcases a i with h1 | h1
  · rcases b i with h2 | h2
    · left; simp [Hp.or, h1, h2]
    · exact .inr h2
  · exact .inr h1⟩
def Hp.nil : Hp := fun _ => none
def Hp.one (b : Nat) (o : Obj) : Hp := fun k => if k = b then some o else none
theorem Hp.one_le {b : Nat} {o : Obj} {g : Hp} : Hp.le (Hp.one b o) g ↔ g b = some o := by
  constructor
  · intro h; exact h b o (by simp [Hp.one])
  · intro h
    refine ⟨fun k o' hk => ?_⟩
    simp only [Hp.one] at hk
    split at hk
    · cases hk; rename_i e; rw [e]; exact h
    · cases hk
theorem Hp.one_disj {b : Nat} {o : Obj} {g : Hp} : Hp.disj (Hp.one b o) g ↔ g b = none := by
  constructor
  · intro h
    rcases h b with h1 | h1
    · simp [Hp.one] at h1
    · exact h1
  · intro h
    refine ⟨fun k => ?_⟩
    by_cases e : k = b
    · subst e; exact .inr h
    · left; simp [Hp.one, e]

def emp : HProp := fun _ => True
def star (A B : HProp) : HProp := fun h => ∃ h1 h2 : Hp, Hp.disj h1 h2 ∧ Hp.le h1 h ∧ Hp.le h2 h ∧ A h1 ∧ B h2
def stars : List HProp → HProp
  | [] => emp
  | A :: L => star A (stars L)
theorem stars_up : ∀ {L : List HProp} {h g : Hp}, stars L h → Hp.le h g → stars L g
  | [], _, _, _, _ => trivial
  | _ :: _, _, _, ⟨h1, h2, d, a, b, hA, hL⟩, hg => ⟨h1, h2, d, a.trans hg, b.trans hg, hA, hL⟩

theorem stars_append {L M : List HProp} {h : Hp} : stars (L ++ M) h ↔ ∃ h1 h2 : Hp, Hp.disj h1 h2 ∧ Hp.le h1 h ∧ Hp.le h2 h ∧ stars L h1 ∧ stars M h2 := by
  induction L generalizing h with
  | nil => exact ⟨fun hh => ⟨Hp.nil, h, ⟨fun _ => .inl rfl⟩, ⟨fun _ _ e => (by cases e)⟩, Hp.le_refl h, trivial, hh⟩, fun ⟨_, _, _, _, b, _, hM⟩ => stars_up hM b⟩
  | cons A L ih =>
    constructor
    · rintro ⟨h1, h2, d, a, b, hA, hLM⟩
      obtain ⟨k1, k2, d', a', b', hL, hM⟩ := ih.1 hLM
      have d1 := d.mono (Hp.le_refl h1) a'
      refine ⟨Hp.or h1 k1, k2, ?_, Hp.or_le a (a'.trans b), b'.trans b, ⟨h1, k1, d1, Hp.le_or_left _ _, Hp.le_or_right d1, hA, hL⟩, hM⟩
      exact Hp.disj_or (d.mono (Hp.le_refl h1) b') d'
    · rintro ⟨h1, h2, d, a, b, ⟨k1, k2, d', a', b', hA, hL⟩, hM⟩
      have d1 := d.mono b' (Hp.le_refl h2)
      refine ⟨k1, Hp.or k2 h2, ?_, a'.trans a, Hp.or_le (b'.trans a) b, hA, ih.2 ⟨k2, h2, d1, Hp.le_or_left _ _, Hp.le_or_right d1, hL, hM⟩⟩
      exact (Hp.disj_or d'.symm (d.mono a' (Hp.le_refl h2)).symm).symm

theorem stars_swap {A B : HProp} {L : List HProp} {h : Hp} (hh : stars (A :: B :: L) h) : stars (B :: A :: L) h := by
  obtain ⟨h1, h2, d, a, b, hA, k1, k2, d', a', b', hB, hL⟩ := hh
  have d1 := d.mono (Hp.le_refl h1) b'
  exact ⟨k1, Hp.or h1 k2, (Hp.disj_or (d.mono (Hp.le_refl h1) a') d'.symm).symm, a'.trans b, Hp.or_le a (b'.trans b), hB,
    h1, k2, d1, Hp.le_or_left _ _, Hp.le_or_right d1, hA, hL⟩
theorem stars_perm {L M : List HProp} (p : L.Perm M) : ∀ {h : Hp}, stars L h → stars M h := by
  induction p with
  | nil => exact fun h => h
  | cons A _ ih => exact fun ⟨h1, h2, d, a, b, hA, hL⟩ => ⟨h1, h2, d, a, b, hA, ih hL⟩
  | swap A B L => exact fun h => stars_swap h
  | trans _ _ ih1 ih2 => exact fun h => ih2 (ih1 h)
theorem stars_tail {A : HProp} {L : List HProp} {h : Hp} : stars (A :: L) h → stars L h := fun ⟨_, _, _, _, b, _, hL⟩ => stars_up hL b
theorem stars_sub {L M : List HProp} (hs : M.Sublist L) : ∀ {h : Hp}, stars L h → stars M h := by
  induction hs with
  | slnil => exact fun h => h
  | cons A _ ih => exact fun h => ih (stars_tail h)
  | cons_cons A _ ih => exact fun ⟨h1, h2, d, a, b, hA, hL⟩ => ⟨h1, h2, d, a, b, hA, ih hL⟩
theorem stars_imp {A B : HProp} {L : List HProp} (hi : ∀ h, A h → B h) {h : Hp} : stars (A :: L) h → stars (B :: L) h := fun ⟨h1, h2, d, a, b, hA, hL⟩ => ⟨h1, h2, d, a, b, hi _ hA, hL⟩
theorem stars_mem {L : List HProp} {A : HProp} (hm : A ∈ L) : ∀ {h : Hp}, stars L h → ∃ g : Hp, Hp.le g h ∧ A g := by
  induction L with
  | nil => cases hm
  | cons B L ih =>
    rintro h ⟨h1, h2, d, a, b, hB, hL⟩
    cases hm with
    | head => exact ⟨h1, a, hB⟩
    | tail _ hm => obtain ⟨g, hg, hA⟩ := ih hm hL; exact ⟨g, hg.trans b, hA⟩

/-- What is given and stays: blocks, and the streams. -/
structure Frz where
  heap : Hp
  os : Os
  tape : Nat → Question → Nat
  output : Array (Nat × ByteArray)
  size : Nat

def World.hp (w : World) : Hp := fun b => w.heap[b]?
structure St (F : Frz) (w : World) (L : List HProp) : Prop where
  os : w.os = F.os
  tape : w.tape = F.tape
  output : w.output = F.output
  size : F.size ≤ w.heap.size
  frz : Hp.le F.heap (World.hp w)
  own : ∃ h : Hp, Hp.le h (World.hp w) ∧ Hp.disj F.heap h ∧ stars L h

theorem St.imp {F : Frz} {w : World} {L M : List HProp} (h : St F w L) (hi : ∀ h, stars L h → stars M h) : St F w M :=
  ⟨h.os, h.tape, h.output, h.size, h.frz, let ⟨g, a, b, c⟩ := h.own; ⟨g, a, b, hi g c⟩⟩
theorem St.perm {F : Frz} {w : World} {L M : List HProp} (h : St F w L) (p : L.Perm M) : St F w M := h.imp fun _ => stars_perm p
theorem St.sub {F : Frz} {w : World} {L M : List HProp} (h : St F w L) (p : M.Sublist L) : St F w M := h.imp fun _ => stars_sub p
theorem St.conv {F : Frz} {w : World} {A B : HProp} {L : List HProp} (h : St F w (A :: L)) (hi : ∀ h, A h → B h) : St F w (B :: L) := h.imp fun _ => stars_imp hi
theorem St.mem {F : Frz} {w : World} {L : List HProp} (h : St F w L) {A : HProp} (hm : A ∈ L) : ∃ g : Hp, Hp.le g (World.hp w) ∧ Hp.disj F.heap g ∧ A g := by
  obtain ⟨k, a, d, c⟩ := h.own
  obtain ⟨g, hg, hA⟩ := stars_mem hm c
  exact ⟨g, hg.trans a, d.mono (Hp.le_refl F.heap) hg, hA⟩

/-- A world that has the same blocks and streams. -/
theorem St.same {F : Frz} {w w' : World} {L : List HProp} (h : St F w L) (e1 : w'.os = w.os) (e2 : w'.tape = w.tape) (e3 : w'.output = w.output) (e4 : w'.heap = w.heap) : St F w' L := by
  have e5 : World.hp w' = World.hp w := by unfold World.hp; rw [e4]
  exact ⟨e1.trans h.os, e2.trans h.tape, e3.trans h.output, by rw [e4]; exact h.size, by rw [e5]; exact h.frz, by rw [e5]; exact h.own⟩
theorem St.drew {F : Frz} {w : World} {L : List HProp} (h : St F w L) : St F { w with drawn := w.drawn + 1 } L := h.same rfl rfl rfl rfl

theorem St.alloc {F : Frz} {w : World} {L : List HProp} (h : St F w L) {o : Obj} {A : HProp} (hA : A (Hp.one w.heap.size o)) : St F (w.alloc o) (A :: L) := by
  have hx : ∀ b o', w.heap[b]? = some o' → (w.alloc o).heap[b]? = some o' := fun b o' hb => by
    rw [Below.heap_alloc w o b (Array.getElem?_eq_some_iff.1 hb).1]; exact hb
  have hn : ∀ {g : Hp}, Hp.le g (World.hp w) → g w.heap.size = none := fun {g} hg => by
    cases hh : g w.heap.size with
    | none => rfl
    | some o' => have := hg _ _ hh; simp [World.hp] at this
  obtain ⟨k, a, d, c⟩ := h.own
  refine ⟨h.os, h.tape, h.output, Nat.le_trans h.size (by simp), ⟨fun b o' hb => hx b o' (h.frz b o' hb)⟩, Hp.or (Hp.one w.heap.size o) k, ?_, ?_, ?_⟩
  · refine ⟨fun b o' hb => ?_⟩
    simp only [Hp.or, Hp.one] at hb
    by_cases e : b = w.heap.size
    · subst e
      simp only [if_true, Option.some.injEq] at hb
      subst hb
      exact heap_alloc_new w o
    · simp only [e, if_false] at hb
      exact hx b o' (a b o' hb)
  · exact (Hp.disj_or (Hp.one_disj.2 (hn h.frz)) d.symm).symm
  · exact ⟨Hp.one w.heap.size o, k, Hp.one_disj.2 (hn a), Hp.le_or_left _ _, Hp.le_or_right (Hp.one_disj.2 (hn a)), hA, c⟩

/-- An owned block turned. 'g' is the owned part of A; all its blocks but b stay. -/
theorem St.turn {F : Frz} {w w' : World} {A B : HProp} {L : List HProp} (h : St F w (A :: L))
    (ht : ∀ g : Hp, Hp.le g (World.hp w) → A g → ∃ b, g b ≠ none ∧ w'.os = w.os ∧ w'.tape = w.tape ∧ w'.output = w.output ∧ w.heap.size ≤ w'.heap.size ∧ (∀ k, k ≠ b → k < w.heap.size → w'.heap[k]? = w.heap[k]?) ∧
      ∃ g' : Hp, (∀ k o, g' k = some o → w'.heap[k]? = some o ∧ (g k ≠ none ∨ w.heap.size ≤ k)) ∧ B g') : St F w' (B :: L) := by
  obtain ⟨k, a, d, g, r, dgr, hg, hr, hA, hL⟩ := h.own
  obtain ⟨b, hb, e1, e2, e3, e4, hk, g', hg', hB⟩ := ht g (hg.trans a) hA
  have hlt : ∀ {q : Hp}, Hp.le q (World.hp w) → ∀ i o, q i = some o → i < w.heap.size := fun hq i o hi => (Array.getElem?_eq_some_iff.1 (hq i o hi)).1
  have stay : ∀ {q : Hp}, Hp.le q (World.hp w) → Hp.disj q g → ∀ i o, q i = some o → w'.heap[i]? = some o := fun {q} hq hd i o hi => by
    have hne : i ≠ b := fun e => by
      subst e
      rcases hd i with h1 | h1
      · rw [h1] at hi; cases hi
      · exact hb h1
    rw [hk i hne (hlt hq i o hi)]
    exact hq i o hi
  have dis : ∀ {q : Hp}, Hp.le q (World.hp w) → Hp.disj q g → Hp.disj q g' := fun {q} hq hd => ⟨fun i => by
    cases h1 : q i with
    | none => exact .inl rfl
    | some o =>
      right
      cases h2 : g' i with
      | none => rfl
      | some o' =>
        rcases (hg' i o' h2).2 with h3 | h3
        · rcases hd i with h4 | h4
          · rw [h4] at h1; cases h1
          · exact absurd h4 h3
        · have := hlt hq i o h1; omega⟩
  refine ⟨e1.trans h.os, e2.trans h.tape, e3.trans h.output, Nat.le_trans h.size e4, ⟨stay h.frz (d.mono (Hp.le_refl F.heap) hg)⟩, Hp.or g' r, ?_, ?_, g', r, ?_, Hp.le_or_left _ _, ?_, hB, hL⟩
  · refine ⟨fun i o hi => ?_⟩
    simp only [Hp.or] at hi
    split at hi
    · rename_i o' h1; cases hi; exact (hg' i _ h1).1
    · exact stay (hr.trans a) dgr.symm i o hi
  · exact (Hp.disj_or (dis h.frz (d.mono (Hp.le_refl F.heap) hg)).symm (d.mono (Hp.le_refl F.heap) hr).symm).symm
  · exact (dis (hr.trans a) dgr.symm).symm
  · exact Hp.le_or_right (dis (hr.trans a) dgr.symm).symm

/-! ### contracts, and their call -/
/-- The result, and the parts that are owned behind the call. -/
def Post (F : Frz) (Φ : Value → List HProp → Prop) (e : Ending) (w' : World) : Prop := ∃ v L', e = .returned v ∧ Φ v L' ∧ St F w' L'
/-- A function with a body of its own. -/
def Callable (P : Program) (f : FuncId) : Prop := ∃ fn, P.funcs[f]? = some fn ∧ (fn.name == "runtime.NumGoroutine") = false ∧ fn.body.isSome = true
theorem run_callFunc {P : Program} {f : FuncId} (h : Callable P f) (args : Array Value) (w : World) : (callFunc f args).run P w = .ok (.enter f args) w := by
  obtain ⟨fn, h1, h2, h3⟩ := h
  have h4 : ¬ fn.body = none := fun hb => by rw [hb] at h3; cases h3
  have h5 : ¬ fn.name = "runtime.NumGoroutine" := by simpa using h2
  simp [callFunc, h1, h4, h5]
/-- With what 'pre' says of the frozen memory, and A owned: the call returns, Φ. Whatever else there is lies in the frozen part. -/
def Ctr (P : Program) (f : FuncId) (args : List Value) (pre : Hp → Prop) (A : List HProp) (Φ : Value → List HProp → Prop) : Prop :=
  Callable P f ∧ ∀ F w, pre F.heap → St F w A → Calls P f args.toArray w (Post F Φ)

theorem Ctr.call {P : Program} {f : FuncId} {args : List Value} {pre : Hp → Prop} {A R : List HProp} {Φ : Value → List HProp → Prop} (h : Ctr P f args pre A Φ) {F : Frz} {w : World} (hs : St F w (A ++ R))
    (hpre : ∀ g : Hp, Hp.le F.heap g → stars R g → pre g) : Calls P f args.toArray w fun e w' => ∃ v L', e = .returned v ∧ Φ v L' ∧ St F w' (L' ++ R) := by
  obtain ⟨k, a, d, c⟩ := hs.own
  obtain ⟨hA, hR, dAR, hAk, hRk, cA, cR⟩ := stars_append.1 c
  have dR : Hp.disj F.heap hR := d.mono (Hp.le_refl F.heap) hRk
  have hF : Hp.le (Hp.or F.heap hR) (World.hp w) := Hp.or_le hs.frz (hRk.trans a)
  refine (h.2 { F with heap := Hp.or F.heap hR } w (hpre _ (Hp.le_or_left _ _) (stars_up cR (Hp.le_or_right dR))) ⟨hs.os, hs.tape, hs.output, hs.size, hF, hA, hAk.trans a, ?_, cA⟩).mono ?_
  · exact Hp.disj_or (d.mono (Hp.le_refl F.heap) hAk) dAR.symm
  · rintro e w' ⟨v, L', he, hΦ, hs'⟩
    refine ⟨v, L', he, hΦ, hs'.os, hs'.tape, hs'.output, hs'.size, ⟨fun b o hb => hs'.frz b o (Hp.le_or_left _ _ b o hb)⟩, ?_⟩
    obtain ⟨k', a', d', c'⟩ := hs'.own
    have dk : Hp.disj hR k' := d'.mono (Hp.le_or_right dR) (Hp.le_refl k')
    refine ⟨Hp.or k' hR, Hp.or_le a' ⟨fun b o hb => hs'.frz b o (Hp.le_or_right dR b o hb)⟩, ?_, stars_append.2 ⟨k', hR, dk.symm, Hp.le_or_left _ _, Hp.le_or_right dk.symm, c', cR⟩⟩
    exact (Hp.disj_or (d'.mono (Hp.le_or_left _ _) (Hp.le_refl k')).symm dR.symm).symm

theorem Ctr.mono {P : Program} {f : FuncId} {args : List Value} {pre pre' : Hp → Prop} {A : List HProp} {Φ Φ' : Value → List HProp → Prop} (h : Ctr P f args pre A Φ) (h1 : ∀ g, pre' g → pre g)
    (h2 : ∀ v L, Φ v L → ∃ L', Φ' v L' ∧ ∀ h, stars L h → stars L' h) : Ctr P f args pre' A Φ' := ⟨h.1, fun F w hp hs =>
  (h.2 F w (h1 _ hp) hs).mono fun _ _ ⟨v, L, he, hΦ, hs'⟩ => let ⟨L', hΦ', hi⟩ := h2 v L hΦ; ⟨v, L', he, hΦ', hs'.imp hi⟩⟩

/-! ### judgements -/
section
variable (P : Program) (F : Frz) (n : Nat)
structure Y (Q : Exit → Act → World → Prop) (x : Exit) (e : Env) (L : List HProp) : Prop where
  out : ∀ a w, Fr n e a → St F w L → Q x a w
structure X (c : Code) (Q : Exit → Act → World → Prop) (e : Env) (L : List HProp) : Prop where
  out : ∀ a w, Fr n e a → St F w L → c.wp P Q a w
structure XL (ops : Array Oper) (l : List Oper) (Q : Exit → Act → World → Prop) (e : Env) (L : List HProp) : Prop where
  out : ∀ a w, Fr n e a → St F w L → wpList P ops Q l a w
instance (Q : Exit → Act → World → Prop) (x : Exit) (e : Env) (L : List HProp) : CoeFun (Y F n Q x e L) (fun _ => ∀ a w, Fr n e a → St F w L → Q x a w) := ⟨Y.out⟩
instance (c : Code) (Q : Exit → Act → World → Prop) (e : Env) (L : List HProp) : CoeFun (X P F n c Q e L) (fun _ => ∀ a w, Fr n e a → St F w L → c.wp P Q a w) := ⟨X.out⟩
instance (ops : Array Oper) (l : List Oper) (Q : Exit → Act → World → Prop) (e : Env) (L : List HProp) : CoeFun (XL P F n ops l Q e L) (fun _ => ∀ a w, Fr n e a → St F w L → wpList P ops Q l a w) := ⟨XL.out⟩
end
section
variable {P : Program} {F : Frz} {n : Nat} {Q : Exit → Act → World → Prop} {e : Env} {L : List HProp}

theorem X_seq {c d : Code} (h : X P F n c (Exit.then (d.wp P Q) Q) e L) : X P F n (.seq c d) Q e L := .mk fun a w hf hs => wp_seq (h a w hf hs)
theorem X_skip (h : Y F n Q .normal e L) : X P F n .skip Q e L := .mk fun a w hf hs => wp_skip (h a w hf hs)
theorem X_ret (h : Y F n Q .ret e L) : X P F n .ret Q e L := .mk fun a w hf hs => wp_ret (h a w hf hs)
theorem X_exit {id : Nat} (h : Y F n Q (.exit id) e L) : X P F n (.exit id) Q e L := .mk fun a w hf hs => wp_exit (h a w hf hs)
theorem X_block {id : Nat} {c : Code} (h : X P F n c (Exit.inBlock id Q) e L) : X P F n (.block id c) Q e L := .mk fun a w hf hs => wp_block (h a w hf hs)
theorem X_cond_t {x : Operand} {c d : Code} (hx : ev e x = some (.bool true)) (h : X P F n c Q e L) : X P F n (.cond x c d) Q e L := .mk fun a w hf hs => wp_cond_true (hf.ev hx) (h a w hf hs)
theorem X_cond_f {x : Operand} {c d : Code} (hx : ev e x = some (.bool false)) (h : X P F n d Q e L) : X P F n (.cond x c d) Q e L := .mk fun a w hf hs => wp_cond_false (hf.ev hx) (h a w hf hs)
theorem X_cond {x : Operand} {c d : Code} {t : Bool} (hx : ev e x = some (.bool t)) (ht : t = true → X P F n c Q e L) (hf' : t = false → X P F n d Q e L) : X P F n (.cond x c d) Q e L := .mk fun a w hf hs =>
  wp_cond_split (hf.ev hx) (fun h => ht h a w hf hs) (fun h => hf' h a w hf hs)
theorem X_region {id : Nat} {l : List Oper} (h : XL P F n l.toArray l Q e L) : X P F n (.region id l.toArray false) Q e L := .mk fun a w hf hs => wp_region_lit (h a w hf hs)
theorem XL_nil {ops : Array Oper} (h : Y F n Q .normal e L) : XL P F n ops [] Q e L := .mk fun a w hf hs => wpList_nil (h a w hf hs)

theorem Y_then {c : Code} (h : X P F n c Q e L) : Y F n (Exit.then (c.wp P Q) Q) .normal e L := .mk fun a w hf hs => h a w hf hs
theorem Y_then_ret {K : Act → World → Prop} (h : Y F n Q .ret e L) : Y F n (Exit.then K Q) .ret e L := .mk fun a w hf hs => h a w hf hs
theorem Y_then_exit {K : Act → World → Prop} {id : Nat} (h : Y F n Q (.exit id) e L) : Y F n (Exit.then K Q) (.exit id) e L := .mk fun a w hf hs => h a w hf hs
theorem Y_block_normal {id : Nat} (h : Y F n Q .normal e L) : Y F n (Exit.inBlock id Q) .normal e L := .mk fun a w hf hs => h a w hf hs
theorem Y_block_ret {id : Nat} (h : Y F n Q .ret e L) : Y F n (Exit.inBlock id Q) .ret e L := .mk fun a w hf hs => h a w hf hs
theorem Y_block_hit {id : Nat} (h : Y F n Q .normal e L) : Y F n (Exit.inBlock id Q) (.exit id) e L := .mk fun a w hf hs => by simpa [Exit.inBlock] using h a w hf hs
theorem Y_block_miss {id id' : Nat} (hne : Nat.beq id' id = false) (h : Y F n Q (.exit id') e L) : Y F n (Exit.inBlock id Q) (.exit id') e L := .mk fun a w hf hs => by
  have : id' ≠ id := fun h => by subst h; simp at hne
  simpa [Exit.inBlock, this] using h a w hf hs

/-- The state may be told anew. -/
theorem X_weak {c : Code} {e' : Env} {L' : List HProp} (h1 : Sub e' e) (h2 : ∀ h, stars L h → stars L' h) (h : X P F n c Q e' L') : X P F n c Q e L := .mk fun a w hf hs => h a w (hf.sub h1) (hs.imp h2)
theorem XL_weak {ops : Array Oper} {l : List Oper} {e' : Env} {L' : List HProp} (h1 : Sub e' e) (h2 : ∀ h, stars L h → stars L' h) (h : XL P F n ops l Q e' L') : XL P F n ops l Q e L := .mk fun a w hf hs => h a w (hf.sub h1) (hs.imp h2)

/-- What is owned, or frozen, may be looked at. -/
theorem X_look {c : Code} {p : Prop} (hp : ∀ w, St F w L → p) (h : p → X P F n c Q e L) : X P F n c Q e L := .mk fun a w hf hs => h (hp w hs) a w hf hs
theorem XL_look {ops : Array Oper} {l : List Oper} {p : Prop} (hp : ∀ w, St F w L → p) (h : p → XL P F n ops l Q e L) : XL P F n ops l Q e L := .mk fun a w hf hs => h (hp w hs) a w hf hs

theorem X_loop {c : Code} {ι : Type} (E : ι → Env) (M : ι → List HProp) (p : ι → Prop) (μ : ι → Nat) (i0 : ι) (h0 : p i0) (he : Sub (E i0) e) (hL : ∀ h, stars L h → stars (M i0) h)
    (round : ∀ i, p i → X P F n c (Exit.then (fun a w => ∃ j, p j ∧ μ j < μ i ∧ Fr n (E j) a ∧ St F w (M j)) Q) (E i) (M i)) : X P F n (.loop c) Q e L := by
  refine .mk fun a w hf hs => ?_
  classical
  let I : Act → World → Prop := fun a w => ∃ i, p i ∧ Fr n (E i) a ∧ St F w (M i)
  let S : Act → World → Nat → Prop := fun a w m => ∃ i, p i ∧ Fr n (E i) a ∧ St F w (M i) ∧ μ i = m
  have hS : ∀ {a w}, I a w → ∃ m, S a w m := fun ⟨i, h1, h2, h3⟩ => ⟨μ i, i, h1, h2, h3, rfl⟩
  have mini : ∀ {a w}, I a w → ∃ m, S a w m ∧ ∀ m', S a w m' → m ≤ m' := fun {a w} h => by
    obtain ⟨m, hm⟩ := hS h
    induction m using Nat.strongRecOn with
    | _ m ih =>
      by_cases hx : ∃ m', m' < m ∧ S a w m'
      · obtain ⟨m', h1, h2⟩ := hx; exact ih m' h1 h2
      · exact ⟨m, hm, fun m' h' => Nat.le_of_not_lt fun hlt => hx ⟨m', hlt, h'⟩⟩
  let μ' : Act → World → Nat := fun a w => if h : I a w then Classical.choose (mini h) else 0
  refine wp_loop I μ' ⟨i0, h0, hf.sub he, hs.imp hL⟩ fun a w hI => ?_
  obtain ⟨⟨i, h1, h2, h3, h4⟩, hmin⟩ := Classical.choose_spec (mini hI)
  have e1 : μ' a w = μ i := by simp only [μ', dif_pos hI]; exact h4.symm
  refine wp_mono (round i h1 a w h2 h3) fun x a' w' hq => ?_
  cases x with
  | normal =>
    obtain ⟨j, g1, g2, g3, g4⟩ := hq
    have hI' : I a' w' := ⟨j, g1, g3, g4⟩
    refine ⟨hI', ?_⟩
    have : μ' a' w' ≤ μ j := by
      simp only [μ', dif_pos hI']
      exact (Classical.choose_spec (mini hI')).2 _ ⟨j, g1, g3, g4, rfl⟩
    omega
  | exit _ => exact hq
  | goto _ => exact hq
  | ret => exact hq
  | panic _ => exact hq
  | outgrown => exact hq

theorem Y_round {ι : Type} {E : ι → Env} {M : ι → List HProp} {p : ι → Prop} {μ : ι → Nat} {m : Nat} (j : ι) (hp : p j) (hm : μ j < m) (he : Sub (E j) e) (hL : ∀ h, stars L h → stars (M j) h) :
    Y F n (Exit.then (fun a w => ∃ j, p j ∧ μ j < m ∧ Fr n (E j) a ∧ St F w (M j)) Q) .normal e L := .mk fun _ _ hf hs => ⟨j, hp, hm, hf.sub he, hs.imp hL⟩

/-- Ways that meet again. -/
theorem X_cut {c d : Code} {ι : Type} (E : ι → Env) (M : ι → List HProp) (p : ι → Prop) (h1 : X P F n c (Exit.then (fun a w => ∃ j, p j ∧ Fr n (E j) a ∧ St F w (M j)) Q) e L)
    (h2 : ∀ j, p j → X P F n d Q (E j) (M j)) : X P F n (.seq c d) Q e L := .mk fun a w hf hs => wp_seq (wp_mono (h1 a w hf hs) fun x a' w' hq => by
  cases x with
  | normal => obtain ⟨j, g1, g2, g3⟩ := hq; exact h2 j g1 a' w' g2 g3
  | exit _ => exact hq
  | goto _ => exact hq
  | ret => exact hq
  | panic _ => exact hq
  | outgrown => exact hq)
theorem Y_meet {ι : Type} {E : ι → Env} {M : ι → List HProp} {p : ι → Prop} (j : ι) (hp : p j) (he : Sub (E j) e) (hL : ∀ h, stars L h → stars (M j) h) :
    Y F n (Exit.then (fun a w => ∃ j, p j ∧ Fr n (E j) a ∧ St F w (M j)) Q) .normal e L := .mk fun _ _ hf hs => ⟨j, hp, hf.sub he, hs.imp hL⟩

/-! the end of a body -/
section
variable {fn : Func} {Φ : Value → List HProp → Prop} {L' : List HProp}
theorem Y_ret0 (hr : fn.results = #[]) (hL : ∀ h, stars L h → stars L' h) (h : Φ (.tuple #[]) L') : Y F n (bodyPost P fn (Post F Φ)) .ret e L := .mk fun a w hf hs =>
  ⟨hf.defers, _, results_none hr _ _ _, _, L', rfl, h, hs.imp hL⟩
theorem Y_end0 (hr : fn.results = #[]) (hL : ∀ h, stars L h → stars L' h) (h : Φ (.tuple #[]) L') : Y F n (bodyPost P fn (Post F Φ)) .normal e L := .mk fun a w hf hs =>
  ⟨hf.defers, _, results_none hr _ _ _, _, L', rfl, h, hs.imp hL⟩
theorem Y_ret1 {t : Tmp} {v : Value} (hr : fn.results = #[.tmp t]) (hv : look e t = some v) (hL : ∀ h, stars L h → stars L' h) (h : Φ v L') : Y F n (bodyPost P fn (Post F Φ)) .ret e L := .mk fun a w hf hs =>
  ⟨hf.defers, _, results_tmp hr _ _ _, _, L', by rw [hf.get t v hv], h, hs.imp hL⟩
theorem Y_end1 {t : Tmp} {v : Value} (hr : fn.results = #[.tmp t]) (hv : look e t = some v) (hL : ∀ h, stars L h → stars L' h) (h : Φ v L') : Y F n (bodyPost P fn (Post F Φ)) .normal e L := .mk fun a w hf hs =>
  ⟨hf.defers, _, results_tmp hr _ _ _, _, L', by rw [hf.get t v hv], h, hs.imp hL⟩
theorem Y_end2 {t s : Tmp} {v u : Value} (hr : fn.results = #[.tmp t, .tmp s]) (hv : look e t = some v) (hu : look e s = some u) (hL : ∀ h, stars L h → stars L' h) (h : Φ (.tuple #[v, u]) L') : Y F n (bodyPost P fn (Post F Φ)) .normal e L := .mk fun a w hf hs =>
  ⟨hf.defers, _, results_tmp2 hr _ _ _, _, L', by rw [hf.get t v hv, hf.get s u hu], h, hs.imp hL⟩
theorem Y_ret2 {t s : Tmp} {v u : Value} (hr : fn.results = #[.tmp t, .tmp s]) (hv : look e t = some v) (hu : look e s = some u) (hL : ∀ h, stars L h → stars L' h) (h : Φ (.tuple #[v, u]) L') : Y F n (bodyPost P fn (Post F Φ)) .ret e L := .mk fun a w hf hs =>
  ⟨hf.defers, _, results_tmp2 hr _ _ _, _, L', by rw [hf.get t v hv, hf.get s u hu], h, hs.imp hL⟩
theorem Y_ret3 {t s r : Tmp} {v u x : Value} (hr : fn.results = #[.tmp t, .tmp s, .tmp r]) (hv : look e t = some v) (hu : look e s = some u) (hx : look e r = some x) (hL : ∀ h, stars L h → stars L' h) (h : Φ (.tuple #[v, u, x]) L') : Y F n (bodyPost P fn (Post F Φ)) .ret e L := .mk fun a w hf hs =>
  ⟨hf.defers, .tuple #[v, u, x], by
    have h1 := hf.get t v hv
    have h2 := hf.get s u hu
    have h3 := hf.get r x hx
    rw [Array.getD_eq_getD_getElem?] at h1 h2 h3
    simp [results, hr, h1, h2, h3], _, L', rfl, h, hs.imp hL⟩
end

theorem Ctr.intro {f : FuncId} {fn : Func} {c : Code} {args : List Value} {pre : Hp → Prop} {A : List HProp} {Φ : Value → List HProp → Prop} (hf : P.funcs[f]? = some fn) (hb : fn.body = some c) (hn : Nat.ble args.length fn.ntmps = true) (hname : (fn.name == "runtime.NumGoroutine") = false)
    (h : ∀ F, pre F.heap → X P F fn.ntmps c (bodyPost P fn (Post F Φ)) (envOf 0 args) A) : Ctr P f args pre A Φ := ⟨⟨fn, hf, hname, by rw [hb]; rfl⟩, fun F w hp hs =>
  calls_of_wp hf hb (h F hp _ w (Fr.enter (by simpa [Nat.ble_eq] using hn)) hs)⟩

/-! guards -/
theorem XL_guard_yes {ops : Array Oper} {o : Oper} {l : List Oper} {j : Nat} {b : Bool} {t : Tmp} (hg : o.guard = some (j, b)) (hd : (ops[j]?).bind (·.dst) = some t) (hv : look e t = some (.bool b)) (h : XL P F n ops ({ o with guard := none } :: l) Q e L) :
    XL P F n ops (o :: l) Q e L := .mk fun a w hf hs => by
  have hy : ∀ (a : Act), Fr n e a → Region.wanted o (yielded ops a.tmps) = true := fun a hf => by
    have := hf.get t _ hv
    simp only [Region.wanted, hg, yielded, hd, Option.bind_some]
    rw [Array.getD_eq_getD_getElem?] at this
    cases hx : a.tmps[t]? with
    | none => rw [hx] at this; simp [undef] at this
    | some u => rw [hx] at this; simp at this; subst this; simp
  have := h a w hf hs
  unfold wpList at this ⊢
  rw [if_pos (hy a hf)]
  rw [if_pos (by simp [Region.wanted])] at this
  exact this
theorem XL_guard_no {ops : Array Oper} {o : Oper} {l : List Oper} {j : Nat} {b c : Bool} {t : Tmp} {e' : Env} (hg : o.guard = some (j, b)) (hd : (ops[j]?).bind (·.dst) = some t) (hv : look e t = some (.bool c)) (hc : c = !b) (hp : putE n o.dst undef e = some e')
    (h : XL P F n ops l Q e' L) : XL P F n ops (o :: l) Q e L := .mk fun a w hf hs => by
  have hy : Region.wanted o (yielded ops a.tmps) = false := by
    have := hf.get t _ hv
    simp only [Region.wanted, hg, yielded, hd, Option.bind_some]
    rw [Array.getD_eq_getD_getElem?] at this
    cases hx : a.tmps[t]? with
    | none => rw [hx] at this; simp [undef] at this
    | some u => rw [hx] at this; simp at this; subst this; subst hc; simp
  unfold wpList
  rw [if_neg (by simp [hy])]
  exact h _ w (hf.put hp) hs

/-! one operation -/
theorem XL_val {ops : Array Oper} {o : Oper} {l : List Oper} {v : Value} {e' : Env} (hg : o.guard = none) (hp : putE n o.dst v e = some e') (hr : ∀ a w, Fr n e a → St F w L → (execOp a.eval o).run P w = .ok (.value v) w)
    (h : XL P F n ops l Q e' L) : XL P F n ops (o :: l) Q e L := .mk fun a w hf hs => wpList_plain hg fun K hK => by
  unfold Oper.wp
  rw [hr a w hf hs]
  exact hK _ _ (h _ _ (hf.put hp) hs)
/-- One that turns memory. -/
theorem XL_next {ops : Array Oper} {o : Oper} {l : List Oper} (hg : o.guard = none)
    (h : ∀ a w, Fr n e a → St F w L → ∃ v w' e' L', ((execOp a.eval o).run P w = .ok (.value v) w' ∨ v = undef ∧ (execOp a.eval o).run P w = .ok .skip w') ∧ putE n o.dst v e = some e' ∧ St F w' L' ∧ XL P F n ops l Q e' L') : XL P F n ops (o :: l) Q e L := .mk fun a w hf hs => wpList_plain hg fun K hK => by
  obtain ⟨v, w', e', L', hr, hp, hs', hx⟩ := h a w hf hs
  unfold Oper.wp
  rcases hr with hr | ⟨rfl, hr⟩
  · rw [hr]; exact hK _ _ (hx _ _ (hf.put hp) hs')
  · rw [hr]; exact hK _ _ (hx _ _ (hf.put hp) hs')
/-- A call. -/
theorem XL_enter {ops : Array Oper} {o : Oper} {l : List Oper} (hg : o.guard = none) {f : FuncId} {args : List Value} {Φ : Value → List HProp → Prop}
    (hr : ∀ a w, Fr n e a → (execOp a.eval o).run P w = .ok (.enter f args.toArray) w)
    (hc : ∀ w, St F w L → Calls P f args.toArray w fun e w' => ∃ v L', e = .returned v ∧ Φ v L' ∧ St F w' L')
    (h : ∀ v L', Φ v L' → ∃ e', putE n o.dst v e = some e' ∧ XL P F n ops l Q e' L') : XL P F n ops (o :: l) Q e L := .mk fun a w hf hs => wpList_plain hg fun K hK => by
  unfold Oper.wp
  rw [hr a w hf]
  refine (hc w hs).mono ?_
  rintro _ w' ⟨v, L', rfl, hΦ, hs'⟩
  obtain ⟨e', hp, hx⟩ := h v L' hΦ
  exact hK _ _ (hx _ _ (hf.put hp) hs')
end
end Go.Cof
set_option linter.unusedVariables false
namespace Go.Cof
open Go.RowKit

structure TI where
  desc : TypeDesc
  zero : Option Value
  size : Nat
  bytes : Nat
abbrev Tab := List (Nat × TI)
def TabAll (P : Program) : Tab → Prop
  | [] => True
  | (t, i) :: l => (P.underlying t = some i.desc ∧ (P.info? t).map (fun x => (x.zero, x.size, x.bytes)) = some (i.zero, i.size, i.bytes)) ∧ TabAll P l
structure TabOk (P : Program) (T : Tab) : Prop where
  und : ∀ t i, look T t = some i → P.underlying t = some i.desc
  inf : ∀ t i, look T t = some i → ∃ x, P.info? t = some x ∧ x.zero = i.zero ∧ x.size = i.size ∧ x.bytes = i.bytes
theorem TabAll.ok {P : Program} {T : Tab} (h : TabAll P T) : TabOk P T := by
  have key : ∀ t i, look T t = some i → P.underlying t = some i.desc ∧ (P.info? t).map (fun x => (x.zero, x.size, x.bytes)) = some (i.zero, i.size, i.bytes) := by
    induction T with
    | nil => intro t i h; cases h
    | cons p T ih =>
      obtain ⟨j, u⟩ := p
      intro t i hk
      simp only [look] at hk
      cases hc : Nat.beq t j with
      | true =>
        rw [hc] at hk
        simp only [cond_true, Option.some.injEq] at hk
        rw [Nat.eq_of_beq_eq_true hc, ← hk]
        exact h.1
      | false => rw [hc] at hk; exact ih h.2 t i hk
  refine ⟨fun t i hk => (key t i hk).1, fun t i hk => ?_⟩
  have := (key t i hk).2
  cases hx : P.info? t with
  | none => rw [hx] at this; cases this
  | some x => rw [hx] at this; simp only [Option.map_some, Option.some.injEq, Prod.mk.injEq] at this; exact ⟨x, rfl, this.1, this.2.1, this.2.2⟩

def TI.agg (i : TI) : Bool := match i.desc with | .struct _ => true | .array _ _ => true | _ => false

def partV (T : Tab) (t : TypeId) (cs : List Value) (off : Nat) : Option Value :=
  match look T t with
  | none => none
  | some i => bif i.agg then some (.agg ((cs.drop off).take i.size).toArray) else cs[off]?

section
variable {P : Program} {T : Tab} (hT : TabOk P T) (w : World)
include hT
theorem run_isAgg {t : TypeId} {i : TI} (h : look T t = some i) : (isAgg t).run P w = .ok i.agg w := by
  have := hT.und t i h
  simp only [isAgg, Sem.run_bind, run_underlying this, Result.andThen_ok, TI.agg]
  cases i.desc <;> rfl
theorem run_sizeOf {t : TypeId} {i : TI} (h : look T t = some i) : (sizeOf t).run P w = .ok i.size w := by
  obtain ⟨x, h1, _, h3, _⟩ := hT.inf t i h
  simp [sizeOf, typeInfo, h1, h3]
theorem run_zeroValue {t : TypeId} {i : TI} (h : look T t = some i) {z : Value} (hz : i.zero = some z) : (zeroValue t).run P w = .ok z w := by
  obtain ⟨x, h1, h2, _, _⟩ := hT.inf t i h
  simp [zeroValue, typeInfo, h1, h2, hz]
omit hT in
theorem extract_list (cs : Array Value) (i j : Nat) : cs.extract i j = ((cs.toList.drop i).take (j - i)).toArray := by
  rw [← Array.toList_inj]
  simp [Array.toList_extract, List.extract_eq_take_drop]
theorem run_part {t : TypeId} {cs : Array Value} {off : Nat} {v : Value} (h : partV T t cs.toList off = some v) : (part t cs off).run P w = .ok v w := by
  unfold partV at h
  cases hl : look T t with
  | none => rw [hl] at h; cases h
  | some i =>
    rw [hl] at h
    simp only at h
    simp only [part, Sem.run_bind, run_isAgg hT w hl, Result.andThen_ok]
    cases ha : i.agg with
    | true =>
      rw [ha] at h
      simp only [cond_true, Option.some.injEq] at h
      simp only [if_true, Sem.run_bind, run_sizeOf hT w hl, Result.andThen_ok, Sem.run_pure]
      rw [← h, extract_list]
      simp
    | false =>
      rw [ha] at h
      simp only [cond_false] at h
      have : cs[off]? = some v := by rw [← h]; simp
      simp [this]
end

/-! ### what one operation yields -/
def intBin (op : BinOp) (k : IntKind) (a b : Int) : Option Value :=
  match op with
  | .add => some (.int k (k.wrap (a + b)))
  | .sub => some (.int k (k.wrap (a - b)))
  | .mul => some (.int k (k.wrap (a * b)))
  | .quo => if b = 0 then none else some (.int k (k.wrap (a.tdiv b)))
  | .rem => if b = 0 then none else some (.int k (a.tmod b))
  | .and => some (.int k (bits .and k a b))
  | .or => some (.int k (bits .or k a b))
  | .xor => some (.int k (bits .xor k a b))
  | .andNot => some (.int k (bits .andNot k a b))
  | .eql => some (.bool (decide (a = b)))
  | .neq => some (.bool (decide (¬ a = b)))
  | .lss => some (.bool (decide (a < b)))
  | .leq => some (.bool (decide (a ≤ b)))
  | .gtr => some (.bool (decide (b < a)))
  | .geq => some (.bool (decide (b ≤ a)))
  | _ => none
def shiftBin (op : BinOp) (k : IntKind) (a b : Int) : Option Value :=
  match op with
  | .shl => if b < 0 then none else some (.int k (k.wrap (a * 2 ^ (min b.toNat k.bits))))
  | .shr => if b < 0 then none else some (.int k (a / (2 ^ (min b.toNat k.bits))))
  | _ => none
def eqKind (a b : IntKind) : Bool := match a, b with
  | .i8, .i8 | .i16, .i16 | .i32, .i32 | .i64, .i64 | .u8, .u8 | .u16, .u16 | .u32, .u32 | .u64, .u64 => true
  | _, _ => false
theorem eqKind_eq {a b : IntKind} (h : eqKind a b = true) : a = b := by cases a <;> cases b <;> first | rfl | cases h
def isNil (T : Tab) (t : TypeId) (v u : Value) : Option Bool :=   -- '==' where one side is nil
  match look T t with
  | none => none
  | some i =>
    match i.desc, v, u with
    | .pointer _, .pointer none, .pointer none => some true
    | .pointer _, .pointer none, .pointer (some _) => some false
    | .pointer _, .pointer (some _), .pointer none => some false
    | .map _ _, .map none, .map none => some true
    | .map _ _, .map none, .map (some _) => some false
    | .map _ _, .map (some _), .map none => some false
    | .func _ _ _, .nilFunc, .nilFunc => some true
    | .func _ _ _, .nilFunc, .func _ _ _ => some false
    | .func _ _ _, .func _ _ _, .nilFunc => some false
    | .slice _, .slice none _ _, .slice none _ _ => some true
    | .slice _, .slice none _ _, .slice (some _) _ _ => some false
    | .slice _, .slice (some _) _ _, .slice none _ _ => some false
    | .bool, .bool a, .bool b => some (a == b)
    | _, _, _ => none
def binV (T : Tab) (op : BinOp) (t : TypeId) (v u : Value) : Option Value :=
  match v, u with
  | .int k a, .int k' b =>
    match op with
    | .shl | .shr => shiftBin op k a b
    | _ => bif eqKind k k' then intBin op k a b else none
  | .string _, _ => none
  | .float _ _, _ => none
  | .complex _ _ _, _ => none
  | _, _ =>
    match op with
    | .eql => match isNil T t v u with | some b => some (.bool b) | none => none
    | .neq => match isNil T t v u with | some b => some (.bool (!b)) | none => none
    | _ => none
def unV (op : UnOp) (v : Value) : Option Value :=
  match op, v with
  | .not, .bool b => some (.bool !b)
  | .neg, .int k n => some (.int k (k.wrap (0 - n)))
  | .xor, .int k n => some (.int k (bits .xor k (if k.signed then -1 else k.max) n))
  | _, _ => none
def evs (e : Env) : List Operand → Option (List Value)
  | [] => some []
  | x :: l => match ev e x with
    | none => none
    | some v => match evs e l with
      | none => none
      | some vs => some (v :: vs)
def addFld (T : Tab) (s : TypeId) (a : Addr) (f : Nat) : Option Value :=
  match look T s with
  | some { desc := .struct fs, .. } =>
    match fs[f]? with
    | some fd => match look T fd.type with
      | some i => bif Nat.beq i.size 0 then none else some (.pointer (some (a.add fd.offset)))
      | none => none
    | none => none
  | _ => none
def fldV (T : Tab) (s : TypeId) (cs : List Value) (f : Nat) : Option Value :=
  match look T s with
  | some { desc := .struct fs, .. } => match fs[f]? with
    | some fd => partV T fd.type cs fd.offset
    | none => none
  | _ => none
def maxV : Value → Value → Option Value
  | .int k x, .int k' y => bif eqKind k k' then some (.int k (if y > x then y else x)) else none
  | _, _ => none
def minV : Value → Value → Option Value
  | .int k x, .int k' y => bif eqKind k k' then some (.int k (if y < x then y else x)) else none
  | _, _ => none
def foldV (f : Value → Value → Option Value) : Value → List Value → Option Value
  | v, [] => some v
  | v, u :: l => match f v u with | some x => foldV f x l | none => none
def builtV (T : Tab) (b : Builtin) (ats : Array TypeId) (args : List Value) : Option Value :=
  match b, args with
  | .len, [v] => match ats[0]? with
    | none => none
    | some t => match look T t, v with
      | some { desc := .slice _, .. }, .slice _ n _ => some (.int .i64 n)
      | some { desc := .array n _, .. }, _ => some (.int .i64 n)
      | some { desc := .map _ _, .. }, .map none => some (.int .i64 0)
      | _, _ => none
  | .cap, [v] => match ats[0]? with
    | none => none
    | some t => match look T t, v with
      | some { desc := .slice _, .. }, .slice _ _ c => some (.int .i64 c)
      | _, _ => none
  | .max, v :: l => foldV maxV v l
  | .min, v :: l => foldV minV v l
  | _, _ => none
def opV (T : Tab) (e : Env) (op : Op) : Option Value :=
  match op with
  | .move x | .assign x => ev e x
  | .pick c a b => match ev e c with
    | some (.bool true) => ev e a
    | some (.bool false) => ev e b
    | _ => none
  | .binOp op t x y _ => match ev e x, ev e y with
    | some v, some u => binV T op t v u
    | _, _ => none
  | .unOp op _ x => match ev e x with
    | some v => unV op v
    | _ => none
  | .convert src dst x => match look T src, look T dst, ev e x with
    | some _, some { desc := .int k, .. }, some (.int _ n) => some (.int k (k.wrap n))
    | _, _, _ => none
  | .extract x i => match ev e x with
    | some (.tuple vs) => vs[i]?
    | _ => none
  | .field s x f => match ev e x with
    | some (.agg cs) => fldV T s cs.toList f
    | _ => none
  | .fieldAddr s x f => match ev e x with
    | some (.pointer (some a)) => addFld T s a f
    | _ => none
  | .nilCheck x => match ev e x with
    | some (.pointer (some a)) => some (.pointer (some a))
    | some (.func (.func f) u v) => some (.func (.func f) u v)
    | _ => none
  | .makeFunc fn first captured => match evs e first.toList, evs e captured.toList with
    | some u, some v => some (.func fn u.toArray v.toArray)
    | _, _ => none
  | .call { callee := .builtin b, args, argTypes } => match evs e args.toList with
    | some vs => builtV T b argTypes vs
    | _ => none
  | _ => none

section
variable {P : Program} {T : Tab} {n : Nat} {e : Env} {a : Act}
theorem Fr.evs (hf : Fr n e a) : ∀ {l : List Operand} {vs : List Value}, Cof.evs e l = some vs → l.map a.eval = vs
  | [], _, h => by simp only [Cof.evs, Option.some.injEq] at h; simp [h]
  | x :: l, vs, h => by
    simp only [Cof.evs] at h
    cases h1 : Cof.ev e x with
    | none => rw [h1] at h; cases h
    | some v =>
      rw [h1] at h
      simp only at h
      cases h2 : Cof.evs e l with
      | none => rw [h2] at h; cases h
      | some us =>
        rw [h2] at h
        simp only [Option.some.injEq] at h
        rw [← h, List.map_cons, hf.ev h1, hf.evs h2]

theorem int_of_shift (k yk : IntKind) (op : BinOp) (x y : Int) (v : Value) (h : shiftBin op k x y = some v) (w : World) : (Op.shift op k x yk y).run P w = .ok v w := by
  unfold shiftBin at h
  cases op <;> simp only at h <;> try cases h
  · split at h
    · cases h
    · cases h; rename_i hy; simp [Op.shift, hy]
  · split at h
    · cases h
    · cases h; rename_i hy; simp only [Op.shift, hy, if_false, Sem.run_pure, Result.ok.injEq, Value.int.injEq, true_and, and_true]
      exact Int.fdiv_eq_ediv_of_nonneg _ (Int.le_of_lt (Int.pow_pos (by decide)))

theorem bit_run (op : BinOp) (k : IntKind) (x y : Int) (hop : op = .and ∨ op = .or ∨ op = .xor ∨ op = .andNot) (w : World) : (Op.intBits op k x y).run P w = .ok (.int k (bits op k x y)) w := by
  rcases hop with rfl | rfl | rfl | rfl <;> rfl

theorem isNil_run (hT : TabOk P T) {t : TypeId} {v u : Value} {b : Bool} (h : isNil T t v u = some b) (d : Nat) (w : World) : (Op.equalIn (d + 1) t v u).run P w = .ok b w := by
  unfold isNil at h
  cases hl : look T t with
  | none => rw [hl] at h; cases h
  | some i =>
    rw [hl] at h
    have hu := hT.und t i hl
    simp only at h
    unfold Op.equalIn
    simp only [Sem.run_bind, run_underlying hu, Result.andThen_ok]
    split at h
    all_goals first | (cases h; done) | (rename_i e1; rw [e1]; cases h; rfl)

theorem isNil_form {t : TypeId} {v u : Value} {b : Bool} (h : isNil T t v u = some b) : (∀ op x y, eqGuard op t x y v u = pure ()) ∧
    (binOp .eql t v u = (do pure (.bool (← Op.equal t v u)))) ∧ (binOp .neq t v u = (do pure (.bool (!(← Op.equal t v u))))) := by
  unfold isNil at h
  cases hl : look T t with
  | none => rw [hl] at h; cases h
  | some i =>
    rw [hl] at h
    simp only at h
    split at h
    all_goals first | (cases h; done) | exact ⟨fun op x y => by cases op <;> rfl, rfl, rfl⟩

theorem binV_run (hT : TabOk P T) {op : BinOp} {t : TypeId} {v u r : Value} (h : binV T op t v u = some r) (x y : Operand) (w : World) : (do eqGuard op t x y v u; binOp op t v u : Sem Value).run P w = .ok r w := by
  unfold binV at h
  split at h
  · rename_i k a k' b
    simp only [Sem.run_bind, eqGuard_at_int, Sem.run_pure, Result.andThen_ok]
    split at h
    · simp only [binOp]; exact int_of_shift _ _ _ _ _ _ h w
    · simp only [binOp]; exact int_of_shift _ _ _ _ _ _ h w
    · rename_i h1 h2
      cases hk : eqKind k k' with
      | false => rw [hk] at h; cases h
      | true =>
        rw [hk] at h
        have := eqKind_eq hk
        subst this
        simp only [cond_true] at h
        unfold intBin at h
        cases op <;> simp only [reduceCtorEq, Option.some.injEq] at h <;> first | cases h | skip
        all_goals first
          | (exact absurd rfl h1)
          | (exact absurd rfl h2)
          | (split at h; · cases h
             cases h; rename_i hb; simp [binOp, Op.intDiv, hb]; done)
          | (simp [binOp, Op.intArith]; done)
          | (rw [binOp_and]; exact bit_run _ _ _ _ (by simp) w)
          | (rw [binOp_or]; exact bit_run _ _ _ _ (by simp) w)
          | (rw [binOp_xor]; exact bit_run _ _ _ _ (by simp) w)
          | (rw [binOp_andNot]; exact bit_run _ _ _ _ (by simp) w)
          | (simp [binOp, Op.intCmp]; done)
          | (rw [binOp_neq, show (a != b) = decide (¬ a = b) from by by_cases hab : a = b <;> simp [hab]]; rfl)
          | (rw [binOp_eql, show (a == b) = decide (a = b) from by by_cases hab : a = b <;> simp [hab]]; rfl)
  · cases h
  · cases h
  · cases h
  · split at h
    · cases hb : isNil T t v u with
      | none => rw [hb] at h; cases h
      | some b =>
        rw [hb] at h
        simp only [Option.some.injEq] at h
        obtain ⟨h1, h2, _⟩ := isNil_form hb
        rw [h1, h2, ← h]
        have := isNil_run hT hb 9999 w
        simp only [Sem.run_bind, Sem.run_pure, Result.andThen_ok]
        rw [show Op.equal t v u = Op.equalIn (9999 + 1) t v u from rfl, this]
        rfl
    · cases hb : isNil T t v u with
      | none => rw [hb] at h; cases h
      | some b =>
        rw [hb] at h
        simp only [Option.some.injEq] at h
        obtain ⟨h1, _, h2⟩ := isNil_form hb
        rw [h1, h2, ← h]
        have := isNil_run hT hb 9999 w
        simp only [Sem.run_bind, Sem.run_pure, Result.andThen_ok]
        rw [show Op.equal t v u = Op.equalIn (9999 + 1) t v u from rfl, this]
        rfl
    · cases h

theorem addFld_run (hT : TabOk P T) {s : TypeId} {ad : Addr} {f : Nat} {r : Value} (h : addFld T s ad f = some r) (w : World) : (Instr.fieldAt s (.pointer (some ad)) f).run P w = .ok r w := by
  unfold addFld at h
  split at h
  · rename_i fs _ _ _ hl
    have hu := hT.und s _ hl
    split at h
    · rename_i fd hfd
      split at h
      · rename_i i hi
        cases hc : Nat.beq i.size 0 with
        | true => rw [hc] at h; cases h
        | false =>
          rw [hc] at h
          simp only [cond_false, Option.some.injEq] at h
          have hz : ¬ i.size = 0 := fun e => by rw [e] at hc; cases hc
          simp [Instr.fieldAt, run_underlying hu, hfd, Instr.sureAddr, fieldPlace, run_sizeOf hT w hi, hz, ← h]
      · cases h
    · cases h
  · cases h

theorem fldV_run (hT : TabOk P T) {s : TypeId} {cs : Array Value} {f : Nat} {r : Value} (h : fldV T s cs.toList f = some r) (w : World) : (Instr.field s (.agg cs) f).run P w = .ok r w := by
  unfold fldV at h
  split at h
  · rename_i fs _ _ _ hl
    have hu := hT.und s _ hl
    split at h
    · rename_i fd hfd
      simp [Instr.field, run_underlying hu, hfd, asAgg, run_part hT w h]
    · cases h
  · cases h

theorem foldV_run {f : Value → Value → Option Value} {g : Value → Value → Sem Value} (hfg : ∀ v u r w, f v u = some r → (g v u).run P w = .ok r w) (w : World) : ∀ (l : List Value) (v r : Value), foldV f v l = some r → (l.foldlM g v).run P w = .ok r w
  | [], v, r, h => by simp only [foldV, Option.some.injEq] at h; simp [h]
  | u :: l, v, r, h => by
    simp only [foldV] at h
    cases h1 : f v u with
    | none => rw [h1] at h; cases h
    | some x =>
      rw [h1] at h
      simp only [List.foldlM_cons, Sem.run_bind, hfg v u x w h1, Result.andThen_ok]
      exact foldV_run hfg w l x r h
theorem maxV_run (v u r : Value) (w : World) (h : maxV v u = some r) : (Builtin.max2 v u).run P w = .ok r w := by
  unfold maxV at h
  split at h
  · rename_i k x k' y
    cases hk : eqKind k k' with
    | false => rw [hk] at h; cases h
    | true => rw [hk] at h; simp only [cond_true, Option.some.injEq] at h; simp [Builtin.max2, h]
  · cases h
theorem minV_run (v u r : Value) (w : World) (h : minV v u = some r) : (Builtin.min2 v u).run P w = .ok r w := by
  unfold minV at h
  split at h
  · rename_i k x k' y
    cases hk : eqKind k k' with
    | false => rw [hk] at h; cases h
    | true => rw [hk] at h; simp only [cond_true, Option.some.injEq] at h; simp [Builtin.min2, h]
  · cases h
theorem builtV_run (hT : TabOk P T) {b : Builtin} {ats : Array TypeId} {args : List Value} {r : Value} (h : builtV T b ats args = some r) (ty : TypeId) (cs : Array Bool) (w : World) : (builtin b ats ty cs args.toArray).run P w = .ok (.value r) w := by
  unfold builtV at h
  split at h
  · split at h
    · cases h
    · rename_i t ht
      split at h
      · rename_i hl
        cases h
        simp [builtin, Builtin.len_, ht, run_underlying (hT.und _ _ hl), goInt]
      · rename_i hl
        cases h
        simp [builtin, Builtin.len_, ht, run_underlying (hT.und _ _ hl), goInt]
      · rename_i hl
        cases h
        simp [builtin, Builtin.len_, ht, run_underlying (hT.und _ _ hl), goInt]
      · cases h
  · split at h
    · cases h
    · rename_i t ht
      split at h
      · rename_i hl
        cases h
        simp [builtin, Builtin.cap_, ht, run_underlying (hT.und _ _ hl), goInt]
      · cases h
  · simp [builtin, Builtin.max_, foldV_run maxV_run w _ _ _ h]
  · simp [builtin, Builtin.min_, foldV_run minV_run w _ _ _ h]
  · cases h

theorem opV_run (hT : TabOk P T) (hf : Fr n e a) (o : Oper) {v : Value} (h : opV T e o.op = some v) (w : World) : (execOp a.eval o).run P w = .ok (.value v) w := by
  obtain ⟨dst, op, ty, pos, after, guard⟩ := o
  simp only at h
  unfold execOp
  simp only
  unfold opV at h
  split at h
  · simp [hf.ev h]
  · simp [hf.ev h]
  · rename_i c x y
    split at h
    · rename_i hc
      simp only [Sem.run_bind, hf.ev hc, asBool, Sem.run_pure, Result.andThen_ok, hf.ev h]
      rfl
    · rename_i hc
      simp only [Sem.run_bind, hf.ev hc, asBool, Sem.run_pure, Result.andThen_ok, hf.ev h]
      rfl
    · cases h
  · rename_i op t x y t'
    split at h
    · rename_i v1 u1 hv hu
      have := binV_run hT h x y w
      simp only [Sem.run_bind] at this
      simp only [Sem.run_bind, hf.ev hv, hf.ev hu]
      rw [this]
      rfl
    · cases h
  · rename_i op t x
    split at h
    · rename_i v1 hv
      unfold unV at h
      simp only [Sem.run_bind, hf.ev hv]
      split at h
      · cases h; rfl
      · cases h; rfl
      · cases h; rfl
      · cases h
    · cases h
  · rename_i src dst x
    split at h
    · rename_i i1 k _ _ _ k' m h1 h2 h3
      cases h
      simp only [Sem.run_bind, hf.ev h3]
      have g1 := hT.und _ _ h1
      have g2 := hT.und _ _ h2
      simp only [convert, Sem.run_bind, run_underlying g1, run_underlying g2, Result.andThen_ok]
      cases i1.desc <;> rfl
    · cases h
  · rename_i x i
    split at h
    · rename_i vs hv
      simp [hf.ev hv, Instr.extract, h]
    · cases h
  · rename_i s x f
    split at h
    · rename_i cs hv
      simp [hf.ev hv, fldV_run hT h w]
    · cases h
  · rename_i s x f
    split at h
    · rename_i ad hv
      simp [hf.ev hv, addFld_run hT h w]
    · cases h
  · rename_i x
    split at h
    · rename_i ad hv; cases h; simp [hf.ev hv]
    · rename_i f1 u1 v1 hv; cases h; simp [hf.ev hv]
    · cases h
  · rename_i fn first captured
    split at h
    · rename_i u1 v1 hu hv
      cases h
      have g1 := hf.evs hu
      have g2 := hf.evs hv
      have e1 : ∀ l : Array Operand, (l.toList.map a.eval).toArray = l.map a.eval := fun l => by rw [← Array.toList_inj]; simp
      simp [Instr.makeFunc, ← g1, ← g2, e1]
    · cases h
  · rename_i b args ats
    split at h
    · rename_i vs hv
      have g := hf.evs hv
      have e1 : (args.toList.map a.eval).toArray = args.map a.eval := by rw [← Array.toList_inj]; simp
      simp only [resolve, invoke, Sem.run_bind, Sem.run_pure, Result.andThen_ok]
      rw [← e1, g]
      exact builtV_run hT h ty _ w
    · cases h
  · cases h
end
end Go.Cof
set_option linter.unusedVariables false
set_option linter.unusedSectionVars false
namespace Go.Cof
open Go.RowKit

theorem Addr.add_add (a : Addr) (p q : Nat) : (a.add p).add q = a.add (p + q) := by
  unfold Addr.add
  by_cases hp : p = 0
  · subst hp; simp
  · by_cases hq : q = 0
    · subst hq; simp [hp]
    · simp [hp, hq]; omega

def blk (b : Nat) (cs : List Value) (e : TypeId) : HProp := fun h => h b = some (.cells cs.toArray e (0, 0))
def cellH (h : Hp) (a : Addr) : Option Value :=
  match h a.block with
  | some (.cells c _ _) => if a.spot.isSome then none else c[a.off]?
  | _ => none
theorem cellH_le {h g : Hp} (hl : Hp.le h g) {a : Addr} {v : Value} (hv : cellH h a = some v) : cellH g a = some v := by
  unfold cellH at hv ⊢
  cases hb : h a.block with
  | none => rw [hb] at hv; cases hv
  | some o => rw [hl _ _ hb]; rw [hb] at hv; exact hv
theorem cellH_world {w : World} {a : Addr} {v : Value} (hv : cellH (World.hp w) a = some v) : w.cell? a = some v := hv

/-- How the elements of a slice lie in cells. -/
structure Enc (α : Type) where
  enc : α → List Value
  sz : Nat
  len : ∀ x, (enc x).length = sz
  pos : 0 < sz
  one : ∀ x u, u ∈ enc x → u.oneCell' = true
def flat {α : Type} (E : Enc α) (xs : List α) : List Value := xs.flatMap E.enc
theorem flat_length {α : Type} (E : Enc α) (xs : List α) : (flat E xs).length = xs.length * E.sz := by
  induction xs with
  | nil => simp [flat]
  | cons x xs ih => simp only [flat, List.flatMap_cons, List.length_append, E.len, List.length_cons] at ih ⊢; rw [ih, Nat.succ_mul]; omega
theorem flat_append {α : Type} (E : Enc α) (xs ys : List α) : flat E (xs ++ ys) = flat E xs ++ flat E ys := by simp [flat]
theorem flat_one {α : Type} (E : Enc α) (xs : List α) : ∀ u ∈ flat E xs, u.oneCell' = true := by
  intro u hu
  simp only [flat, List.mem_flatMap] at hu
  obtain ⟨x, _, h⟩ := hu
  exact E.one x u h
theorem flat_get {α : Type} (E : Enc α) : ∀ (xs : List α) (i : Nat) (x : α) (j : Nat) (u : Value), xs[i]? = some x → (E.enc x)[j]? = some u → (flat E xs)[i * E.sz + j]? = some u
  | [], i, x, j, u, h, _ => by simp at h
  | y :: xs, 0, x, j, u, h, hu => by
    simp only [List.getElem?_cons_zero, Option.some.injEq] at h
    subst h
    simp only [flat, List.flatMap_cons, Nat.zero_mul, Nat.zero_add]
    rw [List.getElem?_append_left (by exact (List.getElem?_eq_some_iff.1 hu).1)]
    exact hu
  | y :: xs, i + 1, x, j, u, h, hu => by
    simp only [List.getElem?_cons_succ] at h
    have := flat_get E xs i x j u h hu
    simp only [flat, List.flatMap_cons] at this ⊢
    rw [List.getElem?_append_right (by rw [E.len, Nat.succ_mul]; omega), E.len]
    rw [show (i + 1) * E.sz + j - E.sz = i * E.sz + j from by rw [Nat.succ_mul]; omega]
    exact this
theorem flat_take {α : Type} (E : Enc α) (xs : List α) (k : Nat) : (flat E xs).take (k * E.sz) = flat E (xs.take k) := by
  induction xs generalizing k with
  | nil => simp [flat]
  | cons x xs ih =>
    cases k with
    | zero => simp [flat]
    | succ k =>
      simp only [flat, List.flatMap_cons, List.take_succ_cons] at ih ⊢
      rw [List.take_append, E.len, show (k + 1) * E.sz - E.sz = k * E.sz from by rw [Nat.succ_mul]; omega, ih k, List.take_of_length_le (by rw [E.len, Nat.succ_mul]; omega)]
theorem flat_drop {α : Type} (E : Enc α) (xs : List α) (k : Nat) : (flat E xs).drop (k * E.sz) = flat E (xs.drop k) := by
  induction xs generalizing k with
  | nil => simp [flat]
  | cons x xs ih =>
    cases k with
    | zero => simp [flat]
    | succ k =>
      simp only [flat, List.flatMap_cons, List.drop_succ_cons] at ih ⊢
      rw [List.drop_append, E.len, show (k + 1) * E.sz - E.sz = k * E.sz from by rw [Nat.succ_mul]; omega, ih k, List.drop_of_length_le (by rw [E.len, Nat.succ_mul]; omega)]
      simp

def bs (A : Option Addr) : Addr := A.getD ⟨0, 0, none⟩
/-- The cells behind an address are these. -/
def rdC (h : Hp) (A : Option Addr) (cs : List Value) : Prop := (0 < cs.length → A.isSome = true) ∧ ∀ j u, cs[j]? = some u → cellH h ((bs A).add j) = some u
/-- A slice reads as this list. -/
def rdS {α : Type} (E : Enc α) (h : Hp) (A : Option Addr) (m : Nat) (xs : List α) : Prop := m = xs.length ∧ rdC h A (flat E xs)
theorem rdC.le {h g : Hp} {A : Option Addr} {cs : List Value} (r : rdC h A cs) (hl : Hp.le h g) : rdC g A cs := ⟨r.1, fun j u hu => cellH_le hl (r.2 j u hu)⟩
theorem rdS.le {α : Type} {E : Enc α} {h g : Hp} {A : Option Addr} {m : Nat} {xs : List α} (r : rdS E h A m xs) (hl : Hp.le h g) : rdS E g A m xs := ⟨r.1, r.2.le hl⟩
theorem rdS.pos {α : Type} {E : Enc α} {h : Hp} {A : Option Addr} {m : Nat} {xs : List α} (r : rdS E h A m xs) (hm : 0 < m) : A.isSome = true :=
  r.2.1 (by rw [flat_length, ← r.1]; exact Nat.mul_pos hm E.pos)
theorem rdS.nil {α : Type} (E : Enc α) (h : Hp) (A : Option Addr) : rdS E h A 0 ([] : List α) := ⟨rfl, fun hh => absurd hh (by simp [flat]), fun j u hu => by simp [flat] at hu⟩
theorem rdS.cell {α : Type} {E : Enc α} {h : Hp} {A : Option Addr} {m : Nat} {xs : List α} (r : rdS E h A m xs) {i : Nat} {x : α} {j : Nat} {u : Value} (hx : xs[i]? = some x) (hu : (E.enc x)[j]? = some u) : cellH h (((bs A).add (i * E.sz)).add j) = some u := by
  rw [Addr.add_add]
  exact r.2.2 _ u (flat_get E xs i x j u hx hu)

/-- A slice of the call's own: nobody else has its array. -/
def own {α : Type} (E : Enc α) (A : Option Addr) (m c : Nat) (xs : List α) : HProp := fun h =>
  (A = none ∧ m = 0 ∧ c = 0 ∧ xs = []) ∨
  ∃ g cur e, A = some ⟨g, 0, none⟩ ∧ h g = some (.cells cur e (0, 0)) ∧ m = xs.length ∧ m ≤ c ∧ c ≤ maxLen ∧ cur.size = c * E.sz ∧ cur.toList.take (m * E.sz) = flat E xs
theorem own_len {α : Type} {E : Enc α} {A : Option Addr} {m c : Nat} {xs : List α} {h : Hp} (o : own E A m c xs h) : m = xs.length ∧ m ≤ c ∧ c ≤ maxLen := by
  rcases o with ⟨_, rfl, rfl, rfl⟩ | ⟨_, _, _, _, _, h1, h2, h3, _⟩
  · exact ⟨rfl, Nat.le_refl _, Nat.zero_le _⟩
  · exact ⟨h1, h2, h3⟩
theorem own_rd {α : Type} {E : Enc α} {A : Option Addr} {m c : Nat} {xs : List α} {h : Hp} (o : own E A m c xs h) : rdS E h A m xs := by
  rcases o with ⟨_, rfl, _, rfl⟩ | ⟨g, cur, e, rfl, hg, h1, h2, h3, h4, h5⟩
  · exact rdS.nil E h A
  · refine ⟨h1, fun _ => rfl, fun j u hu => ?_⟩
    rw [← h5, List.getElem?_take] at hu
    split at hu
    · have : cur[j]? = Option.some u := by simpa using hu
      simp only [bs, Option.getD_some, Addr.add_lit, cellH, hg, Nat.zero_add]
      simpa using this
    · cases hu
theorem own_take {α : Type} {E : Enc α} {A : Option Addr} {m c : Nat} {xs : List α} {h : Hp} (o : own E A m c xs h) (k : Nat) (hk : k ≤ m) : own E A k c (xs.take k) h := by
  rcases o with ⟨rfl, rfl, rfl, rfl⟩ | ⟨g, cur, e, rfl, hg, h1, h2, h3, h4, h5⟩
  · left; exact ⟨rfl, by omega, rfl, by simp⟩
  · right
    refine ⟨g, cur, e, rfl, hg, by rw [List.length_take]; omega, by omega, h3, h4, ?_⟩
    rw [← flat_take, ← h5, List.take_take, Nat.min_eq_left (Nat.mul_le_mul_right _ hk)]
theorem own_of_blk {α : Type} {E : Enc α} {e : TypeId} {b : Nat} {cs : List Value} {m : Nat} {xs : List α} {h : Hp} (o : blk b cs e h) (hm : m = xs.length) (hc : cs = flat E xs) (hl : m ≤ maxLen) : own E (some ⟨b, 0, none⟩) m m xs h := by
  subst hm hc
  refine .inr ⟨b, _, e, rfl, o, rfl, Nat.le_refl _, hl, ?_, ?_⟩
  · simp [flat_length]
  · simp only []
    rw [← flat_length E xs, List.take_length]
theorem blk_rd {b : Nat} {cs : List Value} {e : TypeId} {h : Hp} (o : blk b cs e h) : rdC h (some ⟨b, 0, none⟩) cs := ⟨fun _ => rfl, fun j u hu => by
  simp only [bs, Option.getD_some, Addr.add_lit, cellH, show h b = _ from o, Nat.zero_add]
  simpa using hu⟩
theorem blk_rdS {α : Type} {E : Enc α} {b : Nat} {cs : List Value} {e : TypeId} {m : Nat} {xs : List α} {h : Hp} (o : blk b cs e h) (hm : m = xs.length) (hc : cs = flat E xs) : rdS E h (some ⟨b, 0, none⟩) m xs := ⟨hm, hc ▸ blk_rd o⟩

/-- What is left of a slice behind its first l elements (cc: the capacity that is cut to). -/
def sbA (A : Option Addr) (sz l cc : Nat) : Option Addr := if cc = l then A else A.map (·.add (l * sz))
theorem rdS.sub {α : Type} {E : Enc α} {h : Hp} {A : Option Addr} {m : Nat} {xs : List α} (r : rdS E h A m xs) {l k cc : Nat} (h1 : l ≤ k) (h2 : k ≤ m) (h3 : k ≤ cc) : rdS E h (sbA A E.sz l cc) (k - l) ((xs.take k).drop l) := by
  have hm := r.1
  refine ⟨by rw [List.length_drop, List.length_take]; omega, ?_, ?_⟩
  · intro hp
    rw [flat_length, List.length_drop, List.length_take] at hp
    have : 0 < m := by
      rcases Nat.eq_zero_or_pos m with hz | hz
      · have : (min k xs.length - l) = 0 := by omega
        rw [this] at hp; simp at hp
      · exact hz
    unfold sbA
    have := r.pos this
    split
    · exact this
    · rw [Option.isSome_map]; exact this
  · intro j u hu
    rw [← flat_drop, ← flat_take, List.getElem?_drop, List.getElem?_take] at hu
    split at hu
    · rename_i hlt
      have hc := r.2.2 _ u hu
      unfold sbA
      by_cases he : cc = l
      · exfalso; have : k = l := by omega
        subst this; omega
      · rw [if_neg he]
        cases A with
        | none =>
          have : (none : Option Addr).isSome = true := r.2.1 (by rw [flat_length]; rcases Nat.eq_zero_or_pos xs.length with hz | hz
                                                                 · have hk : k = 0 := by omega
                                                                   subst hk; simp at hlt
                                                                 · exact Nat.mul_pos hz E.pos)
          cases this
        | some a =>
          simp only [bs, Option.map_some, Option.getD_some] at hc ⊢
          rw [Addr.add_add]; exact hc
    · cases hu

def putAt (cs : List Value) (i : Nat) : List Value → List Value
  | [] => cs
  | v :: vs => putAt (cs.set i v) (i + 1) vs
theorem putAt_length : ∀ (vs cs : List Value) (i : Nat), (putAt cs i vs).length = cs.length
  | [], _, _ => rfl
  | v :: vs, cs, i => by simp only [putAt]; rw [putAt_length vs]; simp
theorem putAt_eq : ∀ (vs cs : List Value) (i : Nat), i + vs.length ≤ cs.length → putAt cs i vs = cs.take i ++ vs ++ cs.drop (i + vs.length)
  | [], cs, i, h => by simp [putAt]
  | v :: vs, cs, i, h => by
    have hl : i < cs.length := by simp at h; omega
    simp only [putAt]
    rw [putAt_eq vs (cs.set i v) (i + 1) (by simp at h ⊢; omega)]
    simp only [List.length_cons]
    have e1 : (cs.set i v).take (i + 1) = cs.take i ++ [v] := by
      rw [List.take_succ_eq_append_getElem (by simpa using hl)]
      simp [List.take_set_of_le]
    have e2 : (cs.set i v).drop (i + 1 + vs.length) = cs.drop (i + (vs.length + 1)) := by
      rw [List.drop_set_of_lt (by omega)]
      congr 1; omega
    rw [e1, e2]; simp

/-! ### the state's parts -/
section
variable {F : Frz} {w : World} {L : List HProp}
theorem perm_at : ∀ {L : List HProp} {k : Nat} {A : HProp}, L[k]? = some A → L.Perm (A :: L.eraseIdx k)
  | [], k, A, h => by simp at h
  | B :: L, 0, A, h => by simp at h; subst h; exact List.Perm.refl _
  | B :: L, k + 1, A, h => by
    simp only [List.getElem?_cons_succ] at h
    exact ((perm_at h).cons B).trans (List.Perm.swap _ _ _)
theorem perm_set : ∀ {L : List HProp} {k : Nat} {A B : HProp}, L[k]? = some A → (B :: L.eraseIdx k).Perm (L.set k B)
  | [], k, A, B, h => by simp at h
  | C :: L, 0, A, B, h => by simp
  | C :: L, k + 1, A, B, h => by
    simp only [List.getElem?_cons_succ] at h
    simp only [List.eraseIdx_cons_succ, List.set_cons_succ]
    exact (List.Perm.swap _ _ _).trans ((perm_set h).cons C)
theorem St.at (h : St F w L) {k : Nat} {A : HProp} (hk : L[k]? = some A) : ∃ g : Hp, Hp.le g (World.hp w) ∧ Hp.disj F.heap g ∧ A g := h.mem (List.mem_of_getElem? hk)
theorem St.turnAt {w' : World} {k : Nat} {A B : HProp} (h : St F w L) (hk : L[k]? = some A)
    (ht : ∀ g : Hp, Hp.le g (World.hp w) → A g → ∃ b, g b ≠ none ∧ w'.os = w.os ∧ w'.tape = w.tape ∧ w'.output = w.output ∧ w.heap.size ≤ w'.heap.size ∧ (∀ k, k ≠ b → k < w.heap.size → w'.heap[k]? = w.heap[k]?) ∧
      ∃ g' : Hp, (∀ k o, g' k = some o → w'.heap[k]? = some o ∧ (g k ≠ none ∨ w.heap.size ≤ k)) ∧ B g') : St F w' (L.set k B) :=
  ((h.perm (perm_at hk)).turn ht).perm (perm_set hk)
theorem stars_conv {k : Nat} {A B : HProp} (hk : L[k]? = some A) (hi : ∀ h, A h → B h) {h : Hp} (hs : stars L h) : stars (L.set k B) h := stars_perm (perm_set hk) (stars_imp hi (stars_perm (perm_at hk) hs))
end

section
variable {P : Program} {T : Tab} {F : Frz} {n : Nat} {Q : Exit → Act → World → Prop} {e : Env} {L : List HProp} {ops : Array Oper} {l : List Oper} {d : Option Tmp} {ty : TypeId} {pos : String} {af : Array Edge}

/-- What is owned is told in other words. -/
theorem XL_mem {M : List HProp} (hi : ∀ h, stars L h → stars M h) (h : XL P F n ops l Q e M) : XL P F n ops l Q e L := .mk fun a w hf hs => h a w hf (hs.imp hi)
theorem X_mem {c : Code} {M : List HProp} (hi : ∀ h, stars L h → stars M h) (h : X P F n c Q e M) : X P F n c Q e L := .mk fun a w hf hs => h a w hf (hs.imp hi)
theorem XL_conv {A : HProp} (k : Nat) (B : HProp) (hk : L[k]? = some A) (hi : ∀ h, A h → B h) (h : XL P F n ops l Q e (L.set k B)) : XL P F n ops l Q e L := XL_mem (fun _ hs => stars_conv hk hi hs) h
theorem X_conv {c : Code} {A : HProp} (k : Nat) (B : HProp) (hk : L[k]? = some A) (hi : ∀ h, A h → B h) (h : X P F n c Q e (L.set k B)) : X P F n c Q e L := X_mem (fun _ hs => stars_conv hk hi hs) h
/-- A fact of an owned part. -/
theorem XL_fact {A : HProp} (k : Nat) {p : Prop} (hk : L[k]? = some A) (hi : ∀ h, A h → p) (h : p → XL P F n ops l Q e L) : XL P F n ops l Q e L := XL_look (fun w hs => let ⟨g, _, _, hA⟩ := hs.at hk; hi g hA) h
theorem X_fact {c : Code} {A : HProp} (k : Nat) {p : Prop} (hk : L[k]? = some A) (hi : ∀ h, A h → p) (h : p → X P F n c Q e L) : X P F n c Q e L := X_look (fun w hs => let ⟨g, _, _, hA⟩ := hs.at hk; hi g hA) h

/-! ### pure operations -/
theorem XL_op (hT : TabOk P T) {op : Op} {v : Value} {e' : Env} (h : opV T e op = some v) (hp : putE n d v e = some e') (hx : XL P F n ops l Q e' L) : XL P F n ops (⟨d, op, ty, pos, af, none⟩ :: l) Q e L :=
  XL_val (o := ⟨d, op, ty, pos, af, none⟩) rfl hp (fun a w hf _ => opV_run hT hf _ h w) hx
theorem XL_int {j : Nat} {k : IntKind} {x y : Int} (hxy : x = y) (h : XL P F n ops l Q ((j, .int k y) :: e) L) : XL P F n ops l Q ((j, .int k x) :: e) L := hxy ▸ h
theorem XL_head {j : Nat} {x y : Value} (hxy : x = y) (h : XL P F n ops l Q ((j, y) :: e) L) : XL P F n ops l Q ((j, x) :: e) L := hxy ▸ h
theorem XL_dec {j : Nat} {p : Prop} [Decidable p] (h1 : p → XL P F n ops l Q ((j, .bool true) :: e) L) (h2 : ¬ p → XL P F n ops l Q ((j, .bool false) :: e) L) : XL P F n ops l Q ((j, .bool (decide p)) :: e) L := by
  by_cases hp : p
  · rw [decide_eq_true hp]; exact h1 hp
  · rw [decide_eq_false hp]; exact h2 hp
theorem XL_dec_t {j : Nat} {p : Prop} [Decidable p] (hp : p) (h1 : XL P F n ops l Q ((j, .bool true) :: e) L) : XL P F n ops l Q ((j, .bool (decide p)) :: e) L := by rw [decide_eq_true hp]; exact h1
theorem XL_dec_f {j : Nat} {p : Prop} [Decidable p] (hp : ¬ p) (h1 : XL P F n ops l Q ((j, .bool false) :: e) L) : XL P F n ops l Q ((j, .bool (decide p)) :: e) L := by rw [decide_eq_false hp]; exact h1
theorem XL_bool {j : Nat} {b : Bool} (h1 : b = true → XL P F n ops l Q ((j, .bool true) :: e) L) (h2 : b = false → XL P F n ops l Q ((j, .bool false) :: e) L) : XL P F n ops l Q ((j, .bool b) :: e) L := by
  cases b
  · exact h2 rfl
  · exact h1 rfl

theorem wrap_i64 {x : Int} (h1 : -9223372036854775808 ≤ x) (h2 : x < 9223372036854775808) : IntKind.i64.wrap x = x := by
  simp [IntKind.wrap, IntKind.bits, IntKind.signed]
  split <;> omega
theorem wrap_u64' (x : Int) : IntKind.u64.wrap x = x % 18446744073709551616 := by
  simp [IntKind.wrap, IntKind.bits, IntKind.signed]
theorem wrap_u8' (x : Int) : IntKind.u8.wrap x = x % 256 := by
  simp [IntKind.wrap, IntKind.bits, IntKind.signed]
theorem wrap_u64 {x : Int} (h1 : 0 ≤ x) (h2 : x < 18446744073709551616) : IntKind.u64.wrap x = x := by
  rw [wrap_u64']; omega
theorem wrap_u8 {x : Int} (h1 : 0 ≤ x) (h2 : x < 256) : IntKind.u8.wrap x = x := by
  rw [wrap_u8']; omega
theorem quo_i64 {x y : Int} (h0 : 0 ≤ x) (h1 : x < 9223372036854775808) (hy : 0 ≤ y) : IntKind.i64.wrap (x.tdiv y) = x / y := by
  rw [Int.tdiv_eq_ediv_of_nonneg h0]
  exact wrap_i64 (by have := Int.ediv_nonneg h0 hy; omega) (Int.lt_of_le_of_lt (Int.ediv_le_self _ h0) h1)
theorem quo_u64 {x y : Int} (h0 : 0 ≤ x) (h1 : x < 18446744073709551616) (hy : 0 ≤ y) : IntKind.u64.wrap (x.tdiv y) = x / y := by
  rw [Int.tdiv_eq_ediv_of_nonneg h0]
  exact wrap_u64 (Int.ediv_nonneg h0 hy) (Int.lt_of_le_of_lt (Int.ediv_le_self _ h0) h1)
theorem rem_pos {x y : Int} (h0 : 0 ≤ x) : x.tmod y = x % y := Int.tmod_eq_emod_of_nonneg h0

/-! ### memory -/
theorem run_load_cells (hT : TabOk P T) {t : TypeId} {cs : List Value} {i : Nat} {v : Value} (hv : partV T t cs i = some v) {w : World} {a : Addr} (hc : ∀ j u, cs[j]? = some u → w.cell? (a.add j) = some u) (hsz : ∀ ti, look T t = some ti → i + ti.size ≤ cs.length) :
    (Instr.loadAt t (.pointer (some (a.add i)))).run P w = .ok v w := by
  unfold partV at hv
  cases hl : look T t with
  | none => rw [hl] at hv; cases hv
  | some ti =>
    rw [hl] at hv
    simp only at hv
    simp only [Instr.loadAt, Instr.sureAddr, loadVar, Sem.run_bind, Sem.run_pure, Result.andThen_ok, run_isAgg hT w hl]
    cases hg : ti.agg with
    | true =>
      rw [hg] at hv
      simp only [cond_true, Option.some.injEq] at hv
      simp only [if_true, Sem.run_bind, run_sizeOf hT w hl, Result.andThen_ok]
      have hlen : ((cs.drop i).take ti.size).length = ti.size := by
        rw [List.length_take, List.length_drop]; have := hsz ti hl; omega
      have hr := run_loadCells_list (P := P) w (a.add i) ((cs.drop i).take ti.size) (fun j u hj => by
        rw [List.getElem?_take] at hj
        split at hj
        · rw [List.getElem?_drop] at hj
          rw [Addr.add_add]; exact hc _ _ hj
        · cases hj)
      rw [hlen] at hr
      simp [hr, ← hv]
    | false =>
      rw [hg] at hv
      simp only [cond_false] at hv
      have := hc _ _ hv
      simp [this]

/-- x is the address of block b's cell i; the block is the k-th part. -/
theorem XL_load (hT : TabOk P T) (k : Nat) {t : TypeId} {x : Operand} {b i : Nat} {cs : List Value} {et : TypeId} {v : Value} {ti : TI} {e' : Env} (hk : L[k]? = some (blk b cs et)) (hx : ev e x = some (.pointer (some ⟨b, i, none⟩))) (ht : look T t = some ti) (hv : partV T t cs i = some v)
    (hsz : Nat.ble (i + ti.size) cs.length = true) (hp : putE n d v e = some e') (h : XL P F n ops l Q e' L) : XL P F n ops (⟨d, .load t x, ty, pos, af, none⟩ :: l) Q e L :=
  XL_val (o := ⟨d, .load t x, ty, pos, af, none⟩) rfl hp (fun a w hf hs => by
    obtain ⟨g, hg, _, hA⟩ := hs.at hk
    have hc := (blk_rd hA).le hg
    have hr := run_load_cells hT hv (a := ⟨b, 0, none⟩) (w := w) (fun j u hj => cellH_world (hc.2 j u hj)) (fun ti' h' => by
      rw [ht] at h'; cases h'; simpa [Nat.ble_eq] using hsz)
    rw [Addr.add_lit, Nat.zero_add] at hr
    simp [execOp, hf.ev hx, hr]) h

section
variable {α : Type} [Inhabited α] {E : Enc α}
def get (xs : List α) (i : Int) : α := xs.getD i.toNat default
theorem get_some {xs : List α} {i : Int} (h0 : 0 ≤ i) (h1 : i < xs.length) : xs[i.toNat]? = some (get xs i) := by
  unfold get
  rw [List.getD_eq_getElem?_getD, List.getElem?_eq_getElem (by omega)]
  rfl
theorem el_load (hT : TabOk P T) {A : Option Addr} {m : Nat} {xs : List α} {w : World} {g : Hp} (hg : Hp.le g (World.hp w)) (r : rdS E g A m xs) {i : Int} (h0 : 0 ≤ i) (h1 : i < m) {t : TypeId} {ti : TI} (ht : look T t = some ti) {f : Nat} {v : Value} (hv : partV T t (E.enc (get xs i)) f = some v) (hsz : f + ti.size ≤ E.sz) :
    (Instr.loadAt t (.pointer (some (((bs A).add (i.toNat * E.sz)).add f)))).run P w = .ok v w :=
  run_load_cells hT hv (fun j u hj => cellH_world ((r.le hg).cell (get_some h0 (by rw [← r.1]; exact h1)) hj)) (fun ti' h' => by rw [ht] at h'; cases h'; rw [E.len]; exact hsz)

theorem XL_el (hT : TabOk P T) {A : Option Addr} {m : Nat} {xs : List α} {i : Int} {t : TypeId} {x : Operand} {v : Value} {ti : TI} {e' : Env} {sz : Nat} (hx : ev e x = some (.pointer (some ((bs A).add (i.toNat * sz))))) (r : rdS E F.heap A m xs) (hz : E.sz = sz) (h0 : 0 ≤ i) (h1 : i < m) (ht : look T t = some ti)
    (hv : partV T t (E.enc (get xs i)) 0 = some v) (hsz : Nat.ble ti.size E.sz = true) (hp : putE n d v e = some e') (h : XL P F n ops l Q e' L) : XL P F n ops (⟨d, .load t x, ty, pos, af, none⟩ :: l) Q e L :=
  XL_val (o := ⟨d, .load t x, ty, pos, af, none⟩) rfl hp (fun a w hf hs => by
    have hr := el_load hT hs.frz r h0 h1 ht hv (by rw [Nat.zero_add]; simpa [Nat.ble_eq] using hsz)
    rw [Addr.add_zero', hz] at hr
    simp [execOp, hf.ev hx, hr]) h
theorem XL_elf (hT : TabOk P T) {A : Option Addr} {m : Nat} {xs : List α} {i : Int} {f : Nat} {t : TypeId} {x : Operand} {v : Value} {ti : TI} {e' : Env} {sz : Nat} (hx : ev e x = some (.pointer (some (((bs A).add (i.toNat * sz)).add f)))) (r : rdS E F.heap A m xs) (hz : E.sz = sz) (h0 : 0 ≤ i) (h1 : i < m) (ht : look T t = some ti)
    (hv : partV T t (E.enc (get xs i)) f = some v) (hsz : Nat.ble (f + ti.size) E.sz = true) (hp : putE n d v e = some e') (h : XL P F n ops l Q e' L) : XL P F n ops (⟨d, .load t x, ty, pos, af, none⟩ :: l) Q e L :=
  XL_val (o := ⟨d, .load t x, ty, pos, af, none⟩) rfl hp (fun a w hf hs => by
    have hr := el_load hT hs.frz r h0 h1 ht hv (by simpa [Nat.ble_eq] using hsz)
    rw [hz] at hr
    simp [execOp, hf.ev hx, hr]) h
theorem XL_elo (hT : TabOk P T) (k : Nat) {A : Option Addr} {m c : Nat} {xs : List α} {i : Int} {t : TypeId} {x : Operand} {v : Value} {ti : TI} {e' : Env} {sz : Nat} (hk : L[k]? = some (own E A m c xs)) (hx : ev e x = some (.pointer (some ((bs A).add (i.toNat * sz))))) (hz : E.sz = sz) (h0 : 0 ≤ i) (h1 : i < m) (ht : look T t = some ti)
    (hv : partV T t (E.enc (get xs i)) 0 = some v) (hsz : Nat.ble ti.size E.sz = true) (hp : putE n d v e = some e') (h : XL P F n ops l Q e' L) : XL P F n ops (⟨d, .load t x, ty, pos, af, none⟩ :: l) Q e L :=
  XL_val (o := ⟨d, .load t x, ty, pos, af, none⟩) rfl hp (fun a w hf hs => by
    obtain ⟨g, hg, _, hA⟩ := hs.at hk
    have hr := el_load hT hg (own_rd hA) h0 h1 ht hv (by rw [Nat.zero_add]; simpa [Nat.ble_eq] using hsz)
    rw [Addr.add_zero', hz] at hr
    simp [execOp, hf.ev hx, hr]) h
theorem XL_elof (hT : TabOk P T) (k : Nat) {A : Option Addr} {m c : Nat} {xs : List α} {i : Int} {f : Nat} {t : TypeId} {x : Operand} {v : Value} {ti : TI} {e' : Env} {sz : Nat} (hk : L[k]? = some (own E A m c xs)) (hx : ev e x = some (.pointer (some (((bs A).add (i.toNat * sz)).add f)))) (hz : E.sz = sz) (h0 : 0 ≤ i) (h1 : i < m) (ht : look T t = some ti)
    (hv : partV T t (E.enc (get xs i)) f = some v) (hsz : Nat.ble (f + ti.size) E.sz = true) (hp : putE n d v e = some e') (h : XL P F n ops l Q e' L) : XL P F n ops (⟨d, .load t x, ty, pos, af, none⟩ :: l) Q e L :=
  XL_val (o := ⟨d, .load t x, ty, pos, af, none⟩) rfl hp (fun a w hf hs => by
    obtain ⟨g, hg, _, hA⟩ := hs.at hk
    have hr := el_load hT hg (own_rd hA) h0 h1 ht hv (by simpa [Nat.ble_eq] using hsz)
    rw [hz] at hr
    simp [execOp, hf.ev hx, hr]) h

/-! an element's address -/
theorem run_idx (hT : TabOk P T) {t el : TypeId} {i1 i2 : TI} (ht : look T t = some i1) (hd : i1.desc = .slice el) (he : look T el = some i2) {A : Option Addr} {m c : Nat} {k : IntKind} {i : Int} (hA : A.isSome = true) (h0 : 0 ≤ i) (h1 : i < m) (w : World) :
    (Instr.indexAt t (.slice A m c) (.int k i)).run P w = .ok (.pointer (some ((bs A).add (i.toNat * i2.size)))) w := by
  cases A with
  | none => cases hA
  | some a =>
    have hu := hT.und t i1 ht
    rw [hd] at hu
    simp [Instr.indexAt, run_underlying hu, asIntOf, h0, h1, run_sizeOf hT w he, bs]
theorem XL_idx (hT : TabOk P T) {t el : TypeId} {i1 : TI} {de2 : TypeDesc} {z2 : Option Value} {sz2 by2 : Nat} {x ix : Operand} {A : Option Addr} {m c : Nat} {xs : List α} {k : IntKind} {i : Int} {e' : Env} (hx : ev e x = some (.slice A m c)) (hi : ev e ix = some (.int k i)) (ht : look T t = some i1) (hd : i1.desc = .slice el) (he : look T el = some ⟨de2, z2, sz2, by2⟩)
    (r : rdS E F.heap A m xs) (h0 : 0 ≤ i) (h1 : i < m) (hp : putE n d (.pointer (some ((bs A).add (i.toNat * sz2)))) e = some e') (h : XL P F n ops l Q e' L) : XL P F n ops (⟨d, .indexAddr t x ix, ty, pos, af, none⟩ :: l) Q e L :=
  XL_val (o := ⟨d, .indexAddr t x ix, ty, pos, af, none⟩) rfl hp (fun a w hf hs => by
    have hr := run_idx (P := P) hT ht hd he (A := A) (c := c) (k := k) (r.pos (by omega)) h0 h1 w
    simp [execOp, hf.ev hx, hf.ev hi, hr]) h
theorem XL_idxo (hT : TabOk P T) (q : Nat) {c1 : Nat} {t el : TypeId} {i1 : TI} {de2 : TypeDesc} {z2 : Option Value} {sz2 by2 : Nat} {x ix : Operand} {A : Option Addr} {m c : Nat} {xs : List α} {k : IntKind} {i : Int} {e' : Env} (hk : L[q]? = some (own E A m c1 xs)) (hx : ev e x = some (.slice A m c)) (hi : ev e ix = some (.int k i)) (ht : look T t = some i1) (hd : i1.desc = .slice el) (he : look T el = some ⟨de2, z2, sz2, by2⟩)
    (h0 : 0 ≤ i) (h1 : i < m) (hp : putE n d (.pointer (some ((bs A).add (i.toNat * sz2)))) e = some e') (h : XL P F n ops l Q e' L) : XL P F n ops (⟨d, .indexAddr t x ix, ty, pos, af, none⟩ :: l) Q e L :=
  XL_val (o := ⟨d, .indexAddr t x ix, ty, pos, af, none⟩) rfl hp (fun a w hf hs => by
    obtain ⟨g, hg, _, hA⟩ := hs.at hk
    have hr := run_idx (P := P) hT ht hd he (A := A) (c := c) (k := k) ((own_rd hA).pos (by omega)) h0 h1 w
    simp [execOp, hf.ev hx, hf.ev hi, hr]) h
end
theorem XL_idxs (hT : TabOk P T) {t el : TypeId} {i1 : TI} {de2 : TypeDesc} {z2 : Option Value} {sz2 by2 : Nat} {x ix : Operand} {a : Addr} {m c : Nat} {k : IntKind} {i : Int} {e' : Env} (hx : ev e x = some (.slice (some a) m c)) (hi : ev e ix = some (.int k i)) (ht : look T t = some i1) (hd : i1.desc = .slice el) (he : look T el = some ⟨de2, z2, sz2, by2⟩)
    (h0 : 0 ≤ i) (h1 : i < m) (hp : putE n d (.pointer (some (a.add (i.toNat * sz2)))) e = some e') (h : XL P F n ops l Q e' L) : XL P F n ops (⟨d, .indexAddr t x ix, ty, pos, af, none⟩ :: l) Q e L :=
  XL_val (o := ⟨d, .indexAddr t x ix, ty, pos, af, none⟩) rfl hp (fun ac w hf hs => by
    have hr := run_idx (P := P) hT ht hd he (A := some a) (c := c) (k := k) rfl h0 h1 w
    simp only [bs, Option.getD_some] at hr
    simp [execOp, hf.ev hx, hf.ev hi, hr]) h
theorem XL_idxa (hT : TabOk P T) {t el : TypeId} {i1 : TI} {de2 : TypeDesc} {z2 : Option Value} {sz2 by2 : Nat} {x ix : Operand} {a : Addr} {m : Nat} {k : IntKind} {i : Int} {e' : Env} (hx : ev e x = some (.pointer (some a))) (hi : ev e ix = some (.int k i)) (ht : look T t = some i1) (hd : i1.desc = .array m el) (he : look T el = some ⟨de2, z2, sz2, by2⟩)
    (h0 : 0 ≤ i) (h1 : i < m) (hp : putE n d (.pointer (some (a.add (i.toNat * sz2)))) e = some e') (h : XL P F n ops l Q e' L) : XL P F n ops (⟨d, .indexAddr t x ix, ty, pos, af, none⟩ :: l) Q e L :=
  XL_val (o := ⟨d, .indexAddr t x ix, ty, pos, af, none⟩) rfl hp (fun ac w hf hs => by
    have hu := hT.und t i1 ht
    rw [hd] at hu
    have hr : (Instr.indexAt t (.pointer (some a)) (.int k i)).run P w = .ok (.pointer (some (a.add (i.toNat * sz2)))) w := by
      simp [Instr.indexAt, run_underlying hu, asIntOf, h0, h1, run_sizeOf hT w he, Instr.sureAddr]
    simp [execOp, hf.ev hx, hf.ev hi, hr]) h

/-! new blocks -/
theorem XL_box {et : TypeId} {x : Operand} {v : Value} {e' : Nat → Env} (hx : ev e x = some v) (hp : ∀ b, putE n d (.pointer (some ⟨b, 0, none⟩)) e = some (e' b))
    (h : ∀ b, XL P F n ops l Q (e' b) (blk b v.cells.toList et :: L)) : XL P F n ops (⟨d, .box et x, ty, pos, af, none⟩ :: l) Q e L :=
  XL_next (o := ⟨d, .box et x, ty, pos, af, none⟩) rfl fun a w hf hs => ⟨.pointer (some ⟨w.heap.size, 0, none⟩), w.alloc (.cells v.cells et), e' _, _, .inl (by simp [execOp, hf.ev hx, Instr.box, newVar, newRow]), hp _, hs.alloc (by simp [blk, Hp.one]), h _⟩
theorem XL_alloc (hT : TabOk P T) {et : TypeId} {z : Value} {ti : TI} {e' : Nat → Env} (ht : look T et = some ti) (hz : ti.zero = some z) (hp : ∀ b, putE n d (.pointer (some ⟨b, 0, none⟩)) e = some (e' b))
    (h : ∀ b, XL P F n ops l Q (e' b) (blk b z.cells.toList et :: L)) : XL P F n ops (⟨d, .alloc et, ty, pos, af, none⟩ :: l) Q e L :=
  XL_next (o := ⟨d, .alloc et, ty, pos, af, none⟩) rfl fun a w hf hs => ⟨.pointer (some ⟨w.heap.size, 0, none⟩), w.alloc (.cells z.cells et), e' _, _, .inl (by simp [execOp, Instr.alloc, run_zeroValue hT w ht hz, newVar, newRow]), hp _, hs.alloc (by simp [blk, Hp.one]), h _⟩

/-! stores -/
theorem st_row {w : World} {b : Nat} {cs : Array Value} {et : TypeId} (hb : w.heap[b]? = some (.cells cs et (0, 0))) (ds : Array Value) : (w.setRow b ds).heap[b]? = some (.cells ds et (0, 0)) := by
  have := setRow_heap w b cs ds et (0, 0) hb
  exact this
theorem run_store_cells (hT : TabOk P T) {t : TypeId} {ti : TI} (ht : look T t = some ti) {w : World} {b i : Nat} {cs : List Value} {et : TypeId} (hb : w.heap[b]? = some (.cells cs.toArray et (0, 0))) {v : Value} {vs : List Value} (hv : v.cells.toList = vs) (hl : vs.length = ti.size) (hi : i + vs.length ≤ cs.length) (h1 : ∀ u ∈ vs, u.oneCell' = true) :
    (Instr.storeAt t (.pointer (some ⟨b, i, none⟩)) v).run P w = .ok () (w.setRow b (putAt cs i vs).toArray) := by
  subst hv
  have hs : v.cells.size = ti.size := by rw [← hl]; simp
  have := run_storeCells_at P b i et v.cells.toList 0 cs.toArray w hb (by simpa using hi) h1
  rw [Nat.add_zero] at this
  simp only [Instr.storeAt, Instr.sureAddr, storeVar, Sem.run_bind, Sem.run_pure, Result.andThen_ok, run_sizeOf hT w ht, hs, ne_eq, not_true_eq_false, if_false]
  rw [this, putAt_eq _ _ _ hi]
theorem St.row {w : World} {k b : Nat} {cs : List Value} {et : TypeId} (hs : St F w L) (hk : L[k]? = some (blk b cs et)) (ds : List Value) : w.heap[b]? = some (.cells cs.toArray et (0, 0)) ∧ St F (w.setRow b ds.toArray) (L.set k (blk b ds et)) := by
  obtain ⟨g, hg, _, hA⟩ := hs.at hk
  have hb : w.heap[b]? = some (.cells cs.toArray et (0, 0)) := hg _ _ hA
  refine ⟨hb, hs.turnAt hk fun g hg hA => ⟨b, by rw [show g b = _ from hA]; simp, rfl, rfl, rfl, by simp, fun j hj _ => setRow_other w b j _ (fun h => hj h), Hp.one b (.cells ds.toArray et (0, 0)), fun j o hj => ?_, by simp [blk, Hp.one]⟩⟩
  simp only [Hp.one] at hj
  split at hj
  · rename_i e1; cases hj; subst e1; exact ⟨st_row hb _, .inl (by rw [show g j = _ from hA]; simp)⟩
  · cases hj
theorem XL_store (hT : TabOk P T) (k : Nat) {t : TypeId} {x y : Operand} {b i : Nat} {cs vs : List Value} {et : TypeId} {v : Value} {ti : TI} (hk : L[k]? = some (blk b cs et)) (hx : ev e x = some (.pointer (some ⟨b, i, none⟩))) (hy : ev e y = some v) (ht : look T t = some ti) (hv : v.cells.toList = vs) (hl : vs.length = ti.size)
    (hsz : Nat.ble (i + ti.size) cs.length = true) (h1 : vs.all Value.oneCell' = true) (h : XL P F n ops l Q e (L.set k (blk b (putAt cs i vs) et))) : XL P F n ops (⟨none, .store t x y, ty, pos, af, none⟩ :: l) Q e L :=
  XL_next (o := ⟨none, .store t x y, ty, pos, af, none⟩) rfl fun a w hf hs => by
    obtain ⟨hb, hs'⟩ := hs.row hk (putAt cs i vs)
    refine ⟨undef, _, e, _, .inr ⟨rfl, ?_⟩, rfl, hs', h⟩
    have := run_store_cells (P := P) hT ht hb hv hl (by rw [hl]; simpa [Nat.ble_eq] using hsz) (by simpa using h1)
    simp [execOp, hf.ev hx, hf.ev hy, this]
end
end Go.Cof
set_option linter.unusedVariables false
set_option linter.unusedSectionVars false
namespace Go.Cof
open Go.RowKit

section
variable {P : Program} {T : Tab} {F : Frz} {n : Nat} {Q : Exit → Act → World → Prop} {e : Env} {L : List HProp} {ops : Array Oper} {l : List Oper} {d : Option Tmp} {ty : TypeId} {pos : String} {af : Array Edge}

theorem run_call {f : FuncId} (hc : Callable P f) {a : Act} (hf : Fr n e a) {x : Operand} {args : List Operand} {ats : Array TypeId} {fi ca : Array Value} {vs : List Value} (hx : ev e x = some (.func (.func f) fi ca)) (hv : evs e args = some vs) (w : World) :
    (execOp a.eval ⟨d, .call ⟨.value x, args.toArray, ats⟩, ty, pos, af, none⟩).run P w = .ok (.enter f (fi.toList ++ vs ++ ca.toList).toArray) w := by
  have := hf.evs hv
  simp only [execOp, resolve, Deferred.ofValue, hf.ev hx, Sem.run_bind, Sem.run_pure, Result.andThen_ok, invoke]
  rw [run_callFunc hc]
  congr 2
  rw [← Array.toList_inj]
  simp [this]

/-- A call by a contract. R: what is owned besides. -/
theorem XL_callR {f : FuncId} {x : Operand} {args : List Operand} {ats : Array TypeId} {fi ca : Array Value} {vs us : List Value} {pre : Hp → Prop} {A R : List HProp} {Φ : Value → List HProp → Prop} {e' : Value → Env} (hs : Ctr P f us pre A Φ) (hx : ev e x = some (.func (.func f) fi ca)) (hv : evs e args = some vs)
    (hu : fi.toList ++ vs ++ ca.toList = us) (hp : ∀ v, putE n d v e = some (e' v)) (hL : ∀ h, stars L h → stars (A ++ R) h) (hpre : ∀ g : Hp, Hp.le F.heap g → stars R g → pre g)
    (h : ∀ v L', Φ v L' → XL P F n ops l Q (e' v) (L' ++ R)) : XL P F n ops (⟨d, .call ⟨.value x, args.toArray, ats⟩, ty, pos, af, none⟩ :: l) Q e L :=
  XL_enter (o := ⟨d, .call ⟨.value x, args.toArray, ats⟩, ty, pos, af, none⟩) rfl (args := us) (Φ := fun v M => ∃ L', Φ v L' ∧ M = L' ++ R) (fun a w hf => by rw [← hu]; exact run_call hs.1 hf hx hv w)
    (fun w hw => (hs.call (hw.imp hL) hpre).mono fun _ _ ⟨v, L', he, hΦ, hs'⟩ => ⟨v, _, he, ⟨L', hΦ, rfl⟩, hs'⟩)
    (fun v M ⟨L', hΦ, hM⟩ => ⟨_, hp v, hM ▸ h v L' hΦ⟩)
/-- A call of a named function that is handed nothing that is owned. -/
theorem XL_call {f : FuncId} {args : List Operand} {ats : Array TypeId} {vs : List Value} {pre : Hp → Prop} {Φ : Value → List HProp → Prop} {e' : Value → Env} (hs : Ctr P f vs pre [] Φ) (hv : evs e args = some vs)
    (hp : ∀ v, putE n d v e = some (e' v)) (hpre : ∀ g : Hp, Hp.le F.heap g → stars L g → pre g)
    (h : ∀ v L', Φ v L' → XL P F n ops l Q (e' v) (L' ++ L)) : XL P F n ops (⟨d, .call ⟨.value (.func f), args.toArray, ats⟩, ty, pos, af, none⟩ :: l) Q e L :=
  XL_callR (A := []) hs rfl hv (by simp) hp (fun _ h => h) hpre h
/-- One that is handed the k-th part. -/
theorem XL_call1 {f : FuncId} (k : Nat) {args : List Operand} {ats : Array TypeId} {vs : List Value} {pre : Hp → Prop} {A : HProp} {Φ : Value → List HProp → Prop} {e' : Value → Env} (hs : Ctr P f vs pre [A] Φ) (hk : L[k]? = some A) (hv : evs e args = some vs)
    (hp : ∀ v, putE n d v e = some (e' v)) (hpre : ∀ g : Hp, Hp.le F.heap g → stars (L.eraseIdx k) g → pre g)
    (h : ∀ v L', Φ v L' → XL P F n ops l Q (e' v) (L' ++ L.eraseIdx k)) : XL P F n ops (⟨d, .call ⟨.value (.func f), args.toArray, ats⟩, ty, pos, af, none⟩ :: l) Q e L :=
  XL_callR (A := [A]) hs rfl hv (by simp) hp (fun _ h => stars_perm (perm_at hk) h) hpre h

/-! structs -/
def fillV (T : Tab) (fs : Array Field) (cells : List Value) : List (Nat × Value) → Option (List Value)
  | [] => some cells
  | (i, v) :: rest =>
    match fs[i]? with
    | none => none
    | some f => match look T f.type with
      | none => none
      | some ti => bif Nat.beq v.cells.toList.length ti.size && Nat.ble (f.offset + v.cells.toList.length) cells.length then fillV T fs (putAt cells f.offset v.cells.toList) rest else none
def fillA (sz : Nat) (cells : List Value) : List (Nat × Value) → Option (List Value)
  | [] => some cells
  | (i, v) :: rest => bif Nat.beq v.cells.toList.length sz && Nat.ble (i * sz + v.cells.toList.length) cells.length then fillA sz (putAt cells (i * sz) v.cells.toList) rest else none
def evp (e : Env) : List (Nat × Operand) → Option (List (Nat × Value))
  | [] => some []
  | (i, x) :: l => match ev e x with
    | none => none
    | some v => match evp e l with
      | none => none
      | some vs => some ((i, v) :: vs)
theorem Fr.evp {a : Act} (hf : Fr n e a) : ∀ {l : List (Nat × Operand)} {vs : List (Nat × Value)}, Cof.evp e l = some vs → l.map (fun (i, x) => (i, a.eval x)) = vs
  | [], _, h => by simp only [Cof.evp, Option.some.injEq] at h; simp [h]
  | (i, x) :: l, vs, h => by
    simp only [Cof.evp] at h
    cases h1 : Cof.ev e x with
    | none => rw [h1] at h; cases h
    | some v =>
      rw [h1] at h
      simp only at h
      cases h2 : Cof.evp e l with
      | none => rw [h2] at h; cases h
      | some us =>
        rw [h2] at h
        simp only [Option.some.injEq] at h
        rw [← h, List.map_cons, hf.evp h2]
        simp only [hf.ev h1]
theorem foldl_putAt (i : Nat) : ∀ (vs : List Value) (k : Nat) (cs : Array Value), ((vs.zipIdx k).foldl (fun cs (x : Value × Nat) => cs.setIfInBounds (i + x.2) x.1) cs) = (putAt cs.toList (i + k) vs).toArray
  | [], k, cs => by simp [putAt]
  | v :: vs, k, cs => by
    simp only [List.zipIdx_cons, List.foldl_cons, putAt]
    rw [foldl_putAt i vs (k + 1)]
    simp [Nat.add_assoc]
theorem fill_step {place : Nat → Option (Nat × Nat)} {cells : List Value} {i off sz : Nat} {v : Value} {rest : List (Nat × Value)} (hp : place i = some (off, sz)) (h1 : v.cells.toList.length = sz) (h2 : off + v.cells.toList.length ≤ cells.length) :
    Instr.fill place cells.toArray ((i, v) :: rest) = Instr.fill place (putAt cells off v.cells.toList).toArray rest := by
  have e1 : v.cells.size = sz := by simpa using h1
  have e2 : ¬ (off + v.cells.size > cells.length) := by simp at h2; omega
  have hf := foldl_putAt off v.cells.toList 0 cells.toArray
  rw [Nat.add_zero] at hf
  simp only [Instr.fill, hp, e1, List.size_toArray]
  have e3 : ¬ (off + sz > cells.length) := by rw [← e1]; exact e2
  simp only [ne_eq, not_true_eq_false, decide_false, Bool.false_or, e3, Bool.false_eq_true, if_false]
  rw [← hf]
  congr 1
  rw [← Array.foldl_toList]
  congr 1
  simp
theorem fillV_eq (hT : TabOk P T) {fs : Array Field} {place : Nat → Option (Nat × Nat)} (hpl : ∀ i f ti, fs[i]? = some f → look T f.type = some ti → place i = some (f.offset, ti.size)) : ∀ (l : List (Nat × Value)) (cells r : List Value), fillV T fs cells l = some r → Instr.fill place cells.toArray l = some r.toArray
  | [], cells, r, h => by simp only [fillV, Option.some.injEq] at h; simp [Instr.fill, h]
  | (i, v) :: rest, cells, r, h => by
    simp only [fillV] at h
    split at h
    · cases h
    · rename_i f hf
      split at h
      · cases h
      · rename_i ti hti
        cases hc : (Nat.beq v.cells.toList.length ti.size && Nat.ble (f.offset + v.cells.toList.length) cells.length) with
        | false => rw [hc] at h; cases h
        | true =>
          rw [hc] at h
          simp only [cond_true] at h
          rw [Bool.and_eq_true] at hc
          rw [fill_step (hpl i f ti hf hti) (Nat.eq_of_beq_eq_true hc.1) (Nat.le_of_ble_eq_true hc.2)]
          exact fillV_eq hT hpl rest _ r h
theorem fillA_eq (sz : Nat) : ∀ (l : List (Nat × Value)) (cells r : List Value), fillA sz cells l = some r → Instr.fill (fun i => some (i * sz, sz)) cells.toArray l = some r.toArray
  | [], cells, r, h => by simp only [fillA, Option.some.injEq] at h; simp [Instr.fill, h]
  | (i, v) :: rest, cells, r, h => by
    simp only [fillA] at h
    cases hc : (Nat.beq v.cells.toList.length sz && Nat.ble (i * sz + v.cells.toList.length) cells.length) with
    | false => rw [hc] at h; cases h
    | true =>
      rw [hc] at h
      simp only [cond_true] at h
      rw [Bool.and_eq_true] at hc
      rw [fill_step rfl (Nat.eq_of_beq_eq_true hc.1) (Nat.le_of_ble_eq_true hc.2)]
      exact fillA_eq sz rest _ r h
/-- All fields' types are in the table. -/
def fldsIn (T : Tab) : List Field → Bool
  | [] => true
  | f :: l => (look T f.type).isSome && fldsIn T l
theorem run_places (hT : TabOk P T) (w : World) : ∀ (l : List Field), fldsIn T l = true → ∃ ps : List (Nat × Nat), (l.mapM (fun (f : Field) => (do pure (f.offset, ← sizeOf f.type) : Sem (Nat × Nat)))).run P w = .ok ps w ∧ ∀ (i : Nat) (f : Field) (ti : TI), l[i]? = some f → look T f.type = some ti → ps[i]? = some (f.offset, ti.size)
  | [], _ => ⟨[], by simp, fun i f ti h => by simp at h⟩
  | f :: l, h => by
    simp only [fldsIn, Bool.and_eq_true] at h
    obtain ⟨ti, hti⟩ := Option.isSome_iff_exists.1 h.1
    obtain ⟨ps, hr, hps⟩ := run_places hT w l h.2
    refine ⟨(f.offset, ti.size) :: ps, ?_, fun i g tj hg htj => ?_⟩
    · simp only [List.mapM_cons, Sem.run_bind, run_sizeOf hT w hti, Result.andThen_ok, Sem.run_pure, hr]
    · cases i with
      | zero => simp at hg; subst hg; rw [hti] at htj; cases htj; rfl
      | succ i => simpa using hps i g tj (by simpa using hg) htj
theorem XL_build (hT : TabOk P T) {t : TypeId} {parts : List (Nat × Operand)} {vs : List (Nat × Value)} {z : Value} {ti : TI} {fs : Array Field} {r : List Value} {e' : Env} (ht : look T t = some ti) (hz : ti.zero = some z) (hd : ti.desc = .struct fs) (hin : fldsIn T fs.toList = true) (hv : evp e parts = some vs)
    (hr : fillV T fs z.cells.toList vs = some r) (hp : putE n d (.agg r.toArray) e = some e') (h : XL P F n ops l Q e' L) : XL P F n ops (⟨d, .build t parts.toArray, ty, pos, af, none⟩ :: l) Q e L :=
  XL_val (o := ⟨d, .build t parts.toArray, ty, pos, af, none⟩) rfl hp (fun a w hf hs => by
    have hu := hT.und t ti ht
    rw [hd] at hu
    obtain ⟨ps, h1, h2⟩ := run_places hT w fs.toList hin
    have h3 := fillV_eq hT (place := (ps.toArray[·]?)) (fun i f tj hf htj => by simpa using h2 i f tj (by simpa using hf) htj) vs _ _ hr
    have h4 := hf.evp hv
    have h5 : (fs.mapM (fun (f : Field) => (do pure (f.offset, ← sizeOf f.type) : Sem (Nat × Nat)))).run P w = .ok ps.toArray w := by
      rw [show fs = fs.toList.toArray from by simp, List.mapM_toArray]
      simp only [Sem.run_map, h1, Result.andThen_ok]
    have h6 : (parts.toArray.map fun (i, x) => (i, a.eval x)).toList = vs := by simpa using h4
    simp only [execOp, Instr.build, Sem.run_bind, run_zeroValue hT w ht hz, Result.andThen_ok, run_underlying hu, h5]
    rw [h6]
    have h7 : z.cells.toList.toArray = z.cells := by simp
    rw [h7] at h3
    rw [h3]
    rfl) h
end
end Go.Cof
set_option linter.unusedVariables false
set_option linter.unusedSectionVars false
namespace Go.Cof
open Go.RowKit

/-- It returns r; whatever it makes is nobody's. -/
def FnC (P : Program) (f : FuncId) (args : List Value) (pre : Hp → Prop) (r : Value) : Prop := Ctr P f args pre [] (fun v L => v = r ∧ L = [])

theorem blk_le {b : Nat} {cs : List Value} {e : TypeId} {h g : Hp} (hb : blk b cs e h) (hl : Hp.le h g) : blk b cs e g := hl _ _ hb
theorem own_le {α : Type} {E : Enc α} {A : Option Addr} {m c : Nat} {xs : List α} {h g : Hp} (o : own E A m c xs h) (hl : Hp.le h g) : own E A m c xs g := by
  rcases o with o | ⟨q, cur, e, h1, h2, h3⟩
  · exact .inl o
  · exact .inr ⟨q, cur, e, h1, hl _ _ h2, h3⟩
theorem at_mem {L : List HProp} {A : HProp} (k : Nat) (hk : L[k]? = some A) {g : Hp} (h : stars L g) : ∃ h : Hp, Hp.le h g ∧ A h := stars_mem (List.mem_of_getElem? hk) h
theorem blk_at {L : List HProp} (k : Nat) {b : Nat} {cs : List Value} {e : TypeId} (hk : L[k]? = some (blk b cs e)) {g : Hp} (h : stars L g) : blk b cs e g := let ⟨_, hl, hb⟩ := at_mem k hk h; blk_le hb hl
theorem rd_at {α : Type} {E : Enc α} {L : List HProp} (k : Nat) {A : Option Addr} {m c : Nat} {xs : List α} (hk : L[k]? = some (own E A m c xs)) {g : Hp} (h : stars L g) : rdS E g A m xs := let ⟨_, hl, hb⟩ := at_mem k hk h; (own_rd hb).le hl

section
variable {P : Program} {T : Tab} {F : Frz} {n : Nat} {Q : Exit → Act → World → Prop} {e : Env} {L : List HProp} {ops : Array Oper} {l : List Oper} {d : Option Tmp} {ty : TypeId} {pos : String} {af : Array Edge}

theorem XL_loadF (hT : TabOk P T) {t : TypeId} {x : Operand} {b i : Nat} {cs : List Value} {et : TypeId} {v : Value} {ti : TI} {e' : Env} (hx : ev e x = some (.pointer (some ⟨b, i, none⟩))) (hb : blk b cs et F.heap) (ht : look T t = some ti) (hv : partV T t cs i = some v)
    (hsz : Nat.ble (i + ti.size) cs.length = true) (hp : putE n d v e = some e') (h : XL P F n ops l Q e' L) : XL P F n ops (⟨d, .load t x, ty, pos, af, none⟩ :: l) Q e L :=
  XL_val (o := ⟨d, .load t x, ty, pos, af, none⟩) rfl hp (fun a w hf hs => by
    have hc := (blk_rd hb).le hs.frz
    have hr := run_load_cells hT hv (a := ⟨b, 0, none⟩) (w := w) (fun j u hj => cellH_world (hc.2 j u hj)) (fun ti' h' => by
      rw [ht] at h'; cases h'; simpa [Nat.ble_eq] using hsz)
    rw [Addr.add_lit, Nat.zero_add] at hr
    simp [execOp, hf.ev hx, hr]) h
theorem XL_fn {f : FuncId} {args : List Operand} {ats : Array TypeId} {vs : List Value} {pre : Hp → Prop} {r : Value} {e' : Env} (hs : FnC P f vs pre r) (hv : evs e args = some vs) (hp : putE n d r e = some e')
    (hpre : ∀ g : Hp, Hp.le F.heap g → stars L g → pre g) (h : XL P F n ops l Q e' L) : XL P F n ops (⟨d, .call ⟨.value (.func f), args.toArray, ats⟩, ty, pos, af, none⟩ :: l) Q e L :=
  XL_enter (o := ⟨d, .call ⟨.value (.func f), args.toArray, ats⟩, ty, pos, af, none⟩) rfl (args := vs) (Φ := fun v M => v = r ∧ M = L) (fun a w hf => by have := run_call hs.1 hf (d := d) (ty := ty) (pos := pos) (af := af) (ats := ats) (x := .func f) rfl hv w; simpa using this)
    (fun w hw => (Ctr.call (A := []) hs hw hpre).mono fun _ _ ⟨v, L', he, ⟨h1, h2⟩, hs'⟩ => ⟨v, L, he, ⟨h1, rfl⟩, by rw [h2] at hs'; exact hs'⟩)
    (fun v M ⟨h1, h2⟩ => ⟨e', by rw [h1]; exact hp, by rw [h2]; exact h⟩)
section
variable {fn : Func} {r : Value}
theorem Y_fn1 {t : Tmp} {v : Value} (hr : fn.results = #[.tmp t]) (hv : look e t = some v) (h : v = r) : Y F n (bodyPost P fn (Post F fun v L => v = r ∧ L = [])) .ret e L := Y_ret1 hr hv (L' := []) (fun _ _ => trivial) ⟨h, rfl⟩
theorem Y_fn2 {t s : Tmp} {v u : Value} (hr : fn.results = #[.tmp t, .tmp s]) (hv : look e t = some v) (hu : look e s = some u) (h : .tuple #[v, u] = r) : Y F n (bodyPost P fn (Post F fun v L => v = r ∧ L = [])) .ret e L := Y_ret2 hr hv hu (L' := []) (fun _ _ => trivial) ⟨h, rfl⟩
theorem Y_fn3 {t s q : Tmp} {v u x : Value} (hr : fn.results = #[.tmp t, .tmp s, .tmp q]) (hv : look e t = some v) (hu : look e s = some u) (hx : look e q = some x) (h : .tuple #[v, u, x] = r) : Y F n (bodyPost P fn (Post F fun v L => v = r ∧ L = [])) .ret e L := Y_ret3 hr hv hu hx (L' := []) (fun _ _ => trivial) ⟨h, rfl⟩
end

/-! parts opened, shut -/
theorem XL_open {ι : Type} {M : ι → List HProp} {A : HProp} (k : Nat) (hk : L[k]? = some A) (ho : ∀ h, A h → ∃ x, stars (M x) h) (h : ∀ x, XL P F n ops l Q e (M x ++ L.eraseIdx k)) : XL P F n ops l Q e L := .mk fun a w hf hs => by
  obtain ⟨g, h1, h2, h3⟩ := (hs.perm (perm_at hk)).own
  obtain ⟨k1, k2, d', a', b', hA, hL⟩ := h3
  obtain ⟨x, hx⟩ := ho _ hA
  exact h x a w hf ⟨hs.os, hs.tape, hs.output, hs.size, hs.frz, g, h1, h2, stars_append.2 ⟨k1, k2, d', a', b', hx, hL⟩⟩
theorem X_open {c : Code} {ι : Type} {M : ι → List HProp} {A : HProp} (k : Nat) (hk : L[k]? = some A) (ho : ∀ h, A h → ∃ x, stars (M x) h) (h : ∀ x, X P F n c Q e (M x ++ L.eraseIdx k)) : X P F n c Q e L := .mk fun a w hf hs => by
  obtain ⟨g, h1, h2, h3⟩ := (hs.perm (perm_at hk)).own
  obtain ⟨k1, k2, d', a', b', hA, hL⟩ := h3
  obtain ⟨x, hx⟩ := ho _ hA
  exact h x a w hf ⟨hs.os, hs.tape, hs.output, hs.size, hs.frz, g, h1, h2, stars_append.2 ⟨k1, k2, d', a', b', hx, hL⟩⟩
theorem X_openp {c : Code} {ι : Type} {φ : ι → Prop} {M : ι → List HProp} {A : HProp} (k : Nat) (hk : L[k]? = some A) (ho : ∀ h, A h → ∃ x, φ x ∧ stars (M x) h) (h : ∀ x, φ x → X P F n c Q e (M x ++ L.eraseIdx k)) : X P F n c Q e L := .mk fun a w hf hs => by
  obtain ⟨g, h1, h2, h3⟩ := (hs.perm (perm_at hk)).own
  obtain ⟨k1, k2, d', a', b', hA, hL⟩ := h3
  obtain ⟨x, hφ, hx⟩ := ho _ hA
  exact h x hφ a w hf ⟨hs.os, hs.tape, hs.output, hs.size, hs.frz, g, h1, h2, stars_append.2 ⟨k1, k2, d', a', b', hx, hL⟩⟩
theorem XL_openp {ι : Type} {φ : ι → Prop} {M : ι → List HProp} {A : HProp} (k : Nat) (hk : L[k]? = some A) (ho : ∀ h, A h → ∃ x, φ x ∧ stars (M x) h) (h : ∀ x, φ x → XL P F n ops l Q e (M x ++ L.eraseIdx k)) : XL P F n ops l Q e L := .mk fun a w hf hs => by
  obtain ⟨g, h1, h2, h3⟩ := (hs.perm (perm_at hk)).own
  obtain ⟨k1, k2, d', a', b', hA, hL⟩ := h3
  obtain ⟨x, hφ, hx⟩ := ho _ hA
  exact h x hφ a w hf ⟨hs.os, hs.tape, hs.output, hs.size, hs.frz, g, h1, h2, stars_append.2 ⟨k1, k2, d', a', b', hx, hL⟩⟩
/-- The first parts, told as one. -/
theorem stars_shut {M R : List HProp} {A : HProp} (hA : ∀ h, stars M h → A h) {h : Hp} (hs : stars (M ++ R) h) : stars (A :: R) h := by
  obtain ⟨k1, k2, d', a', b', hM, hR⟩ := stars_append.1 hs
  exact ⟨k1, k2, d', a', b', hA _ hM, hR⟩
/-- Parts taken out one by one, each told by its place among those that are left. -/
def takeP (L : List HProp) : List Nat → Option (List HProp × List HProp)
  | [] => some ([], L)
  | k :: ks => match L[k]? with
    | some A => match takeP (L.eraseIdx k) ks with
      | some (M, R) => some (A :: M, R)
      | none => none
    | none => none
theorem takeP_perm : ∀ (ks : List Nat) {L M R : List HProp}, takeP L ks = some (M, R) → L.Perm (M ++ R)
  | [], L, M, R, h => by simp only [takeP, Option.some.injEq, Prod.mk.injEq] at h; rw [← h.1, ← h.2]; exact List.Perm.refl _
  | k :: ks, L, M, R, h => by
    simp only [takeP] at h
    cases h1 : L[k]? with
    | none => rw [h1] at h; cases h
    | some A =>
      rw [h1] at h
      simp only at h
      cases h2 : takeP (L.eraseIdx k) ks with
      | none => rw [h2] at h; cases h
      | some p =>
        obtain ⟨M', R'⟩ := p
        rw [h2] at h
        simp only [Option.some.injEq, Prod.mk.injEq] at h
        rw [← h.1, ← h.2]
        exact (perm_at h1).trans ((takeP_perm ks h2).cons A)
theorem stars_take (ks : List Nat) {L M R : List HProp} (h : takeP L ks = some (M, R)) {g : Hp} (hs : stars L g) : stars (M ++ R) g := stars_perm (takeP_perm ks h) hs
theorem stars_only (ks : List Nat) {L M R : List HProp} (h : takeP L ks = some (M, R)) : ∀ g, stars L g → stars M g := fun g hs => stars_sub (List.sublist_append_left _ _) (stars_take ks h hs)
/-- Some parts are told as one, the others go. -/
theorem stars_fin (ks : List Nat) {L M R : List HProp} {A : HProp} (h : takeP L ks = some (M, R)) (hA : ∀ h, stars M h → A h) : ∀ g, stars L g → stars [A] g := fun g hs => stars_sub (by simp) (stars_shut hA (stars_take ks h hs))
theorem stars_fin1 (k : Nat) {L : List HProp} {A : HProp} (h : L[k]? = some A) : ∀ g, stars L g → stars [A] g := fun g hs => stars_sub (by simp) (stars_perm (perm_at h) hs)

/-- A call that is handed the parts ks. -/
theorem XL_callK {f : FuncId} (ks : List Nat) {args : List Operand} {ats : Array TypeId} {vs : List Value} {pre : Hp → Prop} {A R : List HProp} {Φ : Value → List HProp → Prop} {e' : Value → Env} (hs : Ctr P f vs pre A Φ) (hk : takeP L ks = some (A, R)) (hv : evs e args = some vs)
    (hp : ∀ v, putE n d v e = some (e' v)) (hpre : ∀ g : Hp, Hp.le F.heap g → stars R g → pre g)
    (h : ∀ v L', Φ v L' → XL P F n ops l Q (e' v) (L' ++ R)) : XL P F n ops (⟨d, .call ⟨.value (.func f), args.toArray, ats⟩, ty, pos, af, none⟩ :: l) Q e L :=
  XL_callR (A := A) hs rfl hv (by simp) hp (fun _ h => stars_take ks hk h) hpre h

/-! cells at a place of their own (elements of one cell) -/
section
variable {α : Type} [Inhabited α] {E : Enc α}
theorem el1_load (hT : TabOk P T) {b : Nat} {m : Nat} {xs : List α} {w : World} {g : Hp} (hg : Hp.le g (World.hp w)) (r : rdS E g (some ⟨b, 0, none⟩) m xs) {o : Nat} (h1 : o < m) (hz : E.sz = 1) {t : TypeId} {v : Value} (hv : partV T t (E.enc (xs.getD o default)) 0 = some v) (hsz : ∀ ti, look T t = some ti → ti.size ≤ 1) :
    (Instr.loadAt t (.pointer (some ⟨b, o, none⟩))).run P w = .ok v w := by
  have hx : xs[o]? = some (xs.getD o default) := by
    have := r.1
    rw [List.getD_eq_getElem?_getD, List.getElem?_eq_getElem (by omega)]; rfl
  have := run_load_cells hT hv (w := w) (a := ⟨b, o, none⟩) (fun j u hj => by
    have hc := (r.le hg).cell hx hj
    rw [hz, Nat.mul_one, bs, Option.getD_some, Addr.add_lit, Nat.zero_add] at hc
    exact cellH_world hc) (fun ti h => by rw [E.len, hz]; have := hsz ti h; omega)
  rw [Addr.add_zero'] at this
  exact this
theorem XL_at (hT : TabOk P T) (k : Nat) {b o : Nat} {m c : Nat} {xs : List α} {t : TypeId} {x : Operand} {v : Value} {ti : TI} {e' : Env} (hk : L[k]? = some (own E (some ⟨b, 0, none⟩) m c xs)) (hx : ev e x = some (.pointer (some ⟨b, o, none⟩))) (hz : E.sz = 1) (h1 : o < m) (ht : look T t = some ti) (hsz : Nat.ble ti.size 1 = true)
    (hv : partV T t (E.enc (xs.getD o default)) 0 = some v) (hp : putE n d v e = some e') (h : XL P F n ops l Q e' L) : XL P F n ops (⟨d, .load t x, ty, pos, af, none⟩ :: l) Q e L :=
  XL_val (o := ⟨d, .load t x, ty, pos, af, none⟩) rfl hp (fun a w hf hs => by
    obtain ⟨g, hg, _, hA⟩ := hs.at hk
    have hr := el1_load hT hg (own_rd hA) h1 hz hv (fun ti' h' => by rw [ht] at h'; cases h'; exact Nat.le_of_ble_eq_true hsz)
    simp [execOp, hf.ev hx, hr]) h
theorem XL_atF (hT : TabOk P T) {b o : Nat} {m : Nat} {xs : List α} {t : TypeId} {x : Operand} {v : Value} {ti : TI} {e' : Env} (hx : ev e x = some (.pointer (some ⟨b, o, none⟩))) (r : rdS E F.heap (some ⟨b, 0, none⟩) m xs) (hz : E.sz = 1) (h1 : o < m) (ht : look T t = some ti) (hsz : Nat.ble ti.size 1 = true)
    (hv : partV T t (E.enc (xs.getD o default)) 0 = some v) (hp : putE n d v e = some e') (h : XL P F n ops l Q e' L) : XL P F n ops (⟨d, .load t x, ty, pos, af, none⟩ :: l) Q e L :=
  XL_val (o := ⟨d, .load t x, ty, pos, af, none⟩) rfl hp (fun a w hf hs => by
    have hr := el1_load hT hs.frz r h1 hz hv (fun ti' h' => by rw [ht] at h'; cases h'; exact Nat.le_of_ble_eq_true hsz)
    simp [execOp, hf.ev hx, hr]) h
theorem flat_set {xs : List α} : ∀ {i : Nat} {x : α}, i < xs.length → flat E (xs.set i x) = (flat E xs).take (i * E.sz) ++ E.enc x ++ (flat E xs).drop ((i + 1) * E.sz) := by
  intro i x hi
  have e1 : xs.set i x = xs.take i ++ x :: xs.drop (i + 1) := by rw [List.set_eq_take_append_cons_drop, if_pos hi]
  rw [e1, flat_append, flat_take, flat_drop]
  simp [flat]
/-- An element written, whole or in part: its cells become those of x'. -/
theorem own_write {b m c : Nat} {xs : List α} {g : Hp} (o : own E (some ⟨b, 0, none⟩) m c xs g) {i f : Nat} (hi : i < m) {vs : List Value} {x' : α} (hf : f + vs.length ≤ E.sz) (hx : putAt (E.enc (xs.getD i default)) f vs = E.enc x') {w : World} (hg : Hp.le g (World.hp w)) :
    ∃ cur et, w.heap[b]? = some (.cells cur et (0, 0)) ∧ i * E.sz + f + vs.length ≤ cur.size ∧ own E (some ⟨b, 0, none⟩) m c (xs.set i x') (Hp.one b (.cells (putAt cur.toList (i * E.sz + f) vs).toArray et (0, 0))) ∧ g b ≠ none := by
  rcases o with ⟨h1, _⟩ | ⟨q, cur, et, h1, h2, h3, h4, h5, h6, h7⟩
  · cases h1
  · simp only [Option.some.injEq, Addr.mk.injEq, and_true] at h1
    subst h1
    have hfit : i * E.sz + f + vs.length ≤ m * E.sz := by
      have : (i + 1) * E.sz ≤ m * E.sz := Nat.mul_le_mul_right _ hi
      rw [Nat.succ_mul] at this
      omega
    have hcm : m * E.sz ≤ cur.size := by rw [h6]; exact Nat.mul_le_mul_right _ h4
    refine ⟨cur, et, hg _ _ h2, by omega, .inr ⟨b, (putAt cur.toList (i * E.sz + f) vs).toArray, et, rfl, by simp [Hp.one], by simpa using h3, h4, h5, ?_, ?_⟩, by rw [h2]; simp⟩
    · simp [putAt_length, h6]
    · have hxi : xs[i]? = some (xs.getD i default) := by
        rw [List.getD_eq_getElem?_getD, List.getElem?_eq_getElem (by omega)]; rfl
      have hcl : cur.toList.length = cur.size := by simp
      simp only []
      rw [putAt_eq _ _ _ (by rw [hcl]; omega), flat_set (by omega)]
      rw [putAt_eq _ _ _ (by rw [E.len]; exact hf)] at hx
      have hsplit : cur.toList = flat E xs ++ cur.toList.drop (m * E.sz) := by rw [← h7, List.take_append_drop]
      have hlen : (flat E xs).length = m * E.sz := by rw [flat_length, h3]
      -- the cells of the elements before, of this one, and behind
      have hE : (flat E xs).drop (i * E.sz) = E.enc (xs.getD i default) ++ (flat E xs).drop ((i + 1) * E.sz) := by
        have e2 : xs.drop i = xs.getD i default :: xs.drop (i + 1) := by
          rw [List.drop_eq_getElem_cons (by omega)]
          congr 1
          rw [List.getD_eq_getElem?_getD, List.getElem?_eq_getElem (by omega)]; rfl
        rw [flat_drop, flat_drop, e2]
        simp [flat]
      generalize hX : flat E xs = X at *
      generalize E.enc (xs.getD i default) = Y at *
      have hY : Y.length = E.sz := by
        have := congrArg List.length hE
        simp only [List.length_append, List.length_drop, hlen] at this
        have h8 : (i + 1) * E.sz ≤ m * E.sz := Nat.mul_le_mul_right _ hi
        rw [Nat.succ_mul] at this h8
        omega
      rw [hsplit, ← hx]
      have hiX : i * E.sz + f + vs.length ≤ X.length := by omega
      have eA : (X ++ cur.toList.drop (m * E.sz)).take (i * E.sz + f) = X.take (i * E.sz + f) := List.take_append_of_le_length (by omega)
      have eB : (X ++ cur.toList.drop (m * E.sz)).drop (i * E.sz + f + vs.length) = X.drop (i * E.sz + f + vs.length) ++ cur.toList.drop (m * E.sz) := List.drop_append_of_le_length (by omega)
      rw [eA, eB]
      have e3 : X.take (i * E.sz + f) = X.take (i * E.sz) ++ Y.take f := by
        rw [List.take_add, hE, List.take_append_of_le_length (by omega)]
      have e4 : X.drop (i * E.sz + f + vs.length) = Y.drop (f + vs.length) ++ X.drop ((i + 1) * E.sz) := by
        rw [show i * E.sz + f + vs.length = i * E.sz + (f + vs.length) from by omega, ← List.drop_drop, hE, List.drop_append_of_le_length (by omega)]
      rw [e3, e4]
      have e5 : (X.take (i * E.sz) ++ Y.take f ++ vs ++ (Y.drop (f + vs.length) ++ X.drop ((i + 1) * E.sz) ++ cur.toList.drop (m * E.sz))) = (X.take (i * E.sz) ++ (Y.take f ++ vs ++ Y.drop (f + vs.length)) ++ X.drop ((i + 1) * E.sz)) ++ cur.toList.drop (m * E.sz) := by simp [List.append_assoc]
      rw [e5, List.take_append_of_le_length, List.take_of_length_le]
      · simp only [List.length_append, List.length_take, List.length_drop, hlen, hY]
        have h8 : (i + 1) * E.sz ≤ m * E.sz := Nat.mul_le_mul_right _ hi
        rw [Nat.succ_mul] at h8 ⊢
        omega
      · simp only [List.length_append, List.length_take, List.length_drop, hlen, hY]
        have h8 : (i + 1) * E.sz ≤ m * E.sz := Nat.mul_le_mul_right _ hi
        rw [Nat.succ_mul] at h8 ⊢
        omega
theorem XL_put (hT : TabOk P T) (k : Nat) {t : TypeId} {x y : Operand} {b i f m c : Nat} {ad : Addr} {xs : List α} {vs : List Value} {v : Value} {ti : TI} {x' : α} (hk : L[k]? = some (own E (some ⟨b, 0, none⟩) m c xs)) (hx : ev e x = some (.pointer (some ad))) (had : ad = ⟨b, i * E.sz + f, none⟩) (hy : ev e y = some v) (ht : look T t = some ti) (hv : v.cells.toList = vs) (hl : vs.length = ti.size)
    (hi : i < m) (hf : Nat.ble (f + vs.length) E.sz = true) (h1 : vs.all Value.oneCell' = true) (hx' : putAt (E.enc (xs.getD i default)) f vs = E.enc x') (h : XL P F n ops l Q e (L.set k (own E (some ⟨b, 0, none⟩) m c (xs.set i x')))) : XL P F n ops (⟨none, .store t x y, ty, pos, af, none⟩ :: l) Q e L :=
  XL_next (o := ⟨none, .store t x y, ty, pos, af, none⟩) rfl fun a w hf' hs => by
    subst had
    obtain ⟨g, hg, _, hA⟩ := hs.at hk
    obtain ⟨cur, et, hb, hsz, _, _⟩ := own_write hA hi (Nat.le_of_ble_eq_true hf) hx' hg
    have hr := run_store_cells (P := P) hT ht (cs := cur.toList) (by simpa using hb) hv hl (by simpa using hsz) (by simpa using h1)
    refine ⟨undef, w.setRow b (putAt cur.toList (i * E.sz + f) vs).toArray, e, _, .inr ⟨rfl, by simp [execOp, hf'.ev hx, hf'.ev hy, hr]⟩, rfl, ?_, h⟩
    refine hs.turnAt hk fun g hg hA => ?_
    obtain ⟨cur', et', hb', _, hown, hne⟩ := own_write hA hi (Nat.le_of_ble_eq_true hf) hx' hg
    rw [hb] at hb'
    cases hb'
    refine ⟨b, hne, rfl, rfl, rfl, by simp, fun j hj _ => setRow_other w b j _ (fun h => hj h), Hp.one b (.cells (putAt cur.toList (i * E.sz + f) vs).toArray et (0, 0)), fun j o hj => ?_, hown⟩
    simp only [Hp.one] at hj
    split at hj
    · rename_i e1; cases hj; subst e1; exact ⟨st_row hb _, .inl hne⟩
    · cases hj
end
end
end Go.Cof
set_option linter.unusedVariables false
set_option linter.unusedSimpArgs false
set_option linter.unusedSectionVars false
namespace Go.Cof
open Go.RowKit

section
variable {P : Program} {T : Tab} {F : Frz} {n : Nat} {Q : Exit → Act → World → Prop} {e : Env} {L : List HProp} {ops : Array Oper} {l : List Oper} {d : Option Tmp} {ty : TypeId} {pos : String} {af : Array Edge}

def evo (e : Env) : Option Operand → Option (Option Value)
  | none => some none
  | some x => match ev e x with | some v => some (some v) | none => none
theorem Fr.evo {a : Act} (hf : Fr n e a) {x : Option Operand} {v : Option Value} (h : Cof.evo e x = some v) : x.map a.eval = v := by
  cases x with
  | none => simp only [Cof.evo, Option.some.injEq] at h; simp [h]
  | some x =>
    simp only [Cof.evo] at h
    cases h1 : Cof.ev e x with
    | none => rw [h1] at h; cases h
    | some u => rw [h1] at h; simp only [Option.some.injEq] at h; rw [← h, Option.map_some, hf.ev h1]

/-- The three bounds of a slice expression over a length and a room. -/
inductive Cut3 (m c : Nat) : Option Value → Option Value → Option Value → Nat → Nat → Nat → Prop
  | all : Cut3 m c none none none 0 m c
  | lo {k : IntKind} {x : Int} (h0 : 0 ≤ x) (h1 : x ≤ m) : Cut3 m c (some (.int k x)) none none x.toNat m c
  | hi {k : IntKind} {y : Int} (h0 : 0 ≤ y) (h1 : y ≤ c) : Cut3 m c none (some (.int k y)) none 0 y.toNat c
  | lohi {k k' : IntKind} {x y : Int} (h0 : 0 ≤ x) (h1 : x ≤ y) (h2 : y ≤ c) : Cut3 m c (some (.int k x)) (some (.int k' y)) none x.toNat y.toNat c
  | himx {k k' : IntKind} {y z : Int} (h0 : 0 ≤ y) (h1 : y ≤ z) (h2 : z ≤ c) : Cut3 m c none (some (.int k y)) (some (.int k' z)) 0 y.toNat z.toNat
  | lohimx {k k' k2 : IntKind} {x y z : Int} (h0 : 0 ≤ x) (h1 : x ≤ y) (h2 : y ≤ z) (h3 : z ≤ c) : Cut3 m c (some (.int k x)) (some (.int k' y)) (some (.int k2 z)) x.toNat y.toNat z.toNat

theorem run_bounds {m c : Nat} {lo hi mx : Option Value} {x y z : Nat} (h : Cut3 m c lo hi mx x y z) (b : Bool) (w : World) : (Instr.sliceBounds b m c lo hi mx).run P w = .ok (x, y, z) w := by
  cases h with
  | all => simp [Instr.sliceBounds]
  | lo h0 h1 => simp [Instr.sliceBounds, run_sliceBound, h0, h1]
  | hi h0 h1 => simp [Instr.sliceBounds, run_sliceBound, h0, h1]
  | @lohi k k' x y h0 h1 h2 =>
    have eh : (y.toNat : Int) = y := Int.toNat_of_nonneg (by omega)
    simp [Instr.sliceBounds, run_sliceBound, h0, h1, h2, eh, (by omega : 0 ≤ y)]
  | @himx k k' y z h0 h1 h2 =>
    have eh : (z.toNat : Int) = z := Int.toNat_of_nonneg (by omega)
    simp [Instr.sliceBounds, run_sliceBound, h0, h1, h2, eh, (by omega : 0 ≤ z)]
  | @lohimx k k' k2 x y z h0 h1 h2 h3 =>
    have eh : (y.toNat : Int) = y := Int.toNat_of_nonneg (by omega)
    have ez : (z.toNat : Int) = z := Int.toNat_of_nonneg (by omega)
    simp [Instr.sliceBounds, run_sliceBound, h0, h1, h2, h3, eh, ez, (by omega : 0 ≤ y), (by omega : 0 ≤ z)]

theorem run_slice (hT : TabOk P T) {t el : TypeId} {i1 i2 : TI} (ht : look T t = some i1) (hd : i1.desc = .slice el) (he : look T el = some i2) {A : Option Addr} {m c : Nat} {lo hi mx : Option Value} {x y z : Nat} (h : Cut3 m c lo hi mx x y z) (w : World) :
    (Instr.sliceAt t (.slice A m c) lo hi mx).run P w = .ok (.slice (sbA A i2.size x z) (y - x) (z - x)) w := by
  have hu := hT.und t i1 ht
  rw [hd] at hu
  simp [Instr.sliceAt, Instr.slice, run_underlying hu, run_bounds h, run_sizeOf hT w he, sbA]
theorem XL_slice (hT : TabOk P T) {t el : TypeId} {i1 : TI} {de2 : TypeDesc} {z2 : Option Value} {sz2 by2 : Nat} {x : Operand} {xl xh xm : Option Operand} {A : Option Addr} {m c : Nat} {lo hi mx : Option Value} {p q r : Nat} {e' : Env} (hx : ev e x = some (.slice A m c)) (h1 : evo e xl = some lo) (h2 : evo e xh = some hi) (h3 : evo e xm = some mx) (hc : Cut3 m c lo hi mx p q r)
    (ht : look T t = some i1) (hd : i1.desc = .slice el) (he : look T el = some ⟨de2, z2, sz2, by2⟩) (hp : putE n d (.slice (sbA A sz2 p r) (q - p) (r - p)) e = some e') (h : XL P F n ops l Q e' L) : XL P F n ops (⟨d, .slice t x xl xh xm, ty, pos, af, none⟩ :: l) Q e L :=
  XL_val (o := ⟨d, .slice t x xl xh xm, ty, pos, af, none⟩) rfl hp (fun a w hf hs => by
    have hr := run_slice (P := P) hT ht hd he (A := A) hc w
    simp [execOp, hf.ev hx, hf.evo h1, hf.evo h2, hf.evo h3, hr]) h
theorem sbA_zero (A : Option Addr) (sz c : Nat) : sbA A sz 0 c = A := by
  unfold sbA
  split
  · rfl
  · cases A <;> simp [Addr.add_zero']
theorem sbA_lit {b o sz l c : Nat} (h : l < c) : sbA (some ⟨b, o, none⟩) sz l c = some ⟨b, o + l * sz, none⟩ := by
  unfold sbA
  rw [if_neg (by omega)]
  simp [Addr.add_lit]
/-- [:y]: the place stays. -/
theorem XL_slice0 (hT : TabOk P T) {t el : TypeId} {i1 : TI} {de2 : TypeDesc} {z2 : Option Value} {sz2 by2 : Nat} {x : Operand} {xh xm : Option Operand} {A : Option Addr} {m c : Nat} {hi mx : Option Value} {q r : Nat} {e' : Env} (hx : ev e x = some (.slice A m c)) (h2 : evo e xh = some hi) (h3 : evo e xm = some mx) (hc : Cut3 m c none hi mx 0 q r)
    (ht : look T t = some i1) (hd : i1.desc = .slice el) (he : look T el = some ⟨de2, z2, sz2, by2⟩) (hp : putE n d (.slice A q r) e = some e') (h : XL P F n ops l Q e' L) : XL P F n ops (⟨d, .slice t x none xh xm, ty, pos, af, none⟩ :: l) Q e L :=
  XL_slice hT hx rfl h2 h3 hc ht hd he (by rw [sbA_zero]; exact hp) h
/-- Of a place that is known. -/
theorem XL_slicel (hT : TabOk P T) {t el : TypeId} {i1 : TI} {de2 : TypeDesc} {z2 : Option Value} {sz2 by2 : Nat} {x : Operand} {xl xh xm : Option Operand} {b o : Nat} {m c : Nat} {lo hi mx : Option Value} {p q r : Nat} {e' : Env} (hx : ev e x = some (.slice (some ⟨b, o, none⟩) m c)) (h1 : evo e xl = some lo) (h2 : evo e xh = some hi) (h3 : evo e xm = some mx) (hc : Cut3 m c lo hi mx p q r) (hlt : p < r)
    (ht : look T t = some i1) (hd : i1.desc = .slice el) (he : look T el = some ⟨de2, z2, sz2, by2⟩) (hp : putE n d (.slice (some ⟨b, o + p * sz2, none⟩) (q - p) (r - p)) e = some e') (h : XL P F n ops l Q e' L) : XL P F n ops (⟨d, .slice t x xl xh xm, ty, pos, af, none⟩ :: l) Q e L :=
  XL_slice hT hx h1 h2 h3 hc ht hd he (by rw [sbA_lit hlt]; exact hp) h
/-- The whole of an array. -/
theorem XL_slicea (hT : TabOk P T) {t el : TypeId} {i1 : TI} {de2 : TypeDesc} {z2 : Option Value} {sz2 by2 : Nat} {x : Operand} {a : Addr} {m : Nat} {e' : Env} (hx : ev e x = some (.pointer (some a))) (ht : look T t = some i1) (hd : i1.desc = .array m el) (he : look T el = some ⟨de2, z2, sz2, by2⟩) (hp : putE n d (.slice (some a) m m) e = some e') (h : XL P F n ops l Q e' L) : XL P F n ops (⟨d, .slice t x none none none, ty, pos, af, none⟩ :: l) Q e L :=
  XL_val (o := ⟨d, .slice t x none none none, ty, pos, af, none⟩) rfl hp (fun ac w hf hs => by
    have hu := hT.und t i1 ht
    rw [hd] at hu
    have hb := run_bounds (P := P) (Cut3.all (m := m) (c := m)) false w
    simp only [execOp, Option.map_none, hf.ev hx, Instr.sliceAt, Sem.run_bind, run_underlying hu, Result.andThen_ok, Instr.sureAddr, Sem.run_pure, hb, run_sizeOf hT w he]
    congr 3
    rw [show 0 * sz2 = 0 from Nat.zero_mul _, Addr.add_zero']
    simp) h
/-- A slice seen as an array's address. -/
theorem XL_arr (hT : TabOk P T) {t el : TypeId} {i1 : TI} {x : Operand} {A : Option Addr} {m c k : Nat} {e' : Env} (hx : ev e x = some (.slice A m c)) (ht : look T t = some i1) (hd : i1.desc = .array k el) (hk : k ≤ m) (hp : putE n d (.pointer A) e = some e') (h : XL P F n ops l Q e' L) : XL P F n ops (⟨d, .sliceToArrayPointer t x, ty, pos, af, none⟩ :: l) Q e L :=
  XL_val (o := ⟨d, .sliceToArrayPointer t x, ty, pos, af, none⟩) rfl hp (fun ac w hf hs => by
    have hu := hT.und t i1 ht
    rw [hd] at hu
    simp [execOp, hf.ev hx, Instr.arrayAt, run_underlying hu, Nat.not_lt.2 hk]) h

/-! new rows -/
def zerosL (k : Nat) (z : List Value) : List Value := (List.replicate k z).flatten
theorem made_get (z : List Value) : ∀ (k i : Nat), i < k * z.length → (zerosL k z)[i]? = z[i % z.length]?
  | 0, i, h => by simp at h
  | k + 1, i, h => by
    have e1 : zerosL (k + 1) z = z ++ zerosL k z := by simp [zerosL, List.replicate_succ]
    rw [e1]
    by_cases hi : i < z.length
    · rw [List.getElem?_append_left hi, Nat.mod_eq_of_lt hi]
    · rw [List.getElem?_append_right (by omega), made_get z k (i - z.length) (by rw [Nat.succ_mul] at h; omega)]
      congr 1
      exact (Nat.mod_eq_sub_mod (by omega)).symm
theorem zerosL_length (k : Nat) (z : List Value) : (zerosL k z).length = k * z.length := by simp [zerosL]
theorem made_list (z : Array Value) (k : Nat) (hz : 0 < z.size ∨ k = 0) : (madeCells z (k * z.size)) = (zerosL k z.toList).toArray := by
  rw [← Array.toList_inj]
  apply List.ext_getElem?
  intro i
  have hl : z.toList.length = z.size := by simp
  by_cases hi : i < k * z.size
  · have := made_get z.toList k i (by rw [hl]; exact hi)
    simp only [] at this ⊢
    rw [this, hl]
    have hm : i % z.size < z.size := Nat.mod_lt _ (by rcases hz with h | h; exact h; subst h; simp at hi)
    simp [madeCells, hi, hm]
  · rw [List.getElem?_eq_none (by simp [size_madeCells]; omega), List.getElem?_eq_none (by rw [show (zerosL k z.toList).toArray.toList = zerosL k z.toList from rfl, zerosL_length, hl]; omega)]

theorem XL_lit (hT : TabOk P T) {t el : TypeId} {k : Nat} {parts : List (Nat × Operand)} {vs : List (Nat × Value)} {i1 i2 : TI} {z : Value} {r : List Value} {e' : Nat → Env} (ht : look T t = some i1) (hd : i1.desc = .slice el) (he : look T el = some i2) (hz : i2.zero = some z) (hsz : z.cells.toList.length = i2.size) (hpos : Nat.blt 0 i2.size = true) (hk : Nat.ble (k * i2.size) 16777216 = true) (hv : evp e parts = some vs)
    (hr : fillA i2.size (zerosL k z.cells.toList) vs = some r) (hp : ∀ b, putE n d (.slice (some ⟨b, 0, none⟩) k k) e = some (e' b)) (h : ∀ b, XL P F n ops l Q (e' b) (blk b r el :: L)) : XL P F n ops (⟨d, .buildSlice t k parts.toArray, ty, pos, af, none⟩ :: l) Q e L :=
  XL_next (o := ⟨d, .buildSlice t k parts.toArray, ty, pos, af, none⟩) rfl fun a w hf hs => by
    have hu := hT.und t i1 ht
    rw [hd] at hu
    have h6 : (parts.toArray.map fun (i, x) => (i, a.eval x)).toList = vs := by simpa using hf.evp hv
    have h7 : z.cells.size = i2.size := by rw [← hsz]; simp
    have hp2 : 0 < i2.size := by simpa [Nat.blt_eq] using hpos
    have h10 := fillA_eq i2.size vs _ _ hr
    refine ⟨.slice (some ⟨w.heap.size, 0, none⟩) k k, w.alloc (.cells r.toArray el), e' _, _, .inl ?_, hp _, hs.alloc (by simp [blk, Hp.one]), h _⟩
    have hle : ¬ (k * i2.size > 2 ^ 24) := by have := Nat.le_of_ble_eq_true hk; omega
    by_cases h0 : k * i2.size = 0
    · have e1 : (zerosL k z.cells.toList).toArray = (#[] : Array Value) := by
        have : (zerosL k z.cells.toList).length = 0 := by rw [zerosL_length, hsz, h0]
        rw [List.eq_nil_of_length_eq_zero this]
      rw [e1] at h10
      simp only [execOp, Instr.buildSlice, Sem.run_bind, run_underlying hu, Result.andThen_ok, run_sizeOf hT w he, hle, if_false, h0, if_true, Sem.run_pure]
      rw [h6]
      simp only [Array.range_zero', Array.map_empty, h10]
      simp [newRow]
    · have e1 := made_list z.cells k (.inl (by omega))
      rw [h7] at e1
      rw [← e1] at h10
      simp only [madeCells, h7] at h10
      simp only [execOp, Instr.buildSlice, Sem.run_bind, run_underlying hu, Result.andThen_ok, run_sizeOf hT w he, hle, if_false, h0, Sem.run_pure, run_zeroValue hT w he hz, h7]
      rw [h6, h10]
      simp [newRow]

section
variable {α : Type} [Inhabited α] {E : Enc α}
theorem flat_replicate (k : Nat) (x : α) : flat E (List.replicate k x) = zerosL k (E.enc x) := by
  induction k with
  | zero => simp [flat, zerosL]
  | succ k ih => simp only [flat, zerosL, List.replicate_succ, List.flatMap_cons, List.flatten_cons] at ih ⊢; rw [ih]
/-- make([]T, k), make([]T, k, c). -/
theorem XL_make (E : Enc α) (z0 : α) (hT : TabOk P T) {t el : TypeId} {i1 i2 : TI} {z : Value} {x y : Operand} {kx ky : IntKind} {k c : Int} {e' : Nat → Env} (ht : look T t = some i1) (hd : i1.desc = .slice el) (he : look T el = some i2) (hz : i2.zero = some z) (hE : E.enc z0 = z.cells.toList) (hsz : i2.size = E.sz)
    (hx : ev e x = some (.int kx k)) (hy : ev e y = some (.int ky c)) (h0 : 0 ≤ k) (hkc : k ≤ c) (hb : (i2.bytes : Int) * c ≤ 281474976710656) (hc : c ≤ 9223372036854775807)
    (hp : ∀ b, putE n d (.slice (some ⟨b, 0, none⟩) k.toNat c.toNat) e = some (e' b)) (h : ∀ b, XL P F n ops l Q (e' b) (own E (some ⟨b, 0, none⟩) k.toNat c.toNat (List.replicate k.toNat z0) :: L)) : XL P F n ops (⟨d, .makeSlice t x y, ty, pos, af, none⟩ :: l) Q e L :=
  XL_next (o := ⟨d, .makeSlice t x y, ty, pos, af, none⟩) rfl fun a w hf hs => by
    have hu := hT.und t i1 ht
    rw [hd] at hu
    obtain ⟨xi, g1, g2, g3, g4⟩ := hT.inf el i2 he
    have hr := run_make (P := P) w t el xi z hu g1 (by rw [g2, hz]) kx ky k c h0 hkc (by rw [g4]; exact hb) hc
    have hzs : z.cells.size = E.sz := by have := E.len z0; rw [hE] at this; simpa using this
    have hm := made_list z.cells c.toNat (.inl (by rw [hzs]; exact E.pos))
    rw [hzs] at hm
    rw [g3, hsz, hm] at hr
    refine ⟨.slice (some ⟨w.heap.size, 0, none⟩) k.toNat c.toNat, w.alloc (.cells (zerosL c.toNat z.cells.toList).toArray el), e' _, _, .inl (by simp only [execOp, hf.ev hx, hf.ev hy, Sem.run_bind, hr, Result.andThen_ok, Sem.run_pure]), hp _, hs.alloc ?_, h w.heap.size⟩
    refine .inr ⟨w.heap.size, (zerosL c.toNat z.cells.toList).toArray, el, rfl, by simp [Hp.one], by simp, by omega, by simp only [maxLen]; omega, by simp [zerosL_length, hzs], ?_⟩
    simp only []
    rw [← hE, ← flat_replicate, flat_take]
    congr 1
    rw [List.take_replicate]
    congr 1; omega

/-! append to a slice of one's own -/
theorem append_room (w : World) (t ty el e0 : TypeId) (i : TypeInfo) (ht : P.underlying t = some (.slice el)) (hi : P.info? el = some i)
    (g sLen sCap : Nat) (cur : Array Value) (hg : w.heap[g]? = some (.cells cur e0 (0, 0)))
    (a : Addr) (m c : Nat) (news : List Value) (hl : news.length = m * i.size) (hnews : ∀ j u, news[j]? = some u → w.cell? (a.add j) = some u) (h1 : ∀ u ∈ news, u.oneCell' = true)
    (hroom : sLen + m ≤ sCap) (hfit : sLen * i.size + news.length ≤ cur.size) :
    (Builtin.append_ #[t, t] ty #[.slice (some ⟨g, 0, none⟩) sLen sCap, .slice (some a) m c]).run P w =
      .ok (.slice (some ⟨g, 0, none⟩) (sLen + m) sCap) (w.setRow g (cur.toList.take (sLen * i.size) ++ news ++ cur.toList.drop (sLen * i.size + news.length)).toArray) := by
  have hf := run_firstCells_some (P := P) w i.size m a m c news hl hnews
  have hst := run_storeCells_at P g (sLen * i.size) e0 news 0 cur w hg (by simpa using hfit) h1
  simp only [Nat.add_zero] at hst
  simp [Builtin.append_, run_underlying ht, sizeOf, typeInfo, hi, Builtin.lenOf, hroom, hf, Addr.add_lit, hst]
theorem append_own (hT : TabOk P T) {t el : TypeId} {i1 i2 : TI} {z : Value} (ht : look T t = some i1) (hd : i1.desc = .slice el) (he : look T el = some i2) (hz : i2.zero = some z) (hzs : z.cells.toList.length = i2.size) (hsz : i2.size = E.sz)
    {w : World} {k : Nat} {A B : Option Addr} {m c m' c' : Nat} {xs ys : List α} (hs : St F w L) (hk : L[k]? = some (own E A m c xs)) (hB : rdS E (World.hp w) B m' ys) (hbytes : (m + m') * i2.bytes ≤ 140737488355328) (hml : m + m' ≤ maxLen) (ty : TypeId) :
    ∃ A' c2 w', (Builtin.append_ #[t, t] ty #[.slice A m c, .slice B m' c']).run P w = .ok (.slice A' (m + m') c2) w' ∧ St F w' (L.set k (own E A' (m + m') c2 (xs ++ ys))) := by
  have hu := hT.und t i1 ht
  rw [hd] at hu
  obtain ⟨xi, g1, g2, g3, g4⟩ := hT.inf el i2 he
  have hz' : xi.zero = some z := by rw [g2, hz]
  have hzsz : z.cells.size = E.sz := by rw [← hsz, ← hzs]; simp
  have hxs : xi.size = E.sz := by rw [g3, hsz]
  have hlim : m + m' ≤ 9223372036854775807 := by simp only [maxLen] at hml; omega
  have hnl : (flat E ys).length = m' * xi.size := by rw [flat_length, hB.1, hxs]
  obtain ⟨g, hg, hdj, hA⟩ := hs.at hk
  have hown := own_len hA
  by_cases hm0 : m' = 0
  · -- nothing is appended
    subst hm0
    have hys : ys = [] := List.eq_nil_of_length_eq_zero hB.1.symm
    subst hys
    refine ⟨A, c, w, ?_, ?_⟩
    · have hl0 : ∀ (x : Addr), (loadCells x 0).run P w = .ok #[] w := fun x => by simpa using run_loadCells_list (P := P) w x [] (by simp)
      cases A <;> cases B <;> simp [Builtin.append_, run_underlying hu, sizeOf, typeInfo, g1, Builtin.lenOf, hown.2.1, Builtin.firstCells, storeCells, hl0]
    · simp only [Nat.add_zero, List.append_nil]
      exact hs.perm ((perm_at hk).trans (perm_set hk))
  · obtain ⟨ad, hBa⟩ : ∃ ad, B = some ad := Option.isSome_iff_exists.1 (hB.pos (by omega))
    subst hBa
    have hnews : ∀ j u, (flat E ys)[j]? = some u → w.cell? (ad.add j) = some u := fun j u hj => cellH_world (hB.2.2 j u hj)
    have hone := flat_one E ys
    have hz0 : Builtin.zeroCells z.cells = fun q => madeCells z.cells (q * z.cells.size) := rfl
    -- the new row, where there is no room
    have grow : ∀ (r : World) (v : Nat) (cells : Array Value), r = w.drew.alloc (.cells cells el) → v = w.heap.size → (∃ c2, m + m' ≤ c2 ∧ c2 ≤ maxLen ∧ cells.size = c2 * E.sz ∧ cells.toList.take ((m + m') * E.sz) = flat E (xs ++ ys)) →
        ∃ c2, cells.size = c2 * E.sz ∧ St F r (L.set k (own E (some ⟨v, 0, none⟩) (m + m') c2 (xs ++ ys))) := by
      rintro r v cells rfl rfl ⟨c2, h1, h2, h3, h4⟩
      refine ⟨c2, h3, ?_⟩
      have hs2 := (hs.drew).perm (perm_at hk)
      have hs3 : St F (w.drew.alloc (.cells cells el)) (own E (some ⟨w.heap.size, 0, none⟩) (m + m') c2 (xs ++ ys) :: own E A m c xs :: L.eraseIdx k) := hs2.alloc (.inr ⟨w.heap.size, cells, el, rfl, by simp [Hp.one], by rw [List.length_append, hown.1, hB.1], h1, h2, h3, h4⟩)
      refine (hs3.sub ?_).perm (perm_set hk)
      exact (List.Sublist.cons _ (List.Sublist.refl _)).cons_cons _
    have capfit : ∀ old, old < m + m' → grownCap w (m + m') old el ≤ maxLen ∧ m + m' ≤ grownCap w (m + m') old el := fun old ho => ⟨grownCap_le_maxLen w _ _ _ hml, grownCap_ge w _ _ _⟩
    rcases hA with ⟨rfl, rfl, rfl, rfl⟩ | ⟨b, cur, e0, rfl, hb, h1, h2, h3, h4, h5⟩
    · -- nil
      have hr := run_append_nil (P := P) w t ty el xi z hu g1 hz' ad m' c' (flat E ys) hnl hnews (by omega) (by omega) (by rw [g4]; have := hbytes; simp only [Nat.zero_add] at this; omega)
      obtain ⟨q1, q2⟩ := capfit 0 (by omega)
      simp only [Nat.zero_add] at q1 q2
      obtain ⟨c2, e1, e2⟩ := grow _ _ ((flat E ys).toArray ++ Builtin.zeroCells z.cells (grownCap w m' 0 el - m')) rfl rfl ⟨grownCap w m' 0 el, by omega, q1, by
          simp only [Array.size_append, List.size_toArray, size_zeroCells, hzsz, flat_length, ← hB.1, ← Nat.add_mul]; congr 1; omega, by
          simp only [Array.toList_append, List.nil_append, Nat.zero_add]
          rw [← flat_length_of hB.1]
          exact List.take_left⟩
      have e3 : c2 = grownCap w m' 0 el := by
        have e4 : ((flat E ys).toArray ++ Builtin.zeroCells z.cells (grownCap w m' 0 el - m')).size = grownCap w m' 0 el * E.sz := by
          simp only [Array.size_append, List.size_toArray, size_zeroCells, hzsz, flat_length, ← hB.1, ← Nat.add_mul]; congr 1; omega
        rw [e4] at e1
        exact (Nat.eq_of_mul_eq_mul_right E.pos e1).symm
      subst e3
      refine ⟨_, _, _, by rw [hr, Nat.zero_add], e2⟩
    · have hbw : w.heap[b]? = some (.cells cur e0 (0, 0)) := hg _ _ hb
      by_cases hroom : m + m' ≤ c
      · -- there is room
        have hfit : m * xi.size + (flat E ys).length ≤ cur.size := by rw [hnl, h4, hxs, ← Nat.add_mul]; exact Nat.mul_le_mul_right _ hroom
        have hr := append_room (P := P) w t ty el e0 xi hu g1 b m c cur hbw ad m' c' (flat E ys) hnl hnews hone hroom hfit
        refine ⟨_, _, _, hr, hs.turnAt hk fun g' hg' hA' => ?_⟩
        have hcl : cur.toList.length = cur.size := by simp
        rw [hxs] at hfit hnl
        refine ⟨b, ?_, rfl, rfl, rfl, by simp, fun j hj _ => setRow_other w b j _ (fun h => hj h), Hp.one b (.cells (cur.toList.take (m * xi.size) ++ flat E ys ++ cur.toList.drop (m * xi.size + (flat E ys).length)).toArray e0 (0, 0)), fun j o hj => ?_, .inr ⟨b, (cur.toList.take (m * xi.size) ++ flat E ys ++ cur.toList.drop (m * xi.size + (flat E ys).length)).toArray, e0, rfl, by simp [Hp.one], by rw [List.length_append, h1, hB.1], hroom, h3, ?_, ?_⟩⟩
        · rcases hA' with ⟨h, _⟩ | ⟨b', cur', e', h6, h7, _⟩
          · cases h
          · simp only [Option.some.injEq, Addr.mk.injEq, and_true] at h6; subst h6; rw [h7]; simp
        · simp only [Hp.one] at hj
          split at hj
          · rename_i e1
            cases hj
            subst e1
            refine ⟨st_row hbw _, .inl ?_⟩
            rcases hA' with ⟨h, _⟩ | ⟨b', cur', e', h6, h7, _⟩
            · cases h
            · simp only [Option.some.injEq, Addr.mk.injEq, and_true] at h6; subst h6; rw [h7]; simp
          · cases hj
        · rw [hxs]
          simp only [List.size_toArray, List.length_append, List.length_take, List.length_drop, hcl, hnl]
          rw [h4] at hfit ⊢
          omega
        · simp only [hxs]
          rw [h5, flat_append]
          have : (m + m') * E.sz = (flat E xs ++ flat E ys).length := by rw [List.length_append, flat_length, flat_length, ← h1, ← hB.1, Nat.add_mul]
          rw [this]
          exact List.take_left
      · -- there is none
        have hrd := own_rd (E := E) (A := some ⟨b, 0, none⟩) (m := m) (c := c) (xs := xs) (h := g) (.inr ⟨b, cur, e0, rfl, hb, h1, h2, h3, h4, h5⟩)
        have holds : ∀ j u, (flat E xs)[j]? = some u → w.cell? ((⟨b, 0, none⟩ : Addr).add j) = some u := fun j u hj => cellH_world ((hrd.le hg).2.2 j u hj)
        have hol : (flat E xs).length = m * xi.size := by rw [flat_length, h1, hxs]
        have hr := run_append_grow (P := P) w t ty el xi z hu g1 hz' ⟨b, 0, none⟩ m c (flat E xs) hol holds ad m' c' (flat E ys) hnl hnews (by omega) (by omega) (growslice_fits (by omega) (by rw [g4]; exact hbytes))
        obtain ⟨q1, q2⟩ := capfit c (by omega)
        have e4 : ((flat E xs).toArray ++ (flat E ys).toArray ++ Builtin.zeroCells z.cells (grownCap w (m + m') c el - (m + m'))).size = grownCap w (m + m') c el * E.sz := by
          simp only [Array.size_append, List.size_toArray, size_zeroCells, hzsz, flat_length, ← hB.1, ← h1, ← Nat.add_mul]; congr 1; omega
        obtain ⟨c2, e1, e2⟩ := grow _ _ ((flat E xs).toArray ++ (flat E ys).toArray ++ Builtin.zeroCells z.cells (grownCap w (m + m') c el - (m + m'))) rfl rfl ⟨grownCap w (m + m') c el, q2, q1, e4, by
            simp only [Array.toList_append]
            have : (m + m') * E.sz = (flat E xs ++ flat E ys).length := by rw [List.length_append, flat_length, flat_length, ← h1, ← hB.1, Nat.add_mul]
            rw [this, flat_append]
            exact List.take_left⟩
        rw [e4] at e1
        have e3 : c2 = grownCap w (m + m') c el := (Nat.eq_of_mul_eq_mul_right E.pos e1).symm
        subst e3
        exact ⟨_, _, _, hr, e2⟩
where
  flat_length_of {ys : List α} {m' : Nat} (h : m' = ys.length) : (flat E ys).length = m' * E.sz := by rw [flat_length, h]
end
end
end Go.Cof
set_option linter.unusedVariables false
set_option linter.unusedSectionVars false
namespace Go.Cof
open Go.RowKit

/-- What one operation is: 's' it yields one value in every world of the class; 'm' it leaves a world of the class; 'l' it comes behind all others. -/
inductive Kin where | s | m | l
  deriving DecidableEq

def depF (ops : Array Oper) : Nat → Nat → Nat → Bool
  | 0, _, _ => false
  | f + 1, q, p => match ops[q]? with
    | none => false
    | some o => o.after.toList.any fun e => Region.binds .any e && (Nat.beq e.on p || depF ops f e.on p)
/-- q stands behind p in the told order. al p: a late one stands ahead of p. -/
def okPair (fu : Nat) (ops : Array Oper) (kd : Nat → Kin) (al : Nat → Bool) (p q : Nat) : Bool :=
  match ops[p]?, ops[q]? with
  | some op, some oq =>
    !(op.after.toList.any fun e => Region.binds .any e && Nat.beq e.on q) && !(kd p = .l && !al q) &&
    ((kd p = .s && op.apart ops oq && !(kd q = .l) && !al p) || depF ops fu q p)
  | _, _ => false
def okOne (ops : Array Oper) (kd : Nat → Kin) (al : Nat → Bool) (p : Nat) : Bool :=
  match ops[p]? with
  | some o => (o.after.toList.all fun e => !Region.binds .any e || (Nat.blt e.on ops.size && !Nat.beq e.on p)) && !(al p && kd p = .s)
  | none => false
def pairsB (f : Nat → Nat → Bool) : List Nat → Bool
  | [] => true
  | p :: l => l.all (f p) && pairsB f l
def okSched (fu : Nat) (ops : Array Oper) (kd : Nat → Kin) (al : Nat → Bool) (σ : List Nat) : Bool :=
  Region.noSelect ops && Nat.beq σ.length ops.size && (List.range ops.size).all (fun i => σ.contains i) && σ.all (fun i => Nat.blt i ops.size) && pairsB (fun p q => !Nat.beq p q) σ && σ.all (okOne ops kd al) && pairsB (okPair fu ops kd al) σ

theorem pairsB_pairwise {f : Nat → Nat → Bool} : ∀ {l : List Nat}, pairsB f l = true → l.Pairwise (fun p q => f p q = true)
  | [], _ => List.Pairwise.nil
  | p :: l, h => by
    simp only [pairsB, Bool.and_eq_true, List.all_eq_true] at h
    exact List.Pairwise.cons h.1 (pairsB_pairwise h.2)

section
variable {P : Program} {ops : Array Oper} {kd : Nat → Kin} {al : Nat → Bool} {C : World → Prop}

/-- No way out but the plain one. -/
def NoQ : Exit → Act → World → Prop := fun _ _ _ => False

def opW (P : Program) (ops : Array Oper) (kd : Nat → Kin) (C : World → Prop) (i : Nat) (K : Act → World → Prop) (a : Act) (w : World) : Prop :=
  match ops[i]? with
  | none => False
  | some o =>
    if Region.wanted o (yielded ops a.tmps) = true then
      match kd i with
      | .s => ∃ v, (∀ w', C w' → (execOp a.eval o).run P w' = .ok (.value v) w') ∧ K (a.put o.dst v) w
      | .m => o.wp P a w (fun a' w' => C w' ∧ K a' w') NoQ
      | .l => o.wp P a w K NoQ
    else K (a.put o.dst undef) w
def wlx (P : Program) (ops : Array Oper) (kd : Nat → Kin) (C : World → Prop) (K : Act → World → Prop) : List Nat → Act → World → Prop
  | [] => K
  | i :: rest => opW P ops kd C i (wlx P ops kd C K rest)

theorem wp_imp {o : Oper} {a : Act} {w : World} {K K' : Act → World → Prop} {Q : Exit → Act → World → Prop} (h : ∀ a w, K a w → K' a w) (hh : o.wp P a w K NoQ) : o.wp P a w K' Q := by
  unfold Oper.wp at *
  generalize (execOp a.eval o).run P w = r at *
  cases r with
  | ok n w' =>
    cases n <;> simp only [Oper.upon] at hh ⊢ <;> first | exact h _ _ hh | skip
    · exact hh.mono fun e w'' he => by
        cases e with
        | returned v => exact h _ _ he
        | panicked ch => exact he.elim
        | outgrown => obtain ⟨_, _, hx⟩ := he; exact hx.elim
    · exact hh.mono fun v w'' he => h _ _ he
  | halt x w' =>
    cases x <;> simp only [Oper.upon] at hh ⊢
    exact hh.elim

theorem opW_mono {i : Nat} {K K' : Act → World → Prop} {a : Act} {w : World} (hw : kd i = .s → C w) (h : ∀ a w', (kd i = .s → C w') → K a w' → K' a w') (hh : opW P ops kd C i K a w) : opW P ops kd C i K' a w := by
  unfold opW at *
  split at hh
  · exact hh.elim
  · rename_i o ho
    split at hh
    · rename_i hwt
      rw [if_pos hwt]
      split at hh
      · rename_i hk
        obtain ⟨v, h1, h2⟩ := hh
        exact ⟨v, h1, h _ _ (fun _ => hw hk) h2⟩
      · rename_i hk
        exact wp_imp (fun a w' hx => ⟨hx.1, h _ _ (fun hs => hx.1) hx.2⟩) hh
      · rename_i hk
        refine wp_imp (fun a w' hx => h _ _ (fun hs => ?_) hx) hh
        rw [hk] at hs; cases hs
    · rename_i hwt
      rw [if_neg hwt]
      exact h _ _ hw hh

theorem opW_at {i : Nat} {o : Oper} (ho : ops[i]? = some o) {K : Act → World → Prop} {a : Act} {w : World} : opW P ops kd C i K a w = (if Region.wanted o (yielded ops a.tmps) = true then
      match kd i with
      | .s => ∃ v, (∀ w', C w' → (execOp a.eval o).run P w' = .ok (.value v) w') ∧ K (a.put o.dst v) w
      | .m => o.wp P a w (fun a' w' => C w' ∧ K a' w') NoQ
      | .l => o.wp P a w K NoQ
    else K (a.put o.dst undef) w) := by
  unfold opW
  rw [ho]
/-- What is 's' may stand behind the next one. -/
theorem opW_swap {p q : Nat} {op oq : Oper} (hp : ops[p]? = some op) (hq : ops[q]? = some oq) (hsel : ∀ (j : Nat) (o : Oper) cs b, ops[j]? = some o → o.op ≠ .select cs b) (hs : kd p = .s) (hap : op.apart ops oq = true) (hl : kd q ≠ .l) {K : Act → World → Prop} {a : Act} {w : World} (hC : C w)
    (h : opW P ops kd C p (opW P ops kd C q K) a w) : opW P ops kd C q (opW P ops kd C p K) a w := by
  obtain ⟨h1, h2, h3⟩ := Oper.apart_spec hap
  have w1 : ∀ (a : Act) (v : Value), Region.wanted oq (yielded ops (a.put op.dst v).tmps) = Region.wanted oq (yielded ops a.tmps) := fun a v => wanted_put oq a op.dst v h1
  have w2 : ∀ (a : Act) (v : Value), Region.wanted op (yielded ops (a.put oq.dst v).tmps) = Region.wanted op (yielded ops a.tmps) := fun a v => wanted_put op a oq.dst v h3
  have x1 : ∀ (a : Act) (v : Value), execOp (a.put op.dst v).eval oq = execOp a.eval oq := fun a v => execOp_put oq (fun cs b => hsel q oq cs b hq) a op.dst v h1
  have x2 : ∀ (a : Act) (v : Value), execOp (a.put oq.dst v).eval op = execOp a.eval op := fun a v => execOp_put op (fun cs b => hsel p op cs b hp) a oq.dst v h3
  have cm : ∀ (a : Act) (v u : Value), (a.put op.dst v).put oq.dst u = (a.put oq.dst u).put op.dst v := fun a v u => Act.put_comm a v u h2
  -- p's value in a state, whatever q has laid
  have pv : ∃ v, (Region.wanted op (yielded ops a.tmps) = true → ∀ w', C w' → (execOp a.eval op).run P w' = .ok (.value v) w') ∧ (Region.wanted op (yielded ops a.tmps) = false → v = undef) ∧ opW P ops kd C q K (a.put op.dst v) w := by
    rw [opW_at hp] at h
    simp only [hs] at h
    split at h
    · rename_i hw
      obtain ⟨v, g1, g2⟩ := h
      exact ⟨v, fun _ => g1, fun hf => absurd (hw.symm.trans hf) (by simp), g2⟩
    · rename_i hw
      exact ⟨undef, fun hf => absurd hf hw, fun _ => rfl, h⟩
  obtain ⟨v, g1, g2, g3⟩ := pv
  have back : ∀ u w', C w' → K ((a.put op.dst v).put oq.dst u) w' → opW P ops kd C p K (a.put oq.dst u) w' := fun u w' hC' hK => by
    rw [opW_at hp]
    simp only [hs, w2, x2]
    rw [cm] at hK
    by_cases hw : Region.wanted op (yielded ops a.tmps) = true
    · rw [if_pos hw]; exact ⟨v, g1 hw, hK⟩
    · rw [if_neg hw]
      have := g2 (by simpa using hw)
      rw [this] at hK
      exact hK
  rw [opW_at hq] at g3 ⊢
  simp only [w1] at g3 ⊢
  by_cases hw : Region.wanted oq (yielded ops a.tmps) = true
  · rw [if_pos hw] at g3 ⊢
    cases hk : kd q with
    | s =>
      rw [hk] at g3
      simp only at g3 ⊢
      obtain ⟨u, k1, k2⟩ := g3
      rw [x1] at k1
      exact ⟨u, k1, back u w hC k2⟩
    | m =>
      rw [hk] at g3
      simp only at g3 ⊢
      unfold Oper.wp at g3 ⊢
      rw [x1] at g3
      generalize (execOp a.eval oq).run P w = r at *
      cases r with
      | ok n w' =>
        cases n <;> simp only [Oper.upon] at g3 ⊢ <;> first | exact ⟨g3.1, back _ _ g3.1 g3.2⟩ | skip
        · exact g3.mono fun e w'' he => by
            cases e with
            | returned u => exact ⟨he.1, back _ _ he.1 he.2⟩
            | panicked ch => exact he.elim
            | outgrown => obtain ⟨_, _, hx⟩ := he; exact hx.elim
        · rename_i df
          have e1 : ({ a.put op.dst v with defers := df :: (a.put op.dst v).defers } : Act).put oq.dst undef = (({ a with defers := df :: a.defers } : Act).put op.dst v).put oq.dst undef := by
            cases op.dst <;> rfl
          rw [e1] at g3
          refine ⟨g3.1, ?_⟩
          have w3 : Region.wanted op (yielded ops (({ a with defers := df :: a.defers } : Act).put oq.dst undef).tmps) = Region.wanted op (yielded ops a.tmps) := w2 { a with defers := df :: a.defers } undef
          have x3 : execOp (({ a with defers := df :: a.defers } : Act).put oq.dst undef).eval op = execOp a.eval op := by
            rw [execOp_put op (fun cs b => hsel p op cs b hp) _ oq.dst undef h3]
            rfl
          have hK := g3.2
          rw [Act.put_comm _ v undef h2] at hK
          rw [opW_at hp]
          simp only [hs, w3, x3]
          by_cases hw : Region.wanted op (yielded ops a.tmps) = true
          · rw [if_pos hw]; exact ⟨v, g1 hw, hK⟩
          · rw [if_neg hw]
            have := g2 (by simpa using hw)
            rw [this] at hK
            exact hK
        · exact g3.mono fun u w'' he => ⟨he.1, back _ _ he.1 he.2⟩
      | halt x w' =>
        cases x <;> simp only [Oper.upon] at g3 ⊢
        exact g3.elim
    | l => exact absurd hk hl
  · rw [if_neg hw] at g3 ⊢
    exact back _ _ hC g3

theorem wlx_bubble {i : Nat} {oi : Oper} (hi : ops[i]? = some oi) (hsel : ∀ (j : Nat) (o : Oper) cs b, ops[j]? = some o → o.op ≠ .select cs b) (hl : kd i ≠ .l) {K : Act → World → Prop} : ∀ (l1 l2 : List Nat), (∀ j ∈ l1, kd j = .s ∧ ∃ oj, ops[j]? = some oj ∧ oj.apart ops oi = true) → ∀ (a : Act) (w : World), C w →
    wlx P ops kd C K (l1 ++ i :: l2) a w → wlx P ops kd C K (i :: (l1 ++ l2)) a w
  | [], l2, _, a, w, _, h => h
  | j :: l1, l2, hj, a, w, hC, h => by
    obtain ⟨hs, oj, hoj, hap⟩ := hj j (by simp)
    have h1 : opW P ops kd C j (wlx P ops kd C K (i :: (l1 ++ l2))) a w := opW_mono (fun _ => hC) (fun a' w' hC' hK => wlx_bubble hi hsel hl l1 l2 (fun k hk => hj k (by simp [hk])) a' w' (hC' hs) hK) h
    exact opW_swap hoj hi hsel hs hap hl hC h1

theorem depF_listed {listed : Array Bool} (hdown : ∀ k o, ops[k]? = some o → listed.getD k false = true → ∀ e ∈ o.after, Region.binds .any e = true → listed.getD e.on false = true) : ∀ (f q p : Nat), (∀ o, ops[q]? = some o → ∀ e ∈ o.after, Region.binds .any e = true → listed.getD e.on false = true) → depF ops f q p = true → listed.getD p false = true
  | 0, _, _, _, h => by cases h
  | f + 1, q, p, hq, h => by
    simp only [depF] at h
    split at h
    · cases h
    · rename_i o ho
      rw [List.any_eq_true] at h
      obtain ⟨e, he, hb⟩ := h
      simp only [Bool.and_eq_true, Bool.or_eq_true] at hb
      have h1 := hq o ho e (by simpa using he) hb.1
      rcases hb.2 with h2 | h2
      · rw [← Nat.eq_of_beq_eq_true h2]; exact h1
      · exact depF_listed hdown f e.on p (fun o' ho' => hdown _ o' ho' h1) h2

theorem sched_any {fu : Nat} {Q : Exit → Act → World → Prop} (hsel : ∀ (j : Nat) (o : Oper) cs b, ops[j]? = some o → o.op ≠ .select cs b) : ∀ (fuel : Nat) (σ : List Nat) (listed : Array Bool) (a : Act) (w : World), fuel = σ.length → listed.size = ops.size → σ.Nodup →
    (∀ i, i ∈ σ ↔ i < ops.size ∧ listed.getD i false = false) → (∀ k o, ops[k]? = some o → listed.getD k false = true → ∀ e ∈ o.after, Region.binds .any e = true → listed.getD e.on false = true) →
    σ.Pairwise (fun p q => okPair fu ops kd al p q = true) → (∀ p ∈ σ, okOne ops kd al p = true) → (C w ∨ ∀ j ∈ σ, al j = true) →
    wlx P ops kd C (fun a w => Q .normal a w) σ a w → wpAny P .any ops Q fuel listed a w
  | 0, σ, listed, a, w, hf, hsz, hnd, hin, hdown, hpw, hone, hC, h => by
    have hσ : σ = [] := List.eq_nil_of_length_eq_zero hf.symm
    subst hσ
    refine ⟨?_, h⟩
    apply List.eq_nil_iff_forall_not_mem.2
    intro i hi
    obtain ⟨h1, o, ho, _⟩ := mem_ready.1 hi
    have hlt : i < ops.size := (Array.getElem?_eq_some_iff.1 ho).1
    have := (hin i).2 ⟨hlt, by rw [Array.getD_eq_getD_getElem?] at h1 ⊢; rw [Array.getElem?_eq_getElem (by omega)] at h1 ⊢; exact h1⟩
    cases this
  | fuel + 1, σ, listed, a, w, hf, hsz, hnd, hin, hdown, hpw, hone, hC, h => by
    have getD_tf : ∀ i, i < ops.size → (listed.getD i true = listed.getD i false) := fun i hi => by
      rw [Array.getD_eq_getD_getElem?, Array.getD_eq_getD_getElem?, Array.getElem?_eq_getElem (by omega)]; rfl
    refine ⟨fun hr => ?_, fun i hi => ?_⟩
    · -- the head can always come up
      exfalso
      cases σ with
      | nil => cases hf
      | cons p σ =>
        have hp := (hin p).1 (by simp)
        have h1 := hone p (by simp)
        unfold okOne at h1
        split at h1
        · rename_i o ho
          simp only [Bool.and_eq_true, List.all_eq_true, Bool.or_eq_true, Bool.not_eq_true'] at h1
          have : p ∈ Region.ready .any ops listed := by
            refine mem_ready.2 ⟨by rw [getD_tf p hp.1]; exact hp.2, o, ho, fun e he hb => ?_⟩
            have h2 := h1.1 e (by simpa using he)
            rw [hb] at h2
            simp only [Bool.true_eq_false, false_or] at h2
            have hlt : e.on < ops.size := by simpa [Nat.blt_eq] using h2.1
            cases hc : listed.getD e.on false with
            | true => rfl
            | false =>
              exfalso
              have hmem := (hin e.on).2 ⟨hlt, hc⟩
              cases hmem with
              | head => have := h2.2; rw [Nat.beq_refl] at this; cases this
              | tail _ hm =>
                have h3 := List.rel_of_pairwise_cons hpw hm
                unfold okPair at h3
                rw [ho] at h3
                split at h3
                · rename_i op oq e1 e2
                  cases e1
                  simp only [Bool.and_eq_true, Bool.not_eq_true'] at h3
                  have h4 := h3.1.1
                  rw [List.any_eq_false] at h4
                  have h5 := h4 e (by simpa using he)
                  simp [hb] at h5
                · cases h3
          rw [hr] at this
          cases this
        · cases h1
    · -- whatever comes up may be taken first
      obtain ⟨h1, oi, hoi, hall⟩ := mem_ready.1 hi
      have hlt : i < ops.size := (Array.getElem?_eq_some_iff.1 hoi).1
      rw [getD_tf i hlt] at h1
      have hmem := (hin i).2 ⟨hlt, h1⟩
      obtain ⟨l1, l2, rfl⟩ := List.append_of_mem hmem
      have hpw' := List.pairwise_append.1 hpw
      have hpi := List.pairwise_cons.1 hpw'.2.1
      have hbefore : ∀ j ∈ l1, kd j = .s ∧ (∃ oj, ops[j]? = some oj ∧ oj.apart ops oi = true) ∧ kd i ≠ .l ∧ al j = false := fun j hj => by
        have h2 := hpw'.2.2 j hj i (by simp)
        have hjun := (hin j).1 (by simp [hj])
        unfold okPair at h2
        rw [hoi] at h2
        split at h2
        · rename_i op oq e1 e2
          cases e2
          simp only [Bool.and_eq_true, Bool.or_eq_true, Bool.not_eq_true', decide_eq_true_eq, decide_eq_false_iff_not] at h2
          rcases h2.2 with h3 | h3
          · exact ⟨h3.1.1.1, ⟨op, e1, h3.1.1.2⟩, h3.1.2, h3.2⟩
          · have := depF_listed hdown fu i j (fun o ho e he hb => by rw [hoi] at ho; cases ho; exact hall e he hb) h3
            rw [hjun.2] at this; cases this
        · cases h2
      have hfirst : wlx P ops kd C (fun a w => Q .normal a w) (i :: (l1 ++ l2)) a w := by
        cases l1 with
        | nil => exact h
        | cons j l1 =>
          have hj := hbefore j (by simp)
          have hCw : C w := by
            rcases hC with hC | hC
            · exact hC
            · have := hC j (by simp); rw [hj.2.2.2] at this; cases this
          exact wlx_bubble hoi hsel hj.2.2.1 (j :: l1) l2 (fun k hk => ⟨(hbefore k hk).1, (hbefore k hk).2.1⟩) a w hCw h
      have rest : ∀ (a' : Act) (w' : World), (C w' ∨ ∀ j ∈ l1 ++ l2, al j = true) → wlx P ops kd C (fun a w => Q .normal a w) (l1 ++ l2) a' w' → wpAny P .any ops Q fuel (listed.setIfInBounds i true) a' w' := fun a' w' hC' h' => by
        have hnd' : (l1 ++ l2).Nodup := by
          exact hnd.sublist ((List.Sublist.refl l1).append (List.sublist_cons_self i l2))
        have hni : i ∉ l1 ++ l2 := by
          intro hm
          have h2 := List.nodup_append.1 hnd
          rcases List.mem_append.1 hm with h3 | h3
          · exact h2.2.2 i h3 i (by simp) rfl
          · exact (List.nodup_cons.1 h2.2.1).1 h3
        have hget : ∀ k, (listed.setIfInBounds i true).getD k false = if k = i then true else listed.getD k false := fun k => by
          simp only [Array.getD_eq_getD_getElem?, Array.getElem?_setIfInBounds]
          by_cases hk : k = i
          · subst hk; simp [hsz, hlt]
          · rw [if_neg (fun e => hk e.symm), if_neg hk]
        refine sched_any (fu := fu) hsel fuel (l1 ++ l2) _ a' w' (by simp at hf ⊢; omega) (by simpa using hsz) hnd' (fun k => ?_) (fun k o ho hk e he hb => ?_) ?_ (fun p hp => hone p (by rcases List.mem_append.1 hp with h2 | h2 <;> simp [h2])) hC' h'
        · rw [hget]
          constructor
          · intro hk
            have hne : k ≠ i := fun e => hni (e ▸ hk)
            rw [if_neg hne]
            exact (hin k).1 (by rcases List.mem_append.1 hk with h2 | h2 <;> simp [h2])
          · rintro ⟨h2, h3⟩
            split at h3
            · cases h3
            · rename_i hne
              have := (hin k).2 ⟨h2, h3⟩
              rcases List.mem_append.1 this with h4 | h4
              · simp [h4]
              · cases h4 with
                | head => exact absurd rfl hne
                | tail _ h5 => exact List.mem_append.2 (.inr h5)
        · rw [hget] at hk ⊢
          split
          · rfl
          · split at hk
            · rename_i e1; subst e1; rw [hoi] at ho; cases ho; exact hall e he hb
            · exact hdown k o ho hk e he hb
        · exact List.pairwise_append.2 ⟨hpw'.1, hpi.2, fun x hx y hy => hpw'.2.2 x hx y (by simp [hy])⟩
      have hal : kd i = .l → ∀ j ∈ l1 ++ l2, al j = true := fun hk j hj => by
        rcases List.mem_append.1 hj with h2 | h2
        · exact absurd hk (hbefore j h2).2.2.1
        · have h3 := hpi.1 j h2
          unfold okPair at h3
          rw [hoi] at h3
          split at h3
          · simp only [Bool.and_eq_true, Bool.not_eq_true', hk] at h3
            simpa using h3.1.2
          · cases h3
      have hstill : kd i = .s → C w := fun hk => by
        rcases hC with hC | hC
        · exact hC
        · have h2 := hC i (by simp)
          have h3 := hone i (by simp)
          unfold okOne at h3
          rw [hoi] at h3
          simp only [Bool.and_eq_true, Bool.not_eq_true', h2, Bool.true_and, hk] at h3
          simp at h3
      -- the operation itself
      simp only [wlx] at hfirst
      rw [opW_at hoi] at hfirst
      unfold wpOp
      rw [hoi]
      simp only at hfirst ⊢
      have keepC : C w ∨ ∀ j ∈ l1 ++ l2, al j = true := by
        rcases hC with hC | hC
        · exact .inl hC
        · exact .inr fun j hj => hC j (by rcases List.mem_append.1 hj with h2 | h2 <;> simp [h2])
      by_cases hw : Region.wanted oi (yielded ops a.tmps) = true
      · rw [if_pos hw] at hfirst ⊢
        left
        cases hk : kd i with
        | s =>
          rw [hk] at hfirst
          obtain ⟨v, g1, g2⟩ := hfirst
          unfold Oper.wp
          rw [g1 w (hstill hk)]
          exact rest _ _ keepC g2
        | m =>
          rw [hk] at hfirst
          exact wp_imp (fun a' w' hx => rest a' w' (.inl hx.1) hx.2) hfirst
        | l =>
          rw [hk] at hfirst
          exact wp_imp (fun a' w' hx => rest a' w' (.inr (hal hk)) hx) hfirst
      · rw [if_neg hw] at hfirst ⊢
        exact rest _ _ keepC hfirst

theorem wp_region_sched {fu : Nat} {id : Nat} {Q : Exit → Act → World → Prop} {a : Act} {w : World} (σ : List Nat) (hm : P.follows .mixedOrders = true) (hok : okSched fu ops kd al σ = true) (hC : C { w with drawn := w.drawn + 1 })
    (h : wlx P ops kd C (fun a w => Q .normal a w) σ a { w with drawn := w.drawn + 1 }) : (Code.region id ops true).wp P Q a w := by
  simp only [okSched, Bool.and_eq_true, List.all_eq_true] at hok
  obtain ⟨⟨⟨⟨⟨⟨h1, h2⟩, h3⟩, h6⟩, h7⟩, h4⟩, h5⟩ := hok
  have hlen : σ.length = ops.size := Nat.eq_of_beq_eq_true h2
  have hsub : ∀ i, i < ops.size → i ∈ σ := fun i hi => by simpa using h3 i (by simpa using hi)
  have hlt : ∀ i, i ∈ σ → i < ops.size := fun i hi => by simpa [Nat.blt_eq] using h6 i hi
  have hnd : σ.Nodup := (pairsB_pairwise h7).imp (fun {p q} hpq e => by subst e; rw [Nat.beq_refl] at hpq; cases hpq)
  refine wp_region_any hm (sched_any (fu := fu) (kd := kd) (al := al) (C := C) (Region.noSelect_spec h1) ops.size σ (Array.replicate ops.size false) a _ hlen.symm (by simp) hnd (fun i => ?_) (fun k o ho hk => ?_) (pairsB_pairwise h5) h4 (.inl hC) h)
  · constructor
    · intro hi
      have : i < ops.size := hlt i hi
      exact ⟨this, by simp [Array.getD_eq_getD_getElem?, this]⟩
    · rintro ⟨hi, _⟩; exact hsub i hi
  · exfalso
    rw [Array.getD_eq_getD_getElem?] at hk
    by_cases hlt : k < ops.size
    · simp [hlt] at hk
    · rw [Array.getElem?_eq_none (by simpa using hlt)] at hk; cases hk
end

/-! ### over states -/
/-- A value that every world over the frozen part gives. -/
structure XV (P : Program) (G : Frz) (n : Nat) (o : Oper) (e : Env) (v : Value) : Prop where
  out : ∀ a w, Fr n e a → St G w [] → (execOp a.eval o).run P w = .ok (.value v) w
structure XD (P : Program) (G F : Frz) (n : Nat) (ops : Array Oper) (kd : Nat → Kin) (σ : List Nat) (Q : Exit → Act → World → Prop) (e : Env) (L : List HProp) : Prop where
  out : ∀ a w, Fr n e a → St F w L → wlx P ops kd (fun w => St G w []) (fun a w => Q .normal a w) σ a w
/-- What stands behind one operation of such a region. -/
def QD (P : Program) (G : Frz) (ops : Array Oper) (kd : Nat → Kin) (σ : List Nat) (Q : Exit → Act → World → Prop) (m : Bool) : Exit → Act → World → Prop
  | .normal, a, w => (m = true → St G w []) ∧ wlx P ops kd (fun w => St G w []) (fun a w => Q .normal a w) σ a w
  | _, _, _ => False

section
variable {P : Program} {T : Tab} {F G : Frz} {n : Nat} {Q : Exit → Act → World → Prop} {e : Env} {L : List HProp} {ops : Array Oper} {kd : Nat → Kin} {σ : List Nat} {d : Option Tmp} {ty : TypeId} {pos : String} {af : Array Edge}

theorem St.nil {w : World} (h : St F w L) : St F w [] := h.imp fun _ _ => trivial
theorem XD_nil (h : Y F n Q .normal e L) : XD P G F n ops kd [] Q e L := .mk fun a w hf hs => h.out a w hf hs
theorem wanted_none {o : Oper} (h : o.guard = none) (y : Nat → Option Bool) : Region.wanted o y = true := by simp [Region.wanted, h]
theorem wanted_some {o : Oper} {j : Nat} {b c : Bool} {t : Tmp} {a : Act} (hf : Fr n e a) (hg : o.guard = some (j, b)) (hd : (ops[j]?).bind (·.dst) = some t) (hv : look e t = some (.bool c)) : Region.wanted o (yielded ops a.tmps) = (c == b) := by
  have := hf.get t _ hv
  simp only [Region.wanted, hg, yielded, hd, Option.bind_some]
  rw [Array.getD_eq_getD_getElem?] at this
  cases hx : a.tmps[t]? with
  | none => rw [hx] at this; simp [undef] at this
  | some u => rw [hx] at this; simp at this; subst this; cases c <;> cases b <;> rfl
theorem XD_s {i : Nat} {o : Oper} {v : Value} {e' : Env} (hi : ops[i]? = some o) (hk : kd i = .s) (hg : o.guard = none) (hv : XV P G n o e v) (hp : putE n o.dst v e = some e') (h : XD P G F n ops kd σ Q e' L) : XD P G F n ops kd (i :: σ) Q e L := .mk fun a w hf hs => by
  show opW P ops kd _ i _ a w
  rw [opW_at hi, if_pos (wanted_none hg _), hk]
  exact ⟨v, fun w' hw' => hv.out a w' hf hw', h.out _ w (hf.put hp) hs⟩
theorem XD_sy {i j : Nat} {o : Oper} {b : Bool} {t : Tmp} {v : Value} {e' : Env} (hi : ops[i]? = some o) (hk : kd i = .s) (hg : o.guard = some (j, b)) (hd : (ops[j]?).bind (·.dst) = some t) (hb : look e t = some (.bool b)) (hv : XV P G n { o with guard := none } e v) (hp : putE n o.dst v e = some e') (h : XD P G F n ops kd σ Q e' L) : XD P G F n ops kd (i :: σ) Q e L := .mk fun a w hf hs => by
  show opW P ops kd _ i _ a w
  rw [opW_at hi, if_pos (by rw [wanted_some hf hg hd hb]; simp), hk]
  exact ⟨v, fun w' hw' => hv.out a w' hf hw', h.out _ w (hf.put hp) hs⟩
theorem XD_no {i j : Nat} {o : Oper} {b c : Bool} {t : Tmp} {e' : Env} (hi : ops[i]? = some o) (hg : o.guard = some (j, b)) (hd : (ops[j]?).bind (·.dst) = some t) (hb : look e t = some (.bool c)) (hc : c = !b) (hp : putE n o.dst undef e = some e') (h : XD P G F n ops kd σ Q e' L) : XD P G F n ops kd (i :: σ) Q e L := .mk fun a w hf hs => by
  show opW P ops kd _ i _ a w
  rw [opW_at hi, if_neg (by rw [wanted_some hf hg hd hb, hc]; cases b <;> simp)]
  exact h.out _ w (hf.put hp) hs
theorem wp_noq {o : Oper} {a : Act} {w : World} {K K' : Act → World → Prop} {Q' : Exit → Act → World → Prop} (hQ : ∀ x a w, x ≠ .normal → ¬ Q' x a w) (hK : ∀ a w, K a w → K' a w) (hh : o.wp P a w K Q') : o.wp P a w K' NoQ := by
  unfold Oper.wp at *
  generalize (execOp a.eval o).run P w = r at *
  cases r with
  | ok n w' =>
    cases n <;> simp only [Oper.upon] at hh ⊢ <;> first | exact hK _ _ hh | skip
    · exact hh.mono fun e w'' he => by
        cases e with
        | returned v => exact hK _ _ he
        | panicked ch => exact absurd he (hQ _ _ _ (by simp))
        | outgrown => obtain ⟨_, _, hx⟩ := he; exact absurd hx (hQ _ _ _ (by simp))
    · exact hh.mono fun v w'' he => hK _ _ he
  | halt x w' =>
    cases x <;> simp only [Oper.upon] at hh ⊢
    exact absurd hh (hQ _ _ _ (by simp))
theorem QD_no {m : Bool} : ∀ x a w, x ≠ Exit.normal → ¬ QD P G ops kd σ Q m x a w := fun x a w hx h => by
  cases x <;> first | exact absurd rfl hx | exact h
theorem XD_m {i : Nat} {o : Oper} (hi : ops[i]? = some o) (hk : kd i = .m) (h : XL P F n ops [o] (QD P G ops kd σ Q true) e L) : XD P G F n ops kd (i :: σ) Q e L := .mk fun a w hf hs => by
  show opW P ops kd _ i _ a w
  rw [opW_at hi, hk]
  have := h.out a w hf hs
  unfold wpList at this
  split at this
  · rename_i hw
    rw [if_pos hw]
    rcases this with this | ⟨_, _, _, hx⟩
    · exact wp_noq QD_no (fun a' w' hx => ⟨hx.1 rfl, hx.2⟩) this
    · exact hx.elim
  · rename_i hw
    rw [if_neg hw]
    exact this.2
theorem XD_l {i : Nat} {o : Oper} (hi : ops[i]? = some o) (hk : kd i = .l) (h : XL P F n ops [o] (QD P G ops kd σ Q false) e L) : XD P G F n ops kd (i :: σ) Q e L := .mk fun a w hf hs => by
  show opW P ops kd _ i _ a w
  rw [opW_at hi, hk]
  have := h.out a w hf hs
  unfold wpList at this
  split at this
  · rename_i hw
    rw [if_pos hw]
    rcases this with this | ⟨_, _, _, hx⟩
    · exact wp_noq QD_no (fun a' w' hx => hx.2) this
    · exact hx.elim
  · rename_i hw
    rw [if_neg hw]
    exact this.2
theorem Y_m (h : XD P F F n ops kd σ Q e L) : Y F n (QD P F ops kd σ Q true) .normal e L := .mk fun a w hf hs => ⟨fun _ => hs.nil, h.out a w hf hs⟩
theorem Y_l (h : XD P G F n ops kd σ Q e L) : Y F n (QD P G ops kd σ Q false) .normal e L := .mk fun a w hf hs => ⟨(by simp), h.out a w hf hs⟩
/-- What was frozen for the region's sake is owned again. -/
theorem XD_thaw {F' : Frz} {M : List HProp} (ht : ∀ w L, St G w L → St F' w (L ++ M)) (h : XD P G F' n ops kd σ Q e (L ++ M)) : XD P G G n ops kd σ Q e L := .mk fun a w hf hs => h.out a w hf (ht w L hs)
theorem X_draw {id : Nat} (σ : List Nat) (kd : Nat → Kin) (al : Nat → Bool) (fu : Nat) (ks : List Nat) {M R : List HProp} (hk : takeP L ks = some (M, R)) (hm : P.follows .mixedOrders = true) (hok : okSched fu ops kd al σ = true)
    (h : ∀ G : Frz, Hp.le F.heap G.heap → stars M G.heap → (∀ w L, St G w L → St F w (L ++ M)) → XD P G G n ops kd σ Q e R) : X P F n (.region id ops true) Q e L := .mk fun a w hf hs => by
  have hs2 : St F w (M ++ R) := hs.imp fun _ => stars_take ks hk
  obtain ⟨k, a', d', c⟩ := hs2.own
  obtain ⟨hM, hR, dMR, hMk, hRk, cM, cR⟩ := stars_append.1 c
  have dM : Hp.disj F.heap hM := d'.mono (Hp.le_refl F.heap) hMk
  have hG : St { F with heap := Hp.or F.heap hM } w R := ⟨hs.os, hs.tape, hs.output, hs.size, Hp.or_le hs.frz (hMk.trans a'), hR, hRk.trans a', Hp.disj_or (d'.mono (Hp.le_refl F.heap) hRk) dMR, cR⟩
  refine wp_region_sched (fu := fu) (kd := kd) (al := al) (C := fun w => St { F with heap := Hp.or F.heap hM } w []) σ hm hok hG.drew.nil ?_
  refine (h { F with heap := Hp.or F.heap hM } (Hp.le_or_left _ _) (stars_up cM (Hp.le_or_right dM)) (fun w' L' hw => ?_)).out _ _ hf hG.drew
  refine ⟨hw.os, hw.tape, hw.output, hw.size, (Hp.le_or_left _ _).trans hw.frz, ?_⟩
  obtain ⟨q, q1, q2, q3⟩ := hw.own
  have dq : Hp.disj hM q := q2.mono (Hp.le_or_right dM) (Hp.le_refl q)
  exact ⟨Hp.or q hM, Hp.or_le q1 ((Hp.le_or_right dM).trans hw.frz), (Hp.disj_or (q2.mono (Hp.le_or_left _ _) (Hp.le_refl q)).symm dM.symm).symm, stars_append.2 ⟨q, hM, dq.symm, Hp.le_or_left _ _, Hp.le_or_right dq.symm, q3, cM⟩⟩

/-! values -/
theorem XV_op (hT : TabOk P T) {op : Op} {v : Value} (h : opV T e op = some v) : XV P G n ⟨d, op, ty, pos, af, none⟩ e v := .mk fun a w hf _ => opV_run hT hf _ h w
theorem XV_load (hT : TabOk P T) {t : TypeId} {x : Operand} {b i : Nat} {cs : List Value} {et : TypeId} {v : Value} {ti : TI} (hx : ev e x = some (.pointer (some ⟨b, i, none⟩))) (hb : blk b cs et G.heap) (ht : look T t = some ti) (hv : partV T t cs i = some v)
    (hsz : Nat.ble (i + ti.size) cs.length = true) : XV P G n ⟨d, .load t x, ty, pos, af, none⟩ e v := .mk fun a w hf hs => by
  have hc := (blk_rd hb).le hs.frz
  have hr := run_load_cells hT hv (a := ⟨b, 0, none⟩) (w := w) (fun j u hj => cellH_world (hc.2 j u hj)) (fun ti' h' => by
    rw [ht] at h'; cases h'; simpa [Nat.ble_eq] using hsz)
  rw [Addr.add_lit, Nat.zero_add] at hr
  simp [execOp, hf.ev hx, hr]
theorem XV_slice (hT : TabOk P T) {t el : TypeId} {i1 : TI} {de2 : TypeDesc} {z2 : Option Value} {sz2 by2 : Nat} {x : Operand} {xl xh xm : Option Operand} {A : Option Addr} {m c : Nat} {lo hi mx : Option Value} {p q r : Nat} (hx : ev e x = some (.slice A m c)) (h1 : evo e xl = some lo) (h2 : evo e xh = some hi) (h3 : evo e xm = some mx) (hc : Cut3 m c lo hi mx p q r)
    (ht : look T t = some i1) (hd : i1.desc = .slice el) (he : look T el = some ⟨de2, z2, sz2, by2⟩) : XV P G n ⟨d, .slice t x xl xh xm, ty, pos, af, none⟩ e (.slice (sbA A sz2 p r) (q - p) (r - p)) := .mk fun a w hf hs => by
  have hr := run_slice (P := P) hT ht hd he (A := A) hc w
  simp [execOp, hf.ev hx, hf.evo h1, hf.evo h2, hf.evo h3, hr]
theorem XV_slicel (hT : TabOk P T) {t el : TypeId} {i1 : TI} {de2 : TypeDesc} {z2 : Option Value} {sz2 by2 : Nat} {x : Operand} {xl xh xm : Option Operand} {b o m c : Nat} {lo hi mx : Option Value} {p q r : Nat} (hx : ev e x = some (.slice (some ⟨b, o, none⟩) m c)) (h1 : evo e xl = some lo) (h2 : evo e xh = some hi) (h3 : evo e xm = some mx) (hc : Cut3 m c lo hi mx p q r) (hlt : p < r)
    (ht : look T t = some i1) (hd : i1.desc = .slice el) (he : look T el = some ⟨de2, z2, sz2, by2⟩) : XV P G n ⟨d, .slice t x xl xh xm, ty, pos, af, none⟩ e (.slice (some ⟨b, o + p * sz2, none⟩) (q - p) (r - p)) := .mk fun a w hf hs => by
  have := (XV_slice (P := P) (G := G) (n := n) (e := e) (d := d) (ty := ty) (pos := pos) (af := af) hT hx h1 h2 h3 hc ht hd he).out a w hf hs
  rw [sbA_lit hlt] at this
  exact this
section
variable {α : Type} [Inhabited α] {E : Enc α}
theorem XV_idx (hT : TabOk P T) {t el : TypeId} {i1 : TI} {de2 : TypeDesc} {z2 : Option Value} {sz2 by2 : Nat} {x ix : Operand} {A : Option Addr} {m c : Nat} {xs : List α} {k : IntKind} {i : Int} (hx : ev e x = some (.slice A m c)) (hi : ev e ix = some (.int k i)) (ht : look T t = some i1) (hd : i1.desc = .slice el) (he : look T el = some ⟨de2, z2, sz2, by2⟩)
    (r : rdS E G.heap A m xs) (h0 : 0 ≤ i) (h1 : i < m) : XV P G n ⟨d, .indexAddr t x ix, ty, pos, af, none⟩ e (.pointer (some ((bs A).add (i.toNat * sz2)))) := .mk fun a w hf hs => by
  have hr := run_idx (P := P) hT ht hd he (A := A) (c := c) (k := k) (r.pos (by omega)) h0 h1 w
  simp [execOp, hf.ev hx, hf.ev hi, hr]
theorem XV_el (hT : TabOk P T) {A : Option Addr} {m : Nat} {xs : List α} {i : Int} {t : TypeId} {x : Operand} {v : Value} {ti : TI} {sz : Nat} (hx : ev e x = some (.pointer (some ((bs A).add (i.toNat * sz))))) (r : rdS E G.heap A m xs) (hz : E.sz = sz) (h0 : 0 ≤ i) (h1 : i < m) (ht : look T t = some ti)
    (hv : partV T t (E.enc (get xs i)) 0 = some v) (hsz : Nat.ble ti.size E.sz = true) : XV P G n ⟨d, .load t x, ty, pos, af, none⟩ e v := .mk fun a w hf hs => by
  have hr := el_load hT hs.frz r h0 h1 ht hv (by rw [Nat.zero_add]; simpa [Nat.ble_eq] using hsz)
  rw [Addr.add_zero', hz] at hr
  simp [execOp, hf.ev hx, hr]
theorem XV_elf (hT : TabOk P T) {A : Option Addr} {m : Nat} {xs : List α} {i : Int} {f : Nat} {t : TypeId} {x : Operand} {v : Value} {ti : TI} {sz : Nat} (hx : ev e x = some (.pointer (some (((bs A).add (i.toNat * sz)).add f)))) (r : rdS E G.heap A m xs) (hz : E.sz = sz) (h0 : 0 ≤ i) (h1 : i < m) (ht : look T t = some ti)
    (hv : partV T t (E.enc (get xs i)) f = some v) (hsz : Nat.ble (f + ti.size) E.sz = true) : XV P G n ⟨d, .load t x, ty, pos, af, none⟩ e v := .mk fun a w hf hs => by
  have hr := el_load hT hs.frz r h0 h1 ht hv (by simpa [Nat.ble_eq] using hsz)
  rw [hz] at hr
  simp [execOp, hf.ev hx, hr]
end
end
end Go.Cof
set_option linter.unusedVariables false
set_option linter.unusedSectionVars false
set_option linter.unusedSimpArgs false
namespace Go.Cof
open Go.RowKit

def encI (k : IntKind) : Enc Int := ⟨fun x => [.int k x], 1, fun _ => rfl, by decide, fun x u hu => by simp at hu; subst hu; rfl⟩
def encB : Enc Bool := ⟨fun x => [.bool x], 1, fun _ => rfl, by decide, fun x u hu => by simp at hu; subst hu; rfl⟩
/-- A slice as an element: block, place, length, room. -/
structure Sl where
  b : Nat
  o : Nat
  m : Nat
  c : Nat
  deriving Inhabited
def encSl : Enc Sl := ⟨fun x => [.slice (some ⟨x.b, x.o, none⟩) x.m x.c], 1, fun _ => rfl, by decide, fun x u hu => by simp at hu; subst hu; rfl⟩

section
variable {α : Type} {E : Enc α}
theorem own_many {b m c : Nat} {xs ys : List α} {g : Hp} (o : own E (some ⟨b, 0, none⟩) m c xs g) {q : Nat} (hq : q + ys.length ≤ m) {w : World} (hg : Hp.le g (World.hp w)) :
    ∃ cur et, w.heap[b]? = some (.cells cur et (0, 0)) ∧ q * E.sz + (flat E ys).length ≤ cur.size ∧
      own E (some ⟨b, 0, none⟩) m c (xs.take q ++ ys ++ xs.drop (q + ys.length)) (Hp.one b (.cells (cur.toList.take (q * E.sz) ++ flat E ys ++ cur.toList.drop (q * E.sz + (flat E ys).length)).toArray et (0, 0))) ∧ g b ≠ none := by
  rcases o with ⟨h1, _⟩ | ⟨q', cur, et, h1, h2, h3, h4, h5, h6, h7⟩
  · cases h1
  · simp only [Option.some.injEq, Addr.mk.injEq, and_true] at h1
    subst h1
    have hfl : (flat E ys).length = ys.length * E.sz := flat_length E ys
    have hmul : q * E.sz + ys.length * E.sz ≤ m * E.sz := by rw [← Nat.add_mul]; exact Nat.mul_le_mul_right _ hq
    have hcm : m * E.sz ≤ cur.size := by rw [h6]; exact Nat.mul_le_mul_right _ h4
    have hcl : cur.toList.length = cur.size := by simp
    refine ⟨cur, et, hg _ _ h2, by rw [hfl]; omega, .inr ⟨b, _, et, rfl, by simp only [Hp.one, if_true]; rfl, ?_, h4, h5, ?_, ?_⟩, by rw [h2]; simp⟩
    · simp only [List.length_append, List.length_take, List.length_drop]; omega
    · simp only [List.size_toArray, List.length_append, List.length_take, List.length_drop, hcl, hfl]; rw [h6] at hcm ⊢; omega
    · simp only []
      rw [flat_append, flat_append, ← flat_take, ← flat_drop, ← h7, hfl, Nat.add_mul]
      have e1 : (cur.toList.take (m * E.sz)).take (q * E.sz) = cur.toList.take (q * E.sz) := by rw [List.take_take, Nat.min_eq_left (by omega)]
      rw [e1]
      have e2 : (cur.toList.take (q * E.sz) ++ flat E ys).length = q * E.sz + ys.length * E.sz := by
        rw [List.length_append, List.length_take, hfl, hcl]; omega
      rw [List.take_append, List.take_of_length_le (by rw [e2]; exact hmul), e2]
      congr 1
      rw [List.drop_take]
theorem run_many {P : Program} {b : Nat} {cur : Array Value} {et : TypeId} {w : World} (hb : w.heap[b]? = some (.cells cur et (0, 0))) {o : Nat} {vs : List Value} (hfit : o + vs.length ≤ cur.size) (h1 : ∀ u ∈ vs, u.oneCell' = true) :
    (storeCells ⟨b, o, none⟩ vs).run P w = .ok () (w.setRow b (cur.toList.take o ++ vs ++ cur.toList.drop (o + vs.length)).toArray) := by
  have := run_storeCells_at P b o et vs 0 cur w hb (by simpa using hfit) h1
  simpa using this
theorem st_many {F : Frz} {L : List HProp} {w : World} {k b m c : Nat} {xs ys : List α} (hs : St F w L) (hk : L[k]? = some (own E (some ⟨b, 0, none⟩) m c xs)) {q : Nat} (hq : q + ys.length ≤ m) :
    ∃ cur et, w.heap[b]? = some (.cells cur et (0, 0)) ∧ q * E.sz + (flat E ys).length ≤ cur.size ∧
      St F (w.setRow b (cur.toList.take (q * E.sz) ++ flat E ys ++ cur.toList.drop (q * E.sz + (flat E ys).length)).toArray) (L.set k (own E (some ⟨b, 0, none⟩) m c (xs.take q ++ ys ++ xs.drop (q + ys.length)))) := by
  obtain ⟨g, hg, _, hA⟩ := hs.at hk
  obtain ⟨cur, et, hb, hfit, _, _⟩ := own_many hA hq hg
  refine ⟨cur, et, hb, hfit, hs.turnAt hk fun g' hg' hA' => ?_⟩
  obtain ⟨cur', et', hb', _, hown, hne⟩ := own_many hA' hq hg'
  rw [hb] at hb'
  cases hb'
  refine ⟨b, hne, rfl, rfl, rfl, by simp, fun j hj _ => setRow_other w b j _ (fun h => hj h), _, fun j o hj => ?_, hown⟩
  simp only [Hp.one] at hj
  split at hj
  · rename_i e1; cases hj; subst e1; exact ⟨st_row hb _, .inl hne⟩
  · cases hj
end

section
variable {P : Program} {T : Tab} {F : Frz} {n : Nat} {Q : Exit → Act → World → Prop} {e : Env} {L : List HProp} {ops : Array Oper} {l : List Oper} {d : Option Tmp} {ty : TypeId} {pos : String} {af : Array Edge}
variable {α : Type} [Inhabited α] {E : Enc α}

theorem run_built {b : Builtin} {args : List Operand} {ats : Array TypeId} {vs : List Value} {a : Act} (hf : Fr n e a) (hv : evs e args = some vs) (w : World) :
    ∃ cs, (execOp a.eval ⟨d, .call ⟨.builtin b, args.toArray, ats⟩, ty, pos, af, none⟩).run P w = (builtin b ats ty cs vs.toArray).run P w := by
  refine ⟨args.toArray.map fun | .const _ => true | _ => false, ?_⟩
  have := hf.evs hv
  simp only [execOp, resolve, invoke, Sem.run_bind, Sem.run_pure, Result.andThen_ok]
  rw [show args.toArray.map a.eval = vs.toArray from by rw [← this]; simp]
  rfl

theorem XL_app (hT : TabOk P T) (k : Nat) {s x : Operand} {t el : TypeId} {i1 i2 : TI} {z : Value} {A B : Option Addr} {m c m' c' bytes : Nat} {xs ys : List α} {e' : Option Addr → Nat → Env} (hk : L[k]? = some (own E A m c xs)) (hv : evs e [s, x] = some [.slice A m c, .slice B m' c']) (hB : ∀ w, St F w L → rdS E (World.hp w) B m' ys)
    (ht : look T t = some i1) (hd : i1.desc = .slice el) (he : look T el = some i2) (hz : i2.zero = some z) (hzs : z.cells.toList.length = i2.size) (hsz : i2.size = E.sz) (hby : i2.bytes = bytes) (hb1 : (m + m') * bytes ≤ 140737488355328) (hb2 : m + m' ≤ 9223372036854775807)
    (hp : ∀ A' c2, putE n d (.slice A' (m + m') c2) e = some (e' A' c2)) (h : ∀ A' c2, XL P F n ops l Q (e' A' c2) (L.set k (own E A' (m + m') c2 (xs ++ ys)))) : XL P F n ops (⟨d, .call ⟨.builtin .append, #[s, x], #[t, t]⟩, ty, pos, af, none⟩ :: l) Q e L :=
  XL_next (o := ⟨d, .call ⟨.builtin .append, #[s, x], #[t, t]⟩, ty, pos, af, none⟩) rfl fun a w hf hs => by
    obtain ⟨A', c2, w', hr, hs'⟩ := append_own (P := P) hT ht hd he hz hzs hsz hs hk (hB w hs) (c' := c') (by rw [hby]; exact hb1) (by simp only [maxLen]; omega) ty
    obtain ⟨cs, hrun⟩ := run_built (P := P) (d := d) (ty := ty) (pos := pos) (af := af) (b := .append) (ats := #[t, t]) hf hv w
    refine ⟨_, w', _, _, .inl ?_, hp A' c2, hs', h A' c2⟩
    rw [hrun]
    simp [builtin, hr]
/-- One element, laid in a block of its own. -/
theorem XL_app1 (hT : TabOk P T) (k j : Nat) (y : α) {s x : Operand} {t el eb : TypeId} {i1 i2 : TI} {z : Value} {A : Option Addr} {m c c' b bytes : Nat} {cs : List Value} {xs : List α} {e' : Option Addr → Nat → Env} (hk : L[k]? = some (own E A m c xs)) (hj : L[j]? = some (blk b cs eb)) (hc : cs = E.enc y) (hv : evs e [s, x] = some [.slice A m c, .slice (some ⟨b, 0, none⟩) 1 c'])
    (ht : look T t = some i1) (hd : i1.desc = .slice el) (he : look T el = some i2) (hz : i2.zero = some z) (hzs : z.cells.toList.length = i2.size) (hsz : i2.size = E.sz) (hby : i2.bytes = bytes) (hb1 : (m + 1) * bytes ≤ 140737488355328) (hb2 : m + 1 ≤ 9223372036854775807)
    (hp : ∀ A' c2, putE n d (.slice A' (m + 1) c2) e = some (e' A' c2)) (h : ∀ A' c2, XL P F n ops l Q (e' A' c2) (L.set k (own E A' (m + 1) c2 (xs ++ [y])))) : XL P F n ops (⟨d, .call ⟨.builtin .append, #[s, x], #[t, t]⟩, ty, pos, af, none⟩ :: l) Q e L :=
  XL_app hT k hk hv (fun w hs => by obtain ⟨g, hg, _, hA⟩ := hs.at hj; exact (blk_rdS hA (m := 1) (xs := [y]) rfl (by rw [hc]; simp [flat])).le hg) ht hd he hz hzs hsz hby hb1 hb2 hp h
/-- What is frozen, or came in. -/
theorem XL_appF (hT : TabOk P T) (k : Nat) {s x : Operand} {t el : TypeId} {i1 i2 : TI} {z : Value} {A B : Option Addr} {m c m' c' bytes : Nat} {xs ys : List α} {e' : Option Addr → Nat → Env} (hk : L[k]? = some (own E A m c xs)) (hv : evs e [s, x] = some [.slice A m c, .slice B m' c']) (r : rdS E F.heap B m' ys)
    (ht : look T t = some i1) (hd : i1.desc = .slice el) (he : look T el = some i2) (hz : i2.zero = some z) (hzs : z.cells.toList.length = i2.size) (hsz : i2.size = E.sz) (hby : i2.bytes = bytes) (hb1 : (m + m') * bytes ≤ 140737488355328) (hb2 : m + m' ≤ 9223372036854775807)
    (hp : ∀ A' c2, putE n d (.slice A' (m + m') c2) e = some (e' A' c2)) (h : ∀ A' c2, XL P F n ops l Q (e' A' c2) (L.set k (own E A' (m + m') c2 (xs ++ ys)))) : XL P F n ops (⟨d, .call ⟨.builtin .append, #[s, x], #[t, t]⟩, ty, pos, af, none⟩ :: l) Q e L :=
  XL_app hT k hk hv (fun w hs => r.le hs.frz) ht hd he hz hzs hsz hby hb1 hb2 hp h
theorem XL_appO (hT : TabOk P T) (k j : Nat) {s x : Operand} {t el : TypeId} {i1 i2 : TI} {z : Value} {A B : Option Addr} {m c m' c' c3 bytes : Nat} {xs ys : List α} {e' : Option Addr → Nat → Env} (hk : L[k]? = some (own E A m c xs)) (hj : L[j]? = some (own E B m' c3 ys)) (hv : evs e [s, x] = some [.slice A m c, .slice B m' c'])
    (ht : look T t = some i1) (hd : i1.desc = .slice el) (he : look T el = some i2) (hz : i2.zero = some z) (hzs : z.cells.toList.length = i2.size) (hsz : i2.size = E.sz) (hby : i2.bytes = bytes) (hb1 : (m + m') * bytes ≤ 140737488355328) (hb2 : m + m' ≤ 9223372036854775807)
    (hp : ∀ A' c2, putE n d (.slice A' (m + m') c2) e = some (e' A' c2)) (h : ∀ A' c2, XL P F n ops l Q (e' A' c2) (L.set k (own E A' (m + m') c2 (xs ++ ys)))) : XL P F n ops (⟨d, .call ⟨.builtin .append, #[s, x], #[t, t]⟩, ty, pos, af, none⟩ :: l) Q e L :=
  XL_app hT k hk hv (fun w hs => by obtain ⟨g, hg, _, hA⟩ := hs.at hj; exact (own_rd hA).le hg) ht hd he hz hzs hsz hby hb1 hb2 hp h

/-- copy into a part of one's own slice, from its q-th element on. -/
theorem XL_copy (hT : TabOk P T) (k q : Nat) {s x : Operand} {t t2 el : TypeId} {i1 i2 : TI} {b o m c dm dc m' c' : Nat} {B : Option Addr} {xs ys : List α} {e' : Env} (hk : L[k]? = some (own E (some ⟨b, 0, none⟩) m c xs)) (hv : evs e [s, x] = some [.slice (some ⟨b, o, none⟩) dm dc, .slice B m' c']) (ho : o = q * E.sz) (hB : ∀ w, St F w L → rdS E (World.hp w) B m' ys)
    (hq : q + Nat.min m' dm ≤ m) (ht : look T t = some i1) (hd : i1.desc = .slice el) (he : look T el = some i2) (hsz : i2.size = E.sz) (hp : putE n d (.int .i64 (Nat.min m' dm : Nat)) e = some e')
    (h : XL P F n ops l Q e' (L.set k (own E (some ⟨b, 0, none⟩) m c (xs.take q ++ ys.take (Nat.min m' dm) ++ xs.drop (q + Nat.min m' dm))))) : XL P F n ops (⟨d, .call ⟨.builtin .copy, #[s, x], #[t, t2]⟩, ty, pos, af, none⟩ :: l) Q e L :=
  XL_next (o := ⟨d, .call ⟨.builtin .copy, #[s, x], #[t, t2]⟩, ty, pos, af, none⟩) rfl fun a w hf hs => by
    subst ho
    have hu := hT.und t i1 ht
    rw [hd] at hu
    have hr0 := hB w hs
    have hlt : (ys.take (Nat.min m' dm)).length = Nat.min m' dm := by rw [List.length_take, ← hr0.1]; exact Nat.min_eq_left (Nat.min_le_left _ _)
    obtain ⟨cur, et, hb, hfit, hs'⟩ := st_many hs hk (ys := ys.take (Nat.min m' dm)) (q := q) (by rw [hlt]; exact hq)
    have hst := run_many (P := P) hb hfit (flat_one E _)
    rw [hlt] at hs'
    obtain ⟨cs, hrun⟩ := run_built (P := P) (d := d) (ty := ty) (pos := pos) (af := af) (b := .copy) (ats := #[t, t2]) hf hv w
    refine ⟨.int .i64 (Nat.min m' dm : Nat), _, e', _, .inl ?_, hp, hs', h⟩
    rw [hrun]
    have hfc : (Builtin.firstCells E.sz (Nat.min m' dm) (.slice B m' c')).run P w = .ok (flat E (ys.take (Nat.min m' dm))).toArray w := by
      cases hBB : B with
      | none =>
        have : m' = 0 := by
          rcases Nat.eq_zero_or_pos m' with h0 | h0
          · exact h0
          · have := hr0.pos h0; rw [hBB] at this; cases this
        subst this
        have : Nat.min 0 dm = 0 := Nat.zero_min dm
        rw [this]
        simp [Builtin.firstCells, flat]
      | some ad =>
        rw [hBB] at hr0
        have := run_loadCells_list (P := P) w ad (flat E (ys.take (Nat.min m' dm))) (fun j v hj => by
          rw [← flat_take, List.getElem?_take] at hj
          split at hj
          · exact cellH_world (hr0.2.2 j v hj)
          · cases hj)
        rw [flat_length, hlt] at this
        simpa [Builtin.firstCells] using this
    simp only [builtin, Sem.run_bind, Builtin.copy_, run_underlying hu, Result.andThen_ok, Builtin.lenOf, Sem.run_pure, run_sizeOf hT w he, hsz, hfc, hst, List.getElem?_toArray, List.getElem?_cons_zero, List.getElem?_cons_succ]
    rfl
/-- clear of such a part. -/
theorem XL_clear (hT : TabOk P T) (k q : Nat) (z0 : α) {s : Operand} {t el : TypeId} {i1 i2 : TI} {z : Value} {b o m c dm dc : Nat} {xs : List α} {e' : Env} (hk : L[k]? = some (own E (some ⟨b, 0, none⟩) m c xs)) (hv : evs e [s] = some [.slice (some ⟨b, o, none⟩) dm dc]) (ho : o = q * E.sz)
    (hq : q + dm ≤ m) (ht : look T t = some i1) (hd : i1.desc = .slice el) (he : look T el = some i2) (hz : i2.zero = some z) (hE : E.enc z0 = z.cells.toList) (hsz : i2.size = E.sz) (hp : putE n d (.tuple #[]) e = some e')
    (h : XL P F n ops l Q e' (L.set k (own E (some ⟨b, 0, none⟩) m c (xs.take q ++ List.replicate dm z0 ++ xs.drop (q + dm))))) : XL P F n ops (⟨d, .call ⟨.builtin .clear, #[s], #[t]⟩, ty, pos, af, none⟩ :: l) Q e L :=
  XL_next (o := ⟨d, .call ⟨.builtin .clear, #[s], #[t]⟩, ty, pos, af, none⟩) rfl fun a w hf hs => by
    subst ho
    have hu := hT.und t i1 ht
    rw [hd] at hu
    have hzs : z.cells.size = E.sz := by have := E.len z0; rw [hE] at this; simpa using this
    obtain ⟨cur, et, hb, hfit, hs'⟩ := st_many hs hk (ys := List.replicate dm z0) (q := q) (by simpa using hq)
    have hst := run_many (P := P) hb hfit (flat_one E _)
    rw [List.length_replicate] at hs'
    obtain ⟨cs, hrun⟩ := run_built (P := P) (d := d) (ty := ty) (pos := pos) (af := af) (b := .clear) (ats := #[t]) hf hv w
    have hzc : (Builtin.zeroCells z.cells dm).toList = flat E (List.replicate dm z0) := by
      rw [flat_replicate, hE]
      have := made_list z.cells dm (.inl (by rw [hzs]; exact E.pos))
      show (madeCells z.cells (dm * z.cells.size)).toList = _
      rw [this]
    by_cases hdm : dm = 0
    · subst hdm
      refine ⟨.tuple #[], w, e', _, .inl ?_, hp, ?_, h⟩
      · rw [hrun]
        simp [builtin, Builtin.clear_, run_underlying hu]
      · have : xs.take q ++ List.replicate 0 z0 ++ xs.drop (q + 0) = xs := by simp
        rw [this]
        exact hs.perm ((perm_at hk).trans (perm_set hk))
    · refine ⟨.tuple #[], _, e', _, .inl ?_, hp, hs', h⟩
      rw [hrun]
      obtain ⟨dm, rfl⟩ : ∃ q, dm = q + 1 := ⟨dm - 1, by omega⟩
      simp only [builtin, Sem.run_bind, Builtin.clear_, run_underlying hu, Result.andThen_ok, Sem.run_pure, List.getElem?_toArray, List.getElem?_cons_zero, run_zeroValue hT w he hz, hzc, hst]
theorem XL_clear0 (hT : TabOk P T) {s : Operand} {t el : TypeId} {i1 : TI} {c : Nat} {e' : Env} (hv : evs e [s] = some [.slice none 0 c]) (ht : look T t = some i1) (hd : i1.desc = .slice el) (hp : putE n d (.tuple #[]) e = some e') (h : XL P F n ops l Q e' L) : XL P F n ops (⟨d, .call ⟨.builtin .clear, #[s], #[t]⟩, ty, pos, af, none⟩ :: l) Q e L :=
  XL_val (o := ⟨d, .call ⟨.builtin .clear, #[s], #[t]⟩, ty, pos, af, none⟩) rfl hp (fun a w hf hs => by
    have hu := hT.und t i1 ht
    rw [hd] at hu
    obtain ⟨cs, hrun⟩ := run_built (P := P) (d := d) (ty := ty) (pos := pos) (af := af) (b := .clear) (ats := #[t]) hf hv w
    rw [hrun]
    simp [builtin, Builtin.clear_, run_underlying hu]) h

theorem XL_put1 (hT : TabOk P T) (k : Nat) (x' : α) {t : TypeId} {x y : Operand} {b o m c : Nat} {xs : List α} {v : Value} {ti : TI} (hk : L[k]? = some (own E (some ⟨b, 0, none⟩) m c xs)) (hx : ev e x = some (.pointer (some ⟨b, o, none⟩))) (hy : ev e y = some v) (hz : E.sz = 1) (ht : look T t = some ti) (hl : ti.size = 1) (hv : v.cells.toList = [v])
    (ho : o < m) (hx' : E.enc x' = [v]) (h : XL P F n ops l Q e (L.set k (own E (some ⟨b, 0, none⟩) m c (xs.set o x')))) : XL P F n ops (⟨none, .store t x y, ty, pos, af, none⟩ :: l) Q e L :=
  XL_put hT k (i := o) (f := 0) hk hx (by rw [hz, Nat.mul_one, Nat.add_zero]) hy ht hv (by rw [hl]; rfl) ho (by rw [hz]; rfl) (by have := E.one x' v (by rw [hx']; simp); simp [this]) (by
    have h1 := E.len (xs.getD o default)
    rw [hz] at h1
    obtain ⟨u, hu⟩ := List.length_eq_one_iff.1 h1
    rw [hu, hx']; rfl) h
theorem XL_idxl (hT : TabOk P T) {t el : TypeId} {i1 : TI} {de2 : TypeDesc} {z2 : Option Value} {sz2 by2 : Nat} {x ix : Operand} {b o m c : Nat} {k : IntKind} {i : Int} {e' : Env} (hx : ev e x = some (.slice (some ⟨b, o, none⟩) m c)) (hi : ev e ix = some (.int k i)) (ht : look T t = some i1) (hd : i1.desc = .slice el) (he : look T el = some ⟨de2, z2, sz2, by2⟩)
    (h0 : 0 ≤ i) (h1 : i < m) (hp : putE n d (.pointer (some ⟨b, o + i.toNat * sz2, none⟩)) e = some e') (h : XL P F n ops l Q e' L) : XL P F n ops (⟨d, .indexAddr t x ix, ty, pos, af, none⟩ :: l) Q e L :=
  XL_idxs hT hx hi ht hd he h0 h1 (by rw [Addr.add_lit]; exact hp) h
theorem XL_idxal (hT : TabOk P T) {t el : TypeId} {i1 : TI} {de2 : TypeDesc} {z2 : Option Value} {sz2 by2 : Nat} {x ix : Operand} {b o m : Nat} {k : IntKind} {i : Int} {e' : Env} (hx : ev e x = some (.pointer (some ⟨b, o, none⟩))) (hi : ev e ix = some (.int k i)) (ht : look T t = some i1) (hd : i1.desc = .array m el) (he : look T el = some ⟨de2, z2, sz2, by2⟩)
    (h0 : 0 ≤ i) (h1 : i < m) (hp : putE n d (.pointer (some ⟨b, o + i.toNat * sz2, none⟩)) e = some e') (h : XL P F n ops l Q e' L) : XL P F n ops (⟨d, .indexAddr t x ix, ty, pos, af, none⟩ :: l) Q e L :=
  XL_idxa hT hx hi ht hd he h0 h1 (by rw [Addr.add_lit]; exact hp) h

/-- A whole array out of a slice of one-cell elements. -/
theorem XL_loadA (hT : TabOk P T) (k : Nat) {t el : TypeId} {x : Operand} {b o m c len : Nat} {xs : List α} {ti : TI} {e' : Env} (hk : L[k]? = some (own E (some ⟨b, 0, none⟩) m c xs)) (hx : ev e x = some (.pointer (some ⟨b, o, none⟩))) (hz : E.sz = 1) (h1 : o + len ≤ m) (ht : look T t = some ti) (hd : ti.desc = .array len el) (hsz : ti.size = len)
    (hp : putE n d (.agg (flat E ((xs.drop o).take len)).toArray) e = some e') (h : XL P F n ops l Q e' L) : XL P F n ops (⟨d, .load t x, ty, pos, af, none⟩ :: l) Q e L :=
  XL_val (o := ⟨d, .load t x, ty, pos, af, none⟩) rfl hp (fun a w hf hs => by
    obtain ⟨g, hg, _, hA⟩ := hs.at hk
    have hr := (own_rd hA).le hg
    have hcell : ∀ j u, (flat E xs)[j]? = some u → w.cell? ((⟨b, 0, none⟩ : Addr).add j) = some u := fun j u hj => cellH_world (hr.2.2 j u hj)
    have hv : partV T t (flat E xs) o = some (.agg (flat E ((xs.drop o).take len)).toArray) := by
      have hagg : ti.agg = true := by unfold TI.agg; rw [hd]
      have e1 : (flat E xs).drop o = flat E (xs.drop o) := by have := flat_drop E xs o; rwa [hz, Nat.mul_one] at this
      have e2 : (flat E (xs.drop o)).take len = flat E ((xs.drop o).take len) := by have := flat_take E (xs.drop o) len; rwa [hz, Nat.mul_one] at this
      simp only [partV, ht, hagg, cond_true, hsz, e1, e2]
    have := run_load_cells (P := P) hT hv (w := w) (a := ⟨b, 0, none⟩) hcell (fun ti' h' => by
      rw [ht] at h'; cases h'; rw [hsz, flat_length, hz, ← hr.1]; omega)
    rw [Addr.add_lit, Nat.zero_add] at this
    simp [execOp, hf.ev hx, this]) h
/-- A whole array laid over another one. -/
theorem XL_storeA (hT : TabOk P T) (k : Nat) {t : TypeId} {x y : Operand} {b : Nat} {cs : List Value} {et : TypeId} {vs : List Value} {ti : TI} (hk : L[k]? = some (blk b cs et)) (hx : ev e x = some (.pointer (some ⟨b, 0, none⟩))) (hy : ev e y = some (.agg vs.toArray)) (ht : look T t = some ti) (hl : vs.length = ti.size)
    (hsz : cs.length = ti.size) (h1 : ∀ u ∈ vs, u.oneCell' = true) (h : XL P F n ops l Q e (L.set k (blk b vs et))) : XL P F n ops (⟨none, .store t x y, ty, pos, af, none⟩ :: l) Q e L :=
  XL_next (o := ⟨none, .store t x y, ty, pos, af, none⟩) rfl fun a w hf hs => by
    obtain ⟨hb, hs'⟩ := hs.row hk (putAt cs 0 vs)
    have hpa : putAt cs 0 vs = vs := by
      rw [putAt_eq _ _ _ (by omega)]
      simp only [List.take_zero, List.nil_append, Nat.zero_add]
      rw [List.drop_of_length_le (by omega), List.append_nil]
    rw [hpa] at hs'
    refine ⟨undef, _, e, _, .inr ⟨rfl, ?_⟩, rfl, hs', h⟩
    have := run_store_cells (P := P) hT ht hb (i := 0) (v := .agg vs.toArray) (vs := vs) (by simp [Value.cells]) hl (by omega) h1
    rw [hpa] at this
    simp [execOp, hf.ev hx, hf.ev hy, this]
end
end Go.Cof
set_option linter.unusedVariables false
namespace Go.Cof
open Go.RowKit

theorem min64 {k : Int} (h0 : 0 ≤ k) (h : k ≤ 64) : min k.toNat IntKind.u64.bits = k.toNat := by
  show min k.toNat 64 = _
  omega
theorem min64i {k : Int} (h0 : 0 ≤ k) (h : k ≤ 64) : min k.toNat IntKind.i64.bits = k.toNat := by
  show min k.toNat 64 = _
  omega
theorem p256 (k : Nat) : (2 : Int) ^ (8 * k) = 256 ^ k := by rw [Int.pow_mul]; rfl
theorem p256' {i : Int} (h : 0 ≤ i) (h' : i ≤ 8) : (2 : Int) ^ (min (8 * i).toNat IntKind.u64.bits) = 256 ^ i.toNat := by
  rw [min64 (by omega) (by omega), show (8 * i).toNat = 8 * i.toNat from by omega, p256]
theorem pow256_pos (k : Nat) : (0 : Int) < 256 ^ k := Int.pow_pos (by decide)
theorem or_u64 {x y : Int} (i : Nat) (hx0 : 0 ≤ x) (hx : x % 2 ^ i = 0) (hx1 : x < 18446744073709551616) (hy0 : 0 ≤ y) (hy : y < 2 ^ i) (hy1 : y < 18446744073709551616) : bits .or .u64 x y = x + y :=
  bits_join .u64 64 (by decide) (fun n h0 h1 => wrap_u64 h0 (by simpa using h1)) i x y hx0 hx (by simpa using hx1) hy0 hy (by simpa using hy1)
theorem or_comm_u64 {x y : Int} : bits .or .u64 x y = bits .or .u64 y x := by unfold bits; simp only [BitVec.or_comm]
theorem shl8_u64 {x : Int} (h0 : 0 ≤ x) (h1 : x < 72057594037927936) : IntKind.u64.wrap (x * 2 ^ min (Int.toNat 8) IntKind.u64.bits) = x * 256 := by
  rw [show (2 : Int) ^ min (Int.toNat 8) IntKind.u64.bits = 256 from by decide]
  exact wrap_u64 (by omega) (by omega)
theorem shr8 {x : Int} : x / 2 ^ min (Int.toNat 8) IntKind.u64.bits = x / 256 := by
  rw [show (2 : Int) ^ min (Int.toNat 8) IntKind.u64.bits = 256 from by decide]
theorem bool_t {p : Prop} [Decidable p] (h : p) : Value.bool true = .bool (decide p) := by rw [decide_eq_true h]
theorem bool_f {p : Prop} [Decidable p] (h : ¬ p) : Value.bool false = .bool (decide p) := by rw [decide_eq_false h]
theorem toNat_lt {x : Int} {k : Nat} (h0 : 0 ≤ x) (h : x < k) : x.toNat < k := by omega

theorem stars_two (ks1 ks2 : List Nat) {L M1 R1 M2 R2 : List HProp} {A1 A2 : HProp} (h1 : takeP L ks1 = some (M1, R1)) (h2 : takeP R1 ks2 = some (M2, R2)) (a1 : ∀ h, stars M1 h → A1 h) (a2 : ∀ h, stars M2 h → A2 h) : ∀ g, stars L g → stars [A1, A2] g := fun g hs => by
  obtain ⟨k1, k2, d, x1, x2, hA, hR⟩ := stars_shut a1 (stars_take ks1 h1 hs)
  exact ⟨k1, k2, d, x1, x2, hA, stars_fin ks2 h2 a2 _ hR⟩
theorem stars_three (ks1 ks2 ks3 : List Nat) {L M1 R1 M2 R2 M3 R3 : List HProp} {A1 A2 A3 : HProp} (h1 : takeP L ks1 = some (M1, R1)) (h2 : takeP R1 ks2 = some (M2, R2)) (h3 : takeP R2 ks3 = some (M3, R3)) (a1 : ∀ h, stars M1 h → A1 h) (a2 : ∀ h, stars M2 h → A2 h) (a3 : ∀ h, stars M3 h → A3 h) : ∀ g, stars L g → stars [A1, A2, A3] g := fun g hs => by
  obtain ⟨k1, k2, d, x1, x2, hA, hR⟩ := stars_shut a1 (stars_take ks1 h1 hs)
  exact ⟨k1, k2, d, x1, x2, hA, stars_two ks2 ks3 h2 h3 a2 a3 _ hR⟩
theorem stars_one {A : HProp} {h : Hp} (hs : stars [A] h) : ∃ g : Hp, Hp.le g h ∧ A g := let ⟨g, _, _, hg, _, hA, _⟩ := hs; ⟨g, hg, hA⟩
theorem stars_blk {b : Nat} {cs : List Value} {e : TypeId} {h : Hp} (hs : stars [blk b cs e] h) : blk b cs e h := let ⟨_, hg, hA⟩ := stars_one hs; blk_le hA hg
theorem stars_own {α : Type} {E : Enc α} {A : Option Addr} {m c : Nat} {xs : List α} {h : Hp} (hs : stars [own E A m c xs] h) : own E A m c xs h := let ⟨_, hg, hA⟩ := stars_one hs; own_le hA hg
theorem flat_i (k : IntKind) (xs : List Int) : flat (encI k) xs = xs.map (Value.int k) := by
  induction xs with
  | nil => rfl
  | cons x xs ih => simp only [flat, List.flatMap_cons, List.map_cons] at ih ⊢; rw [ih]; rfl

section
variable {P : Program} {F : Frz} {n : Nat} {Q : Exit → Act → World → Prop} {e : Env} {L : List HProp} {α β γ : Type}
theorem X_loop2 {c : Code} (E : α → β → Env) (M : α → β → List HProp) (p : α → β → Prop) (μ : α → β → Nat) (a0 : α) (b0 : β) (h0 : p a0 b0) (he : Sub (E a0 b0) e) (hL : ∀ h, stars L h → stars (M a0 b0) h)
    (round : ∀ a b, p a b → X P F n c (Exit.then (fun x w => ∃ j : α × β, p j.1 j.2 ∧ μ j.1 j.2 < μ a b ∧ Fr n (E j.1 j.2) x ∧ St F w (M j.1 j.2)) Q) (E a b) (M a b)) : X P F n (.loop c) Q e L :=
  X_loop (ι := α × β) (fun i => E i.1 i.2) (fun i => M i.1 i.2) (fun i => p i.1 i.2) (fun i => μ i.1 i.2) (a0, b0) h0 he hL fun i h => round i.1 i.2 h
theorem Y_round2 {E : α → β → Env} {M : α → β → List HProp} {p : α → β → Prop} {μ : α → β → Nat} {m : Nat} (a : α) (b : β) (hp : p a b) (hm : μ a b < m) (he : Sub (E a b) e) (hL : ∀ h, stars L h → stars (M a b) h) :
    Y F n (Exit.then (fun x w => ∃ j : α × β, p j.1 j.2 ∧ μ j.1 j.2 < m ∧ Fr n (E j.1 j.2) x ∧ St F w (M j.1 j.2)) Q) .normal e L := .mk fun _ _ hf hs => ⟨(a, b), hp, hm, hf.sub he, hs.imp hL⟩
theorem X_loop3 {c : Code} (E : α → β → γ → Env) (M : α → β → γ → List HProp) (p : α → β → γ → Prop) (μ : α → β → γ → Nat) (a0 : α) (b0 : β) (c0 : γ) (h0 : p a0 b0 c0) (he : Sub (E a0 b0 c0) e) (hL : ∀ h, stars L h → stars (M a0 b0 c0) h)
    (round : ∀ a b c', p a b c' → X P F n c (Exit.then (fun x w => ∃ j : α × β × γ, p j.1 j.2.1 j.2.2 ∧ μ j.1 j.2.1 j.2.2 < μ a b c' ∧ Fr n (E j.1 j.2.1 j.2.2) x ∧ St F w (M j.1 j.2.1 j.2.2)) Q) (E a b c') (M a b c')) : X P F n (.loop c) Q e L :=
  X_loop (ι := α × β × γ) (fun i => E i.1 i.2.1 i.2.2) (fun i => M i.1 i.2.1 i.2.2) (fun i => p i.1 i.2.1 i.2.2) (fun i => μ i.1 i.2.1 i.2.2) (a0, b0, c0) h0 he hL fun i h => round i.1 i.2.1 i.2.2 h
theorem Y_round3 {E : α → β → γ → Env} {M : α → β → γ → List HProp} {p : α → β → γ → Prop} {μ : α → β → γ → Nat} {m : Nat} (a : α) (b : β) (c : γ) (hp : p a b c) (hm : μ a b c < m) (he : Sub (E a b c) e) (hL : ∀ h, stars L h → stars (M a b c) h) :
    Y F n (Exit.then (fun x w => ∃ j : α × β × γ, p j.1 j.2.1 j.2.2 ∧ μ j.1 j.2.1 j.2.2 < m ∧ Fr n (E j.1 j.2.1 j.2.2) x ∧ St F w (M j.1 j.2.1 j.2.2)) Q) .normal e L := .mk fun _ _ hf hs => ⟨(a, b, c), hp, hm, hf.sub he, hs.imp hL⟩
end
/-- On with the loop, whatever its invariant's form. -/
theorem Y_again {ι : Type} {F : Frz} {n : Nat} {Q : Exit → Act → World → Prop} {e : Env} {L : List HProp} {R : ι → Act → World → Prop} (x : ι) (h : ∀ a w, Fr n e a → St F w L → R x a w) : Y F n (Exit.then (fun a w => ∃ j, R j a w) Q) .normal e L := .mk fun a w hf hs => ⟨x, h a w hf hs⟩
theorem stars_new {L : List HProp} {A : HProp} (hA : A Hp.nil) {g : Hp} (h : stars L g) : stars (A :: L) g := ⟨Hp.nil, g, ⟨fun _ => .inl rfl⟩, ⟨fun _ _ e => by cases e⟩, Hp.le_refl g, hA, h⟩
theorem own_nil {α : Type} (E : Enc α) (h : Hp) : own E none 0 0 [] h := .inl ⟨rfl, rfl, rfl, rfl⟩
theorem own_some {α : Type} {E : Enc α} {A : Option Addr} {m c : Nat} {xs : List α} {h : Hp} (o : own E A m c xs h) (hm : 0 < m) : ∃ q, A = some ⟨q, 0, none⟩ := by
  rcases o with ⟨_, h2, _⟩ | ⟨q, _, _, h2, _⟩
  · omega
  · exact ⟨q, h2⟩
section
variable {P : Program} {T : Tab} {F G : Frz} {n : Nat} {Q : Exit → Act → World → Prop} {e : Env} {L : List HProp} {ops : Array Oper} {kd : Nat → Kin} {σ : List Nat}
theorem XD_int {j : Nat} {k : IntKind} {x y : Int} (hxy : x = y) (h : XD P G F n ops kd σ Q ((j, .int k y) :: e) L) : XD P G F n ops kd σ Q ((j, .int k x) :: e) L := hxy ▸ h
theorem XD_head {j : Nat} {x y : Value} (hxy : x = y) (h : XD P G F n ops kd σ Q ((j, y) :: e) L) : XD P G F n ops kd σ Q ((j, x) :: e) L := hxy ▸ h
theorem XD_dec {j : Nat} {p : Prop} [Decidable p] (h1 : p → XD P G F n ops kd σ Q ((j, .bool true) :: e) L) (h2 : ¬ p → XD P G F n ops kd σ Q ((j, .bool false) :: e) L) : XD P G F n ops kd σ Q ((j, .bool (decide p)) :: e) L := by
  by_cases hp : p
  · rw [decide_eq_true hp]; exact h1 hp
  · rw [decide_eq_false hp]; exact h2 hp
theorem XD_dec_t {j : Nat} {p : Prop} [Decidable p] (hp : p) (h1 : XD P G F n ops kd σ Q ((j, .bool true) :: e) L) : XD P G F n ops kd σ Q ((j, .bool (decide p)) :: e) L := by rw [decide_eq_true hp]; exact h1
theorem XD_dec_f {j : Nat} {p : Prop} [Decidable p] (hp : ¬ p) (h1 : XD P G F n ops kd σ Q ((j, .bool false) :: e) L) : XD P G F n ops kd σ Q ((j, .bool (decide p)) :: e) L := by rw [decide_eq_false hp]; exact h1
end
end Go.Cof
set_option linter.unusedVariables false
set_option linter.unusedSectionVars false
namespace Go.Cof
open Go.RowKit

/-! calls whose answer is told -/
section
variable {P : Program} {T : Tab} {F : Frz} {n : Nat} {Q : Exit → Act → World → Prop} {e : Env} {L : List HProp} {ops : Array Oper} {l : List Oper} {d : Option Tmp} {ty : TypeId} {pos : String} {af : Array Edge}
theorem XL_callE {f : FuncId} (ks : List Nat) {args : List Operand} {ats : Array TypeId} {vs : List Value} {pre : Hp → Prop} {A R M : List HProp} {r : Value} {e' : Env} (hs : Ctr P f vs pre A (fun v L => v = r ∧ L = M)) (hk : takeP L ks = some (A, R)) (hv : evs e args = some vs)
    (hp : putE n d r e = some e') (hpre : ∀ g : Hp, Hp.le F.heap g → stars R g → pre g) (h : XL P F n ops l Q e' (M ++ R)) : XL P F n ops (⟨d, .call ⟨.value (.func f), args.toArray, ats⟩, ty, pos, af, none⟩ :: l) Q e L :=
  XL_enter (o := ⟨d, .call ⟨.value (.func f), args.toArray, ats⟩, ty, pos, af, none⟩) rfl (args := vs) (Φ := fun v K => v = r ∧ K = M ++ R) (fun a w hf => by have := run_call hs.1 hf (d := d) (ty := ty) (pos := pos) (af := af) (ats := ats) (x := .func f) rfl hv w; simpa using this)
    (fun w hw => (Ctr.call hs (hw.imp fun _ => stars_take ks hk) hpre).mono fun _ _ ⟨v, L', he, ⟨h1, h2⟩, hs'⟩ => ⟨v, _, he, ⟨h1, rfl⟩, by rw [h2] at hs'; exact hs'⟩)
    (fun v K ⟨h1, h2⟩ => ⟨e', by rw [h1]; exact hp, by rw [h2]; exact h⟩)
end
/-! numbers that are only known to lie somewhere; divisors, shifts that are no letters -/
section
variable {P : Program} {T : Tab} {F : Frz} {n : Nat} {Q : Exit → Act → World → Prop} {e : Env} {L : List HProp} {ops : Array Oper} {l : List Oper}
theorem XL_gen (j : Nat) {k : IntKind} {x : Int} (p : Int → Prop) (hp : p x) (h : ∀ y, p y → XL P F n ops l Q ((j, .int k y) :: e) L) : XL P F n ops l Q ((j, .int k x) :: e) L := h x hp
theorem XL_rem {j : Nat} {k : IntKind} {a b : Int} (hb : 0 < b) (h : ∀ y, -b < y → y < b → (0 ≤ a → 0 ≤ y) → y % b = a % b → XL P F n ops l Q ((j, .int k y) :: e) L) : XL P F n ops l Q ((j, .int k (a.tmod b)) :: e) L :=
  h _ (by
    have h1 := Int.natAbs_tmod a b
    have h2 := Nat.mod_lt a.natAbs (y := b.natAbs) (by omega)
    omega) (Int.tmod_lt_of_pos a hb) (fun h0 => Int.tmod_nonneg b h0) (by rw [Int.tmod_def, Int.sub_emod, Int.mul_emod_right, Int.sub_zero, Int.emod_emod])
theorem XL_remb {j : Nat} {k : IntKind} {a b : Int} (hb : 0 < b) (h : ∀ y, -b < y → y < b → (0 ≤ a → 0 ≤ y) → XL P F n ops l Q ((j, .int k y) :: e) L) : XL P F n ops l Q ((j, .int k (a.tmod b)) :: e) L := XL_rem hb fun y h1 h2 h3 _ => h y h1 h2 h3
theorem opV_rem {t t2 : TypeId} {x y : Operand} {k : IntKind} {a b : Int} (hx : ev e x = some (.int k a)) (hy : ev e y = some (.int k b)) (hb : b ≠ 0) : opV T e (.binOp .rem t x y t2) = some (.int k (a.tmod b)) := by
  simp only [opV, hx, hy, binV, intBin, if_neg hb]
  cases k <;> rfl
theorem opV_quo {t t2 : TypeId} {x y : Operand} {k : IntKind} {a b : Int} (hx : ev e x = some (.int k a)) (hy : ev e y = some (.int k b)) (hb : b ≠ 0) : opV T e (.binOp .quo t x y t2) = some (.int k (k.wrap (a.tdiv b))) := by
  simp only [opV, hx, hy, binV, intBin, if_neg hb]
  cases k <;> rfl
theorem opV_shl {t t2 : TypeId} {x y : Operand} {k k' : IntKind} {a b : Int} (hx : ev e x = some (.int k a)) (hy : ev e y = some (.int k' b)) (hb : 0 ≤ b) : opV T e (.binOp .shl t x y t2) = some (.int k (k.wrap (a * 2 ^ (min b.toNat k.bits)))) := by
  simp only [opV, hx, hy, binV, shiftBin, if_neg (Int.not_lt.2 hb)]
theorem opV_shr {t t2 : TypeId} {x y : Operand} {k k' : IntKind} {a b : Int} (hx : ev e x = some (.int k a)) (hy : ev e y = some (.int k' b)) (hb : 0 ≤ b) : opV T e (.binOp .shr t x y t2) = some (.int k (a / 2 ^ (min b.toNat k.bits))) := by
  simp only [opV, hx, hy, binV, shiftBin, if_neg (Int.not_lt.2 hb)]
end
/-- Ways that meet again, what comes next told by the end. -/
theorem X_cutB {P : Program} {F : Frz} {n : Nat} {Q : Exit → Act → World → Prop} {e : Env} {L : List HProp} {c : Code} {R : Act → World → Prop} {ι : Type} (E : ι → Env) (M : ι → List HProp) (p : ι → Prop) (h1 : X P F n c (Exit.then (fun a w => ∃ j, p j ∧ Fr n (E j) a ∧ St F w (M j)) Q) e L)
    (h2 : ∀ j, p j → Y F n (Exit.then R Q) .normal (E j) (M j)) : X P F n c (Exit.then R Q) e L := .mk fun a w hf hs => wp_mono (h1.out a w hf hs) fun x a' w' hq => by
  cases x with
  | normal => obtain ⟨j, g1, g2, g3⟩ := hq; exact (h2 j g1).out a' w' g2 g3
  | exit _ => exact hq
  | goto _ => exact hq
  | ret => exact hq
  | panic _ => exact hq
  | outgrown => exact hq
/-! the start -/
def Frz.of (W : World) : Frz := ⟨World.hp W, W.os, W.tape, W.output, W.heap.size⟩
theorem St.start (W : World) : St (Frz.of W) W [] := ⟨rfl, rfl, rfl, Nat.le_refl _, Hp.le_refl _, Hp.nil, ⟨fun b o h => by cases h⟩, ⟨fun b => .inr rfl⟩, trivial⟩
theorem St.below {W W' : World} {L : List HProp} (h : St (Frz.of W) W' L) : Below W.heap.size W W' :=
  ⟨h.os, h.tape, h.output, h.size, fun k hk => by
    have := h.frz k (W.heap[k]'hk) (by show W.heap[k]? = _; exact Array.getElem?_eq_getElem hk)
    rw [Array.getElem?_eq_getElem hk]; exact this⟩
theorem Ctr.out {P : Program} {f : FuncId} {args : List Value} {pre : Hp → Prop} {r : Value} {Φ : Value → List HProp → Prop} (h : Ctr P f args pre [] Φ) (hr : ∀ v L, Φ v L → v = r) {W : World} (hp : pre (World.hp W)) :
    Calls P f args.toArray W fun e W' => e = .returned r ∧ Below W.heap.size W W' :=
  (h.2 (Frz.of W) W hp (St.start W)).mono fun _ _ ⟨v, L', he, hΦ, hs⟩ => ⟨by rw [he, hr v L' hΦ], hs.below⟩

/-! lists -/
theorem flat_inv {α : Type} (E : Enc α) : ∀ (xs : List α) (j : Nat) (u : Value), (flat E xs)[j]? = some u → ∃ i x k, xs[i]? = some x ∧ (E.enc x)[k]? = some u ∧ j = i * E.sz + k
  | [], j, u, h => by simp [flat] at h
  | x :: xs, j, u, h => by
    simp only [flat, List.flatMap_cons] at h
    by_cases hj : j < E.sz
    · rw [List.getElem?_append_left (by rw [E.len]; exact hj)] at h
      exact ⟨0, x, j, rfl, h, by omega⟩
    · rw [List.getElem?_append_right (by rw [E.len]; omega), E.len] at h
      obtain ⟨i, y, k, h1, h2, h3⟩ := flat_inv E xs _ u h
      exact ⟨i + 1, y, k, h1, h2, by rw [Nat.succ_mul]; omega⟩
theorem choose_list {α : Type} {p : Nat → α → Prop} : ∀ n : Nat, (∀ i, i < n → ∃ x, p i x) → ∃ xs : List α, xs.length = n ∧ ∀ i x, xs[i]? = some x → p i x
  | 0, _ => ⟨[], rfl, fun i x h => by simp at h⟩
  | n + 1, h => by
    obtain ⟨xs, h1, h2⟩ := choose_list n fun i hi => h i (by omega)
    obtain ⟨y, hy⟩ := h n (by omega)
    refine ⟨xs ++ [y], by simp [h1], fun i x hx => ?_⟩
    by_cases hi : i < xs.length
    · rw [List.getElem?_append_left hi] at hx; exact h2 i x hx
    · rw [List.getElem?_append_right (by omega)] at hx
      have : i - xs.length = 0 := by
        have := (List.getElem?_eq_some_iff.1 hx).1
        simp at this; omega
      rw [this] at hx
      simp at hx
      subst hx
      rw [show i = n from by omega]
      exact hy

theorem take_succ_eq {α : Type} [Inhabited α] {xs ys : List α} {i : Nat} (h : xs.take i = ys.take i) (hx : i < xs.length) (hy : i < ys.length) (hg : Cof.get xs i = Cof.get ys i) : xs.take (i + 1) = ys.take (i + 1) := by
  have e1 := Cof.get_some (xs := xs) (i := (i : Int)) (by omega) (by omega)
  have e2 := Cof.get_some (xs := ys) (i := (i : Int)) (by omega) (by omega)
  rw [Int.toNat_natCast] at e1 e2
  rw [List.take_add_one, List.take_add_one, h, e1, e2, hg]
/-! a type's values, read -/
structure Dec (P : Program) (t : TypeId) (α : Type) where
  E : Enc α
  good : Hp → α → Prop
  opn : ∀ {H : Type} {enc : TypeId × Value → H} {w : World} {base : Nat} {spare : Nat → Bool} {held : Bool} {fuel : Nat} {cs : List Value} {x : DataW H × List MemPlace},
    DataW.trod enc P w base spare held fuel t cs = some x → (x.1.weights P t).all (· ≤ reachBytes) = true → ∃ a, cs = E.enc a ∧ good (World.hp w) a
def Dec.int {P : Program} {t : TypeId} (k : IntKind) (ht : P.underlying t = some (.int k)) : Dec P t Int where
  E := encI k
  good := fun _ n => k.min ≤ n ∧ n ≤ k.max
  opn := fun h _ => by
    obtain ⟨n, h1, _, h2⟩ := DataW.trod_int ht h
    exact ⟨n, h1, (by simpa [Lit.wf, Bool.and_eq_true] using h2)⟩
def Dec.bool {P : Program} {t : TypeId} (ht : P.underlying t = some .bool) : Dec P t Bool where
  E := encB
  good := fun _ _ => True
  opn := fun h _ => by
    obtain ⟨n, h1, _⟩ := DataW.trod_bool ht h
    exact ⟨n, h1, trivial⟩
/-- A slice that came in. -/
structure In (α : Type) where
  A : Option Addr
  m : Nat
  c : Nat
  xs : List α
def encIn (α : Type) : Enc (In α) := ⟨fun x => [.slice x.A x.m x.c], 1, fun _ => rfl, by decide, fun x u hu => by simp at hu; subst hu; rfl⟩
structure InOk {α : Type} (E : Enc α) (good : Hp → α → Prop) (by_ : Nat) (h : Hp) (s : In α) : Prop where
  rd : rdS E h s.A s.m s.xs
  le : s.m ≤ s.c
  max : s.c ≤ maxLen
  wt : s.m * by_ ≤ 140737488351232
  all : ∀ x ∈ s.xs, good h x
theorem weightsAll_mem {H : Type} {P : Program} {e : TypeId} {n : Nat} : ∀ {ds : List (DataW H)} {i : Nat} {d : DataW H}, ds[i]? = some d → n ∈ d.weights P e → n ∈ DataW.weightsAll P e ds
  | [], i, d, h, _ => by simp at h
  | y :: ds, 0, d, h, hn => by
    simp at h; subst h
    simp only [DataW.weightsAll, List.mem_append]; exact .inl hn
  | y :: ds, i + 1, d, h, hn => by
    simp only [DataW.weightsAll, List.mem_append]; exact .inr (weightsAll_mem (by simpa using h) hn)
theorem weightsEach_mem {H : Type} {P : Program} {n : Nat} : ∀ {ts : List TypeId} {ds : List (DataW H)} {i : Nat} {t : TypeId} {d : DataW H}, ts[i]? = some t → ds[i]? = some d → n ∈ d.weights P t → n ∈ DataW.weightsEach P ts ds
  | [], _, i, t, d, h, _, _ => by simp at h
  | _ :: _, [], i, t, d, _, h, _ => by simp at h
  | u :: ts, y :: ds, 0, t, d, h, h2, hn => by
    simp at h h2; subst h h2
    simp only [DataW.weightsEach, List.mem_append]; exact .inl hn
  | u :: ts, y :: ds, i + 1, t, d, h, h2, hn => by
    simp only [DataW.weightsEach, List.mem_append]; exact .inr (weightsEach_mem (by simpa using h) (by simpa using h2) hn)
def Dec.slice {P : Program} {t e : TypeId} {α : Type} (D : Dec P e α) (ht : P.underlying t = some (.slice e)) (hc : P.cellsOf e = D.E.sz) (hb : ∃ b, P.bytesOf e = b) : Dec P t (In α) where
  E := encIn α
  good := InOk D.E D.good (P.bytesOf e)
  opn := fun {H enc w base spare held fuel cs x} h hw => by
    rcases DataW.trod_slice ht h with ⟨rfl, _⟩ | ⟨a, len, cap, elems, rest, n, _, rfl, rfl, hb, hl, hm, hlen, hel, _, _⟩
    · exact ⟨⟨none, 0, 0, []⟩, rfl, ⟨rdS.nil _ _ _, Nat.le_refl _, Nat.zero_le _, by simp, fun _ h => by simp at h⟩⟩
    have hws : ∀ m ∈ (DataW.slice (elems.map (·.1)) (rest.map (·.1)) : DataW H).weights P t, m ≤ reachBytes := fun m hm => by
      have := List.all_eq_true.1 hw m hm; simpa using this
    simp only [DataW.weights, ht] at hws
    obtain ⟨xs, h1, h2⟩ := choose_list (p := fun i y => D.good (World.hp w) y ∧ ∀ k u, (D.E.enc y)[k]? = some u → w.cell? ((a.add (i * D.E.sz)).add k) = some u) len fun i hi => by
      have hy := hel i hi
      rw [hc, List.getElem?_eq_getElem (by omega)] at hy
      obtain ⟨cs, hcs, hy'⟩ := Option.bind_eq_some_iff.1 hy
      obtain ⟨y, rfl, hg⟩ := D.opn hy' (List.all_eq_true.2 fun m hm => by
        have := hws m (List.mem_cons_of_mem _ (List.mem_append_left _ (weightsAll_mem (i := i) (d := (elems[i]'(by omega)).1) (by rw [List.getElem?_map, List.getElem?_eq_getElem (by omega)]; rfl) hm)))
        simpa using this)
      refine ⟨y, hg, fun k u hu => ?_⟩
      have hk := World.cells?_some hcs
      rw [hk.2.2 k (by have := (List.getElem?_eq_some_iff.1 hu).1; rw [D.E.len] at this; exact this)]
      exact hu
    have hwt : len * P.bytesOf e ≤ 140737488351232 := by
      have := hws _ (List.mem_cons_self ..)
      rw [List.length_map, List.length_map, hlen] at this
      have h0 : len * P.bytesOf e ≤ (len + rest.length) * P.bytesOf e := Nat.mul_le_mul_right _ (Nat.le_add_right _ _)
      exact Nat.le_trans h0 this
    refine ⟨⟨some a, len, cap, xs⟩, rfl, ⟨⟨h1.symm, fun _ => rfl, fun j u hu => ?_⟩, hl, hm, hwt, fun x hx => ?_⟩⟩
    · obtain ⟨i, y, k, e1, e2, rfl⟩ := flat_inv _ _ _ _ hu
      have := (h2 i y e1).2 k u e2
      rw [Addr.add_add] at this
      exact this
    · obtain ⟨i, hi⟩ := List.getElem?_of_mem hx
      exact (h2 i x hi).1
/-- The fields from an offset on. -/
structure DecF (P : Program) (fs : List Field) (o : Nat) (α : Type) where
  enc : α → List Value
  sz : Nat
  len : ∀ x, (enc x).length = sz
  one : ∀ x u, u ∈ enc x → u.oneCell' = true
  good : Hp → α → Prop
  opn : ∀ {H : Type} {en : TypeId × Value → H} {w : World} {base : Nat} {spare : Nat → Bool} {held : Bool} {fuel : Nat} {cs : List Value} {xs : List (DataW H × List MemPlace)}, cs.length = o + sz → 
    (∀ (i : Nat) (f : Field), fs[i]? = some f → ∃ x : DataW H × List MemPlace, DataW.trod en P w base spare held fuel f.type ((cs.drop f.offset).take (P.cellsOf f.type)) = some x ∧ (x.1.weights P f.type).all (· ≤ reachBytes) = true) → ∃ a, cs.drop o = enc a ∧ good (World.hp w) a
def DecF.nil {P : Program} {o : Nat} : DecF P [] o Unit where
  enc := fun _ => []
  sz := 0
  len := fun _ => rfl
  one := fun _ _ h => by simp at h
  good := fun _ _ => True
  opn := fun hl _ => ⟨(), by rw [List.drop_of_length_le (by omega)], trivial⟩
def DecF.cons {P : Program} {f : Field} {fs : List Field} {o : Nat} {α β : Type} (D : Dec P f.type α) (ho : f.offset = o) (hc : P.cellsOf f.type = D.E.sz) (R : DecF P fs (o + D.E.sz) β) : DecF P (f :: fs) o (α × β) where
  enc := fun x => D.E.enc x.1 ++ R.enc x.2
  sz := D.E.sz + R.sz
  len := fun x => by rw [List.length_append, D.E.len, R.len]
  one := fun x u hu => by
    rcases List.mem_append.1 hu with h | h
    · exact D.E.one _ _ h
    · exact R.one _ _ h
  good := fun h x => D.good h x.1 ∧ R.good h x.2
  opn := fun {H en w base spare held fuel cs xs} hl h => by
    obtain ⟨x, hx, hw⟩ := h 0 f rfl
    rw [hc, ho] at hx
    obtain ⟨a, ha, hg⟩ := D.opn hx hw
    obtain ⟨b, hb, hg2⟩ := R.opn (cs := cs) (xs := xs) (by omega) fun i f' hf => h (i + 1) f' (by simpa using hf)
    refine ⟨(a, b), ?_, hg, hg2⟩
    show cs.drop o = D.E.enc a ++ R.enc b
    rw [← ha, ← hb, ← List.drop_drop, List.take_append_drop]
def Dec.struct {P : Program} {t : TypeId} {fs : Array Field} {α : Type} (ht : P.underlying t = some (.struct fs)) (R : DecF P fs.toList 0 α) (hc : P.cellsOf t = R.sz) (hp : 0 < R.sz) : Dec P t α where
  E := ⟨R.enc, R.sz, R.len, hp, R.one⟩
  good := R.good
  opn := fun {H enc w base spare held fuel cs x} h hw => by
    obtain ⟨xs, n, _, rfl, hl, hn, hx⟩ := DataW.trod_struct ht h
    have hws : ∀ m ∈ (DataW.agg (xs.map (·.1)) : DataW H).weights P t, m ≤ reachBytes := fun m hm => by
      have := List.all_eq_true.1 hw m hm; simpa using this
    simp only [DataW.weights, ht] at hws
    obtain ⟨a, ha, hg⟩ := R.opn (en := enc) (w := w) (base := base) (spare := spare) (held := held) (fuel := n) (cs := cs) (xs := xs) (by omega) fun i f hf => by
      have hf' : fs[i]? = some f := by simpa using hf
      have hi : i < xs.length := by rw [hn]; exact (Array.getElem?_eq_some_iff.1 hf').1
      refine ⟨xs[i], by rw [hx i f hf', List.getElem?_eq_getElem hi], List.all_eq_true.2 fun m hm => ?_⟩
      have := hws m (weightsEach_mem (i := i) (t := f.type) (d := xs[i].1) (by rw [List.getElem?_map, hf]; rfl) (by rw [List.getElem?_map, List.getElem?_eq_getElem hi]; rfl) hm)
      simpa using this
    exact ⟨a, by simpa using ha, hg⟩

/-! an argument -/
section
variable {H : Type} {enc : TypeId × Value → H} {P : Program} {w : World} {r : Reach} {b0 base : Nat} {sp : Nat → Bool} {held : Bool} {t : TypeId} {v : Value} {d : DataW H} {ps : List MemPlace} {α : Type}
theorem Dec.arg_slice {e : TypeId} (D : Dec P t (In α)) (hD : D.E = encIn α) (ht : P.underlying t = some (.slice e)) (hval : Value.okWide P w r b0 t v) (hd : DataW.Trod enc P w base sp held t v d ps) (hw : (d.weights P t).all (· ≤ reachBytes) = true) : ∃ s : In α, v = .slice s.A s.m s.c ∧ D.good (World.hp w) s := by
  obtain ⟨fuel, hf⟩ := hd
  obtain ⟨a, h1, h2⟩ := D.opn hf hw
  obtain ⟨x, l, c, rfl⟩ := Go.WideShapes.okWide_slice ht hval
  rw [hD] at h1
  simp [Value.cells, encIn] at h1
  obtain ⟨rfl, rfl, rfl⟩ := h1
  exact ⟨a, rfl, h2⟩
theorem Dec.arg_struct {fs : Array Field} (D : Dec P t α) (ht : P.underlying t = some (.struct fs)) (hval : Value.okWide P w r b0 t v) (hd : DataW.Trod enc P w base sp held t v d ps) (hw : (d.weights P t).all (· ≤ reachBytes) = true) : ∃ a : α, v = .agg (D.E.enc a).toArray ∧ D.good (World.hp w) a := by
  obtain ⟨fuel, hf⟩ := hd
  obtain ⟨a, h1, h2⟩ := D.opn hf hw
  obtain ⟨cs, rfl, _⟩ := Go.WideShapes.okWide_struct ht hval
  refine ⟨a, ?_, h2⟩
  rw [← h1]
  simp [Value.cells]
end
theorem wf_rng {k : IntKind} {n : Int} (h : (Lit.int k n).wf = true) : k.min ≤ n ∧ n ≤ k.max := by simpa [Lit.wf, Bool.and_eq_true] using h
theorem rng_u8 {x : Int} (h : IntKind.u8.min ≤ x ∧ x ≤ IntKind.u8.max) : 0 ≤ x ∧ x < 256 := ⟨h.1, Int.lt_of_le_of_lt h.2 (by decide)⟩
theorem rng_i64 {x : Int} (h : IntKind.i64.min ≤ x ∧ x ≤ IntKind.i64.max) : -9223372036854775808 ≤ x ∧ x ≤ 9223372036854775807 := ⟨Int.le_trans (by decide) h.1, Int.le_trans h.2 (by decide)⟩
theorem rng_u64 {x : Int} (h : IntKind.u64.min ≤ x ∧ x ≤ IntKind.u64.max) : 0 ≤ x ∧ x ≤ 18446744073709551615 := ⟨h.1, Int.le_trans h.2 (by decide)⟩
theorem weights_arg {H : Type} {P : Program} {ts : List TypeId} {ds : List (DataW H)} (h : (DataW.weightsEach P ts ds).all (· ≤ reachBytes) = true) {i : Nat} {t : TypeId} {d : DataW H} (ht : ts[i]? = some t) (hd : ds[i]? = some d) : (d.weights P t).all (· ≤ reachBytes) = true :=
  List.all_eq_true.2 fun n hn => List.all_eq_true.1 h n (weightsEach_mem ht hd hn)
end Go.Cof
set_option linter.unusedVariables false
set_option linter.unusedSectionVars false
namespace Go.Cof
open Go.RowKit

section
variable {P : Program} {F : Frz} {n : Nat} {Q : Exit → Act → World → Prop} {e : Env} {L : List HProp} {ops : Array Oper} {k : Nat} {listed : Array Bool}
theorem wp_fromNo {o : Oper} {a : Act} {w : World} {K : Act → World → Prop} (hh : o.wp P a w K NoQ) : o.wp P a w K Q := by
  unfold Oper.wp at *
  generalize (execOp a.eval o).run P w = r at *
  cases r with
  | ok n w' =>
    cases n <;> simp only [Oper.upon] at hh ⊢ <;> first | exact hh | skip
    · exact hh.mono fun e w'' he => by
        cases e with
        | returned v => exact he
        | panicked ch => exact he.elim
        | outgrown => obtain ⟨_, _, hx⟩ := he; exact hx.elim
  | halt x w' =>
    cases x <;> simp only [Oper.upon] at hh ⊢
    exact hh.elim
/-- What is left of a region, in any order. -/
structure XN (P : Program) (F : Frz) (n : Nat) (ops : Array Oper) (Q : Exit → Act → World → Prop) (k : Nat) (listed : Array Bool) (e : Env) (L : List HProp) : Prop where
  out : ∀ a w, Fr n e a → St F w L → wpAny P .any ops Q k listed a w
def QN (P : Program) (ops : Array Oper) (Q : Exit → Act → World → Prop) (k : Nat) (listed : Array Bool) : Exit → Act → World → Prop := fun x a w => x = .normal ∧ wpAny P .any ops Q k listed a w
theorem X_any {id : Nat} {li : Array Bool} (hm : P.follows .mixedOrders = true) (hl : Array.replicate ops.size false = li) (hk : ops.size = k) (h : XN P F n ops Q k li e L) : X P F n (.region id ops true) Q e L := .mk fun a w hf hs =>
  wp_region_any hm (by rw [hl, hk]; exact h.out a _ hf hs.drew)
theorem XN_nil (hr : Region.ready .any ops listed = []) (h : Y F n Q .normal e L) : XN P F n ops Q 0 listed e L := .mk fun a w hf hs => ⟨hr, h.out a w hf hs⟩
/-- One of those that are ready. -/
structure XI (P : Program) (F : Frz) (n : Nat) (ops : Array Oper) (Q : Exit → Act → World → Prop) (k : Nat) (listed : Array Bool) (i : Nat) (e : Env) (L : List HProp) : Prop where
  out : ∀ a w, Fr n e a → St F w L → wpOp P ops Q i (wpAny P .any ops Q k listed) a w
theorem XN_one {i : Nat} {li : Array Bool} (hr : Region.ready .any ops listed = [i]) (hl : listed.setIfInBounds i true = li) (h : XI P F n ops Q k li i e L) : XN P F n ops Q (k + 1) listed e L := .mk fun a w hf hs =>
  ⟨fun h0 => (by rw [hr] at h0; cases h0), fun j hj => by rw [hr] at hj; simp at hj; subst hj; rw [hl]; exact h.out a w hf hs⟩
theorem XN_two {i j : Nat} {li lj : Array Bool} (hr : Region.ready .any ops listed = [i, j]) (hl : listed.setIfInBounds i true = li) (hl' : listed.setIfInBounds j true = lj) (h : XI P F n ops Q k li i e L) (h' : XI P F n ops Q k lj j e L) : XN P F n ops Q (k + 1) listed e L := .mk fun a w hf hs =>
  ⟨fun h0 => (by rw [hr] at h0; cases h0), fun x hx => by
    rw [hr] at hx
    simp at hx
    rcases hx with rfl | rfl
    · rw [hl]; exact h.out a w hf hs
    · rw [hl']; exact h'.out a w hf hs⟩
theorem XN_three {i j m : Nat} {li lj lm : Array Bool} (hr : Region.ready .any ops listed = [i, j, m]) (hl : listed.setIfInBounds i true = li) (hl' : listed.setIfInBounds j true = lj) (hl2 : listed.setIfInBounds m true = lm) (h : XI P F n ops Q k li i e L) (h' : XI P F n ops Q k lj j e L) (h2 : XI P F n ops Q k lm m e L) : XN P F n ops Q (k + 1) listed e L := .mk fun a w hf hs =>
  ⟨fun h0 => (by rw [hr] at h0; cases h0), fun x hx => by
    rw [hr] at hx
    simp at hx
    rcases hx with rfl | rfl | rfl
    · rw [hl]; exact h.out a w hf hs
    · rw [hl']; exact h'.out a w hf hs
    · rw [hl2]; exact h2.out a w hf hs⟩
theorem XI_do {i : Nat} {o : Oper} (hi : ops[i]? = some o) (h : XL P F n ops [o] (QN P ops Q k listed) e L) : XI P F n ops Q k listed i e L := .mk fun a w hf hs => by
  have := h.out a w hf hs
  unfold wpOp
  rw [hi]
  unfold wpList at this
  simp only
  split at this
  · rename_i hw
    rw [if_pos hw]
    rcases this with this | ⟨_, _, _, hx⟩
    · exact .inl (wp_fromNo (wp_noq (fun x _ _ hx h => hx h.1) (fun a' w' hx => hx.2) this))
    · exact absurd hx.1 (by simp)
  · rename_i hw
    rw [if_neg hw]
    exact this.2
theorem Y_n (h : XN P F n ops Q k listed e L) : Y F n (QN P ops Q k listed) .normal e L := .mk fun a w hf hs => ⟨rfl, h.out a w hf hs⟩
end
/-! an operation behind one that was passed over; which kind of goal there is -/
section
variable {P : Program} {F G : Frz} {n : Nat} {Q : Exit → Act → World → Prop} {e : Env} {L : List HProp} {ops : Array Oper} {kd : Nat → Kin} {σ : List Nat}
theorem wanted_undef {o : Oper} {j : Nat} {b : Bool} {t : Tmp} {a : Act} (hf : Fr n e a) (hg : o.guard = some (j, b)) (hd : (ops[j]?).bind (·.dst) = some t) (hv : look e t = some undef) : Region.wanted o (yielded ops a.tmps) = false := by
  have := hf.get t _ hv
  simp only [Region.wanted, hg, yielded, hd, Option.bind_some]
  rw [Array.getD_eq_getD_getElem?] at this
  cases hx : a.tmps[t]? with
  | none => rfl
  | some u => rw [hx] at this; simp at this; subst this; rfl
theorem XD_nou {i j : Nat} {o : Oper} {b : Bool} {t : Tmp} {e' : Env} (hi : ops[i]? = some o) (hg : o.guard = some (j, b)) (hd : (ops[j]?).bind (·.dst) = some t) (hb : look e t = some undef) (hp : putE n o.dst undef e = some e') (h : XD P G F n ops kd σ Q e' L) : XD P G F n ops kd (i :: σ) Q e L := .mk fun a w hf hs => by
  show opW P ops kd _ i _ a w
  rw [opW_at hi, if_neg (by rw [wanted_undef hf hg hd hb]; simp)]
  exact h.out _ w (hf.put hp) hs
theorem XL_guard_nou {o : Oper} {l : List Oper} {j : Nat} {b : Bool} {t : Tmp} {e' : Env} (hg : o.guard = some (j, b)) (hd : (ops[j]?).bind (·.dst) = some t) (hv : look e t = some undef) (hp : putE n o.dst undef e = some e')
    (h : XL P F n ops l Q e' L) : XL P F n ops (o :: l) Q e L := .mk fun a w hf hs => by
  unfold wpList
  rw [if_neg (by rw [wanted_undef hf hg hd hv]; simp)]
  exact h.out _ w (hf.put hp) hs
theorem XL_id {l : List Oper} (h : XL P F n ops l Q e L) : XL P F n ops l Q e L := h
theorem XD_id (h : XD P G F n ops kd σ Q e L) : XD P G F n ops kd σ Q e L := h
theorem X_id {c : Code} (h : X P F n c Q e L) : X P F n c Q e L := h
theorem Y_id {x : Exit} (h : Y F n Q x e L) : Y F n Q x e L := h
end
end Go.Cof
