/- The frame of a walk as a list of known slots; the memory as what is frozen and a list of owned parts. The rules of the walk over these two. No program is named. -/
import Derived.WalkKit
set_option linter.unusedVariables false
namespace Go.Cof
open Go.RowKit

/-! ### slots -/
abbrev Env := List (Nat × Value)
def look {α : Type} : List (Nat × α) → Nat → Option α
  | [], _ => none
  | (j, v) :: e, k => bif Nat.beq k j then some v else look e k
def ev (e : Env) : Operand → Option Value
  | .tmp t => look e t
  | .const v => some v
  | .global g => some (.pointer (some ⟨g, 0, none⟩))
  | .func f => some (.func (.func f) #[] #[])

structure Fr (n : Nat) (e : Env) (a : Act) : Prop where
  size : a.tmps.size = n
  defers : a.defers = []
  get : ∀ k v, look e k = some v → a.tmps.getD k undef = v

theorem Fr.ev {n : Nat} {e : Env} {a : Act} (h : Fr n e a) {x : Operand} {v : Value} (hx : ev e x = some v) : a.eval x = v := by
  cases x with
  | tmp t => exact h.get t v hx
  | const u => simpa [Cof.ev, Act.eval] using hx
  | global g => simpa [Cof.ev, Act.eval] using hx
  | func f => simpa [Cof.ev, Act.eval] using hx

def putE (n : Nat) (d : Option Tmp) (v : Value) (e : Env) : Option Env :=
  match d with
  | none => some e
  | some d => bif Nat.blt d n then some ((d, v) :: e) else none

theorem Fr.put {n : Nat} {e e' : Env} {a : Act} (h : Fr n e a) {d : Option Tmp} {v : Value} (hp : putE n d v e = some e') : Fr n e' (a.put d v) := by
  cases d with
  | none => simp only [putE, Option.some.injEq] at hp; subst hp; exact h
  | some d =>
    simp only [putE] at hp
    cases hb : Nat.blt d n with
    | false => simp [hb] at hp
    | true =>
      simp only [hb, cond_true, Option.some.injEq] at hp
      subst hp
      have hd : d < n := by simpa [Nat.blt_eq] using hb
      refine ⟨by simp [Act.put, h.size], h.defers, fun k u hk => ?_⟩
      simp only [look] at hk
      by_cases e1 : k = d
      · subst e1
        rw [Nat.beq_refl] at hk
        simp only [cond_true, Option.some.injEq] at hk
        subst hk
        have : k < a.tmps.size := by rw [h.size]; exact hd
        simp [Act.put, Array.getD, this]
      · have hne : Nat.beq k d = false := by
          cases hc : Nat.beq k d with
          | false => rfl
          | true => exact absurd (Nat.eq_of_beq_eq_true hc) e1
        rw [hne] at hk
        simp only [cond_false] at hk
        have := h.get k u hk
        rw [← this]
        simp only [Act.put, Array.getD_eq_getD_getElem?, Array.getElem?_setIfInBounds]
        rw [if_neg (fun hh => e1 hh.symm)]

/-- What one list of slots says of another. -/
def Sub : Env → Env → Prop
  | [], _ => True
  | (k, v) :: e', e => look e k = some v ∧ Sub e' e
theorem Sub.get {e' e : Env} (h : Sub e' e) : ∀ k v, look e' k = some v → look e k = some v := by
  induction e' with
  | nil => intro k v hk; cases hk
  | cons p e' ih =>
    obtain ⟨j, u⟩ := p
    intro k v hk
    simp only [look] at hk
    cases hc : Nat.beq k j with
    | true =>
      rw [hc] at hk
      simp only [cond_true, Option.some.injEq] at hk
      rw [Nat.eq_of_beq_eq_true hc, ← hk]
      exact h.1
    | false =>
      rw [hc] at hk
      exact ih h.2 k v hk
theorem Fr.sub {n : Nat} {e' e : Env} {a : Act} (h : Fr n e a) (hs : Sub e' e) : Fr n e' a := ⟨h.size, h.defers, fun k v hk => h.get k v (hs.get k v hk)⟩

def envOf : Nat → List Value → Env
  | _, [] => []
  | i, v :: l => (i, v) :: envOf (i + 1) l
theorem look_envOf : ∀ (l : List Value) (i k : Nat) (v : Value), look (envOf i l) k = some v → i ≤ k ∧ l[k - i]? = some v
  | [], _, _, _, h => by cases h
  | u :: l, i, k, v, h => by
    simp only [envOf, look] at h
    cases hc : Nat.beq k i with
    | true =>
      rw [hc] at h
      have := Nat.eq_of_beq_eq_true hc
      subst this
      simp at h
      simp [h]
    | false =>
      rw [hc] at h
      have := look_envOf l (i + 1) k v h
      refine ⟨by omega, ?_⟩
      have e1 : k - i = (k - (i + 1)) + 1 := by omega
      rw [e1]
      simpa using this.2
theorem Fr.enter {args : List Value} {n : Nat} (h : args.length ≤ n) : Fr n (envOf 0 args) { tmps := args.toArray ++ Array.replicate (n - args.toArray.size) undef, defers := [] } := by
  refine ⟨by simp; omega, rfl, fun k v hk => ?_⟩
  have := (look_envOf args 0 k v hk).2
  simp only [Nat.sub_zero] at this
  have hl : k < args.length := (List.getElem?_eq_some_iff.1 this).1
  simp only [Array.getD_eq_getD_getElem?]
  rw [Array.getElem?_append_left (by simpa using hl)]
  simp [this]

/-! ### memory -/
abbrev Hp := Nat → Option Obj
abbrev HProp := Hp → Prop
structure Hp.disj (h g : Hp) : Prop where
  get : ∀ b, h b = none ∨ g b = none
structure Hp.le (h g : Hp) : Prop where
  get : ∀ b o, h b = some o → g b = some o
instance (h g : Hp) : CoeFun (Hp.disj h g) (fun _ => ∀ b, h b = none ∨ g b = none) := ⟨Hp.disj.get⟩
instance (h g : Hp) : CoeFun (Hp.le h g) (fun _ => ∀ b o, h b = some o → g b = some o) := ⟨Hp.le.get⟩
def Hp.or (h g : Hp) : Hp := fun b => match h b with | some o => some o | none => g b
theorem Hp.le_refl (h : Hp) : Hp.le h h := ⟨fun _ _ hh => hh⟩
theorem Hp.le.trans {h g k : Hp} (a : Hp.le h g) (b : Hp.le g k) : Hp.le h k := ⟨fun i o hh => b i o (a i o hh)⟩
theorem Hp.le_or_left (h g : Hp) : Hp.le h (Hp.or h g) := ⟨fun b o hh => by simp [Hp.or, hh]⟩
theorem Hp.le_or_right {h g : Hp} (d : Hp.disj h g) : Hp.le g (Hp.or h g) := ⟨fun b o hh => by
  rcases d b with h1 | h1
  · simp [Hp.or, h1, hh]
  · rw [h1] at hh; cases hh⟩
theorem Hp.or_le {h g k : Hp} (a : Hp.le h k) (b : Hp.le g k) : Hp.le (Hp.or h g) k := ⟨fun i o hh => by
  simp only [Hp.or] at hh
  split at hh
  · rename_i o' h1; cases hh; exact a i _ h1
  · exact b i o hh⟩
theorem Hp.disj.symm {h g : Hp} (d : Hp.disj h g) : Hp.disj g h := ⟨fun b => (d b).symm⟩
theorem Hp.disj.mono {h g h' g' : Hp} (d : Hp.disj h g) (a : Hp.le h' h) (b : Hp.le g' g) : Hp.disj h' g' := ⟨fun i => by
  rcases d i with h1 | h1
  · left
    cases hh : h' i with
    | none => rfl
    | some o => have := a i o hh; rw [h1] at this; cases this
  · right
    cases hh : g' i with
    | none => rfl
    | some o => have := b i o hh; rw [h1] at this; cases this⟩
theorem Hp.disj_or {h g k : Hp} (a : Hp.disj h k) (b : Hp.disj g k) : Hp.disj (Hp.or h g) k := ⟨fun i => by
  rcases a i with h1 | h1
  · rcases b i with h2 | h2
    · left; simp [Hp.or, h1, h2]
    · exact .inr h2
  · exact .inr h1⟩
def Hp.nil : Hp := fun _ => none
def Hp.one (b : Nat) (o : Obj) : Hp := fun k => if k = b then some o else none
theorem Hp.one_le {b : Nat} {o : Obj} {g : Hp} : Hp.le (Hp.one b o) g ↔ g b = some o := by
  constructor
  · intro h; exact h b o (by simp [Hp.one])
  · intro h
    refine ⟨fun k o' hk => ?_⟩
    simp only [Hp.one] at hk
    split at hk
    · cases hk; rename_i e; rw [e]; exact h
    · cases hk
theorem Hp.one_disj {b : Nat} {o : Obj} {g : Hp} : Hp.disj (Hp.one b o) g ↔ g b = none := by
  constructor
  · intro h
    rcases h b with h1 | h1
    · simp [Hp.one] at h1
    · exact h1
  · intro h
    refine ⟨fun k => ?_⟩
    by_cases e : k = b
    · subst e; exact .inr h
    · left; simp [Hp.one, e]

def emp : HProp := fun _ => True
def star (A B : HProp) : HProp := fun h => ∃ h1 h2 : Hp, Hp.disj h1 h2 ∧ Hp.le h1 h ∧ Hp.le h2 h ∧ A h1 ∧ B h2
def stars : List HProp → HProp
  | [] => emp
  | A :: L => star A (stars L)
theorem stars_up : ∀ {L : List HProp} {h g : Hp}, stars L h → Hp.le h g → stars L g
  | [], _, _, _, _ => trivial
  | _ :: _, _, _, ⟨h1, h2, d, a, b, hA, hL⟩, hg => ⟨h1, h2, d, a.trans hg, b.trans hg, hA, hL⟩

theorem stars_append {L M : List HProp} {h : Hp} : stars (L ++ M) h ↔ ∃ h1 h2 : Hp, Hp.disj h1 h2 ∧ Hp.le h1 h ∧ Hp.le h2 h ∧ stars L h1 ∧ stars M h2 := by
  induction L generalizing h with
  | nil => exact ⟨fun hh => ⟨Hp.nil, h, ⟨fun _ => .inl rfl⟩, ⟨fun _ _ e => (by cases e)⟩, Hp.le_refl h, trivial, hh⟩, fun ⟨_, _, _, _, b, _, hM⟩ => stars_up hM b⟩
  | cons A L ih =>
    constructor
    · rintro ⟨h1, h2, d, a, b, hA, hLM⟩
      obtain ⟨k1, k2, d', a', b', hL, hM⟩ := ih.1 hLM
      have d1 := d.mono (Hp.le_refl h1) a'
      refine ⟨Hp.or h1 k1, k2, ?_, Hp.or_le a (a'.trans b), b'.trans b, ⟨h1, k1, d1, Hp.le_or_left _ _, Hp.le_or_right d1, hA, hL⟩, hM⟩
      exact Hp.disj_or (d.mono (Hp.le_refl h1) b') d'
    · rintro ⟨h1, h2, d, a, b, ⟨k1, k2, d', a', b', hA, hL⟩, hM⟩
      have d1 := d.mono b' (Hp.le_refl h2)
      refine ⟨k1, Hp.or k2 h2, ?_, a'.trans a, Hp.or_le (b'.trans a) b, hA, ih.2 ⟨k2, h2, d1, Hp.le_or_left _ _, Hp.le_or_right d1, hL, hM⟩⟩
      exact (Hp.disj_or d'.symm (d.mono a' (Hp.le_refl h2)).symm).symm

theorem stars_swap {A B : HProp} {L : List HProp} {h : Hp} (hh : stars (A :: B :: L) h) : stars (B :: A :: L) h := by
  obtain ⟨h1, h2, d, a, b, hA, k1, k2, d', a', b', hB, hL⟩ := hh
  have d1 := d.mono (Hp.le_refl h1) b'
  exact ⟨k1, Hp.or h1 k2, (Hp.disj_or (d.mono (Hp.le_refl h1) a') d'.symm).symm, a'.trans b, Hp.or_le a (b'.trans b), hB,
    h1, k2, d1, Hp.le_or_left _ _, Hp.le_or_right d1, hA, hL⟩
theorem stars_perm {L M : List HProp} (p : L.Perm M) : ∀ {h : Hp}, stars L h → stars M h := by
  induction p with
  | nil => exact fun h => h
  | cons A _ ih => exact fun ⟨h1, h2, d, a, b, hA, hL⟩ => ⟨h1, h2, d, a, b, hA, ih hL⟩
  | swap A B L => exact fun h => stars_swap h
  | trans _ _ ih1 ih2 => exact fun h => ih2 (ih1 h)
theorem stars_tail {A : HProp} {L : List HProp} {h : Hp} : stars (A :: L) h → stars L h := fun ⟨_, _, _, _, b, _, hL⟩ => stars_up hL b
theorem stars_sub {L M : List HProp} (hs : M.Sublist L) : ∀ {h : Hp}, stars L h → stars M h := by
  induction hs with
  | slnil => exact fun h => h
  | cons A _ ih => exact fun h => ih (stars_tail h)
  | cons_cons A _ ih => exact fun ⟨h1, h2, d, a, b, hA, hL⟩ => ⟨h1, h2, d, a, b, hA, ih hL⟩
theorem stars_imp {A B : HProp} {L : List HProp} (hi : ∀ h, A h → B h) {h : Hp} : stars (A :: L) h → stars (B :: L) h := fun ⟨h1, h2, d, a, b, hA, hL⟩ => ⟨h1, h2, d, a, b, hi _ hA, hL⟩
theorem stars_mem {L : List HProp} {A : HProp} (hm : A ∈ L) : ∀ {h : Hp}, stars L h → ∃ g : Hp, Hp.le g h ∧ A g := by
  induction L with
  | nil => cases hm
  | cons B L ih =>
    rintro h ⟨h1, h2, d, a, b, hB, hL⟩
    cases hm with
    | head => exact ⟨h1, a, hB⟩
    | tail _ hm => obtain ⟨g, hg, hA⟩ := ih hm hL; exact ⟨g, hg.trans b, hA⟩

/-- What is given and stays: blocks, and the streams. -/
structure Frz where
  heap : Hp
  os : Os
  tape : Nat → Question → Nat
  output : Array (Nat × ByteArray)
  size : Nat

def World.hp (w : World) : Hp := fun b => w.heap[b]?
structure St (F : Frz) (w : World) (L : List HProp) : Prop where
  os : w.os = F.os
  tape : w.tape = F.tape
  output : w.output = F.output
  size : F.size ≤ w.heap.size
  frz : Hp.le F.heap (World.hp w)
  own : ∃ h : Hp, Hp.le h (World.hp w) ∧ Hp.disj F.heap h ∧ stars L h

theorem St.imp {F : Frz} {w : World} {L M : List HProp} (h : St F w L) (hi : ∀ h, stars L h → stars M h) : St F w M :=
  ⟨h.os, h.tape, h.output, h.size, h.frz, let ⟨g, a, b, c⟩ := h.own; ⟨g, a, b, hi g c⟩⟩
theorem St.perm {F : Frz} {w : World} {L M : List HProp} (h : St F w L) (p : L.Perm M) : St F w M := h.imp fun _ => stars_perm p
theorem St.sub {F : Frz} {w : World} {L M : List HProp} (h : St F w L) (p : M.Sublist L) : St F w M := h.imp fun _ => stars_sub p
theorem St.conv {F : Frz} {w : World} {A B : HProp} {L : List HProp} (h : St F w (A :: L)) (hi : ∀ h, A h → B h) : St F w (B :: L) := h.imp fun _ => stars_imp hi
theorem St.mem {F : Frz} {w : World} {L : List HProp} (h : St F w L) {A : HProp} (hm : A ∈ L) : ∃ g : Hp, Hp.le g (World.hp w) ∧ Hp.disj F.heap g ∧ A g := by
  obtain ⟨k, a, d, c⟩ := h.own
  obtain ⟨g, hg, hA⟩ := stars_mem hm c
  exact ⟨g, hg.trans a, d.mono (Hp.le_refl F.heap) hg, hA⟩

/-- A world that has the same blocks and streams. -/
theorem St.same {F : Frz} {w w' : World} {L : List HProp} (h : St F w L) (e1 : w'.os = w.os) (e2 : w'.tape = w.tape) (e3 : w'.output = w.output) (e4 : w'.heap = w.heap) : St F w' L := by
  have e5 : World.hp w' = World.hp w := by unfold World.hp; rw [e4]
  exact ⟨e1.trans h.os, e2.trans h.tape, e3.trans h.output, by rw [e4]; exact h.size, by rw [e5]; exact h.frz, by rw [e5]; exact h.own⟩
theorem St.drew {F : Frz} {w : World} {L : List HProp} (h : St F w L) : St F { w with drawn := w.drawn + 1 } L := h.same rfl rfl rfl rfl

theorem St.alloc {F : Frz} {w : World} {L : List HProp} (h : St F w L) {o : Obj} {A : HProp} (hA : A (Hp.one w.heap.size o)) : St F (w.alloc o) (A :: L) := by
  have hx : ∀ b o', w.heap[b]? = some o' → (w.alloc o).heap[b]? = some o' := fun b o' hb => by
    rw [Below.heap_alloc w o b (Array.getElem?_eq_some_iff.1 hb).1]; exact hb
  have hn : ∀ {g : Hp}, Hp.le g (World.hp w) → g w.heap.size = none := fun {g} hg => by
    cases hh : g w.heap.size with
    | none => rfl
    | some o' => have := hg _ _ hh; simp [World.hp] at this
  obtain ⟨k, a, d, c⟩ := h.own
  refine ⟨h.os, h.tape, h.output, Nat.le_trans h.size (by simp), ⟨fun b o' hb => hx b o' (h.frz b o' hb)⟩, Hp.or (Hp.one w.heap.size o) k, ?_, ?_, ?_⟩
  · refine ⟨fun b o' hb => ?_⟩
    simp only [Hp.or, Hp.one] at hb
    by_cases e : b = w.heap.size
    · subst e
      simp only [if_true, Option.some.injEq] at hb
      subst hb
      exact heap_alloc_new w o
    · simp only [e, if_false] at hb
      exact hx b o' (a b o' hb)
  · exact (Hp.disj_or (Hp.one_disj.2 (hn h.frz)) d.symm).symm
  · exact ⟨Hp.one w.heap.size o, k, Hp.one_disj.2 (hn a), Hp.le_or_left _ _, Hp.le_or_right (Hp.one_disj.2 (hn a)), hA, c⟩

/-- An owned block turned. 'g' is the owned part of A; all its blocks but b stay. -/
theorem St.turn {F : Frz} {w w' : World} {A B : HProp} {L : List HProp} (h : St F w (A :: L))
    (ht : ∀ g : Hp, Hp.le g (World.hp w) → A g → ∃ b, g b ≠ none ∧ w'.os = w.os ∧ w'.tape = w.tape ∧ w'.output = w.output ∧ w.heap.size ≤ w'.heap.size ∧ (∀ k, k ≠ b → k < w.heap.size → w'.heap[k]? = w.heap[k]?) ∧
      ∃ g' : Hp, (∀ k o, g' k = some o → w'.heap[k]? = some o ∧ (g k ≠ none ∨ w.heap.size ≤ k)) ∧ B g') : St F w' (B :: L) := by
  obtain ⟨k, a, d, g, r, dgr, hg, hr, hA, hL⟩ := h.own
  obtain ⟨b, hb, e1, e2, e3, e4, hk, g', hg', hB⟩ := ht g (hg.trans a) hA
  have hlt : ∀ {q : Hp}, Hp.le q (World.hp w) → ∀ i o, q i = some o → i < w.heap.size := fun hq i o hi => (Array.getElem?_eq_some_iff.1 (hq i o hi)).1
  have stay : ∀ {q : Hp}, Hp.le q (World.hp w) → Hp.disj q g → ∀ i o, q i = some o → w'.heap[i]? = some o := fun {q} hq hd i o hi => by
    have hne : i ≠ b := fun e => by
      subst e
      rcases hd i with h1 | h1
      · rw [h1] at hi; cases hi
      · exact hb h1
    rw [hk i hne (hlt hq i o hi)]
    exact hq i o hi
  have dis : ∀ {q : Hp}, Hp.le q (World.hp w) → Hp.disj q g → Hp.disj q g' := fun {q} hq hd => ⟨fun i => by
    cases h1 : q i with
    | none => exact .inl rfl
    | some o =>
      right
      cases h2 : g' i with
      | none => rfl
      | some o' =>
        rcases (hg' i o' h2).2 with h3 | h3
        · rcases hd i with h4 | h4
          · rw [h4] at h1; cases h1
          · exact absurd h4 h3
        · have := hlt hq i o h1; omega⟩
  refine ⟨e1.trans h.os, e2.trans h.tape, e3.trans h.output, Nat.le_trans h.size e4, ⟨stay h.frz (d.mono (Hp.le_refl F.heap) hg)⟩, Hp.or g' r, ?_, ?_, g', r, ?_, Hp.le_or_left _ _, ?_, hB, hL⟩
  · refine ⟨fun i o hi => ?_⟩
    simp only [Hp.or] at hi
    split at hi
    · rename_i o' h1; cases hi; exact (hg' i _ h1).1
    · exact stay (hr.trans a) dgr.symm i o hi
  · exact (Hp.disj_or (dis h.frz (d.mono (Hp.le_refl F.heap) hg)).symm (d.mono (Hp.le_refl F.heap) hr).symm).symm
  · exact (dis (hr.trans a) dgr.symm).symm
  · exact Hp.le_or_right (dis (hr.trans a) dgr.symm).symm

/-! ### contracts, and their call -/
/-- The result, and the parts that are owned behind the call. -/
def Post (F : Frz) (Φ : Value → List HProp → Prop) (e : Ending) (w' : World) : Prop := ∃ v L', e = .returned v ∧ Φ v L' ∧ St F w' L'
/-- A function with a body of its own. -/
def Callable (P : Program) (f : FuncId) : Prop := ∃ fn, P.funcs[f]? = some fn ∧ (fn.name == "runtime.NumGoroutine") = false ∧ fn.body.isSome = true
theorem run_callFunc {P : Program} {f : FuncId} (h : Callable P f) (args : Array Value) (w : World) : (callFunc f args).run P w = .ok (.enter f args) w := by
  obtain ⟨fn, h1, h2, h3⟩ := h
  have h4 : ¬ fn.body = none := fun hb => by rw [hb] at h3; cases h3
  have h5 : ¬ fn.name = "runtime.NumGoroutine" := by simpa using h2
  simp [callFunc, h1, h4, h5]
/-- With what 'pre' says of the frozen memory, and A owned: the call returns, Φ. Whatever else there is lies in the frozen part. -/
def Ctr (P : Program) (f : FuncId) (args : List Value) (pre : Hp → Prop) (A : List HProp) (Φ : Value → List HProp → Prop) : Prop :=
  Callable P f ∧ ∀ F w, pre F.heap → St F w A → Calls P f args.toArray w (Post F Φ)

theorem Ctr.call {P : Program} {f : FuncId} {args : List Value} {pre : Hp → Prop} {A R : List HProp} {Φ : Value → List HProp → Prop} (h : Ctr P f args pre A Φ) {F : Frz} {w : World} (hs : St F w (A ++ R))
    (hpre : ∀ g : Hp, Hp.le F.heap g → stars R g → pre g) : Calls P f args.toArray w fun e w' => ∃ v L', e = .returned v ∧ Φ v L' ∧ St F w' (L' ++ R) := by
  obtain ⟨k, a, d, c⟩ := hs.own
  obtain ⟨hA, hR, dAR, hAk, hRk, cA, cR⟩ := stars_append.1 c
  have dR : Hp.disj F.heap hR := d.mono (Hp.le_refl F.heap) hRk
  have hF : Hp.le (Hp.or F.heap hR) (World.hp w) := Hp.or_le hs.frz (hRk.trans a)
  refine (h.2 { F with heap := Hp.or F.heap hR } w (hpre _ (Hp.le_or_left _ _) (stars_up cR (Hp.le_or_right dR))) ⟨hs.os, hs.tape, hs.output, hs.size, hF, hA, hAk.trans a, ?_, cA⟩).mono ?_
  · exact Hp.disj_or (d.mono (Hp.le_refl F.heap) hAk) dAR.symm
  · rintro e w' ⟨v, L', he, hΦ, hs'⟩
    refine ⟨v, L', he, hΦ, hs'.os, hs'.tape, hs'.output, hs'.size, ⟨fun b o hb => hs'.frz b o (Hp.le_or_left _ _ b o hb)⟩, ?_⟩
    obtain ⟨k', a', d', c'⟩ := hs'.own
    have dk : Hp.disj hR k' := d'.mono (Hp.le_or_right dR) (Hp.le_refl k')
    refine ⟨Hp.or k' hR, Hp.or_le a' ⟨fun b o hb => hs'.frz b o (Hp.le_or_right dR b o hb)⟩, ?_, stars_append.2 ⟨k', hR, dk.symm, Hp.le_or_left _ _, Hp.le_or_right dk.symm, c', cR⟩⟩
    exact (Hp.disj_or (d'.mono (Hp.le_or_left _ _) (Hp.le_refl k')).symm dR.symm).symm

theorem Ctr.mono {P : Program} {f : FuncId} {args : List Value} {pre pre' : Hp → Prop} {A : List HProp} {Φ Φ' : Value → List HProp → Prop} (h : Ctr P f args pre A Φ) (h1 : ∀ g, pre' g → pre g)
    (h2 : ∀ v L, Φ v L → ∃ L', Φ' v L' ∧ ∀ h, stars L h → stars L' h) : Ctr P f args pre' A Φ' := ⟨h.1, fun F w hp hs =>
  (h.2 F w (h1 _ hp) hs).mono fun _ _ ⟨v, L, he, hΦ, hs'⟩ => let ⟨L', hΦ', hi⟩ := h2 v L hΦ; ⟨v, L', he, hΦ', hs'.imp hi⟩⟩

/-! ### judgements -/
section
variable (P : Program) (F : Frz) (n : Nat)
structure Y (Q : Exit → Act → World → Prop) (x : Exit) (e : Env) (L : List HProp) : Prop where
  out : ∀ a w, Fr n e a → St F w L → Q x a w
structure X (c : Code) (Q : Exit → Act → World → Prop) (e : Env) (L : List HProp) : Prop where
  out : ∀ a w, Fr n e a → St F w L → c.wp P Q a w
structure XL (ops : Array Oper) (l : List Oper) (Q : Exit → Act → World → Prop) (e : Env) (L : List HProp) : Prop where
  out : ∀ a w, Fr n e a → St F w L → wpList P ops Q l a w
instance (Q : Exit → Act → World → Prop) (x : Exit) (e : Env) (L : List HProp) : CoeFun (Y F n Q x e L) (fun _ => ∀ a w, Fr n e a → St F w L → Q x a w) := ⟨Y.out⟩
instance (c : Code) (Q : Exit → Act → World → Prop) (e : Env) (L : List HProp) : CoeFun (X P F n c Q e L) (fun _ => ∀ a w, Fr n e a → St F w L → c.wp P Q a w) := ⟨X.out⟩
instance (ops : Array Oper) (l : List Oper) (Q : Exit → Act → World → Prop) (e : Env) (L : List HProp) : CoeFun (XL P F n ops l Q e L) (fun _ => ∀ a w, Fr n e a → St F w L → wpList P ops Q l a w) := ⟨XL.out⟩
end
section
variable {P : Program} {F : Frz} {n : Nat} {Q : Exit → Act → World → Prop} {e : Env} {L : List HProp}

theorem X_seq {c d : Code} (h : X P F n c (Exit.then (d.wp P Q) Q) e L) : X P F n (.seq c d) Q e L := .mk fun a w hf hs => wp_seq (h a w hf hs)
theorem X_skip (h : Y F n Q .normal e L) : X P F n .skip Q e L := .mk fun a w hf hs => wp_skip (h a w hf hs)
theorem X_ret (h : Y F n Q .ret e L) : X P F n .ret Q e L := .mk fun a w hf hs => wp_ret (h a w hf hs)
theorem X_exit {id : Nat} (h : Y F n Q (.exit id) e L) : X P F n (.exit id) Q e L := .mk fun a w hf hs => wp_exit (h a w hf hs)
theorem X_block {id : Nat} {c : Code} (h : X P F n c (Exit.inBlock id Q) e L) : X P F n (.block id c) Q e L := .mk fun a w hf hs => wp_block (h a w hf hs)
theorem X_cond_t {x : Operand} {c d : Code} (hx : ev e x = some (.bool true)) (h : X P F n c Q e L) : X P F n (.cond x c d) Q e L := .mk fun a w hf hs => wp_cond_true (hf.ev hx) (h a w hf hs)
theorem X_cond_f {x : Operand} {c d : Code} (hx : ev e x = some (.bool false)) (h : X P F n d Q e L) : X P F n (.cond x c d) Q e L := .mk fun a w hf hs => wp_cond_false (hf.ev hx) (h a w hf hs)
theorem X_cond {x : Operand} {c d : Code} {t : Bool} (hx : ev e x = some (.bool t)) (ht : t = true → X P F n c Q e L) (hf' : t = false → X P F n d Q e L) : X P F n (.cond x c d) Q e L := .mk fun a w hf hs =>
  wp_cond_split (hf.ev hx) (fun h => ht h a w hf hs) (fun h => hf' h a w hf hs)
theorem X_region {id : Nat} {l : List Oper} (h : XL P F n l.toArray l Q e L) : X P F n (.region id l.toArray false) Q e L := .mk fun a w hf hs => wp_region_lit (h a w hf hs)
theorem XL_nil {ops : Array Oper} (h : Y F n Q .normal e L) : XL P F n ops [] Q e L := .mk fun a w hf hs => wpList_nil (h a w hf hs)

theorem Y_then {c : Code} (h : X P F n c Q e L) : Y F n (Exit.then (c.wp P Q) Q) .normal e L := .mk fun a w hf hs => h a w hf hs
theorem Y_then_ret {K : Act → World → Prop} (h : Y F n Q .ret e L) : Y F n (Exit.then K Q) .ret e L := .mk fun a w hf hs => h a w hf hs
theorem Y_then_exit {K : Act → World → Prop} {id : Nat} (h : Y F n Q (.exit id) e L) : Y F n (Exit.then K Q) (.exit id) e L := .mk fun a w hf hs => h a w hf hs
theorem Y_block_normal {id : Nat} (h : Y F n Q .normal e L) : Y F n (Exit.inBlock id Q) .normal e L := .mk fun a w hf hs => h a w hf hs
theorem Y_block_ret {id : Nat} (h : Y F n Q .ret e L) : Y F n (Exit.inBlock id Q) .ret e L := .mk fun a w hf hs => h a w hf hs
theorem Y_block_hit {id : Nat} (h : Y F n Q .normal e L) : Y F n (Exit.inBlock id Q) (.exit id) e L := .mk fun a w hf hs => by simpa [Exit.inBlock] using h a w hf hs
theorem Y_block_miss {id id' : Nat} (hne : Nat.beq id' id = false) (h : Y F n Q (.exit id') e L) : Y F n (Exit.inBlock id Q) (.exit id') e L := .mk fun a w hf hs => by
  have : id' ≠ id := fun h => by subst h; simp at hne
  simpa [Exit.inBlock, this] using h a w hf hs

/-- The state may be told anew. -/
theorem X_weak {c : Code} {e' : Env} {L' : List HProp} (h1 : Sub e' e) (h2 : ∀ h, stars L h → stars L' h) (h : X P F n c Q e' L') : X P F n c Q e L := .mk fun a w hf hs => h a w (hf.sub h1) (hs.imp h2)
theorem XL_weak {ops : Array Oper} {l : List Oper} {e' : Env} {L' : List HProp} (h1 : Sub e' e) (h2 : ∀ h, stars L h → stars L' h) (h : XL P F n ops l Q e' L') : XL P F n ops l Q e L := .mk fun a w hf hs => h a w (hf.sub h1) (hs.imp h2)

/-- What is owned, or frozen, may be looked at. -/
theorem X_look {c : Code} {p : Prop} (hp : ∀ w, St F w L → p) (h : p → X P F n c Q e L) : X P F n c Q e L := .mk fun a w hf hs => h (hp w hs) a w hf hs
theorem XL_look {ops : Array Oper} {l : List Oper} {p : Prop} (hp : ∀ w, St F w L → p) (h : p → XL P F n ops l Q e L) : XL P F n ops l Q e L := .mk fun a w hf hs => h (hp w hs) a w hf hs

theorem X_loop {c : Code} {ι : Type} (E : ι → Env) (M : ι → List HProp) (p : ι → Prop) (μ : ι → Nat) (i0 : ι) (h0 : p i0) (he : Sub (E i0) e) (hL : ∀ h, stars L h → stars (M i0) h)
    (round : ∀ i, p i → X P F n c (Exit.then (fun a w => ∃ j, p j ∧ μ j < μ i ∧ Fr n (E j) a ∧ St F w (M j)) Q) (E i) (M i)) : X P F n (.loop c) Q e L := by
  refine .mk fun a w hf hs => ?_
  classical
  let I : Act → World → Prop := fun a w => ∃ i, p i ∧ Fr n (E i) a ∧ St F w (M i)
  let S : Act → World → Nat → Prop := fun a w m => ∃ i, p i ∧ Fr n (E i) a ∧ St F w (M i) ∧ μ i = m
  have hS : ∀ {a w}, I a w → ∃ m, S a w m := fun ⟨i, h1, h2, h3⟩ => ⟨μ i, i, h1, h2, h3, rfl⟩
  have mini : ∀ {a w}, I a w → ∃ m, S a w m ∧ ∀ m', S a w m' → m ≤ m' := fun {a w} h => by
    obtain ⟨m, hm⟩ := hS h
    induction m using Nat.strongRecOn with
    | _ m ih =>
      by_cases hx : ∃ m', m' < m ∧ S a w m'
      · obtain ⟨m', h1, h2⟩ := hx; exact ih m' h1 h2
      · exact ⟨m, hm, fun m' h' => Nat.le_of_not_lt fun hlt => hx ⟨m', hlt, h'⟩⟩
  let μ' : Act → World → Nat := fun a w => if h : I a w then Classical.choose (mini h) else 0
  refine wp_loop I μ' ⟨i0, h0, hf.sub he, hs.imp hL⟩ fun a w hI => ?_
  obtain ⟨⟨i, h1, h2, h3, h4⟩, hmin⟩ := Classical.choose_spec (mini hI)
  have e1 : μ' a w = μ i := by simp only [μ', dif_pos hI]; exact h4.symm
  refine wp_mono (round i h1 a w h2 h3) fun x a' w' hq => ?_
  cases x with
  | normal =>
    obtain ⟨j, g1, g2, g3, g4⟩ := hq
    have hI' : I a' w' := ⟨j, g1, g3, g4⟩
    refine ⟨hI', ?_⟩
    have : μ' a' w' ≤ μ j := by
      simp only [μ', dif_pos hI']
      exact (Classical.choose_spec (mini hI')).2 _ ⟨j, g1, g3, g4, rfl⟩
    omega
  | exit _ => exact hq
  | goto _ => exact hq
  | ret => exact hq
  | panic _ => exact hq
  | outgrown => exact hq

theorem Y_round {ι : Type} {E : ι → Env} {M : ι → List HProp} {p : ι → Prop} {μ : ι → Nat} {m : Nat} (j : ι) (hp : p j) (hm : μ j < m) (he : Sub (E j) e) (hL : ∀ h, stars L h → stars (M j) h) :
    Y F n (Exit.then (fun a w => ∃ j, p j ∧ μ j < m ∧ Fr n (E j) a ∧ St F w (M j)) Q) .normal e L := .mk fun _ _ hf hs => ⟨j, hp, hm, hf.sub he, hs.imp hL⟩

/-- Ways that meet again. -/
theorem X_cut {c d : Code} {ι : Type} (E : ι → Env) (M : ι → List HProp) (p : ι → Prop) (h1 : X P F n c (Exit.then (fun a w => ∃ j, p j ∧ Fr n (E j) a ∧ St F w (M j)) Q) e L)
    (h2 : ∀ j, p j → X P F n d Q (E j) (M j)) : X P F n (.seq c d) Q e L := .mk fun a w hf hs => wp_seq (wp_mono (h1 a w hf hs) fun x a' w' hq => by
  cases x with
  | normal => obtain ⟨j, g1, g2, g3⟩ := hq; exact h2 j g1 a' w' g2 g3
  | exit _ => exact hq
  | goto _ => exact hq
  | ret => exact hq
  | panic _ => exact hq
  | outgrown => exact hq)
theorem Y_meet {ι : Type} {E : ι → Env} {M : ι → List HProp} {p : ι → Prop} (j : ι) (hp : p j) (he : Sub (E j) e) (hL : ∀ h, stars L h → stars (M j) h) :
    Y F n (Exit.then (fun a w => ∃ j, p j ∧ Fr n (E j) a ∧ St F w (M j)) Q) .normal e L := .mk fun _ _ hf hs => ⟨j, hp, hf.sub he, hs.imp hL⟩

/-! the end of a body -/
section
variable {fn : Func} {Φ : Value → List HProp → Prop} {L' : List HProp}
theorem Y_ret0 (hr : fn.results = #[]) (hL : ∀ h, stars L h → stars L' h) (h : Φ (.tuple #[]) L') : Y F n (bodyPost P fn (Post F Φ)) .ret e L := .mk fun a w hf hs =>
  ⟨hf.defers, _, results_none hr _ _ _, _, L', rfl, h, hs.imp hL⟩
theorem Y_end0 (hr : fn.results = #[]) (hL : ∀ h, stars L h → stars L' h) (h : Φ (.tuple #[]) L') : Y F n (bodyPost P fn (Post F Φ)) .normal e L := .mk fun a w hf hs =>
  ⟨hf.defers, _, results_none hr _ _ _, _, L', rfl, h, hs.imp hL⟩
theorem Y_ret1 {t : Tmp} {v : Value} (hr : fn.results = #[.tmp t]) (hv : look e t = some v) (hL : ∀ h, stars L h → stars L' h) (h : Φ v L') : Y F n (bodyPost P fn (Post F Φ)) .ret e L := .mk fun a w hf hs =>
  ⟨hf.defers, _, results_tmp hr _ _ _, _, L', by rw [hf.get t v hv], h, hs.imp hL⟩
theorem Y_end1 {t : Tmp} {v : Value} (hr : fn.results = #[.tmp t]) (hv : look e t = some v) (hL : ∀ h, stars L h → stars L' h) (h : Φ v L') : Y F n (bodyPost P fn (Post F Φ)) .normal e L := .mk fun a w hf hs =>
  ⟨hf.defers, _, results_tmp hr _ _ _, _, L', by rw [hf.get t v hv], h, hs.imp hL⟩
theorem Y_end2 {t s : Tmp} {v u : Value} (hr : fn.results = #[.tmp t, .tmp s]) (hv : look e t = some v) (hu : look e s = some u) (hL : ∀ h, stars L h → stars L' h) (h : Φ (.tuple #[v, u]) L') : Y F n (bodyPost P fn (Post F Φ)) .normal e L := .mk fun a w hf hs =>
  ⟨hf.defers, _, results_tmp2 hr _ _ _, _, L', by rw [hf.get t v hv, hf.get s u hu], h, hs.imp hL⟩
theorem Y_ret2 {t s : Tmp} {v u : Value} (hr : fn.results = #[.tmp t, .tmp s]) (hv : look e t = some v) (hu : look e s = some u) (hL : ∀ h, stars L h → stars L' h) (h : Φ (.tuple #[v, u]) L') : Y F n (bodyPost P fn (Post F Φ)) .ret e L := .mk fun a w hf hs =>
  ⟨hf.defers, _, results_tmp2 hr _ _ _, _, L', by rw [hf.get t v hv, hf.get s u hu], h, hs.imp hL⟩
theorem Y_ret3 {t s r : Tmp} {v u x : Value} (hr : fn.results = #[.tmp t, .tmp s, .tmp r]) (hv : look e t = some v) (hu : look e s = some u) (hx : look e r = some x) (hL : ∀ h, stars L h → stars L' h) (h : Φ (.tuple #[v, u, x]) L') : Y F n (bodyPost P fn (Post F Φ)) .ret e L := .mk fun a w hf hs =>
  ⟨hf.defers, .tuple #[v, u, x], by
    have h1 := hf.get t v hv
    have h2 := hf.get s u hu
    have h3 := hf.get r x hx
    rw [Array.getD_eq_getD_getElem?] at h1 h2 h3
    simp [results, hr, h1, h2, h3], _, L', rfl, h, hs.imp hL⟩
end

theorem Ctr.intro {f : FuncId} {fn : Func} {c : Code} {args : List Value} {pre : Hp → Prop} {A : List HProp} {Φ : Value → List HProp → Prop} (hf : P.funcs[f]? = some fn) (hb : fn.body = some c) (hn : Nat.ble args.length fn.ntmps = true) (hname : (fn.name == "runtime.NumGoroutine") = false)
    (h : ∀ F, pre F.heap → X P F fn.ntmps c (bodyPost P fn (Post F Φ)) (envOf 0 args) A) : Ctr P f args pre A Φ := ⟨⟨fn, hf, hname, by rw [hb]; rfl⟩, fun F w hp hs =>
  calls_of_wp hf hb (h F hp _ w (Fr.enter (by simpa [Nat.ble_eq] using hn)) hs)⟩

/-! guards -/
theorem XL_guard_yes {ops : Array Oper} {o : Oper} {l : List Oper} {j : Nat} {b : Bool} {t : Tmp} (hg : o.guard = some (j, b)) (hd : (ops[j]?).bind (·.dst) = some t) (hv : look e t = some (.bool b)) (h : XL P F n ops ({ o with guard := none } :: l) Q e L) :
    XL P F n ops (o :: l) Q e L := .mk fun a w hf hs => by
  have hy : ∀ (a : Act), Fr n e a → Region.wanted o (yielded ops a.tmps) = true := fun a hf => by
    have := hf.get t _ hv
    simp only [Region.wanted, hg, yielded, hd, Option.bind_some]
    rw [Array.getD_eq_getD_getElem?] at this
    cases hx : a.tmps[t]? with
    | none => rw [hx] at this; simp [undef] at this
    | some u => rw [hx] at this; simp at this; subst this; simp
  have := h a w hf hs
  unfold wpList at this ⊢
  rw [if_pos (hy a hf)]
  rw [if_pos (by simp [Region.wanted])] at this
  exact this
theorem XL_guard_no {ops : Array Oper} {o : Oper} {l : List Oper} {j : Nat} {b c : Bool} {t : Tmp} {e' : Env} (hg : o.guard = some (j, b)) (hd : (ops[j]?).bind (·.dst) = some t) (hv : look e t = some (.bool c)) (hc : c = !b) (hp : putE n o.dst undef e = some e')
    (h : XL P F n ops l Q e' L) : XL P F n ops (o :: l) Q e L := .mk fun a w hf hs => by
  have hy : Region.wanted o (yielded ops a.tmps) = false := by
    have := hf.get t _ hv
    simp only [Region.wanted, hg, yielded, hd, Option.bind_some]
    rw [Array.getD_eq_getD_getElem?] at this
    cases hx : a.tmps[t]? with
    | none => rw [hx] at this; simp [undef] at this
    | some u => rw [hx] at this; simp at this; subst this; subst hc; simp
  unfold wpList
  rw [if_neg (by simp [hy])]
  exact h _ w (hf.put hp) hs

/-! one operation -/
theorem XL_val {ops : Array Oper} {o : Oper} {l : List Oper} {v : Value} {e' : Env} (hg : o.guard = none) (hp : putE n o.dst v e = some e') (hr : ∀ a w, Fr n e a → St F w L → (execOp a.eval o).run P w = .ok (.value v) w)
    (h : XL P F n ops l Q e' L) : XL P F n ops (o :: l) Q e L := .mk fun a w hf hs => wpList_plain hg fun K hK => by
  unfold Oper.wp
  rw [hr a w hf hs]
  exact hK _ _ (h _ _ (hf.put hp) hs)
/-- One that turns memory. -/
theorem XL_next {ops : Array Oper} {o : Oper} {l : List Oper} (hg : o.guard = none)
    (h : ∀ a w, Fr n e a → St F w L → ∃ v w' e' L', ((execOp a.eval o).run P w = .ok (.value v) w' ∨ v = undef ∧ (execOp a.eval o).run P w = .ok .skip w') ∧ putE n o.dst v e = some e' ∧ St F w' L' ∧ XL P F n ops l Q e' L') : XL P F n ops (o :: l) Q e L := .mk fun a w hf hs => wpList_plain hg fun K hK => by
  obtain ⟨v, w', e', L', hr, hp, hs', hx⟩ := h a w hf hs
  unfold Oper.wp
  rcases hr with hr | ⟨rfl, hr⟩
  · rw [hr]; exact hK _ _ (hx _ _ (hf.put hp) hs')
  · rw [hr]; exact hK _ _ (hx _ _ (hf.put hp) hs')
/-- A call. -/
theorem XL_enter {ops : Array Oper} {o : Oper} {l : List Oper} (hg : o.guard = none) {f : FuncId} {args : List Value} {Φ : Value → List HProp → Prop}
    (hr : ∀ a w, Fr n e a → (execOp a.eval o).run P w = .ok (.enter f args.toArray) w)
    (hc : ∀ w, St F w L → Calls P f args.toArray w fun e w' => ∃ v L', e = .returned v ∧ Φ v L' ∧ St F w' L')
    (h : ∀ v L', Φ v L' → ∃ e', putE n o.dst v e = some e' ∧ XL P F n ops l Q e' L') : XL P F n ops (o :: l) Q e L := .mk fun a w hf hs => wpList_plain hg fun K hK => by
  unfold Oper.wp
  rw [hr a w hf]
  refine (hc w hs).mono ?_
  rintro _ w' ⟨v, L', rfl, hΦ, hs'⟩
  obtain ⟨e', hp, hx⟩ := h v L' hΦ
  exact hK _ _ (hx _ _ (hf.put hp) hs')
end
end Go.Cof
