/- Rows of memory: a block known whole, a slice that reads as a list (frozen or owned); the operations on them. -/
import Derived.Test.YtpokfingnflblaaSlB
set_option linter.unusedVariables false
set_option linter.unusedSectionVars false
namespace Go.Cof
open Go.RowKit

theorem Addr.add_add (a : Addr) (p q : Nat) : (a.add p).add q = a.add (p + q) := by
  unfold Addr.add
  by_cases hp : p = 0
  · subst hp; simp
  · by_cases hq : q = 0
    · subst hq; simp [hp]
    · simp [hp, hq]; omega

def blk (b : Nat) (cs : List Value) (e : TypeId) : HProp := fun h => h b = some (.cells cs.toArray e (0, 0))
def cellH (h : Hp) (a : Addr) : Option Value :=
  match h a.block with
  | some (.cells c _ _) => if a.spot.isSome then none else c[a.off]?
  | _ => none
theorem cellH_le {h g : Hp} (hl : Hp.le h g) {a : Addr} {v : Value} (hv : cellH h a = some v) : cellH g a = some v := by
  unfold cellH at hv ⊢
  cases hb : h a.block with
  | none => rw [hb] at hv; cases hv
  | some o => rw [hl _ _ hb]; rw [hb] at hv; exact hv
theorem cellH_world {w : World} {a : Addr} {v : Value} (hv : cellH (World.hp w) a = some v) : w.cell? a = some v := hv

/-- How the elements of a slice lie in cells. -/
structure Enc (α : Type) where
  enc : α → List Value
  sz : Nat
  len : ∀ x, (enc x).length = sz
  pos : 0 < sz
  one : ∀ x u, u ∈ enc x → u.oneCell' = true
def flat {α : Type} (E : Enc α) (xs : List α) : List Value := xs.flatMap E.enc
theorem flat_length {α : Type} (E : Enc α) (xs : List α) : (flat E xs).length = xs.length * E.sz := by
  induction xs with
  | nil => simp [flat]
  | cons x xs ih => simp only [flat, List.flatMap_cons, List.length_append, E.len, List.length_cons] at ih ⊢; rw [ih, Nat.succ_mul]; omega
theorem flat_append {α : Type} (E : Enc α) (xs ys : List α) : flat E (xs ++ ys) = flat E xs ++ flat E ys := by simp [flat]
theorem flat_one {α : Type} (E : Enc α) (xs : List α) : ∀ u ∈ flat E xs, u.oneCell' = true := by
  intro u hu
  simp only [flat, List.mem_flatMap] at hu
  obtain ⟨x, _, h⟩ := hu
  exact E.one x u h
theorem flat_get {α : Type} (E : Enc α) : ∀ (xs : List α) (i : Nat) (x : α) (j : Nat) (u : Value), xs[i]? = some x → (E.enc x)[j]? = some u → (flat E xs)[i * E.sz + j]? = some u
  | [], i, x, j, u, h, _ => by simp at h
  | y :: xs, 0, x, j, u, h, hu => by
    simp only [List.getElem?_cons_zero, Option.some.injEq] at h
    subst h
    simp only [flat, List.flatMap_cons, Nat.zero_mul, Nat.zero_add]
    rw [List.getElem?_append_left (by exact (List.getElem?_eq_some_iff.1 hu).1)]
    exact hu
  | y :: xs, i + 1, x, j, u, h, hu => by
    simp only [List.getElem?_cons_succ] at h
    have := flat_get E xs i x j u h hu
    simp only [flat, List.flatMap_cons] at this ⊢
    rw [List.getElem?_append_right (by rw [E.len, Nat.succ_mul]; omega), E.len]
    rw [show (i + 1) * E.sz + j - E.sz = i * E.sz + j from by rw [Nat.succ_mul]; omega]
    exact this
theorem flat_take {α : Type} (E : Enc α) (xs : List α) (k : Nat) : (flat E xs).take (k * E.sz) = flat E (xs.take k) := by
  induction xs generalizing k with
  | nil => simp [flat]
  | cons x xs ih =>
    cases k with
    | zero => simp [flat]
    | succ k =>
      simp only [flat, List.flatMap_cons, List.take_succ_cons] at ih ⊢
      rw [List.take_append, E.len, show (k + 1) * E.sz - E.sz = k * E.sz from by rw [Nat.succ_mul]; omega, ih k, List.take_of_length_le (by rw [E.len, Nat.succ_mul]; omega)]
theorem flat_drop {α : Type} (E : Enc α) (xs : List α) (k : Nat) : (flat E xs).drop (k * E.sz) = flat E (xs.drop k) := by
  induction xs generalizing k with
  | nil => simp [flat]
  | cons x xs ih =>
    cases k with
    | zero => simp [flat]
    | succ k =>
      simp only [flat, List.flatMap_cons, List.drop_succ_cons] at ih ⊢
      rw [List.drop_append, E.len, show (k + 1) * E.sz - E.sz = k * E.sz from by rw [Nat.succ_mul]; omega, ih k, List.drop_of_length_le (by rw [E.len, Nat.succ_mul]; omega)]
      simp

def bs (A : Option Addr) : Addr := A.getD ⟨0, 0, none⟩
/-- The cells behind an address are these. -/
def rdC (h : Hp) (A : Option Addr) (cs : List Value) : Prop := (0 < cs.length → A.isSome = true) ∧ ∀ j u, cs[j]? = some u → cellH h ((bs A).add j) = some u
/-- A slice reads as this list. -/
def rdS {α : Type} (E : Enc α) (h : Hp) (A : Option Addr) (m : Nat) (xs : List α) : Prop := m = xs.length ∧ rdC h A (flat E xs)
theorem rdC.le {h g : Hp} {A : Option Addr} {cs : List Value} (r : rdC h A cs) (hl : Hp.le h g) : rdC g A cs := ⟨r.1, fun j u hu => cellH_le hl (r.2 j u hu)⟩
theorem rdS.le {α : Type} {E : Enc α} {h g : Hp} {A : Option Addr} {m : Nat} {xs : List α} (r : rdS E h A m xs) (hl : Hp.le h g) : rdS E g A m xs := ⟨r.1, r.2.le hl⟩
theorem rdS.pos {α : Type} {E : Enc α} {h : Hp} {A : Option Addr} {m : Nat} {xs : List α} (r : rdS E h A m xs) (hm : 0 < m) : A.isSome = true :=
  r.2.1 (by rw [flat_length, ← r.1]; exact Nat.mul_pos hm E.pos)
theorem rdS.nil {α : Type} (E : Enc α) (h : Hp) (A : Option Addr) : rdS E h A 0 ([] : List α) := ⟨rfl, fun hh => absurd hh (by simp [flat]), fun j u hu => by simp [flat] at hu⟩
theorem rdS.cell {α : Type} {E : Enc α} {h : Hp} {A : Option Addr} {m : Nat} {xs : List α} (r : rdS E h A m xs) {i : Nat} {x : α} {j : Nat} {u : Value} (hx : xs[i]? = some x) (hu : (E.enc x)[j]? = some u) : cellH h (((bs A).add (i * E.sz)).add j) = some u := by
  rw [Addr.add_add]
  exact r.2.2 _ u (flat_get E xs i x j u hx hu)

/-- A slice of the call's own: nobody else has its array. -/
def own {α : Type} (E : Enc α) (A : Option Addr) (m c : Nat) (xs : List α) : HProp := fun h =>
  (A = none ∧ m = 0 ∧ c = 0 ∧ xs = []) ∨
  ∃ g cur e, A = some ⟨g, 0, none⟩ ∧ h g = some (.cells cur e (0, 0)) ∧ m = xs.length ∧ m ≤ c ∧ c ≤ maxLen ∧ cur.size = c * E.sz ∧ cur.toList.take (m * E.sz) = flat E xs
theorem own_len {α : Type} {E : Enc α} {A : Option Addr} {m c : Nat} {xs : List α} {h : Hp} (o : own E A m c xs h) : m = xs.length ∧ m ≤ c ∧ c ≤ maxLen := by
  rcases o with ⟨_, rfl, rfl, rfl⟩ | ⟨_, _, _, _, _, h1, h2, h3, _⟩
  · exact ⟨rfl, Nat.le_refl _, Nat.zero_le _⟩
  · exact ⟨h1, h2, h3⟩
theorem own_rd {α : Type} {E : Enc α} {A : Option Addr} {m c : Nat} {xs : List α} {h : Hp} (o : own E A m c xs h) : rdS E h A m xs := by
  rcases o with ⟨_, rfl, _, rfl⟩ | ⟨g, cur, e, rfl, hg, h1, h2, h3, h4, h5⟩
  · exact rdS.nil E h A
  · refine ⟨h1, fun _ => rfl, fun j u hu => ?_⟩
    rw [← h5, List.getElem?_take] at hu
    split at hu
    · have : cur[j]? = Option.some u := by simpa using hu
      simp only [bs, Option.getD_some, Addr.add_lit, cellH, hg, Nat.zero_add]
      simpa using this
    · cases hu
theorem own_take {α : Type} {E : Enc α} {A : Option Addr} {m c : Nat} {xs : List α} {h : Hp} (o : own E A m c xs h) (k : Nat) (hk : k ≤ m) : own E A k c (xs.take k) h := by
  rcases o with ⟨rfl, rfl, rfl, rfl⟩ | ⟨g, cur, e, rfl, hg, h1, h2, h3, h4, h5⟩
  · left; exact ⟨rfl, by omega, rfl, by simp⟩
  · right
    refine ⟨g, cur, e, rfl, hg, by rw [List.length_take]; omega, by omega, h3, h4, ?_⟩
    rw [← flat_take, ← h5, List.take_take, Nat.min_eq_left (Nat.mul_le_mul_right _ hk)]
theorem own_of_blk {α : Type} {E : Enc α} {e : TypeId} {b : Nat} {cs : List Value} {m : Nat} {xs : List α} {h : Hp} (o : blk b cs e h) (hm : m = xs.length) (hc : cs = flat E xs) (hl : m ≤ maxLen) : own E (some ⟨b, 0, none⟩) m m xs h := by
  subst hm hc
  refine .inr ⟨b, _, e, rfl, o, rfl, Nat.le_refl _, hl, ?_, ?_⟩
  · simp [flat_length]
  · simp only []
    rw [← flat_length E xs, List.take_length]
theorem blk_rd {b : Nat} {cs : List Value} {e : TypeId} {h : Hp} (o : blk b cs e h) : rdC h (some ⟨b, 0, none⟩) cs := ⟨fun _ => rfl, fun j u hu => by
  simp only [bs, Option.getD_some, Addr.add_lit, cellH, show h b = _ from o, Nat.zero_add]
  simpa using hu⟩
theorem blk_rdS {α : Type} {E : Enc α} {b : Nat} {cs : List Value} {e : TypeId} {m : Nat} {xs : List α} {h : Hp} (o : blk b cs e h) (hm : m = xs.length) (hc : cs = flat E xs) : rdS E h (some ⟨b, 0, none⟩) m xs := ⟨hm, hc ▸ blk_rd o⟩

/-- What is left of a slice behind its first l elements (cc: the capacity that is cut to). -/
def sbA (A : Option Addr) (sz l cc : Nat) : Option Addr := if cc = l then A else A.map (·.add (l * sz))
theorem rdS.sub {α : Type} {E : Enc α} {h : Hp} {A : Option Addr} {m : Nat} {xs : List α} (r : rdS E h A m xs) {l k cc : Nat} (h1 : l ≤ k) (h2 : k ≤ m) (h3 : k ≤ cc) : rdS E h (sbA A E.sz l cc) (k - l) ((xs.take k).drop l) := by
  have hm := r.1
  refine ⟨by rw [List.length_drop, List.length_take]; omega, ?_, ?_⟩
  · intro hp
    rw [flat_length, List.length_drop, List.length_take] at hp
    have : 0 < m := by
      rcases Nat.eq_zero_or_pos m with hz | hz
      · have : (min k xs.length - l) = 0 := by omega
        rw [this] at hp; simp at hp
      · exact hz
    unfold sbA
    have := r.pos this
    split
    · exact this
    · rw [Option.isSome_map]; exact this
  · intro j u hu
    rw [← flat_drop, ← flat_take, List.getElem?_drop, List.getElem?_take] at hu
    split at hu
    · rename_i hlt
      have hc := r.2.2 _ u hu
      unfold sbA
      by_cases he : cc = l
      · exfalso; have : k = l := by omega
        subst this; omega
      · rw [if_neg he]
        cases A with
        | none =>
          have : (none : Option Addr).isSome = true := r.2.1 (by rw [flat_length]; rcases Nat.eq_zero_or_pos xs.length with hz | hz
                                                                 · have hk : k = 0 := by omega
                                                                   subst hk; simp at hlt
                                                                 · exact Nat.mul_pos hz E.pos)
          cases this
        | some a =>
          simp only [bs, Option.map_some, Option.getD_some] at hc ⊢
          rw [Addr.add_add]; exact hc
    · cases hu

def putAt (cs : List Value) (i : Nat) : List Value → List Value
  | [] => cs
  | v :: vs => putAt (cs.set i v) (i + 1) vs
theorem putAt_length : ∀ (vs cs : List Value) (i : Nat), (putAt cs i vs).length = cs.length
  | [], _, _ => rfl
  | v :: vs, cs, i => by simp only [putAt]; rw [putAt_length vs]; simp
theorem putAt_eq : ∀ (vs cs : List Value) (i : Nat), i + vs.length ≤ cs.length → putAt cs i vs = cs.take i ++ vs ++ cs.drop (i + vs.length)
  | [], cs, i, h => by simp [putAt]
  | v :: vs, cs, i, h => by
    have hl : i < cs.length := by simp at h; omega
    simp only [putAt]
    rw [putAt_eq vs (cs.set i v) (i + 1) (by simp at h ⊢; omega)]
    simp only [List.length_cons]
    have e1 : (cs.set i v).take (i + 1) = cs.take i ++ [v] := by
      rw [List.take_succ_eq_append_getElem (by simpa using hl)]
      simp [List.take_set_of_le]
    have e2 : (cs.set i v).drop (i + 1 + vs.length) = cs.drop (i + (vs.length + 1)) := by
      rw [List.drop_set_of_lt (by omega)]
      congr 1; omega
    rw [e1, e2]; simp

/-! ### the state's parts -/
section
variable {F : Frz} {w : World} {L : List HProp}
theorem perm_at : ∀ {L : List HProp} {k : Nat} {A : HProp}, L[k]? = some A → L.Perm (A :: L.eraseIdx k)
  | [], k, A, h => by simp at h
  | B :: L, 0, A, h => by simp at h; subst h; exact List.Perm.refl _
  | B :: L, k + 1, A, h => by
    simp only [List.getElem?_cons_succ] at h
    exact ((perm_at h).cons B).trans (List.Perm.swap _ _ _)
theorem perm_set : ∀ {L : List HProp} {k : Nat} {A B : HProp}, L[k]? = some A → (B :: L.eraseIdx k).Perm (L.set k B)
  | [], k, A, B, h => by simp at h
  | C :: L, 0, A, B, h => by simp
  | C :: L, k + 1, A, B, h => by
    simp only [List.getElem?_cons_succ] at h
    simp only [List.eraseIdx_cons_succ, List.set_cons_succ]
    exact (List.Perm.swap _ _ _).trans ((perm_set h).cons C)
theorem St.at (h : St F w L) {k : Nat} {A : HProp} (hk : L[k]? = some A) : ∃ g : Hp, Hp.le g (World.hp w) ∧ Hp.disj F.heap g ∧ A g := h.mem (List.mem_of_getElem? hk)
theorem St.turnAt {w' : World} {k : Nat} {A B : HProp} (h : St F w L) (hk : L[k]? = some A)
    (ht : ∀ g : Hp, Hp.le g (World.hp w) → A g → ∃ b, g b ≠ none ∧ w'.os = w.os ∧ w'.tape = w.tape ∧ w'.output = w.output ∧ w.heap.size ≤ w'.heap.size ∧ (∀ k, k ≠ b → k < w.heap.size → w'.heap[k]? = w.heap[k]?) ∧
      ∃ g' : Hp, (∀ k o, g' k = some o → w'.heap[k]? = some o ∧ (g k ≠ none ∨ w.heap.size ≤ k)) ∧ B g') : St F w' (L.set k B) :=
  ((h.perm (perm_at hk)).turn ht).perm (perm_set hk)
theorem stars_conv {k : Nat} {A B : HProp} (hk : L[k]? = some A) (hi : ∀ h, A h → B h) {h : Hp} (hs : stars L h) : stars (L.set k B) h := stars_perm (perm_set hk) (stars_imp hi (stars_perm (perm_at hk) hs))
end

section
variable {P : Program} {T : Tab} {F : Frz} {n : Nat} {Q : Exit → Act → World → Prop} {e : Env} {L : List HProp} {ops : Array Oper} {l : List Oper} {d : Option Tmp} {ty : TypeId} {pos : String} {af : Array Edge}

/-- What is owned is told in other words. -/
theorem XL_mem {M : List HProp} (hi : ∀ h, stars L h → stars M h) (h : XL P F n ops l Q e M) : XL P F n ops l Q e L := .mk fun a w hf hs => h a w hf (hs.imp hi)
theorem X_mem {c : Code} {M : List HProp} (hi : ∀ h, stars L h → stars M h) (h : X P F n c Q e M) : X P F n c Q e L := .mk fun a w hf hs => h a w hf (hs.imp hi)
theorem XL_conv {A : HProp} (k : Nat) (B : HProp) (hk : L[k]? = some A) (hi : ∀ h, A h → B h) (h : XL P F n ops l Q e (L.set k B)) : XL P F n ops l Q e L := XL_mem (fun _ hs => stars_conv hk hi hs) h
theorem X_conv {c : Code} {A : HProp} (k : Nat) (B : HProp) (hk : L[k]? = some A) (hi : ∀ h, A h → B h) (h : X P F n c Q e (L.set k B)) : X P F n c Q e L := X_mem (fun _ hs => stars_conv hk hi hs) h
/-- A fact of an owned part. -/
theorem XL_fact {A : HProp} (k : Nat) {p : Prop} (hk : L[k]? = some A) (hi : ∀ h, A h → p) (h : p → XL P F n ops l Q e L) : XL P F n ops l Q e L := XL_look (fun w hs => let ⟨g, _, _, hA⟩ := hs.at hk; hi g hA) h
theorem X_fact {c : Code} {A : HProp} (k : Nat) {p : Prop} (hk : L[k]? = some A) (hi : ∀ h, A h → p) (h : p → X P F n c Q e L) : X P F n c Q e L := X_look (fun w hs => let ⟨g, _, _, hA⟩ := hs.at hk; hi g hA) h

/-! ### pure operations -/
theorem XL_op (hT : TabOk P T) {op : Op} {v : Value} {e' : Env} (h : opV T e op = some v) (hp : putE n d v e = some e') (hx : XL P F n ops l Q e' L) : XL P F n ops (⟨d, op, ty, pos, af, none⟩ :: l) Q e L :=
  XL_val (o := ⟨d, op, ty, pos, af, none⟩) rfl hp (fun a w hf _ => opV_run hT hf _ h w) hx
theorem XL_int {j : Nat} {k : IntKind} {x y : Int} (hxy : x = y) (h : XL P F n ops l Q ((j, .int k y) :: e) L) : XL P F n ops l Q ((j, .int k x) :: e) L := hxy ▸ h
theorem XL_head {j : Nat} {x y : Value} (hxy : x = y) (h : XL P F n ops l Q ((j, y) :: e) L) : XL P F n ops l Q ((j, x) :: e) L := hxy ▸ h
theorem XL_dec {j : Nat} {p : Prop} [Decidable p] (h1 : p → XL P F n ops l Q ((j, .bool true) :: e) L) (h2 : ¬ p → XL P F n ops l Q ((j, .bool false) :: e) L) : XL P F n ops l Q ((j, .bool (decide p)) :: e) L := by
  by_cases hp : p
  · rw [decide_eq_true hp]; exact h1 hp
  · rw [decide_eq_false hp]; exact h2 hp
theorem XL_dec_t {j : Nat} {p : Prop} [Decidable p] (hp : p) (h1 : XL P F n ops l Q ((j, .bool true) :: e) L) : XL P F n ops l Q ((j, .bool (decide p)) :: e) L := by rw [decide_eq_true hp]; exact h1
theorem XL_dec_f {j : Nat} {p : Prop} [Decidable p] (hp : ¬ p) (h1 : XL P F n ops l Q ((j, .bool false) :: e) L) : XL P F n ops l Q ((j, .bool (decide p)) :: e) L := by rw [decide_eq_false hp]; exact h1
theorem XL_bool {j : Nat} {b : Bool} (h1 : b = true → XL P F n ops l Q ((j, .bool true) :: e) L) (h2 : b = false → XL P F n ops l Q ((j, .bool false) :: e) L) : XL P F n ops l Q ((j, .bool b) :: e) L := by
  cases b
  · exact h2 rfl
  · exact h1 rfl

theorem wrap_i64 {x : Int} (h1 : -9223372036854775808 ≤ x) (h2 : x < 9223372036854775808) : IntKind.i64.wrap x = x := by
  simp [IntKind.wrap, IntKind.bits, IntKind.signed]
  split <;> omega
theorem wrap_u64' (x : Int) : IntKind.u64.wrap x = x % 18446744073709551616 := by
  simp [IntKind.wrap, IntKind.bits, IntKind.signed]
theorem wrap_u8' (x : Int) : IntKind.u8.wrap x = x % 256 := by
  simp [IntKind.wrap, IntKind.bits, IntKind.signed]
theorem wrap_u64 {x : Int} (h1 : 0 ≤ x) (h2 : x < 18446744073709551616) : IntKind.u64.wrap x = x := by
  rw [wrap_u64']; omega
theorem wrap_u8 {x : Int} (h1 : 0 ≤ x) (h2 : x < 256) : IntKind.u8.wrap x = x := by
  rw [wrap_u8']; omega
theorem quo_i64 {x y : Int} (h0 : 0 ≤ x) (h1 : x < 9223372036854775808) (hy : 0 ≤ y) : IntKind.i64.wrap (x.tdiv y) = x / y := by
  rw [Int.tdiv_eq_ediv_of_nonneg h0]
  exact wrap_i64 (by have := Int.ediv_nonneg h0 hy; omega) (Int.lt_of_le_of_lt (Int.ediv_le_self _ h0) h1)
theorem quo_u64 {x y : Int} (h0 : 0 ≤ x) (h1 : x < 18446744073709551616) (hy : 0 ≤ y) : IntKind.u64.wrap (x.tdiv y) = x / y := by
  rw [Int.tdiv_eq_ediv_of_nonneg h0]
  exact wrap_u64 (Int.ediv_nonneg h0 hy) (Int.lt_of_le_of_lt (Int.ediv_le_self _ h0) h1)
theorem rem_pos {x y : Int} (h0 : 0 ≤ x) : x.tmod y = x % y := Int.tmod_eq_emod_of_nonneg h0

/-! ### memory -/
theorem run_load_cells (hT : TabOk P T) {t : TypeId} {cs : List Value} {i : Nat} {v : Value} (hv : partV T t cs i = some v) {w : World} {a : Addr} (hc : ∀ j u, cs[j]? = some u → w.cell? (a.add j) = some u) (hsz : ∀ ti, look T t = some ti → i + ti.size ≤ cs.length) :
    (Instr.loadAt t (.pointer (some (a.add i)))).run P w = .ok v w := by
  unfold partV at hv
  cases hl : look T t with
  | none => rw [hl] at hv; cases hv
  | some ti =>
    rw [hl] at hv
    simp only at hv
    simp only [Instr.loadAt, Instr.sureAddr, loadVar, Sem.run_bind, Sem.run_pure, Result.andThen_ok, run_isAgg hT w hl]
    cases hg : ti.agg with
    | true =>
      rw [hg] at hv
      simp only [cond_true, Option.some.injEq] at hv
      simp only [if_true, Sem.run_bind, run_sizeOf hT w hl, Result.andThen_ok]
      have hlen : ((cs.drop i).take ti.size).length = ti.size := by
        rw [List.length_take, List.length_drop]; have := hsz ti hl; omega
      have hr := run_loadCells_list (P := P) w (a.add i) ((cs.drop i).take ti.size) (fun j u hj => by
        rw [List.getElem?_take] at hj
        split at hj
        · rw [List.getElem?_drop] at hj
          rw [Addr.add_add]; exact hc _ _ hj
        · cases hj)
      rw [hlen] at hr
      simp [hr, ← hv]
    | false =>
      rw [hg] at hv
      simp only [cond_false] at hv
      have := hc _ _ hv
      simp [this]

/-- x is the address of block b's cell i; the block is the k-th part. -/
theorem XL_load (hT : TabOk P T) (k : Nat) {t : TypeId} {x : Operand} {b i : Nat} {cs : List Value} {et : TypeId} {v : Value} {ti : TI} {e' : Env} (hk : L[k]? = some (blk b cs et)) (hx : ev e x = some (.pointer (some ⟨b, i, none⟩))) (ht : look T t = some ti) (hv : partV T t cs i = some v)
    (hsz : Nat.ble (i + ti.size) cs.length = true) (hp : putE n d v e = some e') (h : XL P F n ops l Q e' L) : XL P F n ops (⟨d, .load t x, ty, pos, af, none⟩ :: l) Q e L :=
  XL_val (o := ⟨d, .load t x, ty, pos, af, none⟩) rfl hp (fun a w hf hs => by
    obtain ⟨g, hg, _, hA⟩ := hs.at hk
    have hc := (blk_rd hA).le hg
    have hr := run_load_cells hT hv (a := ⟨b, 0, none⟩) (w := w) (fun j u hj => cellH_world (hc.2 j u hj)) (fun ti' h' => by
      rw [ht] at h'; cases h'; simpa [Nat.ble_eq] using hsz)
    rw [Addr.add_lit, Nat.zero_add] at hr
    simp [execOp, hf.ev hx, hr]) h

section
variable {α : Type} [Inhabited α] {E : Enc α}
def get (xs : List α) (i : Int) : α := xs.getD i.toNat default
theorem get_some {xs : List α} {i : Int} (h0 : 0 ≤ i) (h1 : i < xs.length) : xs[i.toNat]? = some (get xs i) := by
  unfold get
  rw [List.getD_eq_getElem?_getD, List.getElem?_eq_getElem (by omega)]
  rfl
theorem el_load (hT : TabOk P T) {A : Option Addr} {m : Nat} {xs : List α} {w : World} {g : Hp} (hg : Hp.le g (World.hp w)) (r : rdS E g A m xs) {i : Int} (h0 : 0 ≤ i) (h1 : i < m) {t : TypeId} {ti : TI} (ht : look T t = some ti) {f : Nat} {v : Value} (hv : partV T t (E.enc (get xs i)) f = some v) (hsz : f + ti.size ≤ E.sz) :
    (Instr.loadAt t (.pointer (some (((bs A).add (i.toNat * E.sz)).add f)))).run P w = .ok v w :=
  run_load_cells hT hv (fun j u hj => cellH_world ((r.le hg).cell (get_some h0 (by rw [← r.1]; exact h1)) hj)) (fun ti' h' => by rw [ht] at h'; cases h'; rw [E.len]; exact hsz)

theorem XL_el (hT : TabOk P T) {A : Option Addr} {m : Nat} {xs : List α} {i : Int} {t : TypeId} {x : Operand} {v : Value} {ti : TI} {e' : Env} {sz : Nat} (hx : ev e x = some (.pointer (some ((bs A).add (i.toNat * sz))))) (r : rdS E F.heap A m xs) (hz : E.sz = sz) (h0 : 0 ≤ i) (h1 : i < m) (ht : look T t = some ti)
    (hv : partV T t (E.enc (get xs i)) 0 = some v) (hsz : Nat.ble ti.size E.sz = true) (hp : putE n d v e = some e') (h : XL P F n ops l Q e' L) : XL P F n ops (⟨d, .load t x, ty, pos, af, none⟩ :: l) Q e L :=
  XL_val (o := ⟨d, .load t x, ty, pos, af, none⟩) rfl hp (fun a w hf hs => by
    have hr := el_load hT hs.frz r h0 h1 ht hv (by rw [Nat.zero_add]; simpa [Nat.ble_eq] using hsz)
    rw [Addr.add_zero', hz] at hr
    simp [execOp, hf.ev hx, hr]) h
theorem XL_elf (hT : TabOk P T) {A : Option Addr} {m : Nat} {xs : List α} {i : Int} {f : Nat} {t : TypeId} {x : Operand} {v : Value} {ti : TI} {e' : Env} {sz : Nat} (hx : ev e x = some (.pointer (some (((bs A).add (i.toNat * sz)).add f)))) (r : rdS E F.heap A m xs) (hz : E.sz = sz) (h0 : 0 ≤ i) (h1 : i < m) (ht : look T t = some ti)
    (hv : partV T t (E.enc (get xs i)) f = some v) (hsz : Nat.ble (f + ti.size) E.sz = true) (hp : putE n d v e = some e') (h : XL P F n ops l Q e' L) : XL P F n ops (⟨d, .load t x, ty, pos, af, none⟩ :: l) Q e L :=
  XL_val (o := ⟨d, .load t x, ty, pos, af, none⟩) rfl hp (fun a w hf hs => by
    have hr := el_load hT hs.frz r h0 h1 ht hv (by simpa [Nat.ble_eq] using hsz)
    rw [hz] at hr
    simp [execOp, hf.ev hx, hr]) h
theorem XL_elo (hT : TabOk P T) (k : Nat) {A : Option Addr} {m c : Nat} {xs : List α} {i : Int} {t : TypeId} {x : Operand} {v : Value} {ti : TI} {e' : Env} {sz : Nat} (hk : L[k]? = some (own E A m c xs)) (hx : ev e x = some (.pointer (some ((bs A).add (i.toNat * sz))))) (hz : E.sz = sz) (h0 : 0 ≤ i) (h1 : i < m) (ht : look T t = some ti)
    (hv : partV T t (E.enc (get xs i)) 0 = some v) (hsz : Nat.ble ti.size E.sz = true) (hp : putE n d v e = some e') (h : XL P F n ops l Q e' L) : XL P F n ops (⟨d, .load t x, ty, pos, af, none⟩ :: l) Q e L :=
  XL_val (o := ⟨d, .load t x, ty, pos, af, none⟩) rfl hp (fun a w hf hs => by
    obtain ⟨g, hg, _, hA⟩ := hs.at hk
    have hr := el_load hT hg (own_rd hA) h0 h1 ht hv (by rw [Nat.zero_add]; simpa [Nat.ble_eq] using hsz)
    rw [Addr.add_zero', hz] at hr
    simp [execOp, hf.ev hx, hr]) h
theorem XL_elof (hT : TabOk P T) (k : Nat) {A : Option Addr} {m c : Nat} {xs : List α} {i : Int} {f : Nat} {t : TypeId} {x : Operand} {v : Value} {ti : TI} {e' : Env} {sz : Nat} (hk : L[k]? = some (own E A m c xs)) (hx : ev e x = some (.pointer (some (((bs A).add (i.toNat * sz)).add f)))) (hz : E.sz = sz) (h0 : 0 ≤ i) (h1 : i < m) (ht : look T t = some ti)
    (hv : partV T t (E.enc (get xs i)) f = some v) (hsz : Nat.ble (f + ti.size) E.sz = true) (hp : putE n d v e = some e') (h : XL P F n ops l Q e' L) : XL P F n ops (⟨d, .load t x, ty, pos, af, none⟩ :: l) Q e L :=
  XL_val (o := ⟨d, .load t x, ty, pos, af, none⟩) rfl hp (fun a w hf hs => by
    obtain ⟨g, hg, _, hA⟩ := hs.at hk
    have hr := el_load hT hg (own_rd hA) h0 h1 ht hv (by simpa [Nat.ble_eq] using hsz)
    rw [hz] at hr
    simp [execOp, hf.ev hx, hr]) h

/-! an element's address -/
theorem run_idx (hT : TabOk P T) {t el : TypeId} {i1 i2 : TI} (ht : look T t = some i1) (hd : i1.desc = .slice el) (he : look T el = some i2) {A : Option Addr} {m c : Nat} {k : IntKind} {i : Int} (hA : A.isSome = true) (h0 : 0 ≤ i) (h1 : i < m) (w : World) :
    (Instr.indexAt t (.slice A m c) (.int k i)).run P w = .ok (.pointer (some ((bs A).add (i.toNat * i2.size)))) w := by
  cases A with
  | none => cases hA
  | some a =>
    have hu := hT.und t i1 ht
    rw [hd] at hu
    simp [Instr.indexAt, run_underlying hu, asIntOf, h0, h1, run_sizeOf hT w he, bs]
theorem XL_idx (hT : TabOk P T) {t el : TypeId} {i1 : TI} {de2 : TypeDesc} {z2 : Option Value} {sz2 by2 : Nat} {x ix : Operand} {A : Option Addr} {m c : Nat} {xs : List α} {k : IntKind} {i : Int} {e' : Env} (hx : ev e x = some (.slice A m c)) (hi : ev e ix = some (.int k i)) (ht : look T t = some i1) (hd : i1.desc = .slice el) (he : look T el = some ⟨de2, z2, sz2, by2⟩)
    (r : rdS E F.heap A m xs) (h0 : 0 ≤ i) (h1 : i < m) (hp : putE n d (.pointer (some ((bs A).add (i.toNat * sz2)))) e = some e') (h : XL P F n ops l Q e' L) : XL P F n ops (⟨d, .indexAddr t x ix, ty, pos, af, none⟩ :: l) Q e L :=
  XL_val (o := ⟨d, .indexAddr t x ix, ty, pos, af, none⟩) rfl hp (fun a w hf hs => by
    have hr := run_idx (P := P) hT ht hd he (A := A) (c := c) (k := k) (r.pos (by omega)) h0 h1 w
    simp [execOp, hf.ev hx, hf.ev hi, hr]) h
theorem XL_idxo (hT : TabOk P T) (q : Nat) {c1 : Nat} {t el : TypeId} {i1 : TI} {de2 : TypeDesc} {z2 : Option Value} {sz2 by2 : Nat} {x ix : Operand} {A : Option Addr} {m c : Nat} {xs : List α} {k : IntKind} {i : Int} {e' : Env} (hk : L[q]? = some (own E A m c1 xs)) (hx : ev e x = some (.slice A m c)) (hi : ev e ix = some (.int k i)) (ht : look T t = some i1) (hd : i1.desc = .slice el) (he : look T el = some ⟨de2, z2, sz2, by2⟩)
    (h0 : 0 ≤ i) (h1 : i < m) (hp : putE n d (.pointer (some ((bs A).add (i.toNat * sz2)))) e = some e') (h : XL P F n ops l Q e' L) : XL P F n ops (⟨d, .indexAddr t x ix, ty, pos, af, none⟩ :: l) Q e L :=
  XL_val (o := ⟨d, .indexAddr t x ix, ty, pos, af, none⟩) rfl hp (fun a w hf hs => by
    obtain ⟨g, hg, _, hA⟩ := hs.at hk
    have hr := run_idx (P := P) hT ht hd he (A := A) (c := c) (k := k) ((own_rd hA).pos (by omega)) h0 h1 w
    simp [execOp, hf.ev hx, hf.ev hi, hr]) h
end
theorem XL_idxs (hT : TabOk P T) {t el : TypeId} {i1 : TI} {de2 : TypeDesc} {z2 : Option Value} {sz2 by2 : Nat} {x ix : Operand} {a : Addr} {m c : Nat} {k : IntKind} {i : Int} {e' : Env} (hx : ev e x = some (.slice (some a) m c)) (hi : ev e ix = some (.int k i)) (ht : look T t = some i1) (hd : i1.desc = .slice el) (he : look T el = some ⟨de2, z2, sz2, by2⟩)
    (h0 : 0 ≤ i) (h1 : i < m) (hp : putE n d (.pointer (some (a.add (i.toNat * sz2)))) e = some e') (h : XL P F n ops l Q e' L) : XL P F n ops (⟨d, .indexAddr t x ix, ty, pos, af, none⟩ :: l) Q e L :=
  XL_val (o := ⟨d, .indexAddr t x ix, ty, pos, af, none⟩) rfl hp (fun ac w hf hs => by
    have hr := run_idx (P := P) hT ht hd he (A := some a) (c := c) (k := k) rfl h0 h1 w
    simp only [bs, Option.getD_some] at hr
    simp [execOp, hf.ev hx, hf.ev hi, hr]) h
theorem XL_idxa (hT : TabOk P T) {t el : TypeId} {i1 : TI} {de2 : TypeDesc} {z2 : Option Value} {sz2 by2 : Nat} {x ix : Operand} {a : Addr} {m : Nat} {k : IntKind} {i : Int} {e' : Env} (hx : ev e x = some (.pointer (some a))) (hi : ev e ix = some (.int k i)) (ht : look T t = some i1) (hd : i1.desc = .array m el) (he : look T el = some ⟨de2, z2, sz2, by2⟩)
    (h0 : 0 ≤ i) (h1 : i < m) (hp : putE n d (.pointer (some (a.add (i.toNat * sz2)))) e = some e') (h : XL P F n ops l Q e' L) : XL P F n ops (⟨d, .indexAddr t x ix, ty, pos, af, none⟩ :: l) Q e L :=
  XL_val (o := ⟨d, .indexAddr t x ix, ty, pos, af, none⟩) rfl hp (fun ac w hf hs => by
    have hu := hT.und t i1 ht
    rw [hd] at hu
    have hr : (Instr.indexAt t (.pointer (some a)) (.int k i)).run P w = .ok (.pointer (some (a.add (i.toNat * sz2)))) w := by
      simp [Instr.indexAt, run_underlying hu, asIntOf, h0, h1, run_sizeOf hT w he, Instr.sureAddr]
    simp [execOp, hf.ev hx, hf.ev hi, hr]) h

/-! new blocks -/
theorem XL_box {et : TypeId} {x : Operand} {v : Value} {e' : Nat → Env} (hx : ev e x = some v) (hp : ∀ b, putE n d (.pointer (some ⟨b, 0, none⟩)) e = some (e' b))
    (h : ∀ b, XL P F n ops l Q (e' b) (blk b v.cells.toList et :: L)) : XL P F n ops (⟨d, .box et x, ty, pos, af, none⟩ :: l) Q e L :=
  XL_next (o := ⟨d, .box et x, ty, pos, af, none⟩) rfl fun a w hf hs => ⟨.pointer (some ⟨w.heap.size, 0, none⟩), w.alloc (.cells v.cells et), e' _, _, .inl (by simp [execOp, hf.ev hx, Instr.box, newVar, newRow]), hp _, hs.alloc (by simp [blk, Hp.one]), h _⟩
theorem XL_alloc (hT : TabOk P T) {et : TypeId} {z : Value} {ti : TI} {e' : Nat → Env} (ht : look T et = some ti) (hz : ti.zero = some z) (hp : ∀ b, putE n d (.pointer (some ⟨b, 0, none⟩)) e = some (e' b))
    (h : ∀ b, XL P F n ops l Q (e' b) (blk b z.cells.toList et :: L)) : XL P F n ops (⟨d, .alloc et, ty, pos, af, none⟩ :: l) Q e L :=
  XL_next (o := ⟨d, .alloc et, ty, pos, af, none⟩) rfl fun a w hf hs => ⟨.pointer (some ⟨w.heap.size, 0, none⟩), w.alloc (.cells z.cells et), e' _, _, .inl (by simp [execOp, Instr.alloc, run_zeroValue hT w ht hz, newVar, newRow]), hp _, hs.alloc (by simp [blk, Hp.one]), h _⟩

/-! stores -/
theorem st_row {w : World} {b : Nat} {cs : Array Value} {et : TypeId} (hb : w.heap[b]? = some (.cells cs et (0, 0))) (ds : Array Value) : (w.setRow b ds).heap[b]? = some (.cells ds et (0, 0)) := by
  have := setRow_heap w b cs ds et (0, 0) hb
  exact this
theorem run_store_cells (hT : TabOk P T) {t : TypeId} {ti : TI} (ht : look T t = some ti) {w : World} {b i : Nat} {cs : List Value} {et : TypeId} (hb : w.heap[b]? = some (.cells cs.toArray et (0, 0))) {v : Value} {vs : List Value} (hv : v.cells.toList = vs) (hl : vs.length = ti.size) (hi : i + vs.length ≤ cs.length) (h1 : ∀ u ∈ vs, u.oneCell' = true) :
    (Instr.storeAt t (.pointer (some ⟨b, i, none⟩)) v).run P w = .ok () (w.setRow b (putAt cs i vs).toArray) := by
  subst hv
  have hs : v.cells.size = ti.size := by rw [← hl]; simp
  have := run_storeCells_at P b i et v.cells.toList 0 cs.toArray w hb (by simpa using hi) h1
  rw [Nat.add_zero] at this
  simp only [Instr.storeAt, Instr.sureAddr, storeVar, Sem.run_bind, Sem.run_pure, Result.andThen_ok, run_sizeOf hT w ht, hs, ne_eq, not_true_eq_false, if_false]
  rw [this, putAt_eq _ _ _ hi]
theorem St.row {w : World} {k b : Nat} {cs : List Value} {et : TypeId} (hs : St F w L) (hk : L[k]? = some (blk b cs et)) (ds : List Value) : w.heap[b]? = some (.cells cs.toArray et (0, 0)) ∧ St F (w.setRow b ds.toArray) (L.set k (blk b ds et)) := by
  obtain ⟨g, hg, _, hA⟩ := hs.at hk
  have hb : w.heap[b]? = some (.cells cs.toArray et (0, 0)) := hg _ _ hA
  refine ⟨hb, hs.turnAt hk fun g hg hA => ⟨b, by rw [show g b = _ from hA]; simp, rfl, rfl, rfl, by simp, fun j hj _ => setRow_other w b j _ (fun h => hj h), Hp.one b (.cells ds.toArray et (0, 0)), fun j o hj => ?_, by simp [blk, Hp.one]⟩⟩
  simp only [Hp.one] at hj
  split at hj
  · rename_i e1; cases hj; subst e1; exact ⟨st_row hb _, .inl (by rw [show g j = _ from hA]; simp)⟩
  · cases hj
theorem XL_store (hT : TabOk P T) (k : Nat) {t : TypeId} {x y : Operand} {b i : Nat} {cs vs : List Value} {et : TypeId} {v : Value} {ti : TI} (hk : L[k]? = some (blk b cs et)) (hx : ev e x = some (.pointer (some ⟨b, i, none⟩))) (hy : ev e y = some v) (ht : look T t = some ti) (hv : v.cells.toList = vs) (hl : vs.length = ti.size)
    (hsz : Nat.ble (i + ti.size) cs.length = true) (h1 : vs.all Value.oneCell' = true) (h : XL P F n ops l Q e (L.set k (blk b (putAt cs i vs) et))) : XL P F n ops (⟨none, .store t x y, ty, pos, af, none⟩ :: l) Q e L :=
  XL_next (o := ⟨none, .store t x y, ty, pos, af, none⟩) rfl fun a w hf hs => by
    obtain ⟨hb, hs'⟩ := hs.row hk (putAt cs i vs)
    refine ⟨undef, _, e, _, .inr ⟨rfl, ?_⟩, rfl, hs', h⟩
    have := run_store_cells (P := P) hT ht hb hv hl (by rw [hl]; simpa [Nat.ble_eq] using hsz) (by simpa using h1)
    simp [execOp, hf.ev hx, hf.ev hy, this]
end
end Go.Cof
