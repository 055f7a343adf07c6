/- append within one's own slice; the first element of a kind; lists. -/
import Derived.Test.YtpokfingnflblaaSlU
set_option linter.unusedVariables false
set_option linter.unusedSectionVars false
namespace Go.Cof
open Go.RowKit

section
variable {P : Program} {T : Tab} {F : Frz} {n : Nat} {Q : Exit → Act → World → Prop} {e : Env} {L : List HProp} {ops : Array Oper} {l : List Oper} {d : Option Tmp} {ty : TypeId} {pos : String} {af : Array Edge}
variable {α : Type} [Inhabited α] {E : Enc α}
/-- append(s[:q], ys...), where so many elements of s lie behind its q-th one: they are laid over. -/
theorem XL_appC (hT : TabOk P T) (k : Nat) {s x : Operand} {t el : TypeId} {i1 i2 : TI} {b m c c0 q m' c' : Nat} {B : Option Addr} {xs ys : List α} {e' : Env} (hk : L[k]? = some (own E (some ⟨b, 0, none⟩) m c xs)) (hv : evs e [s, x] = some [.slice (some ⟨b, 0, none⟩) q c0, .slice B m' c']) (hB : ∀ w, St F w L → rdS E (World.hp w) B m' ys)
    (hq : q + m' ≤ m) (hc : c0 = c) (ht : look T t = some i1) (hd : i1.desc = .slice el) (he : look T el = some i2) (hsz : i2.size = E.sz) (hp : putE n d (.slice (some ⟨b, 0, none⟩) (q + m') c) e = some e')
    (h : XL P F n ops l Q e' (L.set k (own E (some ⟨b, 0, none⟩) m c (xs.take q ++ ys ++ xs.drop (q + m'))))) : XL P F n ops (⟨d, .call ⟨.builtin .append, #[s, x], #[t, t]⟩, ty, pos, af, none⟩ :: l) Q e L :=
  XL_next (o := ⟨d, .call ⟨.builtin .append, #[s, x], #[t, t]⟩, ty, pos, af, none⟩) rfl fun a w hf hs => by
    subst hc
    have hu := hT.und t i1 ht
    rw [hd] at hu
    obtain ⟨xi, g1, g2, g3, g4⟩ := hT.inf el i2 he
    have hxs : xi.size = E.sz := by rw [g3, hsz]
    have hr0 := hB w hs
    obtain ⟨g, hg, _, hA⟩ := hs.at hk
    have hown := own_len hA
    obtain ⟨cs, hrun⟩ := run_built (P := P) (d := d) (ty := ty) (pos := pos) (af := af) (b := .append) (ats := #[t, t]) hf hv w
    by_cases hm0 : m' = 0
    · subst hm0
      have hys : ys = [] := List.eq_nil_of_length_eq_zero hr0.1.symm
      subst hys
      refine ⟨.slice (some ⟨b, 0, none⟩) (q + 0) c0, w, e', _, .inl ?_, hp, ?_, h⟩
      · rw [hrun]
        have hl0 : ∀ (x : Addr), (loadCells x 0).run P w = .ok #[] w := fun x => by simpa using run_loadCells_list (P := P) w x [] (by simp)
        have hq2 : q ≤ c0 := by omega
        cases B <;> simp [builtin, Builtin.append_, run_underlying hu, sizeOf, typeInfo, g1, Builtin.lenOf, hq2, Builtin.firstCells, storeCells, hl0]
      · have : xs.take q ++ [] ++ xs.drop (q + 0) = xs := by simp
        rw [this]
        exact hs.perm ((perm_at hk).trans (perm_set hk))
    · obtain ⟨ad, hBa⟩ : ∃ ad, B = some ad := Option.isSome_iff_exists.1 (hr0.pos (by omega))
      subst hBa
      obtain ⟨cur, et, hb, hfit, hs'⟩ := st_many hs hk (ys := ys) (q := q) (by rw [← hr0.1]; exact hq)
      have hnl : (flat E ys).length = m' * xi.size := by rw [flat_length, hr0.1, hxs]
      have hr := append_room (P := P) w t ty el et xi hu g1 b q c0 cur hb ad m' c' (flat E ys) hnl (fun j u hj => cellH_world (hr0.2.2 j u hj)) (flat_one E ys) (by omega) (by rw [hxs]; exact hfit)
      rw [← hr0.1] at hs'
      rw [hxs] at hr
      refine ⟨_, _, e', _, .inl ?_, hp, hs', h⟩
      rw [hrun]
      simp [builtin, hr]
/-- Elements of one's own slice, read at a place that is told by its number. -/
theorem place_lit {b o i sz f : Nat} (ho : o = i * sz + f) : (⟨b, o, none⟩ : Addr) = ((bs (some ⟨b, 0, none⟩)).add (i * sz)).add f := by
  subst ho
  show _ = ((⟨b, 0, none⟩ : Addr).add _).add _
  rw [Addr.add_lit, Addr.add_lit, Nat.zero_add]
theorem XL_ld (hT : TabOk P T) (k : Nat) {i f : Nat} {b m c o : Nat} {xs : List α} {t : TypeId} {x : Operand} {v : Value} {ti : TI} {e' : Env} (hk : L[k]? = some (own E (some ⟨b, 0, none⟩) m c xs)) (hx : ev e x = some (.pointer (some ⟨b, o, none⟩))) (ho : o = i * E.sz + f) (h1 : i < m) (ht : look T t = some ti)
    (hv : partV T t (E.enc (get xs (i : Int))) f = some v) (hsz : Nat.ble (f + ti.size) E.sz = true) (hp : putE n d v e = some e') (h : XL P F n ops l Q e' L) : XL P F n ops (⟨d, .load t x, ty, pos, af, none⟩ :: l) Q e L :=
  XL_val (o := ⟨d, .load t x, ty, pos, af, none⟩) rfl hp (fun a w hf hs => by
    obtain ⟨g, hg, _, hA⟩ := hs.at hk
    have hr := el_load hT hg (own_rd hA) (i := (i : Int)) (by omega) (by omega) ht hv (by simpa [Nat.ble_eq] using hsz)
    rw [Int.toNat_natCast, ← place_lit ho] at hr
    simp [execOp, hf.ev hx, hr]) h
theorem XL_ldW (hT : TabOk P T) (k : Nat) {i : Nat} {b m c o : Nat} {xs : List α} {t : TypeId} {x : Operand} {ti : TI} {e' : Env} (hk : L[k]? = some (own E (some ⟨b, 0, none⟩) m c xs)) (hx : ev e x = some (.pointer (some ⟨b, o, none⟩))) (ho : o = i * E.sz) (h1 : i < m) (ht : look T t = some ti)
    (ha : ti.agg = true) (hsz : ti.size = E.sz) (hp : putE n d (.agg (E.enc (get xs (i : Int))).toArray) e = some e') (h : XL P F n ops l Q e' L) : XL P F n ops (⟨d, .load t x, ty, pos, af, none⟩ :: l) Q e L :=
  XL_ld hT k (f := 0) hk hx (by omega) h1 ht (partV_all ht ha (by rw [E.len, hsz]; exact Nat.le_refl _)) (by rw [Nat.zero_add, hsz]; exact ble_refl _) hp h
theorem XL_putA (hT : TabOk P T) (k : Nat) (x' : α) {t : TypeId} {x y : Operand} {b m c sz : Nat} {i : Int} {xs : List α} {ti : TI} (hk : L[k]? = some (own E (some ⟨b, 0, none⟩) m c xs)) (hx : ev e x = some (.pointer (some ((bs (some ⟨b, 0, none⟩)).add (i.toNat * sz))))) (hz : E.sz = sz) (hy : ev e y = some (.agg (E.enc x').toArray)) (ht : look T t = some ti)
    (hl : ti.size = E.sz) (hi : i.toNat < m) (h : XL P F n ops l Q e (L.set k (own E (some ⟨b, 0, none⟩) m c (xs.set i.toNat x')))) : XL P F n ops (⟨none, .store t x y, ty, pos, af, none⟩ :: l) Q e L :=
  XL_putW hT k x' hk (o := i.toNat * sz) (by rw [hx]; show some (Value.pointer (some ((⟨b, 0, none⟩ : Addr).add _))) = _; rw [Addr.add_lit, Nat.zero_add]) (by rw [hz]) hy ht (by simp [hl]) hi h
end

/-! the first of a kind -/
section
variable {α : Type} [Inhabited α]
def firstQ (q : α → Bool) (l : List α) : Nat := (l.takeWhile fun x => !q x).length
theorem firstQ_le (q : α → Bool) (l : List α) : firstQ q l ≤ l.length := (List.takeWhile_sublist _).length_le
theorem get_cons_succ (x : α) (l : List α) (i : Nat) : get (x :: l) ((i + 1 : Nat) : Int) = get l (i : Int) := by
  unfold get
  rw [Int.toNat_natCast, Int.toNat_natCast]
  rfl
theorem firstQ_cons_t {q : α → Bool} {x : α} {l : List α} (h : q x = true) : firstQ q (x :: l) = 0 := by
  unfold firstQ
  rw [List.takeWhile_cons, h]
  rfl
theorem firstQ_cons_f {q : α → Bool} {x : α} {l : List α} (h : q x = false) : firstQ q (x :: l) = firstQ q l + 1 := by
  unfold firstQ
  rw [List.takeWhile_cons, h]
  rfl
theorem firstQ_eq {q : α → Bool} : ∀ {l : List α} {i : Nat}, i ≤ l.length → (∀ j : Nat, j < i → q (get l j) = false) → (i < l.length → q (get l i) = true) → firstQ q l = i
  | [], i, h, _, _ => by simp at h; subst h; rfl
  | x :: l, 0, _, _, h => firstQ_cons_t (h (by simp))
  | x :: l, i + 1, h, h1, h2 => by
    have h0 : q x = false := h1 0 (by omega)
    rw [firstQ_cons_f h0, firstQ_eq (i := i) (by simp at h; omega) (fun j hj => by rw [← get_cons_succ x]; exact h1 (j + 1) (by omega)) (fun hi => by rw [← get_cons_succ x]; exact h2 (by simp; omega))]
theorem firstQ_lt {q : α → Bool} : ∀ {l : List α}, firstQ q l < l.length → q (get l (firstQ q l)) = true
  | [], h => by simp [firstQ] at h
  | x :: l, h => by
    cases hq : q x with
    | true => rw [firstQ_cons_t hq]; exact hq
    | false =>
      rw [firstQ_cons_f hq] at h ⊢
      rw [get_cons_succ]
      exact firstQ_lt (by simp at h; omega)
theorem firstQ_before {q : α → Bool} : ∀ {l : List α} {j : Nat}, j < firstQ q l → q (get l j) = false
  | [], j, h => by simp [firstQ] at h
  | x :: l, j, h => by
    cases hq : q x with
    | true => rw [firstQ_cons_t hq] at h; omega
    | false =>
      rw [firstQ_cons_f hq] at h
      cases j with
      | zero => exact hq
      | succ j => rw [get_cons_succ]; exact firstQ_before (by omega)
theorem firstQ_none {q : α → Bool} {l : List α} : firstQ q l = l.length ↔ ∀ x ∈ l, q x = false := by
  induction l with
  | nil => simp [firstQ]
  | cons x l ih =>
    cases hq : q x with
    | true => rw [firstQ_cons_t hq]; simp [hq]
    | false => rw [firstQ_cons_f hq]; simp [hq, ih]
/-- Its place as a number; -1: there is none. -/
def idxI (q : α → Bool) (l : List α) : Int := if firstQ q l < l.length then (firstQ q l : Int) else -1
theorem get_mem' {l : List α} {i : Int} (h0 : 0 ≤ i) (h1 : i < l.length) : get l i ∈ l := List.mem_of_getElem? (get_some h0 h1)
theorem take_snoc' (xs : List α) (i : Nat) (h : i < xs.length) : xs.take (i + 1) = xs.take i ++ [get xs i] := by
  have := get_some (xs := xs) (i := (i : Int)) (by omega) (by omega)
  rw [Int.toNat_natCast] at this
  rw [List.take_add_one, this]
  rfl
theorem get_ext {xs ys : List α} (hl : xs.length = ys.length) (h : ∀ j : Nat, j < xs.length → get xs j = get ys j) : xs = ys := by
  refine List.ext_getElem? fun i => ?_
  by_cases hi : i < xs.length
  · have h1 := get_some (xs := xs) (i := (i : Int)) (by omega) (by omega)
    have h2 := get_some (xs := ys) (i := (i : Int)) (by omega) (by omega)
    rw [Int.toNat_natCast] at h1 h2
    rw [h1, h2, h i hi]
  · rw [List.getElem?_eq_none (by omega), List.getElem?_eq_none (by omega)]
theorem get_set {xs : List α} {i j : Nat} {x : α} (h : i < xs.length) : get (xs.set i x) (j : Int) = if i = j then x else get xs (j : Int) := by
  unfold get
  rw [Int.toNat_natCast, List.getD_eq_getElem?_getD, List.getD_eq_getElem?_getD, List.getElem?_set]
  by_cases hi : i = j
  · subst hi; simp [h]
  · simp [hi]
theorem get_getElem {xs : List α} {i : Nat} (h : i < xs.length) : get xs (i : Int) = xs[i] := by
  unfold get
  rw [Int.toNat_natCast, List.getD_eq_getElem?_getD, List.getElem?_eq_getElem h]
  rfl
theorem get_app {xs ys : List α} {i : Nat} : get (xs ++ ys) (i : Int) = if i < xs.length then get xs i else get ys ((i - xs.length : Nat) : Int) := by
  unfold get
  rw [Int.toNat_natCast, Int.toNat_natCast, List.getD_eq_getElem?_getD, List.getD_eq_getElem?_getD, List.getD_eq_getElem?_getD]
  split
  · rw [List.getElem?_append_left (by assumption)]
  · rw [List.getElem?_append_right (by omega)]
end
end Go.Cof
