/- append, copy, clear on slices of one's own; whole arrays; encodings. -/
import Derived.Test.YtpokfingnflblaaSlG
set_option linter.unusedVariables false
set_option linter.unusedSectionVars false
set_option linter.unusedSimpArgs false
namespace Go.Cof
open Go.RowKit

def encI (k : IntKind) : Enc Int := ⟨fun x => [.int k x], 1, fun _ => rfl, by decide, fun x u hu => by simp at hu; subst hu; rfl⟩
def encB : Enc Bool := ⟨fun x => [.bool x], 1, fun _ => rfl, by decide, fun x u hu => by simp at hu; subst hu; rfl⟩
/-- A slice as an element: block, place, length, room. -/
structure Sl where
  b : Nat
  o : Nat
  m : Nat
  c : Nat
  deriving Inhabited
def encSl : Enc Sl := ⟨fun x => [.slice (some ⟨x.b, x.o, none⟩) x.m x.c], 1, fun _ => rfl, by decide, fun x u hu => by simp at hu; subst hu; rfl⟩

section
variable {α : Type} {E : Enc α}
theorem own_many {b m c : Nat} {xs ys : List α} {g : Hp} (o : own E (some ⟨b, 0, none⟩) m c xs g) {q : Nat} (hq : q + ys.length ≤ m) {w : World} (hg : Hp.le g (World.hp w)) :
    ∃ cur et, w.heap[b]? = some (.cells cur et (0, 0)) ∧ q * E.sz + (flat E ys).length ≤ cur.size ∧
      own E (some ⟨b, 0, none⟩) m c (xs.take q ++ ys ++ xs.drop (q + ys.length)) (Hp.one b (.cells (cur.toList.take (q * E.sz) ++ flat E ys ++ cur.toList.drop (q * E.sz + (flat E ys).length)).toArray et (0, 0))) ∧ g b ≠ none := by
  rcases o with ⟨h1, _⟩ | ⟨q', cur, et, h1, h2, h3, h4, h5, h6, h7⟩
  · cases h1
  · simp only [Option.some.injEq, Addr.mk.injEq, and_true] at h1
    subst h1
    have hfl : (flat E ys).length = ys.length * E.sz := flat_length E ys
    have hmul : q * E.sz + ys.length * E.sz ≤ m * E.sz := by rw [← Nat.add_mul]; exact Nat.mul_le_mul_right _ hq
    have hcm : m * E.sz ≤ cur.size := by rw [h6]; exact Nat.mul_le_mul_right _ h4
    have hcl : cur.toList.length = cur.size := by simp
    refine ⟨cur, et, hg _ _ h2, by rw [hfl]; omega, .inr ⟨b, _, et, rfl, by simp only [Hp.one, if_true]; rfl, ?_, h4, h5, ?_, ?_⟩, by rw [h2]; simp⟩
    · simp only [List.length_append, List.length_take, List.length_drop]; omega
    · simp only [List.size_toArray, List.length_append, List.length_take, List.length_drop, hcl, hfl]; rw [h6] at hcm ⊢; omega
    · simp only []
      rw [flat_append, flat_append, ← flat_take, ← flat_drop, ← h7, hfl, Nat.add_mul]
      have e1 : (cur.toList.take (m * E.sz)).take (q * E.sz) = cur.toList.take (q * E.sz) := by rw [List.take_take, Nat.min_eq_left (by omega)]
      rw [e1]
      have e2 : (cur.toList.take (q * E.sz) ++ flat E ys).length = q * E.sz + ys.length * E.sz := by
        rw [List.length_append, List.length_take, hfl, hcl]; omega
      rw [List.take_append, List.take_of_length_le (by rw [e2]; exact hmul), e2]
      congr 1
      rw [List.drop_take]
theorem run_many {P : Program} {b : Nat} {cur : Array Value} {et : TypeId} {w : World} (hb : w.heap[b]? = some (.cells cur et (0, 0))) {o : Nat} {vs : List Value} (hfit : o + vs.length ≤ cur.size) (h1 : ∀ u ∈ vs, u.oneCell' = true) :
    (storeCells ⟨b, o, none⟩ vs).run P w = .ok () (w.setRow b (cur.toList.take o ++ vs ++ cur.toList.drop (o + vs.length)).toArray) := by
  have := run_storeCells_at P b o et vs 0 cur w hb (by simpa using hfit) h1
  simpa using this
theorem st_many {F : Frz} {L : List HProp} {w : World} {k b m c : Nat} {xs ys : List α} (hs : St F w L) (hk : L[k]? = some (own E (some ⟨b, 0, none⟩) m c xs)) {q : Nat} (hq : q + ys.length ≤ m) :
    ∃ cur et, w.heap[b]? = some (.cells cur et (0, 0)) ∧ q * E.sz + (flat E ys).length ≤ cur.size ∧
      St F (w.setRow b (cur.toList.take (q * E.sz) ++ flat E ys ++ cur.toList.drop (q * E.sz + (flat E ys).length)).toArray) (L.set k (own E (some ⟨b, 0, none⟩) m c (xs.take q ++ ys ++ xs.drop (q + ys.length)))) := by
  obtain ⟨g, hg, _, hA⟩ := hs.at hk
  obtain ⟨cur, et, hb, hfit, _, _⟩ := own_many hA hq hg
  refine ⟨cur, et, hb, hfit, hs.turnAt hk fun g' hg' hA' => ?_⟩
  obtain ⟨cur', et', hb', _, hown, hne⟩ := own_many hA' hq hg'
  rw [hb] at hb'
  cases hb'
  refine ⟨b, hne, rfl, rfl, rfl, by simp, fun j hj _ => setRow_other w b j _ (fun h => hj h), _, fun j o hj => ?_, hown⟩
  simp only [Hp.one] at hj
  split at hj
  · rename_i e1; cases hj; subst e1; exact ⟨st_row hb _, .inl hne⟩
  · cases hj
end

section
variable {P : Program} {T : Tab} {F : Frz} {n : Nat} {Q : Exit → Act → World → Prop} {e : Env} {L : List HProp} {ops : Array Oper} {l : List Oper} {d : Option Tmp} {ty : TypeId} {pos : String} {af : Array Edge}
variable {α : Type} [Inhabited α] {E : Enc α}

theorem run_built {b : Builtin} {args : List Operand} {ats : Array TypeId} {vs : List Value} {a : Act} (hf : Fr n e a) (hv : evs e args = some vs) (w : World) :
    ∃ cs, (execOp a.eval ⟨d, .call ⟨.builtin b, args.toArray, ats⟩, ty, pos, af, none⟩).run P w = (builtin b ats ty cs vs.toArray).run P w := by
  refine ⟨args.toArray.map fun | .const _ => true | _ => false, ?_⟩
  have := hf.evs hv
  simp only [execOp, resolve, invoke, Sem.run_bind, Sem.run_pure, Result.andThen_ok]
  rw [show args.toArray.map a.eval = vs.toArray from by rw [← this]; simp]
  rfl

theorem XL_app (hT : TabOk P T) (k : Nat) {s x : Operand} {t el : TypeId} {i1 i2 : TI} {z : Value} {A B : Option Addr} {m c m' c' bytes : Nat} {xs ys : List α} {e' : Option Addr → Nat → Env} (hk : L[k]? = some (own E A m c xs)) (hv : evs e [s, x] = some [.slice A m c, .slice B m' c']) (hB : ∀ w, St F w L → rdS E (World.hp w) B m' ys)
    (ht : look T t = some i1) (hd : i1.desc = .slice el) (he : look T el = some i2) (hz : i2.zero = some z) (hzs : z.cells.toList.length = i2.size) (hsz : i2.size = E.sz) (hby : i2.bytes = bytes) (hb1 : (m + m') * bytes ≤ 140737488355328) (hb2 : m + m' ≤ 9223372036854775807)
    (hp : ∀ A' c2, putE n d (.slice A' (m + m') c2) e = some (e' A' c2)) (h : ∀ A' c2, XL P F n ops l Q (e' A' c2) (L.set k (own E A' (m + m') c2 (xs ++ ys)))) : XL P F n ops (⟨d, .call ⟨.builtin .append, #[s, x], #[t, t]⟩, ty, pos, af, none⟩ :: l) Q e L :=
  XL_next (o := ⟨d, .call ⟨.builtin .append, #[s, x], #[t, t]⟩, ty, pos, af, none⟩) rfl fun a w hf hs => by
    obtain ⟨A', c2, w', hr, hs'⟩ := append_own (P := P) hT ht hd he hz hzs hsz hs hk (hB w hs) (c' := c') (by rw [hby]; exact hb1) (by simp only [maxLen]; omega) ty
    obtain ⟨cs, hrun⟩ := run_built (P := P) (d := d) (ty := ty) (pos := pos) (af := af) (b := .append) (ats := #[t, t]) hf hv w
    refine ⟨_, w', _, _, .inl ?_, hp A' c2, hs', h A' c2⟩
    rw [hrun]
    simp [builtin, hr]
/-- One element, laid in a block of its own. -/
theorem XL_app1 (hT : TabOk P T) (k j : Nat) (y : α) {s x : Operand} {t el eb : TypeId} {i1 i2 : TI} {z : Value} {A : Option Addr} {m c c' b bytes : Nat} {cs : List Value} {xs : List α} {e' : Option Addr → Nat → Env} (hk : L[k]? = some (own E A m c xs)) (hj : L[j]? = some (blk b cs eb)) (hc : cs = E.enc y) (hv : evs e [s, x] = some [.slice A m c, .slice (some ⟨b, 0, none⟩) 1 c'])
    (ht : look T t = some i1) (hd : i1.desc = .slice el) (he : look T el = some i2) (hz : i2.zero = some z) (hzs : z.cells.toList.length = i2.size) (hsz : i2.size = E.sz) (hby : i2.bytes = bytes) (hb1 : (m + 1) * bytes ≤ 140737488355328) (hb2 : m + 1 ≤ 9223372036854775807)
    (hp : ∀ A' c2, putE n d (.slice A' (m + 1) c2) e = some (e' A' c2)) (h : ∀ A' c2, XL P F n ops l Q (e' A' c2) (L.set k (own E A' (m + 1) c2 (xs ++ [y])))) : XL P F n ops (⟨d, .call ⟨.builtin .append, #[s, x], #[t, t]⟩, ty, pos, af, none⟩ :: l) Q e L :=
  XL_app hT k hk hv (fun w hs => by obtain ⟨g, hg, _, hA⟩ := hs.at hj; exact (blk_rdS hA (m := 1) (xs := [y]) rfl (by rw [hc]; simp [flat])).le hg) ht hd he hz hzs hsz hby hb1 hb2 hp h
/-- What is frozen, or came in. -/
theorem XL_appF (hT : TabOk P T) (k : Nat) {s x : Operand} {t el : TypeId} {i1 i2 : TI} {z : Value} {A B : Option Addr} {m c m' c' bytes : Nat} {xs ys : List α} {e' : Option Addr → Nat → Env} (hk : L[k]? = some (own E A m c xs)) (hv : evs e [s, x] = some [.slice A m c, .slice B m' c']) (r : rdS E F.heap B m' ys)
    (ht : look T t = some i1) (hd : i1.desc = .slice el) (he : look T el = some i2) (hz : i2.zero = some z) (hzs : z.cells.toList.length = i2.size) (hsz : i2.size = E.sz) (hby : i2.bytes = bytes) (hb1 : (m + m') * bytes ≤ 140737488355328) (hb2 : m + m' ≤ 9223372036854775807)
    (hp : ∀ A' c2, putE n d (.slice A' (m + m') c2) e = some (e' A' c2)) (h : ∀ A' c2, XL P F n ops l Q (e' A' c2) (L.set k (own E A' (m + m') c2 (xs ++ ys)))) : XL P F n ops (⟨d, .call ⟨.builtin .append, #[s, x], #[t, t]⟩, ty, pos, af, none⟩ :: l) Q e L :=
  XL_app hT k hk hv (fun w hs => r.le hs.frz) ht hd he hz hzs hsz hby hb1 hb2 hp h
theorem XL_appO (hT : TabOk P T) (k j : Nat) {s x : Operand} {t el : TypeId} {i1 i2 : TI} {z : Value} {A B : Option Addr} {m c m' c' c3 bytes : Nat} {xs ys : List α} {e' : Option Addr → Nat → Env} (hk : L[k]? = some (own E A m c xs)) (hj : L[j]? = some (own E B m' c3 ys)) (hv : evs e [s, x] = some [.slice A m c, .slice B m' c'])
    (ht : look T t = some i1) (hd : i1.desc = .slice el) (he : look T el = some i2) (hz : i2.zero = some z) (hzs : z.cells.toList.length = i2.size) (hsz : i2.size = E.sz) (hby : i2.bytes = bytes) (hb1 : (m + m') * bytes ≤ 140737488355328) (hb2 : m + m' ≤ 9223372036854775807)
    (hp : ∀ A' c2, putE n d (.slice A' (m + m') c2) e = some (e' A' c2)) (h : ∀ A' c2, XL P F n ops l Q (e' A' c2) (L.set k (own E A' (m + m') c2 (xs ++ ys)))) : XL P F n ops (⟨d, .call ⟨.builtin .append, #[s, x], #[t, t]⟩, ty, pos, af, none⟩ :: l) Q e L :=
  XL_app hT k hk hv (fun w hs => by obtain ⟨g, hg, _, hA⟩ := hs.at hj; exact (own_rd hA).le hg) ht hd he hz hzs hsz hby hb1 hb2 hp h

/-- copy into a part of one's own slice, from its q-th element on. -/
theorem XL_copy (hT : TabOk P T) (k q : Nat) {s x : Operand} {t t2 el : TypeId} {i1 i2 : TI} {b o m c dm dc m' c' : Nat} {B : Option Addr} {xs ys : List α} {e' : Env} (hk : L[k]? = some (own E (some ⟨b, 0, none⟩) m c xs)) (hv : evs e [s, x] = some [.slice (some ⟨b, o, none⟩) dm dc, .slice B m' c']) (ho : o = q * E.sz) (hB : ∀ w, St F w L → rdS E (World.hp w) B m' ys)
    (hq : q + Nat.min m' dm ≤ m) (ht : look T t = some i1) (hd : i1.desc = .slice el) (he : look T el = some i2) (hsz : i2.size = E.sz) (hp : putE n d (.int .i64 (Nat.min m' dm : Nat)) e = some e')
    (h : XL P F n ops l Q e' (L.set k (own E (some ⟨b, 0, none⟩) m c (xs.take q ++ ys.take (Nat.min m' dm) ++ xs.drop (q + Nat.min m' dm))))) : XL P F n ops (⟨d, .call ⟨.builtin .copy, #[s, x], #[t, t2]⟩, ty, pos, af, none⟩ :: l) Q e L :=
  XL_next (o := ⟨d, .call ⟨.builtin .copy, #[s, x], #[t, t2]⟩, ty, pos, af, none⟩) rfl fun a w hf hs => by
    subst ho
    have hu := hT.und t i1 ht
    rw [hd] at hu
    have hr0 := hB w hs
    have hlt : (ys.take (Nat.min m' dm)).length = Nat.min m' dm := by rw [List.length_take, ← hr0.1]; exact Nat.min_eq_left (Nat.min_le_left _ _)
    obtain ⟨cur, et, hb, hfit, hs'⟩ := st_many hs hk (ys := ys.take (Nat.min m' dm)) (q := q) (by rw [hlt]; exact hq)
    have hst := run_many (P := P) hb hfit (flat_one E _)
    rw [hlt] at hs'
    obtain ⟨cs, hrun⟩ := run_built (P := P) (d := d) (ty := ty) (pos := pos) (af := af) (b := .copy) (ats := #[t, t2]) hf hv w
    refine ⟨.int .i64 (Nat.min m' dm : Nat), _, e', _, .inl ?_, hp, hs', h⟩
    rw [hrun]
    have hfc : (Builtin.firstCells E.sz (Nat.min m' dm) (.slice B m' c')).run P w = .ok (flat E (ys.take (Nat.min m' dm))).toArray w := by
      cases hBB : B with
      | none =>
        have : m' = 0 := by
          rcases Nat.eq_zero_or_pos m' with h0 | h0
          · exact h0
          · have := hr0.pos h0; rw [hBB] at this; cases this
        subst this
        have : Nat.min 0 dm = 0 := Nat.zero_min dm
        rw [this]
        simp [Builtin.firstCells, flat]
      | some ad =>
        rw [hBB] at hr0
        have := run_loadCells_list (P := P) w ad (flat E (ys.take (Nat.min m' dm))) (fun j v hj => by
          rw [← flat_take, List.getElem?_take] at hj
          split at hj
          · exact cellH_world (hr0.2.2 j v hj)
          · cases hj)
        rw [flat_length, hlt] at this
        simpa [Builtin.firstCells] using this
    simp only [builtin, Sem.run_bind, Builtin.copy_, run_underlying hu, Result.andThen_ok, Builtin.lenOf, Sem.run_pure, run_sizeOf hT w he, hsz, hfc, hst, List.getElem?_toArray, List.getElem?_cons_zero, List.getElem?_cons_succ]
    rfl
/-- clear of such a part. -/
theorem XL_clear (hT : TabOk P T) (k q : Nat) (z0 : α) {s : Operand} {t el : TypeId} {i1 i2 : TI} {z : Value} {b o m c dm dc : Nat} {xs : List α} {e' : Env} (hk : L[k]? = some (own E (some ⟨b, 0, none⟩) m c xs)) (hv : evs e [s] = some [.slice (some ⟨b, o, none⟩) dm dc]) (ho : o = q * E.sz)
    (hq : q + dm ≤ m) (ht : look T t = some i1) (hd : i1.desc = .slice el) (he : look T el = some i2) (hz : i2.zero = some z) (hE : E.enc z0 = z.cells.toList) (hsz : i2.size = E.sz) (hp : putE n d (.tuple #[]) e = some e')
    (h : XL P F n ops l Q e' (L.set k (own E (some ⟨b, 0, none⟩) m c (xs.take q ++ List.replicate dm z0 ++ xs.drop (q + dm))))) : XL P F n ops (⟨d, .call ⟨.builtin .clear, #[s], #[t]⟩, ty, pos, af, none⟩ :: l) Q e L :=
  XL_next (o := ⟨d, .call ⟨.builtin .clear, #[s], #[t]⟩, ty, pos, af, none⟩) rfl fun a w hf hs => by
    subst ho
    have hu := hT.und t i1 ht
    rw [hd] at hu
    have hzs : z.cells.size = E.sz := by have := E.len z0; rw [hE] at this; simpa using this
    obtain ⟨cur, et, hb, hfit, hs'⟩ := st_many hs hk (ys := List.replicate dm z0) (q := q) (by simpa using hq)
    have hst := run_many (P := P) hb hfit (flat_one E _)
    rw [List.length_replicate] at hs'
    obtain ⟨cs, hrun⟩ := run_built (P := P) (d := d) (ty := ty) (pos := pos) (af := af) (b := .clear) (ats := #[t]) hf hv w
    have hzc : (Builtin.zeroCells z.cells dm).toList = flat E (List.replicate dm z0) := by
      rw [flat_replicate, hE]
      have := made_list z.cells dm (.inl (by rw [hzs]; exact E.pos))
      show (madeCells z.cells (dm * z.cells.size)).toList = _
      rw [this]
    by_cases hdm : dm = 0
    · subst hdm
      refine ⟨.tuple #[], w, e', _, .inl ?_, hp, ?_, h⟩
      · rw [hrun]
        simp [builtin, Builtin.clear_, run_underlying hu]
      · have : xs.take q ++ List.replicate 0 z0 ++ xs.drop (q + 0) = xs := by simp
        rw [this]
        exact hs.perm ((perm_at hk).trans (perm_set hk))
    · refine ⟨.tuple #[], _, e', _, .inl ?_, hp, hs', h⟩
      rw [hrun]
      obtain ⟨dm, rfl⟩ : ∃ q, dm = q + 1 := ⟨dm - 1, by omega⟩
      simp only [builtin, Sem.run_bind, Builtin.clear_, run_underlying hu, Result.andThen_ok, Sem.run_pure, List.getElem?_toArray, List.getElem?_cons_zero, run_zeroValue hT w he hz, hzc, hst]
theorem XL_clear0 (hT : TabOk P T) {s : Operand} {t el : TypeId} {i1 : TI} {c : Nat} {e' : Env} (hv : evs e [s] = some [.slice none 0 c]) (ht : look T t = some i1) (hd : i1.desc = .slice el) (hp : putE n d (.tuple #[]) e = some e') (h : XL P F n ops l Q e' L) : XL P F n ops (⟨d, .call ⟨.builtin .clear, #[s], #[t]⟩, ty, pos, af, none⟩ :: l) Q e L :=
  XL_val (o := ⟨d, .call ⟨.builtin .clear, #[s], #[t]⟩, ty, pos, af, none⟩) rfl hp (fun a w hf hs => by
    have hu := hT.und t i1 ht
    rw [hd] at hu
    obtain ⟨cs, hrun⟩ := run_built (P := P) (d := d) (ty := ty) (pos := pos) (af := af) (b := .clear) (ats := #[t]) hf hv w
    rw [hrun]
    simp [builtin, Builtin.clear_, run_underlying hu]) h

theorem XL_put1 (hT : TabOk P T) (k : Nat) (x' : α) {t : TypeId} {x y : Operand} {b o m c : Nat} {xs : List α} {v : Value} {ti : TI} (hk : L[k]? = some (own E (some ⟨b, 0, none⟩) m c xs)) (hx : ev e x = some (.pointer (some ⟨b, o, none⟩))) (hy : ev e y = some v) (hz : E.sz = 1) (ht : look T t = some ti) (hl : ti.size = 1) (hv : v.cells.toList = [v])
    (ho : o < m) (hx' : E.enc x' = [v]) (h : XL P F n ops l Q e (L.set k (own E (some ⟨b, 0, none⟩) m c (xs.set o x')))) : XL P F n ops (⟨none, .store t x y, ty, pos, af, none⟩ :: l) Q e L :=
  XL_put hT k (i := o) (f := 0) hk hx (by rw [hz, Nat.mul_one, Nat.add_zero]) hy ht hv (by rw [hl]; rfl) ho (by rw [hz]; rfl) (by have := E.one x' v (by rw [hx']; simp); simp [this]) (by
    have h1 := E.len (xs.getD o default)
    rw [hz] at h1
    obtain ⟨u, hu⟩ := List.length_eq_one_iff.1 h1
    rw [hu, hx']; rfl) h
theorem XL_idxl (hT : TabOk P T) {t el : TypeId} {i1 : TI} {de2 : TypeDesc} {z2 : Option Value} {sz2 by2 : Nat} {x ix : Operand} {b o m c : Nat} {k : IntKind} {i : Int} {e' : Env} (hx : ev e x = some (.slice (some ⟨b, o, none⟩) m c)) (hi : ev e ix = some (.int k i)) (ht : look T t = some i1) (hd : i1.desc = .slice el) (he : look T el = some ⟨de2, z2, sz2, by2⟩)
    (h0 : 0 ≤ i) (h1 : i < m) (hp : putE n d (.pointer (some ⟨b, o + i.toNat * sz2, none⟩)) e = some e') (h : XL P F n ops l Q e' L) : XL P F n ops (⟨d, .indexAddr t x ix, ty, pos, af, none⟩ :: l) Q e L :=
  XL_idxs hT hx hi ht hd he h0 h1 (by rw [Addr.add_lit]; exact hp) h
theorem XL_idxal (hT : TabOk P T) {t el : TypeId} {i1 : TI} {de2 : TypeDesc} {z2 : Option Value} {sz2 by2 : Nat} {x ix : Operand} {b o m : Nat} {k : IntKind} {i : Int} {e' : Env} (hx : ev e x = some (.pointer (some ⟨b, o, none⟩))) (hi : ev e ix = some (.int k i)) (ht : look T t = some i1) (hd : i1.desc = .array m el) (he : look T el = some ⟨de2, z2, sz2, by2⟩)
    (h0 : 0 ≤ i) (h1 : i < m) (hp : putE n d (.pointer (some ⟨b, o + i.toNat * sz2, none⟩)) e = some e') (h : XL P F n ops l Q e' L) : XL P F n ops (⟨d, .indexAddr t x ix, ty, pos, af, none⟩ :: l) Q e L :=
  XL_idxa hT hx hi ht hd he h0 h1 (by rw [Addr.add_lit]; exact hp) h

/-- A whole array out of a slice of one-cell elements. -/
theorem XL_loadA (hT : TabOk P T) (k : Nat) {t el : TypeId} {x : Operand} {b o m c len : Nat} {xs : List α} {ti : TI} {e' : Env} (hk : L[k]? = some (own E (some ⟨b, 0, none⟩) m c xs)) (hx : ev e x = some (.pointer (some ⟨b, o, none⟩))) (hz : E.sz = 1) (h1 : o + len ≤ m) (ht : look T t = some ti) (hd : ti.desc = .array len el) (hsz : ti.size = len)
    (hp : putE n d (.agg (flat E ((xs.drop o).take len)).toArray) e = some e') (h : XL P F n ops l Q e' L) : XL P F n ops (⟨d, .load t x, ty, pos, af, none⟩ :: l) Q e L :=
  XL_val (o := ⟨d, .load t x, ty, pos, af, none⟩) rfl hp (fun a w hf hs => by
    obtain ⟨g, hg, _, hA⟩ := hs.at hk
    have hr := (own_rd hA).le hg
    have hcell : ∀ j u, (flat E xs)[j]? = some u → w.cell? ((⟨b, 0, none⟩ : Addr).add j) = some u := fun j u hj => cellH_world (hr.2.2 j u hj)
    have hv : partV T t (flat E xs) o = some (.agg (flat E ((xs.drop o).take len)).toArray) := by
      have hagg : ti.agg = true := by unfold TI.agg; rw [hd]
      have e1 : (flat E xs).drop o = flat E (xs.drop o) := by have := flat_drop E xs o; rwa [hz, Nat.mul_one] at this
      have e2 : (flat E (xs.drop o)).take len = flat E ((xs.drop o).take len) := by have := flat_take E (xs.drop o) len; rwa [hz, Nat.mul_one] at this
      simp only [partV, ht, hagg, cond_true, hsz, e1, e2]
    have := run_load_cells (P := P) hT hv (w := w) (a := ⟨b, 0, none⟩) hcell (fun ti' h' => by
      rw [ht] at h'; cases h'; rw [hsz, flat_length, hz, ← hr.1]; omega)
    rw [Addr.add_lit, Nat.zero_add] at this
    simp [execOp, hf.ev hx, this]) h
/-- A whole array laid over another one. -/
theorem XL_storeA (hT : TabOk P T) (k : Nat) {t : TypeId} {x y : Operand} {b : Nat} {cs : List Value} {et : TypeId} {vs : List Value} {ti : TI} (hk : L[k]? = some (blk b cs et)) (hx : ev e x = some (.pointer (some ⟨b, 0, none⟩))) (hy : ev e y = some (.agg vs.toArray)) (ht : look T t = some ti) (hl : vs.length = ti.size)
    (hsz : cs.length = ti.size) (h1 : ∀ u ∈ vs, u.oneCell' = true) (h : XL P F n ops l Q e (L.set k (blk b vs et))) : XL P F n ops (⟨none, .store t x y, ty, pos, af, none⟩ :: l) Q e L :=
  XL_next (o := ⟨none, .store t x y, ty, pos, af, none⟩) rfl fun a w hf hs => by
    obtain ⟨hb, hs'⟩ := hs.row hk (putAt cs 0 vs)
    have hpa : putAt cs 0 vs = vs := by
      rw [putAt_eq _ _ _ (by omega)]
      simp only [List.take_zero, List.nil_append, Nat.zero_add]
      rw [List.drop_of_length_le (by omega), List.append_nil]
    rw [hpa] at hs'
    refine ⟨undef, _, e, _, .inr ⟨rfl, ?_⟩, rfl, hs', h⟩
    have := run_store_cells (P := P) hT ht hb (i := 0) (v := .agg vs.toArray) (vs := vs) (by simp [Value.cells]) hl (by omega) h1
    rw [hpa] at this
    simp [execOp, hf.ev hx, hf.ev hy, this]
end
end Go.Cof
