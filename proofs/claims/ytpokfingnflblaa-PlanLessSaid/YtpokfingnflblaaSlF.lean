/- Slices of slices, literals of slices, make, append, copy. -/
import Derived.Test.YtpokfingnflblaaSlE
set_option linter.unusedVariables false
set_option linter.unusedSimpArgs false
set_option linter.unusedSectionVars false
namespace Go.Cof
open Go.RowKit

section
variable {P : Program} {T : Tab} {F : Frz} {n : Nat} {Q : Exit → Act → World → Prop} {e : Env} {L : List HProp} {ops : Array Oper} {l : List Oper} {d : Option Tmp} {ty : TypeId} {pos : String} {af : Array Edge}

def evo (e : Env) : Option Operand → Option (Option Value)
  | none => some none
  | some x => match ev e x with | some v => some (some v) | none => none
theorem Fr.evo {a : Act} (hf : Fr n e a) {x : Option Operand} {v : Option Value} (h : Cof.evo e x = some v) : x.map a.eval = v := by
  cases x with
  | none => simp only [Cof.evo, Option.some.injEq] at h; simp [h]
  | some x =>
    simp only [Cof.evo] at h
    cases h1 : Cof.ev e x with
    | none => rw [h1] at h; cases h
    | some u => rw [h1] at h; simp only [Option.some.injEq] at h; rw [← h, Option.map_some, hf.ev h1]

/-- The three bounds of a slice expression over a length and a room. -/
inductive Cut3 (m c : Nat) : Option Value → Option Value → Option Value → Nat → Nat → Nat → Prop
  | all : Cut3 m c none none none 0 m c
  | lo {k : IntKind} {x : Int} (h0 : 0 ≤ x) (h1 : x ≤ m) : Cut3 m c (some (.int k x)) none none x.toNat m c
  | hi {k : IntKind} {y : Int} (h0 : 0 ≤ y) (h1 : y ≤ c) : Cut3 m c none (some (.int k y)) none 0 y.toNat c
  | lohi {k k' : IntKind} {x y : Int} (h0 : 0 ≤ x) (h1 : x ≤ y) (h2 : y ≤ c) : Cut3 m c (some (.int k x)) (some (.int k' y)) none x.toNat y.toNat c
  | himx {k k' : IntKind} {y z : Int} (h0 : 0 ≤ y) (h1 : y ≤ z) (h2 : z ≤ c) : Cut3 m c none (some (.int k y)) (some (.int k' z)) 0 y.toNat z.toNat
  | lohimx {k k' k2 : IntKind} {x y z : Int} (h0 : 0 ≤ x) (h1 : x ≤ y) (h2 : y ≤ z) (h3 : z ≤ c) : Cut3 m c (some (.int k x)) (some (.int k' y)) (some (.int k2 z)) x.toNat y.toNat z.toNat

theorem run_bounds {m c : Nat} {lo hi mx : Option Value} {x y z : Nat} (h : Cut3 m c lo hi mx x y z) (b : Bool) (w : World) : (Instr.sliceBounds b m c lo hi mx).run P w = .ok (x, y, z) w := by
  cases h with
  | all => simp [Instr.sliceBounds]
  | lo h0 h1 => simp [Instr.sliceBounds, run_sliceBound, h0, h1]
  | hi h0 h1 => simp [Instr.sliceBounds, run_sliceBound, h0, h1]
  | @lohi k k' x y h0 h1 h2 =>
    have eh : (y.toNat : Int) = y := Int.toNat_of_nonneg (by omega)
    simp [Instr.sliceBounds, run_sliceBound, h0, h1, h2, eh, (by omega : 0 ≤ y)]
  | @himx k k' y z h0 h1 h2 =>
    have eh : (z.toNat : Int) = z := Int.toNat_of_nonneg (by omega)
    simp [Instr.sliceBounds, run_sliceBound, h0, h1, h2, eh, (by omega : 0 ≤ z)]
  | @lohimx k k' k2 x y z h0 h1 h2 h3 =>
    have eh : (y.toNat : Int) = y := Int.toNat_of_nonneg (by omega)
    have ez : (z.toNat : Int) = z := Int.toNat_of_nonneg (by omega)
    simp [Instr.sliceBounds, run_sliceBound, h0, h1, h2, h3, eh, ez, (by omega : 0 ≤ y), (by omega : 0 ≤ z)]

theorem run_slice (hT : TabOk P T) {t el : TypeId} {i1 i2 : TI} (ht : look T t = some i1) (hd : i1.desc = .slice el) (he : look T el = some i2) {A : Option Addr} {m c : Nat} {lo hi mx : Option Value} {x y z : Nat} (h : Cut3 m c lo hi mx x y z) (w : World) :
    (Instr.sliceAt t (.slice A m c) lo hi mx).run P w = .ok (.slice (sbA A i2.size x z) (y - x) (z - x)) w := by
  have hu := hT.und t i1 ht
  rw [hd] at hu
  simp [Instr.sliceAt, Instr.slice, run_underlying hu, run_bounds h, run_sizeOf hT w he, sbA]
theorem XL_slice (hT : TabOk P T) {t el : TypeId} {i1 : TI} {de2 : TypeDesc} {z2 : Option Value} {sz2 by2 : Nat} {x : Operand} {xl xh xm : Option Operand} {A : Option Addr} {m c : Nat} {lo hi mx : Option Value} {p q r : Nat} {e' : Env} (hx : ev e x = some (.slice A m c)) (h1 : evo e xl = some lo) (h2 : evo e xh = some hi) (h3 : evo e xm = some mx) (hc : Cut3 m c lo hi mx p q r)
    (ht : look T t = some i1) (hd : i1.desc = .slice el) (he : look T el = some ⟨de2, z2, sz2, by2⟩) (hp : putE n d (.slice (sbA A sz2 p r) (q - p) (r - p)) e = some e') (h : XL P F n ops l Q e' L) : XL P F n ops (⟨d, .slice t x xl xh xm, ty, pos, af, none⟩ :: l) Q e L :=
  XL_val (o := ⟨d, .slice t x xl xh xm, ty, pos, af, none⟩) rfl hp (fun a w hf hs => by
    have hr := run_slice (P := P) hT ht hd he (A := A) hc w
    simp [execOp, hf.ev hx, hf.evo h1, hf.evo h2, hf.evo h3, hr]) h
theorem sbA_zero (A : Option Addr) (sz c : Nat) : sbA A sz 0 c = A := by
  unfold sbA
  split
  · rfl
  · cases A <;> simp [Addr.add_zero']
theorem sbA_lit {b o sz l c : Nat} (h : l < c) : sbA (some ⟨b, o, none⟩) sz l c = some ⟨b, o + l * sz, none⟩ := by
  unfold sbA
  rw [if_neg (by omega)]
  simp [Addr.add_lit]
/-- [:y]: the place stays. -/
theorem XL_slice0 (hT : TabOk P T) {t el : TypeId} {i1 : TI} {de2 : TypeDesc} {z2 : Option Value} {sz2 by2 : Nat} {x : Operand} {xh xm : Option Operand} {A : Option Addr} {m c : Nat} {hi mx : Option Value} {q r : Nat} {e' : Env} (hx : ev e x = some (.slice A m c)) (h2 : evo e xh = some hi) (h3 : evo e xm = some mx) (hc : Cut3 m c none hi mx 0 q r)
    (ht : look T t = some i1) (hd : i1.desc = .slice el) (he : look T el = some ⟨de2, z2, sz2, by2⟩) (hp : putE n d (.slice A q r) e = some e') (h : XL P F n ops l Q e' L) : XL P F n ops (⟨d, .slice t x none xh xm, ty, pos, af, none⟩ :: l) Q e L :=
  XL_slice hT hx rfl h2 h3 hc ht hd he (by rw [sbA_zero]; exact hp) h
/-- Of a place that is known. -/
theorem XL_slicel (hT : TabOk P T) {t el : TypeId} {i1 : TI} {de2 : TypeDesc} {z2 : Option Value} {sz2 by2 : Nat} {x : Operand} {xl xh xm : Option Operand} {b o : Nat} {m c : Nat} {lo hi mx : Option Value} {p q r : Nat} {e' : Env} (hx : ev e x = some (.slice (some ⟨b, o, none⟩) m c)) (h1 : evo e xl = some lo) (h2 : evo e xh = some hi) (h3 : evo e xm = some mx) (hc : Cut3 m c lo hi mx p q r) (hlt : p < r)
    (ht : look T t = some i1) (hd : i1.desc = .slice el) (he : look T el = some ⟨de2, z2, sz2, by2⟩) (hp : putE n d (.slice (some ⟨b, o + p * sz2, none⟩) (q - p) (r - p)) e = some e') (h : XL P F n ops l Q e' L) : XL P F n ops (⟨d, .slice t x xl xh xm, ty, pos, af, none⟩ :: l) Q e L :=
  XL_slice hT hx h1 h2 h3 hc ht hd he (by rw [sbA_lit hlt]; exact hp) h
/-- The whole of an array. -/
theorem XL_slicea (hT : TabOk P T) {t el : TypeId} {i1 : TI} {de2 : TypeDesc} {z2 : Option Value} {sz2 by2 : Nat} {x : Operand} {a : Addr} {m : Nat} {e' : Env} (hx : ev e x = some (.pointer (some a))) (ht : look T t = some i1) (hd : i1.desc = .array m el) (he : look T el = some ⟨de2, z2, sz2, by2⟩) (hp : putE n d (.slice (some a) m m) e = some e') (h : XL P F n ops l Q e' L) : XL P F n ops (⟨d, .slice t x none none none, ty, pos, af, none⟩ :: l) Q e L :=
  XL_val (o := ⟨d, .slice t x none none none, ty, pos, af, none⟩) rfl hp (fun ac w hf hs => by
    have hu := hT.und t i1 ht
    rw [hd] at hu
    have hb := run_bounds (P := P) (Cut3.all (m := m) (c := m)) false w
    simp only [execOp, Option.map_none, hf.ev hx, Instr.sliceAt, Sem.run_bind, run_underlying hu, Result.andThen_ok, Instr.sureAddr, Sem.run_pure, hb, run_sizeOf hT w he]
    congr 3
    rw [show 0 * sz2 = 0 from Nat.zero_mul _, Addr.add_zero']
    simp) h
/-- A slice seen as an array's address. -/
theorem XL_arr (hT : TabOk P T) {t el : TypeId} {i1 : TI} {x : Operand} {A : Option Addr} {m c k : Nat} {e' : Env} (hx : ev e x = some (.slice A m c)) (ht : look T t = some i1) (hd : i1.desc = .array k el) (hk : k ≤ m) (hp : putE n d (.pointer A) e = some e') (h : XL P F n ops l Q e' L) : XL P F n ops (⟨d, .sliceToArrayPointer t x, ty, pos, af, none⟩ :: l) Q e L :=
  XL_val (o := ⟨d, .sliceToArrayPointer t x, ty, pos, af, none⟩) rfl hp (fun ac w hf hs => by
    have hu := hT.und t i1 ht
    rw [hd] at hu
    simp [execOp, hf.ev hx, Instr.arrayAt, run_underlying hu, Nat.not_lt.2 hk]) h

/-! new rows -/
def zerosL (k : Nat) (z : List Value) : List Value := (List.replicate k z).flatten
theorem made_get (z : List Value) : ∀ (k i : Nat), i < k * z.length → (zerosL k z)[i]? = z[i % z.length]?
  | 0, i, h => by simp at h
  | k + 1, i, h => by
    have e1 : zerosL (k + 1) z = z ++ zerosL k z := by simp [zerosL, List.replicate_succ]
    rw [e1]
    by_cases hi : i < z.length
    · rw [List.getElem?_append_left hi, Nat.mod_eq_of_lt hi]
    · rw [List.getElem?_append_right (by omega), made_get z k (i - z.length) (by rw [Nat.succ_mul] at h; omega)]
      congr 1
      exact (Nat.mod_eq_sub_mod (by omega)).symm
theorem zerosL_length (k : Nat) (z : List Value) : (zerosL k z).length = k * z.length := by simp [zerosL]
theorem made_list (z : Array Value) (k : Nat) (hz : 0 < z.size ∨ k = 0) : (madeCells z (k * z.size)) = (zerosL k z.toList).toArray := by
  rw [← Array.toList_inj]
  apply List.ext_getElem?
  intro i
  have hl : z.toList.length = z.size := by simp
  by_cases hi : i < k * z.size
  · have := made_get z.toList k i (by rw [hl]; exact hi)
    simp only [] at this ⊢
    rw [this, hl]
    have hm : i % z.size < z.size := Nat.mod_lt _ (by rcases hz with h | h; exact h; subst h; simp at hi)
    simp [madeCells, hi, hm]
  · rw [List.getElem?_eq_none (by simp [size_madeCells]; omega), List.getElem?_eq_none (by rw [show (zerosL k z.toList).toArray.toList = zerosL k z.toList from rfl, zerosL_length, hl]; omega)]

theorem XL_lit (hT : TabOk P T) {t el : TypeId} {k : Nat} {parts : List (Nat × Operand)} {vs : List (Nat × Value)} {i1 i2 : TI} {z : Value} {r : List Value} {e' : Nat → Env} (ht : look T t = some i1) (hd : i1.desc = .slice el) (he : look T el = some i2) (hz : i2.zero = some z) (hsz : z.cells.toList.length = i2.size) (hpos : Nat.blt 0 i2.size = true) (hk : Nat.ble (k * i2.size) 16777216 = true) (hv : evp e parts = some vs)
    (hr : fillA i2.size (zerosL k z.cells.toList) vs = some r) (hp : ∀ b, putE n d (.slice (some ⟨b, 0, none⟩) k k) e = some (e' b)) (h : ∀ b, XL P F n ops l Q (e' b) (blk b r el :: L)) : XL P F n ops (⟨d, .buildSlice t k parts.toArray, ty, pos, af, none⟩ :: l) Q e L :=
  XL_next (o := ⟨d, .buildSlice t k parts.toArray, ty, pos, af, none⟩) rfl fun a w hf hs => by
    have hu := hT.und t i1 ht
    rw [hd] at hu
    have h6 : (parts.toArray.map fun (i, x) => (i, a.eval x)).toList = vs := by simpa using hf.evp hv
    have h7 : z.cells.size = i2.size := by rw [← hsz]; simp
    have hp2 : 0 < i2.size := by simpa [Nat.blt_eq] using hpos
    have h10 := fillA_eq i2.size vs _ _ hr
    refine ⟨.slice (some ⟨w.heap.size, 0, none⟩) k k, w.alloc (.cells r.toArray el), e' _, _, .inl ?_, hp _, hs.alloc (by simp [blk, Hp.one]), h _⟩
    have hle : ¬ (k * i2.size > 2 ^ 24) := by have := Nat.le_of_ble_eq_true hk; omega
    by_cases h0 : k * i2.size = 0
    · have e1 : (zerosL k z.cells.toList).toArray = (#[] : Array Value) := by
        have : (zerosL k z.cells.toList).length = 0 := by rw [zerosL_length, hsz, h0]
        rw [List.eq_nil_of_length_eq_zero this]
      rw [e1] at h10
      simp only [execOp, Instr.buildSlice, Sem.run_bind, run_underlying hu, Result.andThen_ok, run_sizeOf hT w he, hle, if_false, h0, if_true, Sem.run_pure]
      rw [h6]
      simp only [Array.range_zero', Array.map_empty, h10]
      simp [newRow]
    · have e1 := made_list z.cells k (.inl (by omega))
      rw [h7] at e1
      rw [← e1] at h10
      simp only [madeCells, h7] at h10
      simp only [execOp, Instr.buildSlice, Sem.run_bind, run_underlying hu, Result.andThen_ok, run_sizeOf hT w he, hle, if_false, h0, Sem.run_pure, run_zeroValue hT w he hz, h7]
      rw [h6, h10]
      simp [newRow]

section
variable {α : Type} [Inhabited α] {E : Enc α}
theorem flat_replicate (k : Nat) (x : α) : flat E (List.replicate k x) = zerosL k (E.enc x) := by
  induction k with
  | zero => simp [flat, zerosL]
  | succ k ih => simp only [flat, zerosL, List.replicate_succ, List.flatMap_cons, List.flatten_cons] at ih ⊢; rw [ih]
/-- make([]T, k), make([]T, k, c). -/
theorem XL_make (E : Enc α) (z0 : α) (hT : TabOk P T) {t el : TypeId} {i1 i2 : TI} {z : Value} {x y : Operand} {kx ky : IntKind} {k c : Int} {e' : Nat → Env} (ht : look T t = some i1) (hd : i1.desc = .slice el) (he : look T el = some i2) (hz : i2.zero = some z) (hE : E.enc z0 = z.cells.toList) (hsz : i2.size = E.sz)
    (hx : ev e x = some (.int kx k)) (hy : ev e y = some (.int ky c)) (h0 : 0 ≤ k) (hkc : k ≤ c) (hb : (i2.bytes : Int) * c ≤ 281474976710656) (hc : c ≤ 9223372036854775807)
    (hp : ∀ b, putE n d (.slice (some ⟨b, 0, none⟩) k.toNat c.toNat) e = some (e' b)) (h : ∀ b, XL P F n ops l Q (e' b) (own E (some ⟨b, 0, none⟩) k.toNat c.toNat (List.replicate k.toNat z0) :: L)) : XL P F n ops (⟨d, .makeSlice t x y, ty, pos, af, none⟩ :: l) Q e L :=
  XL_next (o := ⟨d, .makeSlice t x y, ty, pos, af, none⟩) rfl fun a w hf hs => by
    have hu := hT.und t i1 ht
    rw [hd] at hu
    obtain ⟨xi, g1, g2, g3, g4⟩ := hT.inf el i2 he
    have hr := run_make (P := P) w t el xi z hu g1 (by rw [g2, hz]) kx ky k c h0 hkc (by rw [g4]; exact hb) hc
    have hzs : z.cells.size = E.sz := by have := E.len z0; rw [hE] at this; simpa using this
    have hm := made_list z.cells c.toNat (.inl (by rw [hzs]; exact E.pos))
    rw [hzs] at hm
    rw [g3, hsz, hm] at hr
    refine ⟨.slice (some ⟨w.heap.size, 0, none⟩) k.toNat c.toNat, w.alloc (.cells (zerosL c.toNat z.cells.toList).toArray el), e' _, _, .inl (by simp only [execOp, hf.ev hx, hf.ev hy, Sem.run_bind, hr, Result.andThen_ok, Sem.run_pure]), hp _, hs.alloc ?_, h w.heap.size⟩
    refine .inr ⟨w.heap.size, (zerosL c.toNat z.cells.toList).toArray, el, rfl, by simp [Hp.one], by simp, by omega, by simp only [maxLen]; omega, by simp [zerosL_length, hzs], ?_⟩
    simp only []
    rw [← hE, ← flat_replicate, flat_take]
    congr 1
    rw [List.take_replicate]
    congr 1; omega

/-! append to a slice of one's own -/
theorem append_room (w : World) (t ty el e0 : TypeId) (i : TypeInfo) (ht : P.underlying t = some (.slice el)) (hi : P.info? el = some i)
    (g sLen sCap : Nat) (cur : Array Value) (hg : w.heap[g]? = some (.cells cur e0 (0, 0)))
    (a : Addr) (m c : Nat) (news : List Value) (hl : news.length = m * i.size) (hnews : ∀ j u, news[j]? = some u → w.cell? (a.add j) = some u) (h1 : ∀ u ∈ news, u.oneCell' = true)
    (hroom : sLen + m ≤ sCap) (hfit : sLen * i.size + news.length ≤ cur.size) :
    (Builtin.append_ #[t, t] ty #[.slice (some ⟨g, 0, none⟩) sLen sCap, .slice (some a) m c]).run P w =
      .ok (.slice (some ⟨g, 0, none⟩) (sLen + m) sCap) (w.setRow g (cur.toList.take (sLen * i.size) ++ news ++ cur.toList.drop (sLen * i.size + news.length)).toArray) := by
  have hf := run_firstCells_some (P := P) w i.size m a m c news hl hnews
  have hst := run_storeCells_at P g (sLen * i.size) e0 news 0 cur w hg (by simpa using hfit) h1
  simp only [Nat.add_zero] at hst
  simp [Builtin.append_, run_underlying ht, sizeOf, typeInfo, hi, Builtin.lenOf, hroom, hf, Addr.add_lit, hst]
theorem append_own (hT : TabOk P T) {t el : TypeId} {i1 i2 : TI} {z : Value} (ht : look T t = some i1) (hd : i1.desc = .slice el) (he : look T el = some i2) (hz : i2.zero = some z) (hzs : z.cells.toList.length = i2.size) (hsz : i2.size = E.sz)
    {w : World} {k : Nat} {A B : Option Addr} {m c m' c' : Nat} {xs ys : List α} (hs : St F w L) (hk : L[k]? = some (own E A m c xs)) (hB : rdS E (World.hp w) B m' ys) (hbytes : (m + m') * i2.bytes ≤ 140737488355328) (hml : m + m' ≤ maxLen) (ty : TypeId) :
    ∃ A' c2 w', (Builtin.append_ #[t, t] ty #[.slice A m c, .slice B m' c']).run P w = .ok (.slice A' (m + m') c2) w' ∧ St F w' (L.set k (own E A' (m + m') c2 (xs ++ ys))) := by
  have hu := hT.und t i1 ht
  rw [hd] at hu
  obtain ⟨xi, g1, g2, g3, g4⟩ := hT.inf el i2 he
  have hz' : xi.zero = some z := by rw [g2, hz]
  have hzsz : z.cells.size = E.sz := by rw [← hsz, ← hzs]; simp
  have hxs : xi.size = E.sz := by rw [g3, hsz]
  have hlim : m + m' ≤ 9223372036854775807 := by simp only [maxLen] at hml; omega
  have hnl : (flat E ys).length = m' * xi.size := by rw [flat_length, hB.1, hxs]
  obtain ⟨g, hg, hdj, hA⟩ := hs.at hk
  have hown := own_len hA
  by_cases hm0 : m' = 0
  · -- nothing is appended
    subst hm0
    have hys : ys = [] := List.eq_nil_of_length_eq_zero hB.1.symm
    subst hys
    refine ⟨A, c, w, ?_, ?_⟩
    · have hl0 : ∀ (x : Addr), (loadCells x 0).run P w = .ok #[] w := fun x => by simpa using run_loadCells_list (P := P) w x [] (by simp)
      cases A <;> cases B <;> simp [Builtin.append_, run_underlying hu, sizeOf, typeInfo, g1, Builtin.lenOf, hown.2.1, Builtin.firstCells, storeCells, hl0]
    · simp only [Nat.add_zero, List.append_nil]
      exact hs.perm ((perm_at hk).trans (perm_set hk))
  · obtain ⟨ad, hBa⟩ : ∃ ad, B = some ad := Option.isSome_iff_exists.1 (hB.pos (by omega))
    subst hBa
    have hnews : ∀ j u, (flat E ys)[j]? = some u → w.cell? (ad.add j) = some u := fun j u hj => cellH_world (hB.2.2 j u hj)
    have hone := flat_one E ys
    have hz0 : Builtin.zeroCells z.cells = fun q => madeCells z.cells (q * z.cells.size) := rfl
    -- the new row, where there is no room
    have grow : ∀ (r : World) (v : Nat) (cells : Array Value), r = w.drew.alloc (.cells cells el) → v = w.heap.size → (∃ c2, m + m' ≤ c2 ∧ c2 ≤ maxLen ∧ cells.size = c2 * E.sz ∧ cells.toList.take ((m + m') * E.sz) = flat E (xs ++ ys)) →
        ∃ c2, cells.size = c2 * E.sz ∧ St F r (L.set k (own E (some ⟨v, 0, none⟩) (m + m') c2 (xs ++ ys))) := by
      rintro r v cells rfl rfl ⟨c2, h1, h2, h3, h4⟩
      refine ⟨c2, h3, ?_⟩
      have hs2 := (hs.drew).perm (perm_at hk)
      have hs3 : St F (w.drew.alloc (.cells cells el)) (own E (some ⟨w.heap.size, 0, none⟩) (m + m') c2 (xs ++ ys) :: own E A m c xs :: L.eraseIdx k) := hs2.alloc (.inr ⟨w.heap.size, cells, el, rfl, by simp [Hp.one], by rw [List.length_append, hown.1, hB.1], h1, h2, h3, h4⟩)
      refine (hs3.sub ?_).perm (perm_set hk)
      exact (List.Sublist.cons _ (List.Sublist.refl _)).cons_cons _
    have capfit : ∀ old, old < m + m' → grownCap w (m + m') old el ≤ maxLen ∧ m + m' ≤ grownCap w (m + m') old el := fun old ho => ⟨grownCap_le_maxLen w _ _ _ hml, grownCap_ge w _ _ _⟩
    rcases hA with ⟨rfl, rfl, rfl, rfl⟩ | ⟨b, cur, e0, rfl, hb, h1, h2, h3, h4, h5⟩
    · -- nil
      have hr := run_append_nil (P := P) w t ty el xi z hu g1 hz' ad m' c' (flat E ys) hnl hnews (by omega) (by omega) (by rw [g4]; have := hbytes; simp only [Nat.zero_add] at this; omega)
      obtain ⟨q1, q2⟩ := capfit 0 (by omega)
      simp only [Nat.zero_add] at q1 q2
      obtain ⟨c2, e1, e2⟩ := grow _ _ ((flat E ys).toArray ++ Builtin.zeroCells z.cells (grownCap w m' 0 el - m')) rfl rfl ⟨grownCap w m' 0 el, by omega, q1, by
          simp only [Array.size_append, List.size_toArray, size_zeroCells, hzsz, flat_length, ← hB.1, ← Nat.add_mul]; congr 1; omega, by
          simp only [Array.toList_append, List.nil_append, Nat.zero_add]
          rw [← flat_length_of hB.1]
          exact List.take_left⟩
      have e3 : c2 = grownCap w m' 0 el := by
        have e4 : ((flat E ys).toArray ++ Builtin.zeroCells z.cells (grownCap w m' 0 el - m')).size = grownCap w m' 0 el * E.sz := by
          simp only [Array.size_append, List.size_toArray, size_zeroCells, hzsz, flat_length, ← hB.1, ← Nat.add_mul]; congr 1; omega
        rw [e4] at e1
        exact (Nat.eq_of_mul_eq_mul_right E.pos e1).symm
      subst e3
      refine ⟨_, _, _, by rw [hr, Nat.zero_add], e2⟩
    · have hbw : w.heap[b]? = some (.cells cur e0 (0, 0)) := hg _ _ hb
      by_cases hroom : m + m' ≤ c
      · -- there is room
        have hfit : m * xi.size + (flat E ys).length ≤ cur.size := by rw [hnl, h4, hxs, ← Nat.add_mul]; exact Nat.mul_le_mul_right _ hroom
        have hr := append_room (P := P) w t ty el e0 xi hu g1 b m c cur hbw ad m' c' (flat E ys) hnl hnews hone hroom hfit
        refine ⟨_, _, _, hr, hs.turnAt hk fun g' hg' hA' => ?_⟩
        have hcl : cur.toList.length = cur.size := by simp
        rw [hxs] at hfit hnl
        refine ⟨b, ?_, rfl, rfl, rfl, by simp, fun j hj _ => setRow_other w b j _ (fun h => hj h), Hp.one b (.cells (cur.toList.take (m * xi.size) ++ flat E ys ++ cur.toList.drop (m * xi.size + (flat E ys).length)).toArray e0 (0, 0)), fun j o hj => ?_, .inr ⟨b, (cur.toList.take (m * xi.size) ++ flat E ys ++ cur.toList.drop (m * xi.size + (flat E ys).length)).toArray, e0, rfl, by simp [Hp.one], by rw [List.length_append, h1, hB.1], hroom, h3, ?_, ?_⟩⟩
        · rcases hA' with ⟨h, _⟩ | ⟨b', cur', e', h6, h7, _⟩
          · cases h
          · simp only [Option.some.injEq, Addr.mk.injEq, and_true] at h6; subst h6; rw [h7]; simp
        · simp only [Hp.one] at hj
          split at hj
          · rename_i e1
            cases hj
            subst e1
            refine ⟨st_row hbw _, .inl ?_⟩
            rcases hA' with ⟨h, _⟩ | ⟨b', cur', e', h6, h7, _⟩
            · cases h
            · simp only [Option.some.injEq, Addr.mk.injEq, and_true] at h6; subst h6; rw [h7]; simp
          · cases hj
        · rw [hxs]
          simp only [List.size_toArray, List.length_append, List.length_take, List.length_drop, hcl, hnl]
          rw [h4] at hfit ⊢
          omega
        · simp only [hxs]
          rw [h5, flat_append]
          have : (m + m') * E.sz = (flat E xs ++ flat E ys).length := by rw [List.length_append, flat_length, flat_length, ← h1, ← hB.1, Nat.add_mul]
          rw [this]
          exact List.take_left
      · -- there is none
        have hrd := own_rd (E := E) (A := some ⟨b, 0, none⟩) (m := m) (c := c) (xs := xs) (h := g) (.inr ⟨b, cur, e0, rfl, hb, h1, h2, h3, h4, h5⟩)
        have holds : ∀ j u, (flat E xs)[j]? = some u → w.cell? ((⟨b, 0, none⟩ : Addr).add j) = some u := fun j u hj => cellH_world ((hrd.le hg).2.2 j u hj)
        have hol : (flat E xs).length = m * xi.size := by rw [flat_length, h1, hxs]
        have hr := run_append_grow (P := P) w t ty el xi z hu g1 hz' ⟨b, 0, none⟩ m c (flat E xs) hol holds ad m' c' (flat E ys) hnl hnews (by omega) (by omega) (growslice_fits (by omega) (by rw [g4]; exact hbytes))
        obtain ⟨q1, q2⟩ := capfit c (by omega)
        have e4 : ((flat E xs).toArray ++ (flat E ys).toArray ++ Builtin.zeroCells z.cells (grownCap w (m + m') c el - (m + m'))).size = grownCap w (m + m') c el * E.sz := by
          simp only [Array.size_append, List.size_toArray, size_zeroCells, hzsz, flat_length, ← hB.1, ← h1, ← Nat.add_mul]; congr 1; omega
        obtain ⟨c2, e1, e2⟩ := grow _ _ ((flat E xs).toArray ++ (flat E ys).toArray ++ Builtin.zeroCells z.cells (grownCap w (m + m') c el - (m + m'))) rfl rfl ⟨grownCap w (m + m') c el, q2, q1, e4, by
            simp only [Array.toList_append]
            have : (m + m') * E.sz = (flat E xs ++ flat E ys).length := by rw [List.length_append, flat_length, flat_length, ← h1, ← hB.1, Nat.add_mul]
            rw [this, flat_append]
            exact List.take_left⟩
        rw [e4] at e1
        have e3 : c2 = grownCap w (m + m') c el := (Nat.eq_of_mul_eq_mul_right E.pos e1).symm
        subst e3
        exact ⟨_, _, _, hr, e2⟩
where
  flat_length_of {ys : List α} {m' : Nat} (h : m' = ys.length) : (flat E ys).length = m' * E.sz := by rw [flat_length, h]
end
end
end Go.Cof
