/- append of zeros; copy into the spare room of one's own slice; slices.overlaps; calls with a state of their own. -/
import Derived.Test.YtpokfingnflblaaSlW
import Derived.Lib.AppendZerosOnto
import Derived.Lib.Overlaps
set_option linter.unusedVariables false
set_option linter.unusedSectionVars false
namespace Go.Cof
open Go.RowKit

section
variable {P : Program} {T : Tab} {F : Frz} {n : Nat} {Q : Exit → Act → World → Prop} {e : Env} {L : List HProp} {ops : Array Oper} {l : List Oper} {d : Option Tmp} {ty : TypeId} {pos : String} {af : Array Edge}
variable {α : Type} [Inhabited α] {E : Enc α}
theorem first_cells {w : World} {A : Option Addr} {m q c : Nat} {xs : List α} (r : rdS E (World.hp w) A m xs) (hq : q ≤ m) : (Builtin.firstCells E.sz q (.slice A q c)).run P w = .ok (flat E (xs.take q)).toArray w := by
  have hlt : (xs.take q).length = q := by rw [List.length_take, ← r.1]; exact Nat.min_eq_left hq
  cases A with
  | none =>
    have hm : m = 0 := by
      rcases Nat.eq_zero_or_pos m with h0 | h0
      · exact h0
      · have := r.pos h0; cases this
    have : q = 0 := by omega
    subst this
    simp [Builtin.firstCells, flat]
  | some a =>
    refine run_firstCells_some (P := P) w E.sz q a q c (flat E (xs.take q)) (by rw [flat_length, hlt]) (fun j v hj => ?_)
    rw [← flat_take, List.getElem?_take] at hj
    split at hj
    · exact cellH_world (r.2.2 j v hj)
    · cases hj
/-- append(s[:q], make([]T, z)...), where there is no room: new memory. -/
theorem XL_appZ (z0 : α) (hT : TabOk P T) (k : Nat) {s x : Operand} {t tn el : TypeId} {i1 i2 i3 : TI} {kn kq : IntKind} {v : Value} {A : Option Addr} {m c q c' z bytes : Nat} {zi : Int} {xs : List α} {e' : Nat → Nat → Env} (hk : L[k]? = some (own E A m c xs)) (hv : evs e [s, x] = some [.slice A q c', .int kq zi]) (hzi : zi = (z : Int))
    (hq : q ≤ m) (hz0 : 0 < z) (hroom : c' < q + z) (ht : look T t = some i1) (hd : i1.desc = .slice el) (he : look T el = some i2) (hz : i2.zero = some v) (hE : E.enc z0 = v.cells.toList) (hsz : i2.size = E.sz) (htn : look T tn = some i3) (hdn : i3.desc = .int kn) (hby : i2.bytes = bytes) (hb1 : (q + z) * bytes ≤ 140737488355328) (hb2 : q + z ≤ 281474976710656)
    (hp : ∀ b c2, putE n d (.slice (some ⟨b, 0, none⟩) (q + z) c2) e = some (e' b c2)) (h : ∀ b c2, XL P F n ops l Q (e' b c2) (own E (some ⟨b, 0, none⟩) (q + z) c2 (xs.take q ++ List.replicate z z0) :: L)) : XL P F n ops (⟨d, .call ⟨.builtin .append, #[s, x], #[t, tn]⟩, ty, pos, af, none⟩ :: l) Q e L :=
  XL_next (o := ⟨d, .call ⟨.builtin .append, #[s, x], #[t, tn]⟩, ty, pos, af, none⟩) rfl fun a w hf hs => by
    subst hzi
    have hu := hT.und t i1 ht
    rw [hd] at hu
    have hun := hT.und tn i3 htn
    rw [hdn] at hun
    obtain ⟨xi, g1, g2, g3, g4⟩ := hT.inf el i2 he
    have hzs : v.cells.size = E.sz := by have := E.len z0; rw [hE] at this; simpa using this
    obtain ⟨g, hg, _, hA⟩ := hs.at hk
    have hrd := (own_rd hA).le hg
    have hlt : (xs.take q).length = q := by rw [List.length_take, ← hrd.1]; exact Nat.min_eq_left hq
    have hrd2 : rdS E (World.hp w.drew) A m xs := hrd
    have hold := first_cells (P := P) (c := c') hrd2 hq
    have hxs : xi.size = E.sz := by rw [g3, hsz]
    rw [← hxs] at hold
    have hbq : z * xi.bytes ≤ 281474976710656 := by
      rw [g4, hby]
      have : z * bytes ≤ (q + z) * bytes := Nat.mul_le_mul_right _ (by omega)
      omega
    have hr := Go.Lib.run_append_grow_zeros (P := P) w t tn ty el xi v kq kn hu hun g1 (by rw [g2, hz]) A q c' (flat E (xs.take q)) hold z hz0 (by rw [hxs]; exact E.pos) hroom (by omega) hbq (growslice_fits hroom (by rw [g4, hby]; exact hb1))
    have hml : q + z ≤ maxLen := by simp only [maxLen]; omega
    have hcl := grownCap_le_maxLen w (q + z) c' el hml
    have hcg := grownCap_ge w (q + z) c' el
    have hzc : ∀ j, (Builtin.zeroCells v.cells j).size = j * E.sz := fun j => by rw [size_zeroCells, hzs]
    have hzl : (Builtin.zeroCells v.cells z).toList = flat E (List.replicate z z0) := by
      rw [flat_replicate, hE]
      have := made_list v.cells z (.inl (by rw [hzs]; exact E.pos))
      show (madeCells v.cells (z * v.cells.size)).toList = _
      rw [this]
    have hlen : (xs.take q ++ List.replicate z z0).length = q + z := by rw [List.length_append, hlt, List.length_replicate]
    obtain ⟨cs, hrun⟩ := run_built (P := P) (d := d) (ty := ty) (pos := pos) (af := af) (b := .append) (ats := #[t, tn]) hf hv w
    refine ⟨_, _, e' w.heap.size (grownCap w (q + z) c' el), _, .inl (by rw [hrun]; simp [builtin, hr]; rfl), hp _ _, (hs.drew).alloc (.inr ⟨w.heap.size, _, el, rfl, by simp [Hp.one]; rfl, hlen.symm, hcg, hcl, ?_, ?_⟩), h _ _⟩
    · simp only [Array.size_append, List.size_toArray, flat_length, hlt, hzc, ← Nat.add_mul]
      congr 1
      omega
    · simp only [Array.toList_append, hzl]
      rw [flat_append]
      have : (q + z) * E.sz = (flat E (xs.take q) ++ flat E (List.replicate z z0)).length := by rw [← flat_append, flat_length, hlen]
      rw [this, ← List.append_assoc]
      exact List.take_left

/-! copy into the spare room -/
theorem own_grow {b m c : Nat} {xs ys : List α} {g : Hp} (o : own E (some ⟨b, 0, none⟩) m c xs g) {q : Nat} (hq : q ≤ m) (hm : m ≤ q + ys.length) (hc : q + ys.length ≤ c) {w : World} (hg : Hp.le g (World.hp w)) :
    ∃ cur et, w.heap[b]? = some (.cells cur et (0, 0)) ∧ q * E.sz + (flat E ys).length ≤ cur.size ∧
      own E (some ⟨b, 0, none⟩) (q + ys.length) c (xs.take q ++ ys) (Hp.one b (.cells (cur.toList.take (q * E.sz) ++ flat E ys ++ cur.toList.drop (q * E.sz + (flat E ys).length)).toArray et (0, 0))) ∧ g b ≠ none := by
  rcases o with ⟨h1, _⟩ | ⟨q', cur, et, h1, h2, h3, h4, h5, h6, h7⟩
  · cases h1
  · simp only [Option.some.injEq, Addr.mk.injEq, and_true] at h1
    subst h1
    have hfl : (flat E ys).length = ys.length * E.sz := flat_length E ys
    have hcm : (q + ys.length) * E.sz ≤ cur.size := by rw [h6]; exact Nat.mul_le_mul_right _ hc
    have hqm : q * E.sz ≤ m * E.sz := Nat.mul_le_mul_right _ hq
    rw [Nat.add_mul] at hcm
    have hcl : cur.toList.length = cur.size := by simp
    refine ⟨cur, et, hg _ _ h2, by rw [hfl]; omega, .inr ⟨b, _, et, rfl, by simp only [Hp.one, if_true]; rfl, ?_, hc, h5, ?_, ?_⟩, by rw [h2]; simp⟩
    · simp only [List.length_append, List.length_take]; omega
    · simp only [List.size_toArray, List.length_append, List.length_take, List.length_drop, hcl, hfl]; rw [h6] at hcm ⊢; omega
    · simp only []
      rw [flat_append, ← flat_take, ← h7, List.take_take, Nat.min_eq_left hqm]
      have e2 : (q + ys.length) * E.sz = (cur.toList.take (q * E.sz) ++ flat E ys).length := by
        rw [List.length_append, List.length_take, hfl, hcl, Nat.add_mul]; omega
      rw [e2]
      exact List.take_left
theorem st_grow {w : World} {k b m c : Nat} {xs ys : List α} (hs : St F w L) (hk : L[k]? = some (own E (some ⟨b, 0, none⟩) m c xs)) {q : Nat} (hq : q ≤ m) (hm : m ≤ q + ys.length) (hc : q + ys.length ≤ c) :
    ∃ cur et, w.heap[b]? = some (.cells cur et (0, 0)) ∧ q * E.sz + (flat E ys).length ≤ cur.size ∧
      St F (w.setRow b (cur.toList.take (q * E.sz) ++ flat E ys ++ cur.toList.drop (q * E.sz + (flat E ys).length)).toArray) (L.set k (own E (some ⟨b, 0, none⟩) (q + ys.length) c (xs.take q ++ ys))) := by
  obtain ⟨g, hg, _, hA⟩ := hs.at hk
  obtain ⟨cur, et, hb, hfit, _, _⟩ := own_grow hA hq hm hc hg
  refine ⟨cur, et, hb, hfit, hs.turnAt hk fun g' hg' hA' => ?_⟩
  obtain ⟨cur', et', hb', _, hown, hne⟩ := own_grow hA' hq hm hc hg'
  rw [hb] at hb'
  cases hb'
  refine ⟨b, hne, rfl, rfl, rfl, by simp, fun j hj _ => setRow_other w b j _ (fun h => hj h), _, fun j o hj => ?_, hown⟩
  simp only [Hp.one] at hj
  split at hj
  · rename_i e1; cases hj; subst e1; exact ⟨st_row hb _, .inl hne⟩
  · cases hj
/-- copy(s[q:], ys), laid over its end and into its spare room. -/
theorem XL_copyG (hT : TabOk P T) (k q : Nat) {s x : Operand} {t t2 el : TypeId} {i1 i2 : TI} {b o m c dm dc m' c' j : Nat} {B : Option Addr} {xs ys : List α} {e' : Env} (hk : L[k]? = some (own E (some ⟨b, 0, none⟩) m c xs)) (hv : evs e [s, x] = some [.slice (some ⟨b, o, none⟩) dm dc, .slice B m' c']) (ho : o = q * E.sz) (hj : Nat.min m' dm = j) (hB : ∀ w, St F w L → rdS E (World.hp w) B j ys)
    (hq : q ≤ m) (hm : m ≤ q + j) (hc : q + j ≤ c) (ht : look T t = some i1) (hd : i1.desc = .slice el) (he : look T el = some i2) (hsz : i2.size = E.sz) (hp : putE n d (.int .i64 (j : Nat)) e = some e')
    (h : XL P F n ops l Q e' (L.set k (own E (some ⟨b, 0, none⟩) (q + j) c (xs.take q ++ ys)))) : XL P F n ops (⟨d, .call ⟨.builtin .copy, #[s, x], #[t, t2]⟩, ty, pos, af, none⟩ :: l) Q e L :=
  XL_next (o := ⟨d, .call ⟨.builtin .copy, #[s, x], #[t, t2]⟩, ty, pos, af, none⟩) rfl fun a w hf hs => by
    subst ho
    have hu := hT.und t i1 ht
    rw [hd] at hu
    have hr0 := hB w hs
    have hyl := hr0.1
    obtain ⟨cur, et, hb, hfit, hs'⟩ := st_grow hs hk (ys := ys) hq (by omega) (by omega)
    have hst := run_many (P := P) hb hfit (flat_one E _)
    rw [← hyl] at hs'
    obtain ⟨cs, hrun⟩ := run_built (P := P) (d := d) (ty := ty) (pos := pos) (af := af) (b := .copy) (ats := #[t, t2]) hf hv w
    refine ⟨.int .i64 (j : Nat), _, e', _, .inl ?_, hp, hs', h⟩
    rw [hrun]
    have hfc : (Builtin.firstCells E.sz (Nat.min m' dm) (.slice B m' c')).run P w = .ok (flat E ys).toArray w := by
      rw [hj]
      have h1 := first_cells (P := P) (c := c') hr0 (Nat.le_refl j)
      rw [List.take_of_length_le (by omega)] at h1
      cases B <;> exact h1
    simp only [builtin, Sem.run_bind, Builtin.copy_, run_underlying hu, Result.andThen_ok, Builtin.lenOf, Sem.run_pure, run_sizeOf hT w he, hsz, hfc, hst, List.getElem?_toArray, List.getElem?_cons_zero, List.getElem?_cons_succ]
    rw [← hj]
    rfl

theorem XL_copyJ (hT : TabOk P T) (k q j : Nat) {s x : Operand} {t t2 el : TypeId} {i1 i2 : TI} {b o m c dm dc m' c' : Nat} {B : Option Addr} {xs : List α} (ys : List α) {e' : Env} (hk : L[k]? = some (own E (some ⟨b, 0, none⟩) m c xs)) (hv : evs e [s, x] = some [.slice (some ⟨b, o, none⟩) dm dc, .slice B m' c']) (ho : o = q * E.sz) (hj : Nat.min m' dm = j) (hB : ∀ w, St F w L → rdS E (World.hp w) B j ys)
    (hq : q + j ≤ m) (ht : look T t = some i1) (hd : i1.desc = .slice el) (he : look T el = some i2) (hsz : i2.size = E.sz) (hp : putE n d (.int .i64 (j : Nat)) e = some e')
    (h : XL P F n ops l Q e' (L.set k (own E (some ⟨b, 0, none⟩) m c (xs.take q ++ ys ++ xs.drop (q + j))))) : XL P F n ops (⟨d, .call ⟨.builtin .copy, #[s, x], #[t, t2]⟩, ty, pos, af, none⟩ :: l) Q e L :=
  XL_next (o := ⟨d, .call ⟨.builtin .copy, #[s, x], #[t, t2]⟩, ty, pos, af, none⟩) rfl fun a w hf hs => by
    subst ho
    have hu := hT.und t i1 ht
    rw [hd] at hu
    have hr0 := hB w hs
    have hyl := hr0.1
    obtain ⟨cur, et, hb, hfit, hs'⟩ := st_many hs hk (ys := ys) (q := q) (by omega)
    have hst := run_many (P := P) hb hfit (flat_one E _)
    rw [← hyl] at hs'
    obtain ⟨cs, hrun⟩ := run_built (P := P) (d := d) (ty := ty) (pos := pos) (af := af) (b := .copy) (ats := #[t, t2]) hf hv w
    refine ⟨.int .i64 (j : Nat), _, e', _, .inl ?_, hp, hs', h⟩
    rw [hrun]
    have hfc : (Builtin.firstCells E.sz (Nat.min m' dm) (.slice B m' c')).run P w = .ok (flat E ys).toArray w := by
      rw [hj]
      have h1 := first_cells (P := P) (c := c') hr0 (Nat.le_refl j)
      rw [List.take_of_length_le (by omega)] at h1
      cases B <;> exact h1
    simp only [builtin, Sem.run_bind, Builtin.copy_, run_underlying hu, Result.andThen_ok, Builtin.lenOf, Sem.run_pure, run_sizeOf hT w he, hsz, hfc, hst, List.getElem?_toArray, List.getElem?_cons_zero, List.getElem?_cons_succ]
    rw [← hj]
    rfl

/-! slices.overlaps, of two blocks -/
theorem St.frozen {w : World} (hs : St F w L) {b : Nat} {cs : List Value} {et : TypeId} (hb : blk b cs et F.heap) : w.heap[b]? = some (.cells cs.toArray et (0, 0)) := hs.frz _ _ hb
theorem XL_ovl (hT : TabOk P T) (k : Nat) {f : FuncId} {fn : Func} {s x : Operand} {ats : Array TypeId} {t tr el e2 : TypeId} {i1 i2 : TI} {vb la lc b o m c lb cb : Nat} {us : List Value} {xs : List α} {e' : Env} (hf : P.funcs[f]? = some fn) (hname : (fn.name == "runtime.NumGoroutine") = false) (hbd : fn.body.isNone = true) (hnx : Extern.findNext fn = none)
    (hfe : Extern.find fn = some (Extern.SlicesOverlaps.overlaps #[t, t] #[tr])) (hk : L[k]? = some (own E (some ⟨b, 0, none⟩) m c xs)) (hc0 : 0 < c) (hb : blk vb us e2 F.heap) (hv : evs e [s, x] = some [.slice (some ⟨vb, 0, none⟩) la lc, .slice (some ⟨b, o, none⟩) lb cb])
    (ht : look T t = some i1) (hd : i1.desc = .slice el) (he : look T el = some i2) (hp : putE n d (.bool false) e = some e')
    (h : XL P F n ops l Q e' L) : XL P F n ops (⟨d, .call ⟨.value (.func f), #[s, x], ats⟩, ty, pos, af, none⟩ :: l) Q e L :=
  XL_val (o := ⟨d, .call ⟨.value (.func f), #[s, x], ats⟩, ty, pos, af, none⟩) rfl hp (fun a w hfr hs => by
    have hu := hT.und t i1 ht
    rw [hd] at hu
    obtain ⟨g, hg, hdj, hA⟩ := hs.at hk
    rcases hA with ⟨h1, _⟩ | ⟨q', cur, et, h1, h2, h3, h4, h5, h6, h7⟩
    · cases h1
    simp only [Option.some.injEq, Addr.mk.injEq, and_true] at h1
    subst h1
    have hne : vb ≠ b := fun e1 => by
      subst e1
      rcases hdj vb with h8 | h8
      · rw [show F.heap vb = _ from hb] at h8; cases h8
      · rw [h2] at h8; cases h8
    have hwv : w.heap[vb]? = some (.cells us.toArray e2 (0, 0)) := hs.frozen hb
    have hwb : w.heap[b]? = some (.cells cur et (0, 0)) := hg _ _ h2
    have hcur : cur.size ≠ 0 := by rw [h6]; exact Nat.mul_ne_zero (by omega) (by have := E.pos; omega)
    have key := Go.Lib.run_overlaps_apart (P := P) w t tr el hu i2.size (fun w => run_sizeOf hT w he) ⟨vb, 0, none⟩ ⟨b, o, none⟩ la lc lb cb hne e2 et us.toArray.size cur.size (by simp [World.shape?, hwv]) (by simp [World.shape?, hwb]) hcur (by simp [World.frozen?, hwv]) (by simp [World.frozen?, hwv])
    have hcf : (callFunc f #[.slice (some ⟨vb, 0, none⟩) la lc, .slice (some ⟨b, o, none⟩) lb cb]).run P w = .ok (.value (.bool false)) w := by
      rw [run_callFunc_extern hf hname hbd hnx hfe, key]
      rfl
    have hvs := hfr.evs hv
    simp only [execOp, resolve, Deferred.ofValue, Act.eval, Sem.run_bind, Sem.run_pure, Result.andThen_ok, invoke]
    rw [show (#[s, x] : Array Operand).map a.eval = #[.slice (some ⟨vb, 0, none⟩) la lc, .slice (some ⟨b, o, none⟩) lb cb] from by
      rw [← Array.toList_inj]; simpa using hvs]
    simpa using hcf) h
end
section
variable {P : Program} {T : Tab} {G : Frz} {n : Nat} {e : Env} {d : Option Tmp} {ty : TypeId} {pos : String} {af : Array Edge} {α : Type} [Inhabited α] {E : Enc α}
theorem XV_ld (hT : TabOk P T) {i f : Nat} {b m o : Nat} {xs : List α} {t : TypeId} {x : Operand} {v : Value} {ti : TI} (hx : ev e x = some (.pointer (some ⟨b, o, none⟩))) (r : rdS E G.heap (some ⟨b, 0, none⟩) m xs) (ho : o = i * E.sz + f) (h1 : i < m) (ht : look T t = some ti)
    (hv : partV T t (E.enc (get xs (i : Int))) f = some v) (hsz : Nat.ble (f + ti.size) E.sz = true) : XV P G n ⟨d, .load t x, ty, pos, af, none⟩ e v := .mk fun a w hf hs => by
  have hr := el_load (P := P) hT hs.frz r (i := (i : Int)) (by omega) (by omega) ht hv (by simpa [Nat.ble_eq] using hsz)
  rw [Int.toNat_natCast, ← place_lit ho] at hr
  simp [execOp, hf.ev hx, hr]
end
/-- A goal that the walk leaves alone. -/
theorem hold {p : Prop} (h : True → p) : p := h trivial
section
variable {P : Program} {F : Frz} {n : Nat} {e : Env} {L : List HProp} {fn : Func} {Φ : Value → List HProp → Prop} {L' : List HProp}
theorem Y_res4 {r1 r2 r3 r4 : ResultVar} {v1 v2 v3 v4 : Value} (hr : fn.results = #[r1, r2, r3, r4]) (h1 : RV P F n e L r1 v1) (h2 : RV P F n e L r2 v2) (h3 : RV P F n e L r3 v3) (h4 : RV P F n e L r4 v4) (hL : ∀ h, stars L h → stars L' h) (h : Φ (.tuple #[v1, v2, v3, v4]) L') : Y F n (bodyPost P fn (Post F Φ)) .ret e L := .mk fun a w hf hs =>
  ⟨hf.defers, .tuple #[v1, v2, v3, v4], by
    have key : ∀ f : ResultVar → Sem Value, (f r1).run P w = .ok v1 w → (f r2).run P w = .ok v2 w → (f r3).run P w = .ok v3 w → (f r4).run P w = .ok v4 w → (do let vs ← (#[r1, r2, r3, r4] : Array ResultVar).mapM f; pure (if h : vs.size = 1 then vs[0] else .tuple vs) : Sem Value).run P w = .ok (.tuple #[v1, v2, v3, v4]) w := fun f g1 g2 g3 g4 => by simp [g1, g2, g3, g4]
    unfold results
    rw [hr]
    exact key _ (h1.out a w hf hs) (h2.out a w hf hs) (h3.out a w hf hs) (h4.out a w hf hs), _, L', rfl, h, hs.imp hL⟩
end
end Go.Cof
