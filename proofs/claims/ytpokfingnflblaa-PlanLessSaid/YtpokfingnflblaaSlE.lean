/- Functions that only compute; parts opened and shut; cells at an absolute place; slices of slices; literals; make; append. -/
import Derived.Test.YtpokfingnflblaaSlD
set_option linter.unusedVariables false
set_option linter.unusedSectionVars false
namespace Go.Cof
open Go.RowKit

/-- It returns r; whatever it makes is nobody's. -/
def FnC (P : Program) (f : FuncId) (args : List Value) (pre : Hp → Prop) (r : Value) : Prop := Ctr P f args pre [] (fun v L => v = r ∧ L = [])

theorem blk_le {b : Nat} {cs : List Value} {e : TypeId} {h g : Hp} (hb : blk b cs e h) (hl : Hp.le h g) : blk b cs e g := hl _ _ hb
theorem own_le {α : Type} {E : Enc α} {A : Option Addr} {m c : Nat} {xs : List α} {h g : Hp} (o : own E A m c xs h) (hl : Hp.le h g) : own E A m c xs g := by
  rcases o with o | ⟨q, cur, e, h1, h2, h3⟩
  · exact .inl o
  · exact .inr ⟨q, cur, e, h1, hl _ _ h2, h3⟩
theorem at_mem {L : List HProp} {A : HProp} (k : Nat) (hk : L[k]? = some A) {g : Hp} (h : stars L g) : ∃ h : Hp, Hp.le h g ∧ A h := stars_mem (List.mem_of_getElem? hk) h
theorem blk_at {L : List HProp} (k : Nat) {b : Nat} {cs : List Value} {e : TypeId} (hk : L[k]? = some (blk b cs e)) {g : Hp} (h : stars L g) : blk b cs e g := let ⟨_, hl, hb⟩ := at_mem k hk h; blk_le hb hl
theorem rd_at {α : Type} {E : Enc α} {L : List HProp} (k : Nat) {A : Option Addr} {m c : Nat} {xs : List α} (hk : L[k]? = some (own E A m c xs)) {g : Hp} (h : stars L g) : rdS E g A m xs := let ⟨_, hl, hb⟩ := at_mem k hk h; (own_rd hb).le hl

section
variable {P : Program} {T : Tab} {F : Frz} {n : Nat} {Q : Exit → Act → World → Prop} {e : Env} {L : List HProp} {ops : Array Oper} {l : List Oper} {d : Option Tmp} {ty : TypeId} {pos : String} {af : Array Edge}

theorem XL_loadF (hT : TabOk P T) {t : TypeId} {x : Operand} {b i : Nat} {cs : List Value} {et : TypeId} {v : Value} {ti : TI} {e' : Env} (hx : ev e x = some (.pointer (some ⟨b, i, none⟩))) (hb : blk b cs et F.heap) (ht : look T t = some ti) (hv : partV T t cs i = some v)
    (hsz : Nat.ble (i + ti.size) cs.length = true) (hp : putE n d v e = some e') (h : XL P F n ops l Q e' L) : XL P F n ops (⟨d, .load t x, ty, pos, af, none⟩ :: l) Q e L :=
  XL_val (o := ⟨d, .load t x, ty, pos, af, none⟩) rfl hp (fun a w hf hs => by
    have hc := (blk_rd hb).le hs.frz
    have hr := run_load_cells hT hv (a := ⟨b, 0, none⟩) (w := w) (fun j u hj => cellH_world (hc.2 j u hj)) (fun ti' h' => by
      rw [ht] at h'; cases h'; simpa [Nat.ble_eq] using hsz)
    rw [Addr.add_lit, Nat.zero_add] at hr
    simp [execOp, hf.ev hx, hr]) h
theorem XL_fn {f : FuncId} {args : List Operand} {ats : Array TypeId} {vs : List Value} {pre : Hp → Prop} {r : Value} {e' : Env} (hs : FnC P f vs pre r) (hv : evs e args = some vs) (hp : putE n d r e = some e')
    (hpre : ∀ g : Hp, Hp.le F.heap g → stars L g → pre g) (h : XL P F n ops l Q e' L) : XL P F n ops (⟨d, .call ⟨.value (.func f), args.toArray, ats⟩, ty, pos, af, none⟩ :: l) Q e L :=
  XL_enter (o := ⟨d, .call ⟨.value (.func f), args.toArray, ats⟩, ty, pos, af, none⟩) rfl (args := vs) (Φ := fun v M => v = r ∧ M = L) (fun a w hf => by have := run_call hs.1 hf (d := d) (ty := ty) (pos := pos) (af := af) (ats := ats) (x := .func f) rfl hv w; simpa using this)
    (fun w hw => (Ctr.call (A := []) hs hw hpre).mono fun _ _ ⟨v, L', he, ⟨h1, h2⟩, hs'⟩ => ⟨v, L, he, ⟨h1, rfl⟩, by rw [h2] at hs'; exact hs'⟩)
    (fun v M ⟨h1, h2⟩ => ⟨e', by rw [h1]; exact hp, by rw [h2]; exact h⟩)
section
variable {fn : Func} {r : Value}
theorem Y_fn1 {t : Tmp} {v : Value} (hr : fn.results = #[.tmp t]) (hv : look e t = some v) (h : v = r) : Y F n (bodyPost P fn (Post F fun v L => v = r ∧ L = [])) .ret e L := Y_ret1 hr hv (L' := []) (fun _ _ => trivial) ⟨h, rfl⟩
theorem Y_fn2 {t s : Tmp} {v u : Value} (hr : fn.results = #[.tmp t, .tmp s]) (hv : look e t = some v) (hu : look e s = some u) (h : .tuple #[v, u] = r) : Y F n (bodyPost P fn (Post F fun v L => v = r ∧ L = [])) .ret e L := Y_ret2 hr hv hu (L' := []) (fun _ _ => trivial) ⟨h, rfl⟩
theorem Y_fn3 {t s q : Tmp} {v u x : Value} (hr : fn.results = #[.tmp t, .tmp s, .tmp q]) (hv : look e t = some v) (hu : look e s = some u) (hx : look e q = some x) (h : .tuple #[v, u, x] = r) : Y F n (bodyPost P fn (Post F fun v L => v = r ∧ L = [])) .ret e L := Y_ret3 hr hv hu hx (L' := []) (fun _ _ => trivial) ⟨h, rfl⟩
end

/-! parts opened, shut -/
theorem XL_open {ι : Type} {M : ι → List HProp} {A : HProp} (k : Nat) (hk : L[k]? = some A) (ho : ∀ h, A h → ∃ x, stars (M x) h) (h : ∀ x, XL P F n ops l Q e (M x ++ L.eraseIdx k)) : XL P F n ops l Q e L := .mk fun a w hf hs => by
  obtain ⟨g, h1, h2, h3⟩ := (hs.perm (perm_at hk)).own
  obtain ⟨k1, k2, d', a', b', hA, hL⟩ := h3
  obtain ⟨x, hx⟩ := ho _ hA
  exact h x a w hf ⟨hs.os, hs.tape, hs.output, hs.size, hs.frz, g, h1, h2, stars_append.2 ⟨k1, k2, d', a', b', hx, hL⟩⟩
theorem X_open {c : Code} {ι : Type} {M : ι → List HProp} {A : HProp} (k : Nat) (hk : L[k]? = some A) (ho : ∀ h, A h → ∃ x, stars (M x) h) (h : ∀ x, X P F n c Q e (M x ++ L.eraseIdx k)) : X P F n c Q e L := .mk fun a w hf hs => by
  obtain ⟨g, h1, h2, h3⟩ := (hs.perm (perm_at hk)).own
  obtain ⟨k1, k2, d', a', b', hA, hL⟩ := h3
  obtain ⟨x, hx⟩ := ho _ hA
  exact h x a w hf ⟨hs.os, hs.tape, hs.output, hs.size, hs.frz, g, h1, h2, stars_append.2 ⟨k1, k2, d', a', b', hx, hL⟩⟩
theorem X_openp {c : Code} {ι : Type} {φ : ι → Prop} {M : ι → List HProp} {A : HProp} (k : Nat) (hk : L[k]? = some A) (ho : ∀ h, A h → ∃ x, φ x ∧ stars (M x) h) (h : ∀ x, φ x → X P F n c Q e (M x ++ L.eraseIdx k)) : X P F n c Q e L := .mk fun a w hf hs => by
  obtain ⟨g, h1, h2, h3⟩ := (hs.perm (perm_at hk)).own
  obtain ⟨k1, k2, d', a', b', hA, hL⟩ := h3
  obtain ⟨x, hφ, hx⟩ := ho _ hA
  exact h x hφ a w hf ⟨hs.os, hs.tape, hs.output, hs.size, hs.frz, g, h1, h2, stars_append.2 ⟨k1, k2, d', a', b', hx, hL⟩⟩
theorem XL_openp {ι : Type} {φ : ι → Prop} {M : ι → List HProp} {A : HProp} (k : Nat) (hk : L[k]? = some A) (ho : ∀ h, A h → ∃ x, φ x ∧ stars (M x) h) (h : ∀ x, φ x → XL P F n ops l Q e (M x ++ L.eraseIdx k)) : XL P F n ops l Q e L := .mk fun a w hf hs => by
  obtain ⟨g, h1, h2, h3⟩ := (hs.perm (perm_at hk)).own
  obtain ⟨k1, k2, d', a', b', hA, hL⟩ := h3
  obtain ⟨x, hφ, hx⟩ := ho _ hA
  exact h x hφ a w hf ⟨hs.os, hs.tape, hs.output, hs.size, hs.frz, g, h1, h2, stars_append.2 ⟨k1, k2, d', a', b', hx, hL⟩⟩
/-- The first parts, told as one. -/
theorem stars_shut {M R : List HProp} {A : HProp} (hA : ∀ h, stars M h → A h) {h : Hp} (hs : stars (M ++ R) h) : stars (A :: R) h := by
  obtain ⟨k1, k2, d', a', b', hM, hR⟩ := stars_append.1 hs
  exact ⟨k1, k2, d', a', b', hA _ hM, hR⟩
/-- Parts taken out one by one, each told by its place among those that are left. -/
def takeP (L : List HProp) : List Nat → Option (List HProp × List HProp)
  | [] => some ([], L)
  | k :: ks => match L[k]? with
    | some A => match takeP (L.eraseIdx k) ks with
      | some (M, R) => some (A :: M, R)
      | none => none
    | none => none
theorem takeP_perm : ∀ (ks : List Nat) {L M R : List HProp}, takeP L ks = some (M, R) → L.Perm (M ++ R)
  | [], L, M, R, h => by simp only [takeP, Option.some.injEq, Prod.mk.injEq] at h; rw [← h.1, ← h.2]; exact List.Perm.refl _
  | k :: ks, L, M, R, h => by
    simp only [takeP] at h
    cases h1 : L[k]? with
    | none => rw [h1] at h; cases h
    | some A =>
      rw [h1] at h
      simp only at h
      cases h2 : takeP (L.eraseIdx k) ks with
      | none => rw [h2] at h; cases h
      | some p =>
        obtain ⟨M', R'⟩ := p
        rw [h2] at h
        simp only [Option.some.injEq, Prod.mk.injEq] at h
        rw [← h.1, ← h.2]
        exact (perm_at h1).trans ((takeP_perm ks h2).cons A)
theorem stars_take (ks : List Nat) {L M R : List HProp} (h : takeP L ks = some (M, R)) {g : Hp} (hs : stars L g) : stars (M ++ R) g := stars_perm (takeP_perm ks h) hs
theorem stars_only (ks : List Nat) {L M R : List HProp} (h : takeP L ks = some (M, R)) : ∀ g, stars L g → stars M g := fun g hs => stars_sub (List.sublist_append_left _ _) (stars_take ks h hs)
/-- Some parts are told as one, the others go. -/
theorem stars_fin (ks : List Nat) {L M R : List HProp} {A : HProp} (h : takeP L ks = some (M, R)) (hA : ∀ h, stars M h → A h) : ∀ g, stars L g → stars [A] g := fun g hs => stars_sub (by simp) (stars_shut hA (stars_take ks h hs))
theorem stars_fin1 (k : Nat) {L : List HProp} {A : HProp} (h : L[k]? = some A) : ∀ g, stars L g → stars [A] g := fun g hs => stars_sub (by simp) (stars_perm (perm_at h) hs)

/-- A call that is handed the parts ks. -/
theorem XL_callK {f : FuncId} (ks : List Nat) {args : List Operand} {ats : Array TypeId} {vs : List Value} {pre : Hp → Prop} {A R : List HProp} {Φ : Value → List HProp → Prop} {e' : Value → Env} (hs : Ctr P f vs pre A Φ) (hk : takeP L ks = some (A, R)) (hv : evs e args = some vs)
    (hp : ∀ v, putE n d v e = some (e' v)) (hpre : ∀ g : Hp, Hp.le F.heap g → stars R g → pre g)
    (h : ∀ v L', Φ v L' → XL P F n ops l Q (e' v) (L' ++ R)) : XL P F n ops (⟨d, .call ⟨.value (.func f), args.toArray, ats⟩, ty, pos, af, none⟩ :: l) Q e L :=
  XL_callR (A := A) hs rfl hv (by simp) hp (fun _ h => stars_take ks hk h) hpre h

/-! cells at a place of their own (elements of one cell) -/
section
variable {α : Type} [Inhabited α] {E : Enc α}
theorem el1_load (hT : TabOk P T) {b : Nat} {m : Nat} {xs : List α} {w : World} {g : Hp} (hg : Hp.le g (World.hp w)) (r : rdS E g (some ⟨b, 0, none⟩) m xs) {o : Nat} (h1 : o < m) (hz : E.sz = 1) {t : TypeId} {v : Value} (hv : partV T t (E.enc (xs.getD o default)) 0 = some v) (hsz : ∀ ti, look T t = some ti → ti.size ≤ 1) :
    (Instr.loadAt t (.pointer (some ⟨b, o, none⟩))).run P w = .ok v w := by
  have hx : xs[o]? = some (xs.getD o default) := by
    have := r.1
    rw [List.getD_eq_getElem?_getD, List.getElem?_eq_getElem (by omega)]; rfl
  have := run_load_cells hT hv (w := w) (a := ⟨b, o, none⟩) (fun j u hj => by
    have hc := (r.le hg).cell hx hj
    rw [hz, Nat.mul_one, bs, Option.getD_some, Addr.add_lit, Nat.zero_add] at hc
    exact cellH_world hc) (fun ti h => by rw [E.len, hz]; have := hsz ti h; omega)
  rw [Addr.add_zero'] at this
  exact this
theorem XL_at (hT : TabOk P T) (k : Nat) {b o : Nat} {m c : Nat} {xs : List α} {t : TypeId} {x : Operand} {v : Value} {ti : TI} {e' : Env} (hk : L[k]? = some (own E (some ⟨b, 0, none⟩) m c xs)) (hx : ev e x = some (.pointer (some ⟨b, o, none⟩))) (hz : E.sz = 1) (h1 : o < m) (ht : look T t = some ti) (hsz : Nat.ble ti.size 1 = true)
    (hv : partV T t (E.enc (xs.getD o default)) 0 = some v) (hp : putE n d v e = some e') (h : XL P F n ops l Q e' L) : XL P F n ops (⟨d, .load t x, ty, pos, af, none⟩ :: l) Q e L :=
  XL_val (o := ⟨d, .load t x, ty, pos, af, none⟩) rfl hp (fun a w hf hs => by
    obtain ⟨g, hg, _, hA⟩ := hs.at hk
    have hr := el1_load hT hg (own_rd hA) h1 hz hv (fun ti' h' => by rw [ht] at h'; cases h'; exact Nat.le_of_ble_eq_true hsz)
    simp [execOp, hf.ev hx, hr]) h
theorem XL_atF (hT : TabOk P T) {b o : Nat} {m : Nat} {xs : List α} {t : TypeId} {x : Operand} {v : Value} {ti : TI} {e' : Env} (hx : ev e x = some (.pointer (some ⟨b, o, none⟩))) (r : rdS E F.heap (some ⟨b, 0, none⟩) m xs) (hz : E.sz = 1) (h1 : o < m) (ht : look T t = some ti) (hsz : Nat.ble ti.size 1 = true)
    (hv : partV T t (E.enc (xs.getD o default)) 0 = some v) (hp : putE n d v e = some e') (h : XL P F n ops l Q e' L) : XL P F n ops (⟨d, .load t x, ty, pos, af, none⟩ :: l) Q e L :=
  XL_val (o := ⟨d, .load t x, ty, pos, af, none⟩) rfl hp (fun a w hf hs => by
    have hr := el1_load hT hs.frz r h1 hz hv (fun ti' h' => by rw [ht] at h'; cases h'; exact Nat.le_of_ble_eq_true hsz)
    simp [execOp, hf.ev hx, hr]) h
theorem flat_set {xs : List α} : ∀ {i : Nat} {x : α}, i < xs.length → flat E (xs.set i x) = (flat E xs).take (i * E.sz) ++ E.enc x ++ (flat E xs).drop ((i + 1) * E.sz) := by
  intro i x hi
  have e1 : xs.set i x = xs.take i ++ x :: xs.drop (i + 1) := by rw [List.set_eq_take_append_cons_drop, if_pos hi]
  rw [e1, flat_append, flat_take, flat_drop]
  simp [flat]
/-- An element written, whole or in part: its cells become those of x'. -/
theorem own_write {b m c : Nat} {xs : List α} {g : Hp} (o : own E (some ⟨b, 0, none⟩) m c xs g) {i f : Nat} (hi : i < m) {vs : List Value} {x' : α} (hf : f + vs.length ≤ E.sz) (hx : putAt (E.enc (xs.getD i default)) f vs = E.enc x') {w : World} (hg : Hp.le g (World.hp w)) :
    ∃ cur et, w.heap[b]? = some (.cells cur et (0, 0)) ∧ i * E.sz + f + vs.length ≤ cur.size ∧ own E (some ⟨b, 0, none⟩) m c (xs.set i x') (Hp.one b (.cells (putAt cur.toList (i * E.sz + f) vs).toArray et (0, 0))) ∧ g b ≠ none := by
  rcases o with ⟨h1, _⟩ | ⟨q, cur, et, h1, h2, h3, h4, h5, h6, h7⟩
  · cases h1
  · simp only [Option.some.injEq, Addr.mk.injEq, and_true] at h1
    subst h1
    have hfit : i * E.sz + f + vs.length ≤ m * E.sz := by
      have : (i + 1) * E.sz ≤ m * E.sz := Nat.mul_le_mul_right _ hi
      rw [Nat.succ_mul] at this
      omega
    have hcm : m * E.sz ≤ cur.size := by rw [h6]; exact Nat.mul_le_mul_right _ h4
    refine ⟨cur, et, hg _ _ h2, by omega, .inr ⟨b, (putAt cur.toList (i * E.sz + f) vs).toArray, et, rfl, by simp [Hp.one], by simpa using h3, h4, h5, ?_, ?_⟩, by rw [h2]; simp⟩
    · simp [putAt_length, h6]
    · have hxi : xs[i]? = some (xs.getD i default) := by
        rw [List.getD_eq_getElem?_getD, List.getElem?_eq_getElem (by omega)]; rfl
      have hcl : cur.toList.length = cur.size := by simp
      simp only []
      rw [putAt_eq _ _ _ (by rw [hcl]; omega), flat_set (by omega)]
      rw [putAt_eq _ _ _ (by rw [E.len]; exact hf)] at hx
      have hsplit : cur.toList = flat E xs ++ cur.toList.drop (m * E.sz) := by rw [← h7, List.take_append_drop]
      have hlen : (flat E xs).length = m * E.sz := by rw [flat_length, h3]
      -- the cells of the elements before, of this one, and behind
      have hE : (flat E xs).drop (i * E.sz) = E.enc (xs.getD i default) ++ (flat E xs).drop ((i + 1) * E.sz) := by
        have e2 : xs.drop i = xs.getD i default :: xs.drop (i + 1) := by
          rw [List.drop_eq_getElem_cons (by omega)]
          congr 1
          rw [List.getD_eq_getElem?_getD, List.getElem?_eq_getElem (by omega)]; rfl
        rw [flat_drop, flat_drop, e2]
        simp [flat]
      generalize hX : flat E xs = X at *
      generalize E.enc (xs.getD i default) = Y at *
      have hY : Y.length = E.sz := by
        have := congrArg List.length hE
        simp only [List.length_append, List.length_drop, hlen] at this
        have h8 : (i + 1) * E.sz ≤ m * E.sz := Nat.mul_le_mul_right _ hi
        rw [Nat.succ_mul] at this h8
        omega
      rw [hsplit, ← hx]
      have hiX : i * E.sz + f + vs.length ≤ X.length := by omega
      have eA : (X ++ cur.toList.drop (m * E.sz)).take (i * E.sz + f) = X.take (i * E.sz + f) := List.take_append_of_le_length (by omega)
      have eB : (X ++ cur.toList.drop (m * E.sz)).drop (i * E.sz + f + vs.length) = X.drop (i * E.sz + f + vs.length) ++ cur.toList.drop (m * E.sz) := List.drop_append_of_le_length (by omega)
      rw [eA, eB]
      have e3 : X.take (i * E.sz + f) = X.take (i * E.sz) ++ Y.take f := by
        rw [List.take_add, hE, List.take_append_of_le_length (by omega)]
      have e4 : X.drop (i * E.sz + f + vs.length) = Y.drop (f + vs.length) ++ X.drop ((i + 1) * E.sz) := by
        rw [show i * E.sz + f + vs.length = i * E.sz + (f + vs.length) from by omega, ← List.drop_drop, hE, List.drop_append_of_le_length (by omega)]
      rw [e3, e4]
      have e5 : (X.take (i * E.sz) ++ Y.take f ++ vs ++ (Y.drop (f + vs.length) ++ X.drop ((i + 1) * E.sz) ++ cur.toList.drop (m * E.sz))) = (X.take (i * E.sz) ++ (Y.take f ++ vs ++ Y.drop (f + vs.length)) ++ X.drop ((i + 1) * E.sz)) ++ cur.toList.drop (m * E.sz) := by simp [List.append_assoc]
      rw [e5, List.take_append_of_le_length, List.take_of_length_le]
      · simp only [List.length_append, List.length_take, List.length_drop, hlen, hY]
        have h8 : (i + 1) * E.sz ≤ m * E.sz := Nat.mul_le_mul_right _ hi
        rw [Nat.succ_mul] at h8 ⊢
        omega
      · simp only [List.length_append, List.length_take, List.length_drop, hlen, hY]
        have h8 : (i + 1) * E.sz ≤ m * E.sz := Nat.mul_le_mul_right _ hi
        rw [Nat.succ_mul] at h8 ⊢
        omega
theorem XL_put (hT : TabOk P T) (k : Nat) {t : TypeId} {x y : Operand} {b i f m c : Nat} {ad : Addr} {xs : List α} {vs : List Value} {v : Value} {ti : TI} {x' : α} (hk : L[k]? = some (own E (some ⟨b, 0, none⟩) m c xs)) (hx : ev e x = some (.pointer (some ad))) (had : ad = ⟨b, i * E.sz + f, none⟩) (hy : ev e y = some v) (ht : look T t = some ti) (hv : v.cells.toList = vs) (hl : vs.length = ti.size)
    (hi : i < m) (hf : Nat.ble (f + vs.length) E.sz = true) (h1 : vs.all Value.oneCell' = true) (hx' : putAt (E.enc (xs.getD i default)) f vs = E.enc x') (h : XL P F n ops l Q e (L.set k (own E (some ⟨b, 0, none⟩) m c (xs.set i x')))) : XL P F n ops (⟨none, .store t x y, ty, pos, af, none⟩ :: l) Q e L :=
  XL_next (o := ⟨none, .store t x y, ty, pos, af, none⟩) rfl fun a w hf' hs => by
    subst had
    obtain ⟨g, hg, _, hA⟩ := hs.at hk
    obtain ⟨cur, et, hb, hsz, _, _⟩ := own_write hA hi (Nat.le_of_ble_eq_true hf) hx' hg
    have hr := run_store_cells (P := P) hT ht (cs := cur.toList) (by simpa using hb) hv hl (by simpa using hsz) (by simpa using h1)
    refine ⟨undef, w.setRow b (putAt cur.toList (i * E.sz + f) vs).toArray, e, _, .inr ⟨rfl, by simp [execOp, hf'.ev hx, hf'.ev hy, hr]⟩, rfl, ?_, h⟩
    refine hs.turnAt hk fun g hg hA => ?_
    obtain ⟨cur', et', hb', _, hown, hne⟩ := own_write hA hi (Nat.le_of_ble_eq_true hf) hx' hg
    rw [hb] at hb'
    cases hb'
    refine ⟨b, hne, rfl, rfl, rfl, by simp, fun j hj _ => setRow_other w b j _ (fun h => hj h), Hp.one b (.cells (putAt cur.toList (i * E.sz + f) vs).toArray et (0, 0)), fun j o hj => ?_, hown⟩
    simp only [Hp.one] at hj
    split at hj
    · rename_i e1; cases hj; subst e1; exact ⟨st_row hb _, .inl hne⟩
    · cases hj
end
end
end Go.Cof
