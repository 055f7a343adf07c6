/- Loops and meeting ways by what changes; regions that draw with all whole blocks frozen. Results that are slices; whole elements. Regions in which the first operation that turns memory may be one of several: each is walked. Results out of cells; whole elements; structs compared. Loops with four parts that change; a slice of one's own that grows. Structs that may be compared, out of a table; readings turned. Arrays that come in. '==' of arrays of whole numbers. -/
import Derived.Test.YtalkcemelegohaaSlK
import Derived.Laws.StructEq
import Derived.OpenShut
set_option linter.unusedVariables false
set_option linter.unusedSectionVars false
namespace Go.Cof
open Go.RowKit

/-- The slots of a list that are known, told anew. -/
def pickA : List Nat → Env → Env → Option Env
  | [], _, acc => some acc
  | k :: ks, e, acc => match look e k with
    | some v => pickA ks e ((k, v) :: acc)
    | none => pickA ks e acc
theorem look_pickA {e : Env} : ∀ (ks : List Nat) (acc e1 : Env), pickA ks e acc = some e1 → (∀ k v, look acc k = some v → look e k = some v) → ∀ k v, look e1 k = some v → look e k = some v
  | [], acc, e1, h, ha => by simp only [pickA, Option.some.injEq] at h; subst h; exact ha
  | j :: ks, acc, e1, h, ha => by
    simp only [pickA] at h
    cases hj : look e j with
    | none => rw [hj] at h; exact look_pickA ks acc e1 h ha
    | some u =>
      rw [hj] at h
      refine look_pickA ks ((j, u) :: acc) e1 h fun k v hk => ?_
      simp only [look] at hk
      cases hc : Nat.beq k j with
      | true => rw [hc] at hk; simp only [cond_true, Option.some.injEq] at hk; rw [Nat.eq_of_beq_eq_true hc, ← hk]; exact hj
      | false => rw [hc] at hk; exact ha k v hk
theorem look_app {d e : Env} {k : Nat} {v : Value} : look (d ++ e) k = some v → look d k = some v ∨ look e k = some v := by
  induction d with
  | nil => exact .inr
  | cons p d ih =>
    obtain ⟨j, u⟩ := p
    intro h
    simp only [List.cons_append, look] at h ⊢
    cases hc : Nat.beq k j with
    | true => rw [hc] at h; exact .inl h
    | false => rw [hc] at h; exact ih h
theorem Fr.pick {n : Nat} {e e1 : Env} {a : Act} {ks : List Nat} (h : Fr n e a) (hp : pickA ks e [] = some e1) : Fr n e1 a := ⟨h.size, h.defers, fun k v hk => h.get k v (look_pickA ks [] e1 hp (fun _ _ hx => by cases hx) k v hk)⟩
theorem Fr.app {n : Nat} {d e : Env} {a : Act} (h : Fr n d a) (h' : Fr n e a) : Fr n (d ++ e) a := ⟨h.size, h.defers, fun k v hk => (look_app hk).elim (h.get k v) (h'.get k v)⟩

section
variable {P : Program} {F : Frz} {n : Nat} {Q : Exit → Act → World → Prop} {e : Env} {L : List HProp}
theorem X_loopF {c : Code} {ι : Type} (E : ι → Env) (M : ι → List HProp) (p : ι → Prop) (μ : ι → Nat) (i0 : ι) (h0 : p i0) (he : ∀ a, Fr n e a → Fr n (E i0) a) (hL : ∀ h, stars L h → stars (M i0) h)
    (round : ∀ i, p i → X P F n c (Exit.then (fun a w => ∃ j, p j ∧ μ j < μ i ∧ Fr n (E j) a ∧ St F w (M j)) Q) (E i) (M i)) : X P F n (.loop c) Q e L := by
  refine .mk fun a w hf hs => ?_
  classical
  let I : Act → World → Prop := fun a w => ∃ i, p i ∧ Fr n (E i) a ∧ St F w (M i)
  let S : Act → World → Nat → Prop := fun a w m => ∃ i, p i ∧ Fr n (E i) a ∧ St F w (M i) ∧ μ i = m
  have hS : ∀ {a w}, I a w → ∃ m, S a w m := fun ⟨i, h1, h2, h3⟩ => ⟨μ i, i, h1, h2, h3, rfl⟩
  have mini : ∀ {a w}, I a w → ∃ m, S a w m ∧ ∀ m', S a w m' → m ≤ m' := fun {a w} h => by
    obtain ⟨m, hm⟩ := hS h
    induction m using Nat.strongRecOn with
    | _ m ih =>
      by_cases hx : ∃ m', m' < m ∧ S a w m'
      · obtain ⟨m', h1, h2⟩ := hx; exact ih m' h1 h2
      · exact ⟨m, hm, fun m' h' => Nat.le_of_not_lt fun hlt => hx ⟨m', hlt, h'⟩⟩
  let μ' : Act → World → Nat := fun a w => if h : I a w then Classical.choose (mini h) else 0
  refine wp_loop I μ' ⟨i0, h0, he a hf, hs.imp hL⟩ fun a w hI => ?_
  obtain ⟨⟨i, h1, h2, h3, h4⟩, hmin⟩ := Classical.choose_spec (mini hI)
  have e1 : μ' a w = μ i := by simp only [μ', dif_pos hI]; exact h4.symm
  refine wp_mono (round i h1 a w h2 h3) fun x a' w' hq => ?_
  cases x with
  | normal =>
    obtain ⟨j, g1, g2, g3, g4⟩ := hq
    have hI' : I a' w' := ⟨j, g1, g3, g4⟩
    refine ⟨hI', ?_⟩
    have : μ' a' w' ≤ μ j := by
      simp only [μ', dif_pos hI']
      exact (Classical.choose_spec (mini hI')).2 _ ⟨j, g1, g3, g4, rfl⟩
    omega
  | exit _ => exact hq
  | goto _ => exact hq
  | ret => exact hq
  | panic _ => exact hq
  | outgrown => exact hq

/-- A loop: D: the slots that change, ks: those that stay. -/
theorem X_loopD {c : Code} {ι : Type} (ks : List Nat) (D : ι → Env) (M : ι → List HProp) (p : ι → Prop) (μ : ι → Nat) (i0 : ι) {e1 : Env} (hk : pickA ks e [] = some e1) (h0 : p i0) (he : Sub (D i0) e) (hL : ∀ h, stars L h → stars (M i0) h)
    (round : ∀ i, p i → X P F n c (Exit.then (fun a w => ∃ j, p j ∧ μ j < μ i ∧ Fr n (D j ++ e1) a ∧ St F w (M j)) Q) (D i ++ e1) (M i)) : X P F n (.loop c) Q e L :=
  X_loopF (fun i => D i ++ e1) M p μ i0 h0 (fun a hf => (hf.sub he).app (hf.pick hk)) hL round
section
variable {α β γ : Type}
theorem X_loopD2 {c : Code} (ks : List Nat) (D : α → β → Env) (M : α → β → List HProp) (p : α → β → Prop) (μ : α → β → Nat) (a0 : α) (b0 : β) {e1 : Env} (hk : pickA ks e [] = some e1) (h0 : p a0 b0) (he : Sub (D a0 b0) e) (hL : ∀ h, stars L h → stars (M a0 b0) h)
    (round : ∀ a b, p a b → X P F n c (Exit.then (fun ac w => ∃ j : α × β, p j.1 j.2 ∧ μ j.1 j.2 < μ a b ∧ Fr n (D j.1 j.2 ++ e1) ac ∧ St F w (M j.1 j.2)) Q) (D a b ++ e1) (M a b)) : X P F n (.loop c) Q e L :=
  X_loopD (ι := α × β) ks (fun j => D j.1 j.2) (fun j => M j.1 j.2) (fun j => p j.1 j.2) (fun j => μ j.1 j.2) (a0, b0) hk h0 he hL fun j h => round j.1 j.2 h
theorem X_loopD3 {c : Code} (ks : List Nat) (D : α → β → γ → Env) (M : α → β → γ → List HProp) (p : α → β → γ → Prop) (μ : α → β → γ → Nat) (a0 : α) (b0 : β) (c0 : γ) {e1 : Env} (hk : pickA ks e [] = some e1) (h0 : p a0 b0 c0) (he : Sub (D a0 b0 c0) e) (hL : ∀ h, stars L h → stars (M a0 b0 c0) h)
    (round : ∀ a b x, p a b x → X P F n c (Exit.then (fun ac w => ∃ j : α × β × γ, p j.1 j.2.1 j.2.2 ∧ μ j.1 j.2.1 j.2.2 < μ a b x ∧ Fr n (D j.1 j.2.1 j.2.2 ++ e1) ac ∧ St F w (M j.1 j.2.1 j.2.2)) Q) (D a b x ++ e1) (M a b x)) : X P F n (.loop c) Q e L :=
  X_loopD (ι := α × β × γ) ks (fun j => D j.1 j.2.1 j.2.2) (fun j => M j.1 j.2.1 j.2.2) (fun j => p j.1 j.2.1 j.2.2) (fun j => μ j.1 j.2.1 j.2.2) (a0, b0, c0) hk h0 he hL fun j h => round j.1 j.2.1 j.2.2 h
end
/-- Ways that meet again. -/
theorem X_cutD {c : Code} {R : Act → World → Prop} {ι : Type} (ks : List Nat) (D : ι → Env) (M : ι → List HProp) (p : ι → Prop) {e1 : Env} (hk : pickA ks e [] = some e1) (h1 : X P F n c (Exit.then (fun a w => ∃ j, p j ∧ Fr n (D j ++ e1) a ∧ St F w (M j)) Q) e L)
    (h2 : ∀ j, p j → Y F n (Exit.then R Q) .normal (D j ++ e1) (M j)) : X P F n c (Exit.then R Q) e L := X_cutB (fun j => D j ++ e1) M p h1 h2
end

/-- What is frozen while a region runs, and what is not. -/
inductive Split : List HProp → List HProp → List HProp → Prop where
  | nil : Split [] [] []
  | frz {A : HProp} {L M R : List HProp} : Split L M R → Split (A :: L) (A :: M) R
  | keep {A : HProp} {L M R : List HProp} : Split L M R → Split (A :: L) M (A :: R)
theorem Split.blk {b : Nat} {cs : List Value} {et : TypeId} {L M R : List HProp} (h : Split L M R) : Split (Cof.blk b cs et :: L) (Cof.blk b cs et :: M) R := .frz h
theorem Split.perm {L M R : List HProp} (h : Split L M R) : L.Perm (M ++ R) := by
  induction h with
  | nil => exact List.Perm.refl _
  | frz _ ih => exact ih.cons _
  | keep _ ih => exact (ih.cons _).trans List.perm_middle.symm
section
variable {P : Program} {F : Frz} {n : Nat} {Q : Exit → Act → World → Prop} {e : Env} {L : List HProp} {ops : Array Oper}
theorem X_drawS {id : Nat} (σ : List Nat) (kd : Nat → Kin) (fu : Nat) {M R : List HProp} (hk : Split L M R) (hm : P.follows .mixedOrders = true) (hok : okSched fu ops kd (fun _ => false) σ = true)
    (h : ∀ G : Frz, Hp.le F.heap G.heap → stars M G.heap → (∀ w L, St G w L → St F w (L ++ M)) → XD P G G n ops kd σ Q e R) : X P F n (.region id ops true) Q e L := .mk fun a w hf hs =>
  (X_draw (P := P) (F := F) (e := e) (L := M ++ R) σ kd (fun _ => false) fu (List.replicate M.length 0) (takeP_all M R) hm hok h).out a w hf (hs.perm hk.perm)
where
  takeP_all (M R : List HProp) : takeP (M ++ R) (List.replicate M.length 0) = some (M, R) := by
    induction M with
    | nil => rfl
    | cons A M ih =>
      simp only [List.length_cons, List.replicate_succ, List.cons_append]
      simp only [takeP, List.getElem?_cons_zero, List.eraseIdx_zero, List.tail_cons, ih]
end
/-! what operation comes next -/
section
variable {P : Program} {F : Frz} {n : Nat} {ops : Array Oper} {l : List Oper} {Q : Exit → Act → World → Prop} {e : Env} {L : List HProp} {d : Option Tmp} {ty : TypeId} {pos : String} {af : Array Edge} {t : TypeId} {x y : Operand}
theorem XG_load (h : XL P F n ops (⟨d, .load t x, ty, pos, af, none⟩ :: l) Q e L) : XL P F n ops (⟨d, .load t x, ty, pos, af, none⟩ :: l) Q e L := h
theorem XG_store (h : XL P F n ops (⟨d, .store t x y, ty, pos, af, none⟩ :: l) Q e L) : XL P F n ops (⟨d, .store t x y, ty, pos, af, none⟩ :: l) Q e L := h
theorem XG_call {c : Call} (h : XL P F n ops (⟨d, .call c, ty, pos, af, none⟩ :: l) Q e L) : XL P F n ops (⟨d, .call c, ty, pos, af, none⟩ :: l) Q e L := h
theorem XG_alloc (h : XL P F n ops (⟨d, .alloc t, ty, pos, af, none⟩ :: l) Q e L) : XL P F n ops (⟨d, .alloc t, ty, pos, af, none⟩ :: l) Q e L := h
theorem XG_box (h : XL P F n ops (⟨d, .box t x, ty, pos, af, none⟩ :: l) Q e L) : XL P F n ops (⟨d, .box t x, ty, pos, af, none⟩ :: l) Q e L := h
theorem XG_build {ps : Array (Nat × Operand)} (h : XL P F n ops (⟨d, .build t ps, ty, pos, af, none⟩ :: l) Q e L) : XL P F n ops (⟨d, .build t ps, ty, pos, af, none⟩ :: l) Q e L := h
theorem XG_lit {k : Nat} {ps : Array (Nat × Operand)} (h : XL P F n ops (⟨d, .buildSlice t k ps, ty, pos, af, none⟩ :: l) Q e L) : XL P F n ops (⟨d, .buildSlice t k ps, ty, pos, af, none⟩ :: l) Q e L := h
theorem XG_make (h : XL P F n ops (⟨d, .makeSlice t x y, ty, pos, af, none⟩ :: l) Q e L) : XL P F n ops (⟨d, .makeSlice t x y, ty, pos, af, none⟩ :: l) Q e L := h
theorem XG_idx (h : XL P F n ops (⟨d, .indexAddr t x y, ty, pos, af, none⟩ :: l) Q e L) : XL P F n ops (⟨d, .indexAddr t x y, ty, pos, af, none⟩ :: l) Q e L := h
theorem XG_slice {lo hi mx : Option Operand} (h : XL P F n ops (⟨d, .slice t x lo hi mx, ty, pos, af, none⟩ :: l) Q e L) : XL P F n ops (⟨d, .slice t x lo hi mx, ty, pos, af, none⟩ :: l) Q e L := h
end
section
variable {P : Program} {T : Tab} {G : Frz} {n : Nat} {e : Env} {d : Option Tmp} {ty : TypeId} {pos : String} {af : Array Edge}
theorem XV_build (hT : TabOk P T) {t : TypeId} {parts : List (Nat × Operand)} {vs : List (Nat × Value)} {z : Value} {ti : TI} {fs : Array Field} {r : List Value} (ht : look T t = some ti) (hz : ti.zero = some z) (hd : ti.desc = .struct fs) (hin : fldsIn T fs.toList = true) (hv : evp e parts = some vs)
    (hr : fillV T fs z.cells.toList vs = some r) : XV P G n ⟨d, .build t parts.toArray, ty, pos, af, none⟩ e (.agg r.toArray) := .mk fun a w hf hs => by
    have hu := hT.und t ti ht
    rw [hd] at hu
    obtain ⟨ps, h1, h2⟩ := run_places hT w fs.toList hin
    have h3 := fillV_eq hT (place := (ps.toArray[·]?)) (fun i f tj hf htj => by simpa using h2 i f tj (by simpa using hf) htj) vs _ _ hr
    have h4 := hf.evp hv
    have h5 : (fs.mapM (fun (f : Field) => (do pure (f.offset, ← sizeOf f.type) : Sem (Nat × Nat)))).run P w = .ok ps.toArray w := by
      rw [show fs = fs.toList.toArray from by simp, List.mapM_toArray]
      simp only [Sem.run_map, h1, Result.andThen_ok]
    have h6 : (parts.toArray.map fun (i, x) => (i, a.eval x)).toList = vs := by simpa using h4
    simp only [execOp, Instr.build, Sem.run_bind, run_zeroValue hT w ht hz, Result.andThen_ok, run_underlying hu, h5]
    rw [h6]
    have h7 : z.cells.toList.toArray = z.cells := by simp
    rw [h7] at h3
    rw [h3]
    rfl
end
/-- A slice of one's own, as a datum. -/
structure Ow (α : Type) where
  A : Option Addr
  m : Nat
  c : Nat
  xs : List α
abbrev Ow.v {α : Type} (o : Ow α) : Value := .slice o.A o.m o.c
abbrev Ow.own {α : Type} (o : Ow α) (E : Enc α) : HProp := Cof.own E o.A o.m o.c o.xs
end Go.Cof
set_option linter.unusedVariables false
set_option linter.unusedSectionVars false
namespace Go.Cof
open Go.RowKit

section
variable {P : Program} {F G : Frz} {n : Nat} {ops : Array Oper} {l : List Oper} {Q : Exit → Act → World → Prop} {e : Env} {L : List HProp} {kd : Nat → Kin} {σ : List Nat}
theorem XD_bool {j : Nat} {b : Bool} (h1 : b = true → XD P G F n ops kd σ Q ((j, .bool true) :: e) L) (h2 : b = false → XD P G F n ops kd σ Q ((j, .bool false) :: e) L) : XD P G F n ops kd σ Q ((j, .bool b) :: e) L := by
  cases b
  · exact h2 rfl
  · exact h1 rfl
end
theorem fin_nil {α : Type} (E : Enc α) {L : List HProp} : ∀ g, stars L g → stars [(⟨none, 0, 0, []⟩ : Ow α).own E] g := fun _ _ => stars_new (own_nil E _) trivial
/-- A slice of the call's own that reads as a list, and a number beside it. -/
def LRes {α : Type} (E : Enc α) (xs : List α) (r : Value) (v : Value) (L : List HProp) : Prop := ∃ o : Ow α, o.xs = xs ∧ o.m = o.xs.length ∧ v = .tuple #[o.v, r] ∧ L = [o.own E]
theorem LRes.nil {α : Type} {E : Enc α} {xs : List α} {r : Value} (h : xs = []) {u : Value} (hu : u = r) : LRes E xs r (.tuple #[.slice none 0 0, u]) [(⟨none, 0, 0, []⟩ : Ow α).own E] := ⟨⟨none, 0, 0, []⟩, h.symm, rfl, by rw [hu], rfl⟩
end Go.Cof
set_option linter.unusedVariables false
set_option linter.unusedSectionVars false
namespace Go.Cof
open Go.RowKit

/-- One order: values ahead, the first operation that turns memory, the rest. -/
structure Way where
  pre : List Nat
  i : Nat
  post : List Nat
def Way.all (x : Way) : List Nat := x.pre ++ x.i :: x.post
/-- i may stand ahead of q. -/
def freeB (ops : Array Oper) (p q : Nat) : Bool := match ops[p]? with
  | some op => !(op.after.toList.any fun e => Region.binds .any e && Nat.beq e.on q)
  | none => false
def okHead (fu : Nat) (ops : Array Oper) (kd : Nat → Kin) (i q : Nat) : Bool :=
  (decide (kd q = .m) && freeB ops i q) || okPair fu ops kd (fun _ => false) i q
def okWay (fu : Nat) (ops : Array Oper) (kd : Nat → Kin) (x : Way) : Bool :=
  Nat.beq x.all.length ops.size && (List.range ops.size).all (fun i => x.all.contains i) && x.all.all (fun i => Nat.blt i ops.size) && pairsB (fun p q => !Nat.beq p q) x.all &&
  x.all.all (okOne ops kd (fun _ => false)) && pairsB (okPair fu ops kd (fun _ => false)) (x.pre ++ x.post) && x.pre.all (fun p => decide (kd p = .s) && okPair fu ops kd (fun _ => false) p x.i) && decide (kd x.i = .m) && x.post.all (okHead fu ops kd x.i)
/-- Each operation that turns memory may come first, or hangs on one that has not run. -/
def covered (fu : Nat) (ops : Array Oper) (kd : Nat → Kin) (S : List Way) : Bool :=
  (List.range ops.size).all fun q => decide (kd q = .s) || S.any (fun x => Nat.beq x.i q) || S.any (fun x => depF ops fu q x.i)
def okFam (fu : Nat) (ops : Array Oper) (kd : Nat → Kin) (S : List Way) : Bool := Region.noSelect ops && S.all (okWay fu ops kd) && covered fu ops kd S && !S.isEmpty

section
variable {P : Program} {ops : Array Oper} {kd : Nat → Kin} {C : World → Prop}
theorem op_step {Q : Exit → Act → World → Prop} {i : Nat} {oi : Oper} (hoi : ops[i]? = some oi) {K : Act → World → Prop} {a : Act} {w : World} {fuel : Nat} {listed : Array Bool} (hl : kd i ≠ .l) (hC : C w)
    (rest : ∀ a' w', C w' → K a' w' → wpAny P .any ops Q fuel (listed.setIfInBounds i true) a' w') (h : opW P ops kd C i K a w) : wpOp P ops Q i (wpAny P .any ops Q fuel (listed.setIfInBounds i true)) a w := by
  rw [opW_at hoi] at h
  unfold wpOp
  rw [hoi]
  simp only at h ⊢
  by_cases hw : Region.wanted oi (yielded ops a.tmps) = true
  · rw [if_pos hw] at h ⊢
    left
    cases hk : kd i with
    | s =>
      rw [hk] at h
      obtain ⟨v, g1, g2⟩ := h
      unfold Oper.wp
      rw [g1 w hC]
      exact rest _ _ hC g2
    | m =>
      rw [hk] at h
      exact wp_imp (fun a' w' hx => rest a' w' hx.1 hx.2) h
    | l => exact absurd hk hl
  · rw [if_neg hw] at h ⊢
    exact rest _ _ hC h
structure WayOk (fu : Nat) (ops : Array Oper) (kd : Nat → Kin) (listed : Array Bool) (fuel : Nat) (x : Way) : Prop where
  len : fuel = x.pre.length + x.post.length + 1
  nd : (x.pre ++ x.i :: x.post).Nodup
  mem : ∀ j, j ∈ x.pre ++ x.i :: x.post ↔ j < ops.size ∧ listed.getD j false = false
  pw : (x.pre ++ x.post).Pairwise (fun p q => okPair fu ops kd (fun _ => false) p q = true)
  hs : ∀ p ∈ x.pre, kd p = .s ∧ okPair fu ops kd (fun _ => false) p x.i = true
  hm : kd x.i = .m
  hd : ∀ q ∈ x.post, okHead fu ops kd x.i q = true
  one : ∀ p ∈ x.pre ++ x.i :: x.post, okOne ops kd (fun _ => false) p = true
theorem okPair_spec {fu p q : Nat} (h : okPair fu ops kd (fun _ => false) p q = true) : ∃ op oq, ops[p]? = some op ∧ ops[q]? = some oq ∧ (∀ e ∈ op.after, Region.binds .any e = true → e.on ≠ q) ∧ ((kd p = .s ∧ op.apart ops oq = true ∧ kd q ≠ .l) ∨ depF ops fu q p = true) := by
  unfold okPair at h
  split at h
  · rename_i op oq e1 e2
    simp only [Bool.and_eq_true, Bool.or_eq_true, Bool.not_eq_true', decide_eq_true_eq, decide_eq_false_iff_not] at h
    refine ⟨op, oq, e1, e2, fun e he hb heq => ?_, ?_⟩
    · have := h.1.1
      rw [List.any_eq_false] at this
      have h5 := this e (by simpa using he)
      simp [hb, heq] at h5
    · rcases h.2 with h3 | h3
      · exact .inl ⟨h3.1.1.1, h3.1.1.2, h3.1.2⟩
      · exact .inr h3
  · cases h
theorem okHead_spec {fu i q : Nat} (h : okHead fu ops kd i q = true) : (∃ op, ops[i]? = some op ∧ ∀ e ∈ op.after, Region.binds .any e = true → e.on ≠ q) ∧ (kd q = .m ∨ okPair fu ops kd (fun _ => false) i q = true) := by
  unfold okHead at h
  rw [Bool.or_eq_true, Bool.and_eq_true] at h
  rcases h with ⟨h1, h2⟩ | h1
  · refine ⟨?_, .inl (by simpa using h1)⟩
    unfold freeB at h2
    split at h2
    · rename_i op e1
      refine ⟨op, e1, fun e he hb heq => ?_⟩
      simp only [Bool.not_eq_true'] at h2
      rw [List.any_eq_false] at h2
      have h5 := h2 e (by simpa using he)
      simp [hb, heq] at h5
    · cases h2
  · obtain ⟨op, _, h2, _, h3, _⟩ := okPair_spec h1
    exact ⟨⟨op, h2, h3⟩, .inr h1⟩
theorem fam_any {fu : Nat} {Q : Exit → Act → World → Prop} (hsel : ∀ (j : Nat) (o : Oper) cs b, ops[j]? = some o → o.op ≠ .select cs b) : ∀ (fuel : Nat) (S : List Way) (listed : Array Bool) (a : Act) (w : World), S ≠ [] → listed.size = ops.size →
    (∀ x ∈ S, WayOk fu ops kd listed fuel x) → (∀ q, q < ops.size → listed.getD q false = false → kd q = .s ∨ ∃ x ∈ S, x.i = q ∨ depF ops fu q x.i = true) →
    (∀ k o, ops[k]? = some o → listed.getD k false = true → ∀ e ∈ o.after, Region.binds .any e = true → listed.getD e.on false = true) → C w →
    (∀ x ∈ S, wlx P ops kd C (fun a w => Q .normal a w) (x.pre ++ x.i :: x.post) a w) → wpAny P .any ops Q fuel listed a w
  | 0, S, listed, a, w, hne, hsz, hok, hcov, hdown, hC, h => by
    obtain ⟨x, hx⟩ := List.exists_mem_of_ne_nil S hne
    have := (hok x hx).len
    omega
  | fuel + 1, S, listed, a, w, hne, hsz, hok, hcov, hdown, hC, h => by
    have getD_tf : ∀ i, i < ops.size → (listed.getD i true = listed.getD i false) := fun i hi => by
      rw [Array.getD_eq_getD_getElem?, Array.getD_eq_getD_getElem?, Array.getElem?_eq_getElem (by omega)]; rfl
    refine ⟨fun hr => ?_, fun i hi => ?_⟩
    · exfalso
      obtain ⟨x, hx⟩ := List.exists_mem_of_ne_nil S hne
      have k := hok x hx
      obtain ⟨p, l, hpl, hfree⟩ : ∃ p l, x.pre ++ x.i :: x.post = p :: l ∧ ∀ op, ops[p]? = some op → ∀ q ∈ l, ∀ e ∈ op.after, Region.binds .any e = true → e.on ≠ q := by
        cases hp : x.pre with
        | nil =>
          refine ⟨x.i, x.post, rfl, fun op ho q hq e he hb => ?_⟩
          obtain ⟨⟨op', h1, h2⟩, _⟩ := okHead_spec (k.hd q hq)
          rw [ho] at h1; cases h1
          exact h2 e he hb
        | cons p l =>
          refine ⟨p, l ++ x.i :: x.post, rfl, fun op ho q hq e he hb => ?_⟩
          have key : okPair fu ops kd (fun _ => false) p q = true := by
            have hpw := k.pw
            rw [hp, List.cons_append] at hpw
            rcases List.mem_append.1 hq with h1 | h1
            · exact List.rel_of_pairwise_cons hpw (List.mem_append.2 (.inl h1))
            · cases h1 with
              | head => exact (k.hs p (by rw [hp]; simp)).2
              | tail _ h1 => exact List.rel_of_pairwise_cons hpw (List.mem_append.2 (.inr h1))
          obtain ⟨op', _, h1, _, h2, _⟩ := okPair_spec key
          rw [ho] at h1; cases h1
          exact h2 e he hb
      have hpm : p ∈ x.pre ++ x.i :: x.post := by rw [hpl]; simp
      have hp := (k.mem p).1 hpm
      have h1 := k.one p hpm
      unfold okOne at h1
      split at h1
      · rename_i o ho
        simp only [Bool.and_eq_true, List.all_eq_true, Bool.or_eq_true, Bool.not_eq_true'] at h1
        have : p ∈ Region.ready .any ops listed := by
          refine mem_ready.2 ⟨by rw [getD_tf p hp.1]; exact hp.2, o, ho, fun e he hb => ?_⟩
          have h2 := h1.1 e (by simpa using he)
          rw [hb] at h2
          simp only [Bool.true_eq_false, false_or] at h2
          have hlt : e.on < ops.size := by simpa [Nat.blt_eq] using h2.1
          cases hc : listed.getD e.on false with
          | true => rfl
          | false =>
            exfalso
            have hmem := (k.mem e.on).2 ⟨hlt, hc⟩
            rw [hpl] at hmem
            rcases List.mem_cons.1 hmem with h3 | h3
            · have := h2.2; rw [h3, Nat.beq_refl] at this; cases this
            · exact hfree o ho _ h3 e he hb rfl
        rw [hr] at this
        cases this
      · cases h1
    · obtain ⟨h1, oi, hoi, hall⟩ := mem_ready.1 hi
      have hlt : i < ops.size := (Array.getElem?_eq_some_iff.1 hoi).1
      rw [getD_tf i hlt] at h1
      have nodep : ∀ j, listed.getD j false = false → depF ops fu i j = true → False := fun j hj hd => by
        have := depF_listed hdown fu i j (fun o ho e he hb => by rw [hoi] at ho; cases ho; exact hall e he hb) hd
        rw [hj] at this; cases this
      have hget : ∀ k, (listed.setIfInBounds i true).getD k false = if k = i then true else listed.getD k false := fun k => by
        simp only [Array.getD_eq_getD_getElem?, Array.getElem?_setIfInBounds]
        by_cases hk : k = i
        · subst hk; simp [hsz, hlt]
        · rw [if_neg (fun e => hk e.symm), if_neg hk]
      have hdown' : ∀ k o, ops[k]? = some o → (listed.setIfInBounds i true).getD k false = true → ∀ e ∈ o.after, Region.binds .any e = true → (listed.setIfInBounds i true).getD e.on false = true := fun k o ho hk e he hb => by
        rw [hget] at hk ⊢
        split
        · rfl
        · split at hk
          · rename_i e1; subst e1; rw [hoi] at ho; cases ho; exact hall e he hb
          · exact hdown k o ho hk e he hb
      have free : ∀ j, listed.getD j false = false → okPair fu ops kd (fun _ => false) j i = true → kd j = .s ∧ ∃ oj, ops[j]? = some oj ∧ oj.apart ops oi = true := fun j hj hp => by
        obtain ⟨op, oq, e1, e2, _, h3⟩ := okPair_spec hp
        rw [hoi] at e2; cases e2
        rcases h3 with h3 | h3
        · exact ⟨h3.1, op, e1, h3.2.1⟩
        · exact (nodep j hj h3).elim
      by_cases hkm : kd i = .m
      · -- it turns memory
        rcases hcov i hlt h1 with hc | ⟨x, hx, hc⟩
        · rw [hkm] at hc; cases hc
        have k := hok x hx
        have hc : x.i = i := hc.elim id fun hc => (nodep x.i ((k.mem x.i).1 (by simp)).2 hc).elim
        subst hc
        have hw := wlx_bubble hoi hsel (by rw [hkm]; simp) x.pre x.post (fun j hj => free j ((k.mem j).1 (by simp [hj])).2 (k.hs j hj).2) a w hC (h x hx)
        refine op_step hoi (by rw [hkm]; simp) hC (fun a' w' hC' hK => ?_) hw
        have hnd := k.nd
        have hni : x.i ∉ x.pre ++ x.post := fun hm => by
          have h2 := List.nodup_append.1 hnd
          rcases List.mem_append.1 hm with h3 | h3
          · exact h2.2.2 x.i h3 x.i (by simp) rfl
          · exact (List.nodup_cons.1 h2.2.1).1 h3
        refine sched_any (fu := fu) hsel fuel (x.pre ++ x.post) _ a' w' (by have := k.len; rw [List.length_append]; omega) (by simpa using hsz) (hnd.sublist ((List.Sublist.refl _).append (List.sublist_cons_self _ _))) (fun j => ?_) hdown' k.pw (fun p hp => k.one p (by rcases List.mem_append.1 hp with h2 | h2 <;> simp [h2])) (.inl hC') hK
        rw [hget]
        constructor
        · intro hj
          have hne : j ≠ x.i := fun e => hni (e ▸ hj)
          rw [if_neg hne]
          exact (k.mem j).1 (by rcases List.mem_append.1 hj with h2 | h2 <;> simp [h2])
        · rintro ⟨h2, h3⟩
          split at h3
          · cases h3
          · rename_i hne
            have := (k.mem j).2 ⟨h2, h3⟩
            rcases List.mem_append.1 this with h4 | h4
            · simp [h4]
            · cases h4 with
              | head => exact absurd rfl hne
              | tail _ h5 => exact List.mem_append.2 (.inr h5)
      · -- a value
        have hpre : ∀ x ∈ S, i ∈ x.pre := fun x hx => by
          have k := hok x hx
          have hu := ((k.mem x.i).1 (by simp)).2
          have := (k.mem i).2 ⟨hlt, h1⟩
          rcases List.mem_append.1 this with h4 | h4
          · exact h4
          · exfalso
            rcases List.mem_cons.1 h4 with h5 | h5
            · rw [h5] at hkm; exact hkm k.hm
            · rcases (okHead_spec (k.hd i h5)).2 with h6 | h6
              · exact hkm h6
              · have := (free x.i hu h6).1
                rw [k.hm] at this; cases this
        obtain ⟨x0, hx0⟩ := List.exists_mem_of_ne_nil S hne
        have hks : kd i = .s := ((hok x0 hx0).hs i (hpre x0 hx0)).1
        -- i ahead of all others, in each order
        have front : ∀ x ∈ S, opW P ops kd C i (wlx P ops kd C (fun a w => Q .normal a w) (x.pre.erase i ++ x.i :: x.post)) a w := fun x hx => by
          have k := hok x hx
          obtain ⟨l1, l2, hni, e1, e2⟩ := List.exists_erase_eq (hpre x hx)
          rw [e2, List.append_assoc]
          have hw := h x hx
          rw [e1, List.append_assoc, List.cons_append] at hw
          refine wlx_bubble hoi hsel (by rw [hks]; simp) l1 (l2 ++ x.i :: x.post) (fun j hj => free j ((k.mem j).1 (by rw [e1]; simp [hj])).2 ?_) a w hC hw
          have hpw := k.pw
          rw [e1, List.append_assoc] at hpw
          exact (List.pairwise_append.1 hpw).2.2 j hj i (by simp)
        have rest : ∀ a', (∀ x ∈ S, wlx P ops kd C (fun a w => Q .normal a w) (x.pre.erase i ++ x.i :: x.post) a' w) → wpAny P .any ops Q fuel (listed.setIfInBounds i true) a' w := fun a' ha' => by
          refine fam_any (fu := fu) hsel fuel (S.map fun x => ⟨x.pre.erase i, x.i, x.post⟩) _ a' w (by simpa using hne) (by simpa using hsz) (fun y hy => ?_) (fun q hq hl => ?_) hdown' hC (fun y hy => ?_)
          · obtain ⟨x, hx, rfl⟩ := List.mem_map.1 hy
            have k := hok x hx
            have hp := hpre x hx
            have hne : i ≠ x.i := fun e => by rw [e, k.hm] at hks; cases hks
            have hnp : x.pre.Nodup := (List.nodup_append.1 k.nd).1
            have hle : (x.pre.erase i).Sublist x.pre := List.erase_sublist
            have hpos : 0 < x.pre.length := List.length_pos_of_mem hp
            refine ⟨by have := k.len; simp only [List.length_erase_of_mem hp]; omega, k.nd.sublist (hle.append (List.Sublist.refl _)), fun j => ?_, k.pw.sublist (hle.append (List.Sublist.refl _)), fun p hp => k.hs p (hle.mem hp), k.hm, k.hd, fun p hp => k.one p ((hle.append (List.Sublist.refl _)).mem hp)⟩
            rw [hget]
            have hni : i ∉ x.post := fun hm => by
              have h2 := List.nodup_append.1 k.nd
              exact h2.2.2 i hp i (by simp [hm]) rfl
            have hmm := k.mem j
            simp only [List.mem_append, List.mem_cons] at hmm ⊢
            rw [hnp.mem_erase_iff]
            by_cases hji : j = i
            · subst hji
              simp [hne, hni]
            · simp only [if_neg hji]
              rw [← hmm]
              simp [hji]
          · rw [hget] at hl
            split at hl
            · cases hl
            · rcases hcov q hq hl with h2 | ⟨x, hx, h2⟩
              · exact .inl h2
              · exact .inr ⟨_, List.mem_map.2 ⟨x, hx, rfl⟩, h2⟩
          · obtain ⟨x, hx, rfl⟩ := List.mem_map.1 hy
            exact ha' x hx
        unfold wpOp
        rw [hoi]
        simp only
        have f0 := front x0 hx0
        rw [opW_at hoi] at f0
        by_cases hw : Region.wanted oi (yielded ops a.tmps) = true
        · rw [if_pos hw] at f0 ⊢
          rw [hks] at f0
          obtain ⟨v, g1, _⟩ := f0
          left
          unfold Oper.wp
          rw [g1 w hC]
          refine rest _ fun x hx => ?_
          have f1 := front x hx
          rw [opW_at hoi, if_pos hw, hks] at f1
          obtain ⟨u, g2, g3⟩ := f1
          have := (g1 w hC).symm.trans (g2 w hC)
          simp only [Result.ok.injEq, Next.value.injEq, and_true] at this
          rw [this]
          exact g3
        · rw [if_neg hw]
          refine rest _ fun x hx => ?_
          have f1 := front x hx
          rw [opW_at hoi, if_neg hw] at f1
          exact f1
theorem wp_region_fam {fu : Nat} {id : Nat} {Q : Exit → Act → World → Prop} {a : Act} {w : World} (S : List Way) (hm : P.follows .mixedOrders = true) (hok : okFam fu ops kd S = true) (hC : C { w with drawn := w.drawn + 1 })
    (h : ∀ x ∈ S, wlx P ops kd C (fun a w => Q .normal a w) (x.pre ++ x.i :: x.post) a { w with drawn := w.drawn + 1 }) : (Code.region id ops true).wp P Q a w := by
  simp only [okFam, Bool.and_eq_true, Bool.not_eq_true'] at hok
  obtain ⟨⟨⟨h1, h2⟩, h3⟩, h4⟩ := hok
  have h2 := List.all_eq_true.1 h2
  refine wp_region_any hm (fam_any (fu := fu) (kd := kd) (C := C) (Region.noSelect_spec h1) ops.size S (Array.replicate ops.size false) a _ (by intro e; rw [e] at h4; cases h4) (by simp) (fun x hx => ?_) (fun q hq _ => ?_) (fun k o ho hk => ?_) hC h)
  · have := h2 x hx
    simp only [okWay, Bool.and_eq_true, List.all_eq_true, decide_eq_true_eq] at this
    obtain ⟨⟨⟨⟨⟨⟨⟨⟨g1, g2⟩, g3⟩, g4⟩, g5⟩, g6⟩, g7⟩, g8⟩, g9⟩ := this
    refine ⟨?_, ?_, fun j => ?_, pairsB_pairwise g6, g7, g8, g9, g5⟩
    · have := Nat.eq_of_beq_eq_true g1; rw [← this]; simp [Way.all]; omega
    · exact (pairsB_pairwise g4).imp (fun {p q} hpq e => by subst e; rw [Nat.beq_refl] at hpq; cases hpq)
    · constructor
      · intro hj
        have : j < ops.size := by simpa [Nat.blt_eq] using g3 j hj
        exact ⟨this, by simp [Array.getD_eq_getD_getElem?, this]⟩
      · rintro ⟨hj, _⟩
        have := g2 j (by simpa using hj)
        simpa [Way.all] using this
  · simp only [covered, List.all_eq_true] at h3
    have := h3 q (by simpa using hq)
    simp only [Bool.or_eq_true, decide_eq_true_eq, List.any_eq_true] at this
    rcases this with (h5 | ⟨x, hx, h5⟩) | ⟨x, hx, h5⟩
    · exact .inl h5
    · exact .inr ⟨x, hx, .inl (Nat.eq_of_beq_eq_true h5)⟩
    · exact .inr ⟨x, hx, .inr h5⟩
  · exfalso
    rw [Array.getD_eq_getD_getElem?] at hk
    by_cases hlt : k < ops.size
    · simp [hlt] at hk
    · rw [Array.getElem?_eq_none (by simpa using hlt)] at hk; cases hk
end
section
variable {P : Program} {F : Frz} {n : Nat} {Q : Exit → Act → World → Prop} {e : Env} {L : List HProp} {ops : Array Oper}
/-- The first operation that turns memory is one of two. -/
theorem X_draw2 {id : Nat} (x y : Way) (kd : Nat → Kin) (fu : Nat) {M R : List HProp} (hk : Split L M R) (hm : P.follows .mixedOrders = true) (hok : okFam fu ops kd [x, y] = true)
    (h1 : ∀ G : Frz, Hp.le F.heap G.heap → stars M G.heap → (∀ w L, St G w L → St F w (L ++ M)) → XD P G G n ops kd (x.pre ++ x.i :: x.post) Q e R)
    (h2 : ∀ G : Frz, Hp.le F.heap G.heap → stars M G.heap → (∀ w L, St G w L → St F w (L ++ M)) → XD P G G n ops kd (y.pre ++ y.i :: y.post) Q e R) : X P F n (.region id ops true) Q e L := .mk fun a w hf hs => by
  have hs2 : St F w (M ++ R) := hs.perm hk.perm
  obtain ⟨k, a', d', c⟩ := hs2.own
  obtain ⟨hM, hR, dMR, hMk, hRk, cM, cR⟩ := stars_append.1 c
  have dM : Hp.disj F.heap hM := d'.mono (Hp.le_refl F.heap) hMk
  have hG : St { F with heap := Hp.or F.heap hM } w R := ⟨hs.os, hs.tape, hs.output, hs.size, Hp.or_le hs.frz (hMk.trans a'), hR, hRk.trans a', Hp.disj_or (d'.mono (Hp.le_refl F.heap) hRk) dMR, cR⟩
  have thaw : ∀ w' L', St { F with heap := Hp.or F.heap hM } w' L' → St F w' (L' ++ M) := fun w' L' hw => by
    refine ⟨hw.os, hw.tape, hw.output, hw.size, (Hp.le_or_left _ _).trans hw.frz, ?_⟩
    obtain ⟨q, q1, q2, q3⟩ := hw.own
    have dq : Hp.disj hM q := q2.mono (Hp.le_or_right dM) (Hp.le_refl q)
    exact ⟨Hp.or q hM, Hp.or_le q1 ((Hp.le_or_right dM).trans hw.frz), (Hp.disj_or (q2.mono (Hp.le_or_left _ _) (Hp.le_refl q)).symm dM.symm).symm, stars_append.2 ⟨q, hM, dq.symm, Hp.le_or_left _ _, Hp.le_or_right dq.symm, q3, cM⟩⟩
  have g1 := (h1 { F with heap := Hp.or F.heap hM } (Hp.le_or_left _ _) (stars_up cM (Hp.le_or_right dM)) thaw).out _ _ hf hG.drew
  have g2 := (h2 { F with heap := Hp.or F.heap hM } (Hp.le_or_left _ _) (stars_up cM (Hp.le_or_right dM)) thaw).out _ _ hf hG.drew
  refine wp_region_fam (fu := fu) (kd := kd) (C := fun w => St { F with heap := Hp.or F.heap hM } w []) [x, y] hm hok hG.drew.nil fun z hz => ?_
  rcases List.mem_cons.1 hz with rfl | hz
  · exact g1
  · obtain rfl := List.mem_singleton.1 hz
    exact g2
end
end Go.Cof
set_option linter.unusedVariables false
set_option linter.unusedSectionVars false
namespace Go.Cof
open Go.RowKit

theorem ble_refl (n : Nat) : Nat.ble n n = true := by simp
/-! ### results -/
structure RV (P : Program) (F : Frz) (n : Nat) (e : Env) (L : List HProp) (r : ResultVar) (v : Value) : Prop where
  out : ∀ a w, Fr n e a → St F w L → (match r with | .tmp t => (pure (a.tmps.getD t undef) : Sem Value) | .cell x t => do loadVar t (← asAddr (a.tmps.getD x undef))).run P w = .ok v w
section
variable {P : Program} {T : Tab} {F : Frz} {n : Nat} {e : Env} {L : List HProp} {fn : Func} {Φ : Value → List HProp → Prop} {L' : List HProp}
theorem RV.tmp {t : Tmp} {v : Value} (h : look e t = some v) : RV P F n e L (.tmp t) v := ⟨fun a w hf _ => by simp [← hf.get t v h]⟩
theorem RV.cell (hT : TabOk P T) (k : Nat) {x : Tmp} {t : TypeId} {b : Nat} {cs : List Value} {et : TypeId} {ti : TI} {v : Value} (hx : look e x = some (.pointer (some ⟨b, 0, none⟩))) (hk : L[k]? = some (blk b cs et)) (ht : look T t = some ti) (hv : partV T t cs 0 = some v)
    (hsz : Nat.ble ti.size cs.length = true) : RV P F n e L (.cell x t) v := ⟨fun a w hf hs => by
  obtain ⟨g, hg, _, hA⟩ := hs.at hk
  have hc := (blk_rd hA).le hg
  have hr := run_load_cells hT hv (a := ⟨b, 0, none⟩) (w := w) (fun j u hj => cellH_world (hc.2 j u hj)) (fun ti' h' => by
    rw [ht] at h'; cases h'; simpa [Nat.ble_eq] using hsz)
  rw [Addr.add_lit, Nat.zero_add] at hr
  have := hf.get x _ hx
  simp only [this]
  simpa [Instr.loadAt, Instr.sureAddr, asAddr] using hr⟩
/-- A whole array in a cell that is told as a list. -/
theorem RV.cellA {α : Type} {E : Enc α} (k : Nat) {x : Tmp} {t : TypeId} {b m c : Nat} {xs : List α} {ti : TI} {el : TypeId} (hT : TabOk P T) (hx : look e x = some (.pointer (some ⟨b, 0, none⟩))) (hk : L[k]? = some (own E (some ⟨b, 0, none⟩) m c xs)) (ht : look T t = some ti) (hd : ti.desc = .array m el)
    (hsz : ti.size = m * E.sz) : RV P F n e L (.cell x t) (.agg (flat E xs).toArray) := ⟨fun a w hf hs => by
  obtain ⟨g, hg, _, hA⟩ := hs.at hk
  have hr0 := (own_rd hA).le hg
  have hv : partV T t (flat E xs) 0 = some (.agg (flat E xs).toArray) := by
    have hagg : ti.agg = true := by unfold TI.agg; rw [hd]
    simp only [partV, ht, hagg, cond_true, List.drop_zero]
    rw [List.take_of_length_le (by rw [flat_length, hsz, hr0.1]; exact Nat.le_refl _)]
  have hr := run_load_cells hT hv (a := ⟨b, 0, none⟩) (w := w) (fun j u hj => cellH_world (hr0.2.2 j u hj)) (fun ti' h' => by
    rw [ht] at h'; cases h'; rw [hsz, flat_length, hr0.1]; omega)
  rw [Addr.add_lit, Nat.zero_add] at hr
  have := hf.get x _ hx
  simp only [this]
  simpa [Instr.loadAt, Instr.sureAddr, asAddr] using hr⟩
theorem Y_res1 {r1 : ResultVar} {v1 : Value} (hr : fn.results = #[r1]) (h1 : RV P F n e L r1 v1) (hL : ∀ h, stars L h → stars L' h) (h : Φ v1 L') : Y F n (bodyPost P fn (Post F Φ)) .ret e L := .mk fun a w hf hs =>
  ⟨hf.defers, v1, by
    have key : ∀ f : ResultVar → Sem Value, (f r1).run P w = .ok v1 w → (do let vs ← (#[r1] : Array ResultVar).mapM f; pure (if h : vs.size = 1 then vs[0] else .tuple vs) : Sem Value).run P w = .ok v1 w := fun f g1 => by simp [g1]
    unfold results
    rw [hr]
    exact key _ (h1.out a w hf hs), _, L', rfl, h, hs.imp hL⟩
theorem Y_res2 {r1 r2 : ResultVar} {v1 v2 : Value} (hr : fn.results = #[r1, r2]) (h1 : RV P F n e L r1 v1) (h2 : RV P F n e L r2 v2) (hL : ∀ h, stars L h → stars L' h) (h : Φ (.tuple #[v1, v2]) L') : Y F n (bodyPost P fn (Post F Φ)) .ret e L := .mk fun a w hf hs =>
  ⟨hf.defers, .tuple #[v1, v2], by
    have key : ∀ f : ResultVar → Sem Value, (f r1).run P w = .ok v1 w → (f r2).run P w = .ok v2 w → (do let vs ← (#[r1, r2] : Array ResultVar).mapM f; pure (if h : vs.size = 1 then vs[0] else .tuple vs) : Sem Value).run P w = .ok (.tuple #[v1, v2]) w := fun f g1 g2 => by simp [g1, g2]
    unfold results
    rw [hr]
    exact key _ (h1.out a w hf hs) (h2.out a w hf hs), _, L', rfl, h, hs.imp hL⟩
theorem Y_res3 {r1 r2 r3 : ResultVar} {v1 v2 v3 : Value} (hr : fn.results = #[r1, r2, r3]) (h1 : RV P F n e L r1 v1) (h2 : RV P F n e L r2 v2) (h3 : RV P F n e L r3 v3) (hL : ∀ h, stars L h → stars L' h) (h : Φ (.tuple #[v1, v2, v3]) L') : Y F n (bodyPost P fn (Post F Φ)) .ret e L := .mk fun a w hf hs =>
  ⟨hf.defers, .tuple #[v1, v2, v3], by
    have key : ∀ f : ResultVar → Sem Value, (f r1).run P w = .ok v1 w → (f r2).run P w = .ok v2 w → (f r3).run P w = .ok v3 w → (do let vs ← (#[r1, r2, r3] : Array ResultVar).mapM f; pure (if h : vs.size = 1 then vs[0] else .tuple vs) : Sem Value).run P w = .ok (.tuple #[v1, v2, v3]) w := fun f g1 g2 g3 => by simp [g1, g2, g3]
    unfold results
    rw [hr]
    exact key _ (h1.out a w hf hs) (h2.out a w hf hs) (h3.out a w hf hs), _, L', rfl, h, hs.imp hL⟩
end

/-! ### whole elements -/
section
variable {P : Program} {T : Tab} {F G : Frz} {n : Nat} {Q : Exit → Act → World → Prop} {e : Env} {L : List HProp} {ops : Array Oper} {l : List Oper} {d : Option Tmp} {ty : TypeId} {pos : String} {af : Array Edge} {α : Type} [Inhabited α] {E : Enc α}
theorem partV_all {t : TypeId} {ti : TI} {cs : List Value} (ht : look T t = some ti) (ha : ti.agg = true) (hs : cs.length ≤ ti.size) : partV T t cs 0 = some (.agg cs.toArray) := by
  simp only [partV, ht, ha, cond_true, List.drop_zero]
  rw [List.take_of_length_le hs]
theorem XL_elW (hT : TabOk P T) {A : Option Addr} {m : Nat} {xs : List α} {i : Int} {t : TypeId} {x : Operand} {ti : TI} {e' : Env} {sz : Nat} (hx : ev e x = some (.pointer (some ((bs A).add (i.toNat * sz))))) (r : rdS E F.heap A m xs) (hz : E.sz = sz) (h0 : 0 ≤ i) (h1 : i < m) (ht : look T t = some ti)
    (ha : ti.agg = true) (hsz : Nat.beq ti.size E.sz = true) (hp : putE n d (.agg (E.enc (get xs i)).toArray) e = some e') (h : XL P F n ops l Q e' L) : XL P F n ops (⟨d, .load t x, ty, pos, af, none⟩ :: l) Q e L :=
  XL_el hT hx r hz h0 h1 ht (partV_all ht ha (by rw [E.len]; exact Nat.le_of_eq (Nat.eq_of_beq_eq_true hsz).symm)) (by rw [Nat.eq_of_beq_eq_true hsz]; exact ble_refl _) hp h
theorem XL_eloW (hT : TabOk P T) (k : Nat) {A : Option Addr} {m c : Nat} {xs : List α} {i : Int} {t : TypeId} {x : Operand} {ti : TI} {e' : Env} {sz : Nat} (hk : L[k]? = some (own E A m c xs)) (hx : ev e x = some (.pointer (some ((bs A).add (i.toNat * sz))))) (hz : E.sz = sz) (h0 : 0 ≤ i) (h1 : i < m) (ht : look T t = some ti)
    (ha : ti.agg = true) (hsz : Nat.beq ti.size E.sz = true) (hp : putE n d (.agg (E.enc (get xs i)).toArray) e = some e') (h : XL P F n ops l Q e' L) : XL P F n ops (⟨d, .load t x, ty, pos, af, none⟩ :: l) Q e L :=
  XL_elo hT k hk hx hz h0 h1 ht (partV_all ht ha (by rw [E.len]; exact Nat.le_of_eq (Nat.eq_of_beq_eq_true hsz).symm)) (by rw [Nat.eq_of_beq_eq_true hsz]; exact ble_refl _) hp h
theorem XV_elW (hT : TabOk P T) {A : Option Addr} {m : Nat} {xs : List α} {i : Int} {t : TypeId} {x : Operand} {ti : TI} {sz : Nat} (hx : ev e x = some (.pointer (some ((bs A).add (i.toNat * sz))))) (r : rdS E G.heap A m xs) (hz : E.sz = sz) (h0 : 0 ≤ i) (h1 : i < m) (ht : look T t = some ti)
    (ha : ti.agg = true) (hsz : Nat.beq ti.size E.sz = true) : XV P G n ⟨d, .load t x, ty, pos, af, none⟩ e (.agg (E.enc (get xs i)).toArray) :=
  XV_el hT hx r hz h0 h1 ht (partV_all ht ha (by rw [E.len]; exact Nat.le_of_eq (Nat.eq_of_beq_eq_true hsz).symm)) (by rw [Nat.eq_of_beq_eq_true hsz]; exact ble_refl _)
/-- A block that is loaded whole. -/
theorem XL_loadW (hT : TabOk P T) (k : Nat) {t : TypeId} {x : Operand} {b : Nat} {cs : List Value} {et : TypeId} {ti : TI} {e' : Env} (hk : L[k]? = some (blk b cs et)) (hx : ev e x = some (.pointer (some ⟨b, 0, none⟩))) (ht : look T t = some ti) (ha : ti.agg = true)
    (hsz : Nat.beq ti.size cs.length = true) (hp : putE n d (.agg cs.toArray) e = some e') (h : XL P F n ops l Q e' L) : XL P F n ops (⟨d, .load t x, ty, pos, af, none⟩ :: l) Q e L :=
  XL_load hT k hk hx ht (partV_all ht ha (by rw [Nat.eq_of_beq_eq_true hsz]; exact Nat.le_refl _)) (by rw [Nat.zero_add, Nat.eq_of_beq_eq_true hsz]; exact ble_refl _) hp h
theorem XV_loadW (hT : TabOk P T) {t : TypeId} {x : Operand} {b : Nat} {cs : List Value} {et : TypeId} {ti : TI} (hx : ev e x = some (.pointer (some ⟨b, 0, none⟩))) (hb : blk b cs et G.heap) (ht : look T t = some ti) (ha : ti.agg = true)
    (hsz : Nat.beq ti.size cs.length = true) : XV P G n ⟨d, .load t x, ty, pos, af, none⟩ e (.agg cs.toArray) :=
  XV_load hT hx hb ht (partV_all ht ha (by rw [Nat.eq_of_beq_eq_true hsz]; exact Nat.le_refl _)) (by rw [Nat.zero_add, Nat.eq_of_beq_eq_true hsz]; exact ble_refl _)
/-- A block that is stored whole. -/
theorem XL_storeW (hT : TabOk P T) (k : Nat) {t : TypeId} {x y : Operand} {b : Nat} {cs vs : List Value} {et : TypeId} {ti : TI} (hk : L[k]? = some (blk b cs et)) (hx : ev e x = some (.pointer (some ⟨b, 0, none⟩))) (hy : ev e y = some (.agg vs.toArray)) (ht : look T t = some ti) (hl : Nat.beq vs.length ti.size = true)
    (hsz : Nat.beq cs.length ti.size = true) (h1 : vs.all Value.oneCell' = true) (h : XL P F n ops l Q e (L.set k (blk b vs et))) : XL P F n ops (⟨none, .store t x y, ty, pos, af, none⟩ :: l) Q e L :=
  XL_storeA hT k hk hx hy ht (Nat.eq_of_beq_eq_true hl) (Nat.eq_of_beq_eq_true hsz) (by simpa using h1) h
/-- An element that is stored whole. -/
theorem XL_putW (hT : TabOk P T) (k : Nat) (x' : α) {t : TypeId} {x y : Operand} {b o m c i : Nat} {xs : List α} {ti : TI} (hk : L[k]? = some (own E (some ⟨b, 0, none⟩) m c xs)) (hx : ev e x = some (.pointer (some ⟨b, o, none⟩))) (ho : o = i * E.sz) (hy : ev e y = some (.agg (E.enc x').toArray)) (ht : look T t = some ti)
    (hl : Nat.beq E.sz ti.size = true) (hi : i < m) (h : XL P F n ops l Q e (L.set k (own E (some ⟨b, 0, none⟩) m c (xs.set i x')))) : XL P F n ops (⟨none, .store t x y, ty, pos, af, none⟩ :: l) Q e L :=
  XL_put hT k (i := i) (f := 0) (vs := E.enc x') (x' := x') hk hx (by rw [ho]; rfl) hy ht (by simp [Value.cells]) (by rw [E.len]; exact Nat.eq_of_beq_eq_true hl) hi (by rw [Nat.zero_add, E.len]; exact ble_refl _) (by rw [List.all_eq_true]; exact fun u hu => E.one x' u hu) (by
    rw [putAt_eq _ _ _ (by rw [E.len, E.len]; omega)]
    simp
    exact Nat.le_of_eq (by rw [E.len, E.len])) h
end

/-! ### '==' of structs -/
section
variable {P : Program} {T : Tab} {F G : Frz} {n : Nat} {Q : Exit → Act → World → Prop} {e : Env} {L : List HProp} {ops : Array Oper} {l : List Oper} {d : Option Tmp} {ty : TypeId} {pos : String} {af : Array Edge} {α : Type} {E : Enc α}
/-- Two values that stand for data. -/
structure EqE (P : Program) (T : Tab) (t : TypeId) {α : Type} [DecidableEq α] (E : Enc α) : Prop where
  guard : P.eqGuardType P.depth t = false
  eq : ∀ (a b : α) (w : World), (Op.equalIn 10000 t (.agg (E.enc a).toArray) (.agg (E.enc b).toArray)).run P w = .ok (decide (a = b)) w
theorem XV_eq {t : TypeId} [DecidableEq α] (hE : EqE P T t E) {x y : Operand} {a b : α} {ty2 : TypeId} (hx : ev e x = some (.agg (E.enc a).toArray)) (hy : ev e y = some (.agg (E.enc b).toArray)) : XV P G n ⟨d, .binOp .eql t x y ty2, ty, pos, af, none⟩ e (.bool (decide (a = b))) := .mk fun ac w hf _ => by
  simp only [execOp, Sem.run_bind, hf.ev hx, hf.ev hy, run_eqGuard_agg w _ _ _ _ _ _ hE.guard, Result.andThen_ok, run_eql_struct, hE.eq]
  rfl
theorem XV_neq {t : TypeId} [DecidableEq α] (hE : EqE P T t E) {x y : Operand} {a b : α} {ty2 : TypeId} (hx : ev e x = some (.agg (E.enc a).toArray)) (hy : ev e y = some (.agg (E.enc b).toArray)) : XV P G n ⟨d, .binOp .neq t x y ty2, ty, pos, af, none⟩ e (.bool (decide (¬ a = b))) := .mk fun ac w hf _ => by
  simp only [execOp, Sem.run_bind, hf.ev hx, hf.ev hy, run_eqGuard_agg w _ _ _ _ _ _ hE.guard, Result.andThen_ok, run_neq_struct, hE.eq, decide_not]
  rfl
theorem XL_eq {t : TypeId} [DecidableEq α] (hE : EqE P T t E) {x y : Operand} {a b : α} {ty2 : TypeId} {e' : Env} (hx : ev e x = some (.agg (E.enc a).toArray)) (hy : ev e y = some (.agg (E.enc b).toArray)) (hp : putE n d (.bool (decide (a = b))) e = some e') (h : XL P F n ops l Q e' L) : XL P F n ops (⟨d, .binOp .eql t x y ty2, ty, pos, af, none⟩ :: l) Q e L :=
  XL_val (o := ⟨d, .binOp .eql t x y ty2, ty, pos, af, none⟩) rfl hp (fun ac w hf hs => (XV_eq (P := P) (G := F) (n := n) (d := d) (ty := ty) (pos := pos) (af := af) (ty2 := ty2) hE hx hy).out ac w hf hs.nil) h
theorem XL_neq {t : TypeId} [DecidableEq α] (hE : EqE P T t E) {x y : Operand} {a b : α} {ty2 : TypeId} {e' : Env} (hx : ev e x = some (.agg (E.enc a).toArray)) (hy : ev e y = some (.agg (E.enc b).toArray)) (hp : putE n d (.bool (decide (¬ a = b))) e = some e') (h : XL P F n ops l Q e' L) : XL P F n ops (⟨d, .binOp .neq t x y ty2, ty, pos, af, none⟩ :: l) Q e L :=
  XL_val (o := ⟨d, .binOp .neq t x y ty2, ty, pos, af, none⟩) rfl hp (fun ac w hf hs => (XV_neq (P := P) (G := F) (n := n) (d := d) (ty := ty) (pos := pos) (af := af) (ty2 := ty2) hE hx hy).out ac w hf hs.nil) h
end
end Go.Cof
set_option linter.unusedVariables false
set_option linter.unusedSectionVars false
namespace Go.Cof
open Go.RowKit
section
variable {P : Program} {F : Frz} {n : Nat} {Q : Exit → Act → World → Prop} {e : Env} {L : List HProp} {α β γ δ : Type}
theorem X_loopD4 {c : Code} (ks : List Nat) (D : α → β → γ → δ → Env) (M : α → β → γ → δ → List HProp) (p : α → β → γ → δ → Prop) (μ : α → β → γ → δ → Nat) (a0 : α) (b0 : β) (c0 : γ) (d0 : δ) {e1 : Env} (hk : pickA ks e [] = some e1) (h0 : p a0 b0 c0 d0) (he : Sub (D a0 b0 c0 d0) e) (hL : ∀ h, stars L h → stars (M a0 b0 c0 d0) h)
    (round : ∀ a b x y, p a b x y → X P F n c (Exit.then (fun ac w => ∃ j : α × β × γ × δ, p j.1 j.2.1 j.2.2.1 j.2.2.2 ∧ μ j.1 j.2.1 j.2.2.1 j.2.2.2 < μ a b x y ∧ Fr n (D j.1 j.2.1 j.2.2.1 j.2.2.2 ++ e1) ac ∧ St F w (M j.1 j.2.1 j.2.2.1 j.2.2.2)) Q) (D a b x y ++ e1) (M a b x y)) : X P F n (.loop c) Q e L :=
  X_loopD (ι := α × β × γ × δ) ks (fun j => D j.1 j.2.1 j.2.2.1 j.2.2.2) (fun j => M j.1 j.2.1 j.2.2.1 j.2.2.2) (fun j => p j.1 j.2.1 j.2.2.1 j.2.2.2) (fun j => μ j.1 j.2.1 j.2.2.1 j.2.2.2) (a0, b0, c0, d0) hk h0 he hL fun j h => round j.1 j.2.1 j.2.2.1 j.2.2.2 h
end
theorem own_n {α : Type} {E : Enc α} {A : Option Addr} {m n c : Nat} {xs : List α} (h : m = n) {g : Hp} (o : own E A m c xs g) : own E A n c xs g := h ▸ o
section
variable {P : Program} {F G : Frz} {n : Nat} {ops : Array Oper} {l : List Oper} {Q : Exit → Act → World → Prop} {e : Env} {L : List HProp} {kd : Nat → Kin} {σ : List Nat}
theorem XL_boolF {j : Nat} {b : Bool} {p : Prop} (f : b = true → p) (h1 : b = true → p → XL P F n ops l Q ((j, .bool true) :: e) L) (h2 : b = false → XL P F n ops l Q ((j, .bool false) :: e) L) : XL P F n ops l Q ((j, .bool b) :: e) L := XL_bool (fun h => h1 h (f h)) h2
end
end Go.Cof
set_option linter.unusedVariables false
set_option linter.unusedSectionVars false
namespace Go.Cof
open Go.RowKit
def memB (t : Nat) : List Nat → Bool
  | [] => false
  | s :: l => bif Nat.beq t s then true else memB t l
/-- Structs that may be compared. -/
def eqsB (P : Program) (T : Tab) : List Nat → Bool
  | [] => true
  | t :: l => (!P.stoodInHeld t && (match P.underlying t with | some (.struct fs) => fs.toList.all (fun f => !decide (f.name = "_")) | _ => false)) && eqsB P T l
theorem eqsB_ok {P : Program} {T : Tab} : ∀ {ts : List Nat}, eqsB P T ts = true → ∀ t, memB t ts = true → P.stoodInHeld t = false ∧ ∀ fs, P.underlying t = some (.struct fs) → ∀ f ∈ fs.toList, ¬ f.name = "_"
  | [], _, _, h => by cases h
  | s :: l, hb, t, h => by
    simp only [eqsB, Bool.and_eq_true] at hb
    simp only [memB] at h
    cases hc : Nat.beq t s with
    | true =>
      have e := Nat.eq_of_beq_eq_true hc
      subst e
      refine ⟨by simpa using hb.1.1, fun fs hfs f hf => ?_⟩
      have := hb.1.2
      rw [hfs] at this
      simp only [List.all_eq_true] at this
      simpa using this f hf
    | false => rw [hc] at h; exact eqsB_ok hb.2 t h
def eqGo (g : TypeId → Value → Value → Option Bool) (T : Tab) (xs ys : List Value) : List Field → Option Bool
  | [] => some true
  | f :: fs => match partV T f.type xs f.offset, partV T f.type ys f.offset with
    | some a, some b => match g f.type a b, eqGo g T xs ys fs with
      | some p, some q => some (p && q)
      | _, _ => none
    | _, _ => none
def eqT (T : Tab) (ts : List Nat) : Nat → TypeId → Value → Value → Option Bool
  | 0, _, _, _ => none
  | d + 1, t, x, y => match look T t with
    | none => none
    | some i => match i.desc, x, y with
      | .bool, .bool a, .bool b => some (decide (a = b))
      | .int _, .int k a, .int k' b => bif eqKind k k' then some (decide (a = b)) else none
      | .struct fs, .agg xs, .agg ys => bif memB t ts then eqGo (eqT T ts d) T xs.toList ys.toList fs.toList else none
      | _, _, _ => none
section
variable {P : Program} {T : Tab} (hT : TabOk P T) {ts : List Nat} (hts : eqsB P T ts = true)
include hT hts
theorem eqT_run : ∀ (d m : Nat) (t : TypeId) (x y : Value) (b : Bool) (w : World), eqT T ts d t x y = some b → d ≤ m → (Op.equalIn m t x y).run P w = .ok b w
  | 0, _, _, _, _, _, _, h, _ => by cases h
  | d + 1, 0, _, _, _, _, _, _, hm => by omega
  | d + 1, m + 1, t, x, y, b, w, h, hm => by
    have ih := fun t x y b w h => eqT_run d m t x y b w h (by omega)
    unfold eqT at h
    cases hl : look T t with
    | none => rw [hl] at h; cases h
    | some i =>
      rw [hl] at h
      have hu := hT.und t i hl
      simp only at h
      split at h
      · rename_i a b' hd
        cases h
        rw [hd] at hu
        rw [run_equalIn_bool' _ _ _ _ _ hu]
        cases a <;> cases b' <;> rfl
      · rename_i k a k' b' hd
        cases hk : eqKind k k' with
        | false => rw [hk] at h; cases h
        | true =>
          rw [hk] at h
          simp only [cond_true, Option.some.injEq] at h
          rw [eqKind_eq hk]
          rw [hd] at hu
          rw [run_equalIn_int _ _ _ _ _ _ _ hu, ← h]
          by_cases hab : a = b' <;> simp [hab]
      · rename_i fs xs ys hd
        rw [hd] at hu
        cases hmem : memB t ts with
        | false => rw [hmem] at h; cases h
        | true =>
        rw [hmem] at h
        simp only [cond_true] at h
        have hfo : P.fieldsOf t = fs := by unfold Program.fieldsOf; rw [hu]
        have hok := eqsB_ok hts t hmem
        have hnb := hok.2 fs hu
        rw [run_equalIn_struct w m t xs ys (by rw [hfo]; exact hu) hok.1, hfo]
        clear hfo hu hd hok
        revert h hnb
        generalize fs.toList = l
        intro h hnb
        induction l generalizing b with
        | nil => simp only [eqGo, Option.some.injEq] at h; subst h; simp [Op.eqFields]
        | cons f l ihl =>
          simp only [eqGo] at h
          have hn := hnb f (by simp)
          split at h
          · rename_i u v h1 h2
            split at h
            · rename_i p q h3 h4
              cases h
              simp only [Op.eqFields, ne_eq, hn, not_false_eq_true, if_true, Sem.run_bind, run_part hT w h1, run_part hT w h2, Result.andThen_ok, ih _ _ _ _ w h3]
              cases p with
              | false => simp
              | true => simpa using ihl _ h4 fun x hx => hnb x (by simp [hx])
            · cases h
          · cases h
      · cases h
end
theorem EqE.ofT {P : Program} {T : Tab} {α : Type} {E : Enc α} {t : TypeId} [DecidableEq α] (hT : TabOk P T) (ts : List Nat) (hts : eqsB P T ts = true) (hg : P.eqGuardType P.depth t = false) (d : Nat) (hd : Nat.ble d 10000 = true) (h : ∀ a b : α, eqT T ts d t (.agg (E.enc a).toArray) (.agg (E.enc b).toArray) = some (decide (a = b))) : EqE P T t E :=
  ⟨hg, fun a b w => eqT_run hT hts d 10000 t _ _ _ w (h a b) (Nat.le_of_ble_eq_true hd)⟩
theorem flat_map {α β : Type} {E : Enc α} {E' : Enc β} (f : α → β) (h : ∀ x, E.enc x = E'.enc (f x)) (xs : List α) : flat E xs = flat E' (xs.map f) := by
  induction xs with
  | nil => rfl
  | cons x xs ih => simp only [flat, List.flatMap_cons, List.map_cons] at ih ⊢; rw [ih, h]
theorem rdS.map {α β : Type} {E : Enc α} {E' : Enc β} {g : Hp} {A : Option Addr} {m : Nat} {xs : List α} (r : rdS E g A m xs) (f : α → β) (h : ∀ x, E.enc x = E'.enc (f x)) : rdS E' g A m (xs.map f) := ⟨by rw [List.length_map]; exact r.1, by rw [← flat_map f h]; exact r.2⟩
theorem rdS.take {α : Type} {E : Enc α} {g : Hp} {A : Option Addr} {m : Nat} {xs : List α} (r : rdS E g A m xs) (k : Nat) (hk : k ≤ m) : rdS E g A k (xs.take k) := by
  refine ⟨by rw [List.length_take, ← r.1]; omega, fun h => r.2.1 ?_, fun j u hu => r.2.2 j u ?_⟩
  · rw [flat_length] at h ⊢
    have := r.1
    rw [List.length_take] at h
    exact Nat.lt_of_lt_of_le h (Nat.mul_le_mul_right _ (Nat.min_le_right _ _))
  · rw [← flat_take, List.getElem?_take] at hu
    split at hu
    · exact hu
    · cases hu
end Go.Cof
set_option linter.unusedVariables false
namespace Go.Cof
open Go.RowKit
theorem flat_parts {α : Type} (E : Enc α) : ∀ (ys : List α) (cs : List Value), cs.length = ys.length * E.sz → (∀ (i : Nat) (y : α), ys[i]? = some y → (cs.drop (i * E.sz)).take E.sz = E.enc y) → cs = flat E ys
  | [], cs, hl, _ => by
    simp only [List.length_nil, Nat.zero_mul] at hl
    rw [List.eq_nil_of_length_eq_zero hl]; rfl
  | y :: ys, cs, hl, h => by
    have h0 := h 0 y rfl
    rw [Nat.zero_mul, List.drop_zero] at h0
    have hr := flat_parts E ys (cs.drop E.sz) (by rw [List.length_drop, hl, List.length_cons, Nat.succ_mul]; omega) fun i z hz => by
      have := h (i + 1) z (by simpa using hz)
      rw [List.drop_drop]
      rwa [show E.sz + i * E.sz = (i + 1) * E.sz from by rw [Nat.succ_mul]; omega]
    have e : flat E (y :: ys) = E.enc y ++ flat E ys := rfl
    rw [e, ← h0, ← hr, List.take_append_drop]
/-- A list of a known length. -/
def Vec (α : Type) (n : Nat) : Type := { l : List α // l.length = n }
def encV {α : Type} (E : Enc α) (n : Nat) (hn : 0 < n) : Enc (Vec α n) := ⟨fun x => flat E x.1, n * E.sz, fun x => by rw [flat_length, x.2], Nat.mul_pos hn E.pos, fun x u hu => flat_one E _ u hu⟩
def Dec.array {P : Program} {t e : TypeId} {α : Type} {n : Nat} (D : Dec P e α) (ht : P.underlying t = some (.array n e)) (hc : P.cellsOf e = D.E.sz) (hct : P.cellsOf t = n * D.E.sz) (hn : 0 < n) : Dec P t (Vec α n) where
  E := encV D.E n hn
  good := fun h x => ∀ a ∈ x.1, D.good h a
  opn := fun {H enc w base spare held fuel cs x} h hw => by
    obtain ⟨xs, m, _, rfl, hl, hlen, hx⟩ := DataW.trod_array ht h
    have hws : ∀ m ∈ (DataW.agg (xs.map (·.1)) : DataW H).weights P t, m ≤ reachBytes := fun m hm => by
      have := List.all_eq_true.1 hw m hm; simpa using this
    simp only [DataW.weights, ht] at hws
    obtain ⟨ys, h1, h2⟩ := choose_list (p := fun i y => D.good (World.hp w) y ∧ (cs.drop (i * D.E.sz)).take D.E.sz = D.E.enc y) n fun i hi => by
      have hy := hx i hi
      rw [hc, List.getElem?_eq_getElem (by omega)] at hy
      obtain ⟨y, e1, hg⟩ := D.opn hy (List.all_eq_true.2 fun m hm => by
        have := hws m (weightsAll_mem (i := i) (d := (xs[i]'(by omega)).1) (by rw [List.getElem?_map, List.getElem?_eq_getElem (by omega)]; rfl) hm)
        simpa using this)
      exact ⟨y, hg, e1⟩
    refine ⟨⟨ys, h1⟩, flat_parts D.E ys cs (by rw [hl, hct, h1]) fun i y hy => (h2 i y hy).2, fun y hy => ?_⟩
    obtain ⟨i, hi⟩ := List.getElem?_of_mem hy
    exact (h2 i y hi).1
theorem Dec.arg_array {H : Type} {enc : TypeId × Value → H} {P : Program} {w : World} {r : Reach} {b0 base : Nat} {sp : Nat → Bool} {held : Bool} {t e : TypeId} {v : Value} {d : DataW H} {ps : List MemPlace} {α : Type} {n : Nat} (D : Dec P t α) (ht : P.underlying t = some (.array n e)) (hval : Value.okWide P w r b0 t v) (hd : DataW.Trod enc P w base sp held t v d ps) (hw : (d.weights P t).all (· ≤ reachBytes) = true) : ∃ a : α, v = .agg (D.E.enc a).toArray ∧ D.good (World.hp w) a := by
  obtain ⟨fuel, hf⟩ := hd
  obtain ⟨a, h1, h2⟩ := D.opn hf hw
  have : ∃ cs, v = .agg cs := by
    simp only [Value.okWide, ht] at hval
    obtain ⟨cs, h1, _⟩ := hval
    exact ⟨cs, h1⟩
  obtain ⟨cs, rfl⟩ := this
  refine ⟨a, ?_, h2⟩
  rw [← h1]
  simp [Value.cells]
section
variable {P : Program} {G F : Frz} {n : Nat} {ops : Array Oper} {kd : Nat → Kin} {σ : List Nat} {Q : Exit → Act → World → Prop} {e : Env} {L : List HProp} {i : Nat} {d : Option Tmp} {ty : TypeId} {pos : String} {af : Array Edge} {t : TypeId} {x y : Operand} {g : Nat × Bool} {o : Oper}
theorem XD_uL (hi : ops[i]? = some ⟨d, .load t x, ty, pos, af, none⟩) (h : XD P G F n ops kd (i :: σ) Q e L) : XD P G F n ops kd (i :: σ) Q e L := h
theorem XD_gL (hi : ops[i]? = some ⟨d, .load t x, ty, pos, af, some g⟩) (h : XD P G F n ops kd (i :: σ) Q e L) : XD P G F n ops kd (i :: σ) Q e L := h
theorem XD_uI (hi : ops[i]? = some ⟨d, .indexAddr t x y, ty, pos, af, none⟩) (h : XD P G F n ops kd (i :: σ) Q e L) : XD P G F n ops kd (i :: σ) Q e L := h
theorem XD_gI (hi : ops[i]? = some ⟨d, .indexAddr t x y, ty, pos, af, some g⟩) (h : XD P G F n ops kd (i :: σ) Q e L) : XD P G F n ops kd (i :: σ) Q e L := h
theorem XD_u (hi : ops[i]? = some o) (hg : o.guard = none) (h : XD P G F n ops kd (i :: σ) Q e L) : XD P G F n ops kd (i :: σ) Q e L := h
theorem XD_g (hi : ops[i]? = some o) (hg : o.guard = some g) (h : XD P G F n ops kd (i :: σ) Q e L) : XD P G F n ops kd (i :: σ) Q e L := h
end
end Go.Cof
set_option linter.unusedVariables false
set_option linter.unusedSectionVars false
namespace Go.Cof
open Go.RowKit
theorem all_range_eqI : ∀ (xs ys : List Int), xs.length = ys.length → ((List.range xs.length).all fun i => decide (xs.getD i 0 = ys.getD i 0)) = decide (xs = ys)
  | [], [], _ => rfl
  | x :: xs, y :: ys, h => by
    have ih := all_range_eqI xs ys (by simpa using h)
    rw [List.length_cons, List.range_succ_eq_map, List.all_cons, List.all_map]
    simp only [List.getD_cons_zero, Function.comp_def, List.getD_cons_succ, ih]
    by_cases h1 : x = y <;> by_cases h2 : xs = ys <;> simp [h1, h2]
  | [], _ :: _, h => by simp at h
  | _ :: _, [], h => by simp at h
section
variable {P : Program} (w : World)
theorem run_equalIn_ints (d : Nat) (t e : TypeId) (n : Nat) (k : IntKind) (ht : P.underlying t = some (.array n e)) (he : P.underlying e = some (.int k)) (hsz : ∀ w, (sizeOf e).run P w = .ok 1 w)
    (xs ys : List Int) (hx : xs.length = n) (hy : ys.length = n) :
    (Op.equalIn (d + 2) t (.agg (xs.map (Value.int k)).toArray) (.agg (ys.map (Value.int k)).toArray)).run P w = .ok (decide (xs = ys)) w := by
  rw [← all_range_eqI xs ys (hx.trans hy.symm), hx, List.range_eq_range', Op.equalIn]
  simp only [Sem.run_bind, run_underlying ht, Result.andThen_ok, hsz, Std.Legacy.Range.forIn_eq_forIn_range', Std.Legacy.Range.size, Nat.sub_zero, Nat.add_sub_cancel, Nat.div_one]
  have hl : ∀ i ∈ List.range' 0 n 1, i < n := fun i hi => by simpa using (List.mem_range'_1.1 hi).2
  generalize List.range' 0 n 1 = l at hl ⊢
  induction l with
  | nil => simp
  | cons i l ih =>
    have hi : i < n := hl i (by simp)
    have px : (part e (xs.map (Value.int k)).toArray (i * 1)).run P w = .ok (Value.int k (xs.getD i 0)) w := by
      simp [part, isAgg, run_underlying he, List.getD, List.getElem?_eq_getElem (show i < xs.length by omega)]
    have py : (part e (ys.map (Value.int k)).toArray (i * 1)).run P w = .ok (Value.int k (ys.getD i 0)) w := by
      simp [part, isAgg, run_underlying he, List.getD, List.getElem?_eq_getElem (show i < ys.length by omega)]
    have pe : (Op.equalIn (d + 1) e (Value.int k (xs.getD i 0)) (Value.int k (ys.getD i 0))).run P w = .ok (decide (xs.getD i 0 = ys.getD i 0)) w := by
      rw [run_equalIn_int w d e k k _ _ he]
      congr 1
    simp only [List.forIn_cons, Sem.run_bind, px, py, pe, Result.andThen_ok, List.all_cons]
    cases hb : (decide (xs.getD i 0 = ys.getD i 0))
    · simp
    · simp only [Bool.not_true, Bool.false_eq_true, if_false, Sem.run_pure, Result.andThen_ok, Bool.true_and]
      exact ih fun j hj => hl j (by simp [hj])
end
section
variable {P : Program} {T : Tab} {F G : Frz} {n : Nat} {Q : Exit → Act → World → Prop} {e : Env} {L : List HProp} {ops : Array Oper} {l : List Oper} {d : Option Tmp} {ty : TypeId} {pos : String} {af : Array Edge}
/-- Arrays of whole numbers that may be compared. -/
structure EqI (P : Program) (t : TypeId) (k : IntKind) (m : Nat) : Prop where
  guard : P.eqGuardType P.depth t = false
  el : ∃ e, P.underlying t = some (.array m e) ∧ P.underlying e = some (.int k) ∧ ∀ w, (sizeOf e).run P w = .ok 1 w
theorem EqI.of {t el : TypeId} {k : IntKind} {m : Nat} (hT : TabOk P T) {i j : TI} (ht : look T t = some i) (hd : i.desc = .array m el) (he : look T el = some j) (hk : j.desc = .int k) (hs : j.size = 1) (hg : P.eqGuardType P.depth t = false) : EqI P t k m :=
  ⟨hg, el, by rw [hT.und t i ht, hd], by rw [hT.und el j he, hk], fun w => by rw [run_sizeOf hT w he, hs]⟩
theorem XV_neqI {t : TypeId} {k : IntKind} {m : Nat} (hE : EqI P t k m) {x y : Operand} {a b : List Int} {ty2 : TypeId} (ha : a.length = m) (hb : b.length = m) (hx : ev e x = some (.agg (flat (encI k) a).toArray)) (hy : ev e y = some (.agg (flat (encI k) b).toArray)) : XV P G n ⟨d, .binOp .neq t x y ty2, ty, pos, af, none⟩ e (.bool (decide (¬ a = b))) := .mk fun ac w hf _ => by
  obtain ⟨el, h1, h2, h3⟩ := hE.el
  have := run_equalIn_ints (P := P) w 9998 t el m k h1 h2 h3 a b ha hb
  rw [← flat_i, ← flat_i] at this
  simp only [execOp, Sem.run_bind, hf.ev hx, hf.ev hy, run_eqGuard_agg w _ _ _ _ _ _ hE.guard, Result.andThen_ok, run_neq_struct, this, decide_not]
  rfl
theorem XL_neqI {t : TypeId} {k : IntKind} {m : Nat} (hE : EqI P t k m) {x y : Operand} {a b : List Int} {ty2 : TypeId} {e' : Env} (ha : a.length = m) (hb : b.length = m) (hx : ev e x = some (.agg (flat (encI k) a).toArray)) (hy : ev e y = some (.agg (flat (encI k) b).toArray)) (hp : putE n d (.bool (decide (¬ a = b))) e = some e') (h : XL P F n ops l Q e' L) : XL P F n ops (⟨d, .binOp .neq t x y ty2, ty, pos, af, none⟩ :: l) Q e L :=
  XL_val (o := ⟨d, .binOp .neq t x y ty2, ty, pos, af, none⟩) rfl hp (fun ac w hf hs => (XV_neqI (P := P) (G := F) (n := n) (d := d) (ty := ty) (pos := pos) (af := af) (ty2 := ty2) hE ha hb hx hy).out ac w hf hs.nil) h
/-- A whole array of one's own, loaded in a region that draws. -/
theorem XV_loadA (hT : TabOk P T) {α : Type} {E : Enc α} {t el : TypeId} {x : Operand} {b m len : Nat} {xs : List α} {ti : TI} (hx : ev e x = some (.pointer (some ⟨b, 0, none⟩))) (r : rdS E G.heap (some ⟨b, 0, none⟩) m xs) (hz : E.sz = 1) (h1 : len = m) (ht : look T t = some ti) (hd : ti.desc = .array len el) (hsz : ti.size = len) : XV P G n ⟨d, .load t x, ty, pos, af, none⟩ e (.agg (flat E xs).toArray) := .mk fun a w hf hs => by
  have hr0 := r.le hs.frz
  have hv : partV T t (flat E xs) 0 = some (.agg (flat E xs).toArray) := by
    have hagg : ti.agg = true := by unfold TI.agg; rw [hd]
    simp only [partV, ht, hagg, cond_true, List.drop_zero]
    rw [List.take_of_length_le (by rw [flat_length, hsz, ← hr0.1, hz, h1]; omega)]
  have hr := run_load_cells (P := P) hT hv (a := ⟨b, 0, none⟩) (w := w) (fun j u hj => cellH_world (hr0.2.2 j u hj)) (fun ti' h' => by
    rw [ht] at h'; cases h'; rw [hsz, flat_length, ← hr0.1, hz]; omega)
  rw [Addr.add_lit, Nat.zero_add] at hr
  simp [execOp, hf.ev hx, hr]
end
end Go.Cof
