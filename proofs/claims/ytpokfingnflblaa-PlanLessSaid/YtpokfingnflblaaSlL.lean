/- Loops and meeting ways by what changes; regions that draw with all whole blocks frozen. -/
import Derived.Test.YtpokfingnflblaaSlK
set_option linter.unusedVariables false
set_option linter.unusedSectionVars false
namespace Go.Cof
open Go.RowKit

/-- The slots of a list that are known, told anew. -/
def pickA : List Nat → Env → Env → Option Env
  | [], _, acc => some acc
  | k :: ks, e, acc => match look e k with
    | some v => pickA ks e ((k, v) :: acc)
    | none => pickA ks e acc
theorem look_pickA {e : Env} : ∀ (ks : List Nat) (acc e1 : Env), pickA ks e acc = some e1 → (∀ k v, look acc k = some v → look e k = some v) → ∀ k v, look e1 k = some v → look e k = some v
  | [], acc, e1, h, ha => by simp only [pickA, Option.some.injEq] at h; subst h; exact ha
  | j :: ks, acc, e1, h, ha => by
    simp only [pickA] at h
    cases hj : look e j with
    | none => rw [hj] at h; exact look_pickA ks acc e1 h ha
    | some u =>
      rw [hj] at h
      refine look_pickA ks ((j, u) :: acc) e1 h fun k v hk => ?_
      simp only [look] at hk
      cases hc : Nat.beq k j with
      | true => rw [hc] at hk; simp only [cond_true, Option.some.injEq] at hk; rw [Nat.eq_of_beq_eq_true hc, ← hk]; exact hj
      | false => rw [hc] at hk; exact ha k v hk
theorem look_app {d e : Env} {k : Nat} {v : Value} : look (d ++ e) k = some v → look d k = some v ∨ look e k = some v := by
  induction d with
  | nil => exact .inr
  | cons p d ih =>
    obtain ⟨j, u⟩ := p
    intro h
    simp only [List.cons_append, look] at h ⊢
    cases hc : Nat.beq k j with
    | true => rw [hc] at h; exact .inl h
    | false => rw [hc] at h; exact ih h
theorem Fr.pick {n : Nat} {e e1 : Env} {a : Act} {ks : List Nat} (h : Fr n e a) (hp : pickA ks e [] = some e1) : Fr n e1 a := ⟨h.size, h.defers, fun k v hk => h.get k v (look_pickA ks [] e1 hp (fun _ _ hx => by cases hx) k v hk)⟩
theorem Fr.app {n : Nat} {d e : Env} {a : Act} (h : Fr n d a) (h' : Fr n e a) : Fr n (d ++ e) a := ⟨h.size, h.defers, fun k v hk => (look_app hk).elim (h.get k v) (h'.get k v)⟩

section
variable {P : Program} {F : Frz} {n : Nat} {Q : Exit → Act → World → Prop} {e : Env} {L : List HProp}
theorem X_loopF {c : Code} {ι : Type} (E : ι → Env) (M : ι → List HProp) (p : ι → Prop) (μ : ι → Nat) (i0 : ι) (h0 : p i0) (he : ∀ a, Fr n e a → Fr n (E i0) a) (hL : ∀ h, stars L h → stars (M i0) h)
    (round : ∀ i, p i → X P F n c (Exit.then (fun a w => ∃ j, p j ∧ μ j < μ i ∧ Fr n (E j) a ∧ St F w (M j)) Q) (E i) (M i)) : X P F n (.loop c) Q e L := by
  refine .mk fun a w hf hs => ?_
  classical
  let I : Act → World → Prop := fun a w => ∃ i, p i ∧ Fr n (E i) a ∧ St F w (M i)
  let S : Act → World → Nat → Prop := fun a w m => ∃ i, p i ∧ Fr n (E i) a ∧ St F w (M i) ∧ μ i = m
  have hS : ∀ {a w}, I a w → ∃ m, S a w m := fun ⟨i, h1, h2, h3⟩ => ⟨μ i, i, h1, h2, h3, rfl⟩
  have mini : ∀ {a w}, I a w → ∃ m, S a w m ∧ ∀ m', S a w m' → m ≤ m' := fun {a w} h => by
    obtain ⟨m, hm⟩ := hS h
    induction m using Nat.strongRecOn with
    | _ m ih =>
      by_cases hx : ∃ m', m' < m ∧ S a w m'
      · obtain ⟨m', h1, h2⟩ := hx; exact ih m' h1 h2
      · exact ⟨m, hm, fun m' h' => Nat.le_of_not_lt fun hlt => hx ⟨m', hlt, h'⟩⟩
  let μ' : Act → World → Nat := fun a w => if h : I a w then Classical.choose (mini h) else 0
  refine wp_loop I μ' ⟨i0, h0, he a hf, hs.imp hL⟩ fun a w hI => ?_
  obtain ⟨⟨i, h1, h2, h3, h4⟩, hmin⟩ := Classical.choose_spec (mini hI)
  have e1 : μ' a w = μ i := by simp only [μ', dif_pos hI]; exact h4.symm
  refine wp_mono (round i h1 a w h2 h3) fun x a' w' hq => ?_
  cases x with
  | normal =>
    obtain ⟨j, g1, g2, g3, g4⟩ := hq
    have hI' : I a' w' := ⟨j, g1, g3, g4⟩
    refine ⟨hI', ?_⟩
    have : μ' a' w' ≤ μ j := by
      simp only [μ', dif_pos hI']
      exact (Classical.choose_spec (mini hI')).2 _ ⟨j, g1, g3, g4, rfl⟩
    omega
  | exit _ => exact hq
  | goto _ => exact hq
  | ret => exact hq
  | panic _ => exact hq
  | outgrown => exact hq

/-- A loop: D: the slots that change, ks: those that stay. -/
theorem X_loopD {c : Code} {ι : Type} (ks : List Nat) (D : ι → Env) (M : ι → List HProp) (p : ι → Prop) (μ : ι → Nat) (i0 : ι) {e1 : Env} (hk : pickA ks e [] = some e1) (h0 : p i0) (he : Sub (D i0) e) (hL : ∀ h, stars L h → stars (M i0) h)
    (round : ∀ i, p i → X P F n c (Exit.then (fun a w => ∃ j, p j ∧ μ j < μ i ∧ Fr n (D j ++ e1) a ∧ St F w (M j)) Q) (D i ++ e1) (M i)) : X P F n (.loop c) Q e L :=
  X_loopF (fun i => D i ++ e1) M p μ i0 h0 (fun a hf => (hf.sub he).app (hf.pick hk)) hL round
section
variable {α β γ : Type}
theorem X_loopD2 {c : Code} (ks : List Nat) (D : α → β → Env) (M : α → β → List HProp) (p : α → β → Prop) (μ : α → β → Nat) (a0 : α) (b0 : β) {e1 : Env} (hk : pickA ks e [] = some e1) (h0 : p a0 b0) (he : Sub (D a0 b0) e) (hL : ∀ h, stars L h → stars (M a0 b0) h)
    (round : ∀ a b, p a b → X P F n c (Exit.then (fun ac w => ∃ j : α × β, p j.1 j.2 ∧ μ j.1 j.2 < μ a b ∧ Fr n (D j.1 j.2 ++ e1) ac ∧ St F w (M j.1 j.2)) Q) (D a b ++ e1) (M a b)) : X P F n (.loop c) Q e L :=
  X_loopD (ι := α × β) ks (fun j => D j.1 j.2) (fun j => M j.1 j.2) (fun j => p j.1 j.2) (fun j => μ j.1 j.2) (a0, b0) hk h0 he hL fun j h => round j.1 j.2 h
theorem X_loopD3 {c : Code} (ks : List Nat) (D : α → β → γ → Env) (M : α → β → γ → List HProp) (p : α → β → γ → Prop) (μ : α → β → γ → Nat) (a0 : α) (b0 : β) (c0 : γ) {e1 : Env} (hk : pickA ks e [] = some e1) (h0 : p a0 b0 c0) (he : Sub (D a0 b0 c0) e) (hL : ∀ h, stars L h → stars (M a0 b0 c0) h)
    (round : ∀ a b x, p a b x → X P F n c (Exit.then (fun ac w => ∃ j : α × β × γ, p j.1 j.2.1 j.2.2 ∧ μ j.1 j.2.1 j.2.2 < μ a b x ∧ Fr n (D j.1 j.2.1 j.2.2 ++ e1) ac ∧ St F w (M j.1 j.2.1 j.2.2)) Q) (D a b x ++ e1) (M a b x)) : X P F n (.loop c) Q e L :=
  X_loopD (ι := α × β × γ) ks (fun j => D j.1 j.2.1 j.2.2) (fun j => M j.1 j.2.1 j.2.2) (fun j => p j.1 j.2.1 j.2.2) (fun j => μ j.1 j.2.1 j.2.2) (a0, b0, c0) hk h0 he hL fun j h => round j.1 j.2.1 j.2.2 h
end
/-- Ways that meet again. -/
theorem X_cutD {c : Code} {R : Act → World → Prop} {ι : Type} (ks : List Nat) (D : ι → Env) (M : ι → List HProp) (p : ι → Prop) {e1 : Env} (hk : pickA ks e [] = some e1) (h1 : X P F n c (Exit.then (fun a w => ∃ j, p j ∧ Fr n (D j ++ e1) a ∧ St F w (M j)) Q) e L)
    (h2 : ∀ j, p j → Y F n (Exit.then R Q) .normal (D j ++ e1) (M j)) : X P F n c (Exit.then R Q) e L := X_cutB (fun j => D j ++ e1) M p h1 h2
end

/-- What is frozen while a region runs, and what is not. -/
inductive Split : List HProp → List HProp → List HProp → Prop where
  | nil : Split [] [] []
  | frz {A : HProp} {L M R : List HProp} : Split L M R → Split (A :: L) (A :: M) R
  | keep {A : HProp} {L M R : List HProp} : Split L M R → Split (A :: L) M (A :: R)
theorem Split.blk {b : Nat} {cs : List Value} {et : TypeId} {L M R : List HProp} (h : Split L M R) : Split (Cof.blk b cs et :: L) (Cof.blk b cs et :: M) R := .frz h
theorem Split.perm {L M R : List HProp} (h : Split L M R) : L.Perm (M ++ R) := by
  induction h with
  | nil => exact List.Perm.refl _
  | frz _ ih => exact ih.cons _
  | keep _ ih => exact (ih.cons _).trans List.perm_middle.symm
section
variable {P : Program} {F : Frz} {n : Nat} {Q : Exit → Act → World → Prop} {e : Env} {L : List HProp} {ops : Array Oper}
theorem X_drawS {id : Nat} (σ : List Nat) (kd : Nat → Kin) (fu : Nat) {M R : List HProp} (hk : Split L M R) (hm : P.follows .mixedOrders = true) (hok : okSched fu ops kd (fun _ => false) σ = true)
    (h : ∀ G : Frz, Hp.le F.heap G.heap → stars M G.heap → (∀ w L, St G w L → St F w (L ++ M)) → XD P G G n ops kd σ Q e R) : X P F n (.region id ops true) Q e L := .mk fun a w hf hs =>
  (X_draw (P := P) (F := F) (e := e) (L := M ++ R) σ kd (fun _ => false) fu (List.replicate M.length 0) (takeP_all M R) hm hok h).out a w hf (hs.perm hk.perm)
where
  takeP_all (M R : List HProp) : takeP (M ++ R) (List.replicate M.length 0) = some (M, R) := by
    induction M with
    | nil => rfl
    | cons A M ih =>
      simp only [List.length_cons, List.replicate_succ, List.cons_append]
      simp only [takeP, List.getElem?_cons_zero, List.eraseIdx_zero, List.tail_cons, ih]
end
/-! what operation comes next -/
section
variable {P : Program} {F : Frz} {n : Nat} {ops : Array Oper} {l : List Oper} {Q : Exit → Act → World → Prop} {e : Env} {L : List HProp} {d : Option Tmp} {ty : TypeId} {pos : String} {af : Array Edge} {t : TypeId} {x y : Operand}
theorem XG_load (h : XL P F n ops (⟨d, .load t x, ty, pos, af, none⟩ :: l) Q e L) : XL P F n ops (⟨d, .load t x, ty, pos, af, none⟩ :: l) Q e L := h
theorem XG_store (h : XL P F n ops (⟨d, .store t x y, ty, pos, af, none⟩ :: l) Q e L) : XL P F n ops (⟨d, .store t x y, ty, pos, af, none⟩ :: l) Q e L := h
theorem XG_call {c : Call} (h : XL P F n ops (⟨d, .call c, ty, pos, af, none⟩ :: l) Q e L) : XL P F n ops (⟨d, .call c, ty, pos, af, none⟩ :: l) Q e L := h
theorem XG_alloc (h : XL P F n ops (⟨d, .alloc t, ty, pos, af, none⟩ :: l) Q e L) : XL P F n ops (⟨d, .alloc t, ty, pos, af, none⟩ :: l) Q e L := h
theorem XG_box (h : XL P F n ops (⟨d, .box t x, ty, pos, af, none⟩ :: l) Q e L) : XL P F n ops (⟨d, .box t x, ty, pos, af, none⟩ :: l) Q e L := h
theorem XG_build {ps : Array (Nat × Operand)} (h : XL P F n ops (⟨d, .build t ps, ty, pos, af, none⟩ :: l) Q e L) : XL P F n ops (⟨d, .build t ps, ty, pos, af, none⟩ :: l) Q e L := h
theorem XG_lit {k : Nat} {ps : Array (Nat × Operand)} (h : XL P F n ops (⟨d, .buildSlice t k ps, ty, pos, af, none⟩ :: l) Q e L) : XL P F n ops (⟨d, .buildSlice t k ps, ty, pos, af, none⟩ :: l) Q e L := h
theorem XG_make (h : XL P F n ops (⟨d, .makeSlice t x y, ty, pos, af, none⟩ :: l) Q e L) : XL P F n ops (⟨d, .makeSlice t x y, ty, pos, af, none⟩ :: l) Q e L := h
theorem XG_idx (h : XL P F n ops (⟨d, .indexAddr t x y, ty, pos, af, none⟩ :: l) Q e L) : XL P F n ops (⟨d, .indexAddr t x y, ty, pos, af, none⟩ :: l) Q e L := h
theorem XG_slice {lo hi mx : Option Operand} (h : XL P F n ops (⟨d, .slice t x lo hi mx, ty, pos, af, none⟩ :: l) Q e L) : XL P F n ops (⟨d, .slice t x lo hi mx, ty, pos, af, none⟩ :: l) Q e L := h
end
section
variable {P : Program} {T : Tab} {G : Frz} {n : Nat} {e : Env} {d : Option Tmp} {ty : TypeId} {pos : String} {af : Array Edge}
theorem XV_build (hT : TabOk P T) {t : TypeId} {parts : List (Nat × Operand)} {vs : List (Nat × Value)} {z : Value} {ti : TI} {fs : Array Field} {r : List Value} (ht : look T t = some ti) (hz : ti.zero = some z) (hd : ti.desc = .struct fs) (hin : fldsIn T fs.toList = true) (hv : evp e parts = some vs)
    (hr : fillV T fs z.cells.toList vs = some r) : XV P G n ⟨d, .build t parts.toArray, ty, pos, af, none⟩ e (.agg r.toArray) := .mk fun a w hf hs => by
    have hu := hT.und t ti ht
    rw [hd] at hu
    obtain ⟨ps, h1, h2⟩ := run_places hT w fs.toList hin
    have h3 := fillV_eq hT (place := (ps.toArray[·]?)) (fun i f tj hf htj => by simpa using h2 i f tj (by simpa using hf) htj) vs _ _ hr
    have h4 := hf.evp hv
    have h5 : (fs.mapM (fun (f : Field) => (do pure (f.offset, ← sizeOf f.type) : Sem (Nat × Nat)))).run P w = .ok ps.toArray w := by
      rw [show fs = fs.toList.toArray from by simp, List.mapM_toArray]
      simp only [Sem.run_map, h1, Result.andThen_ok]
    have h6 : (parts.toArray.map fun (i, x) => (i, a.eval x)).toList = vs := by simpa using h4
    simp only [execOp, Instr.build, Sem.run_bind, run_zeroValue hT w ht hz, Result.andThen_ok, run_underlying hu, h5]
    rw [h6]
    have h7 : z.cells.toList.toArray = z.cells := by simp
    rw [h7] at h3
    rw [h3]
    rfl
end
/-- A slice of one's own, as a datum. -/
structure Ow (α : Type) where
  A : Option Addr
  m : Nat
  c : Nat
  xs : List α
abbrev Ow.v {α : Type} (o : Ow α) : Value := .slice o.A o.m o.c
abbrev Ow.own {α : Type} (o : Ow α) (E : Enc α) : HProp := Cof.own E o.A o.m o.c o.xs
end Go.Cof
