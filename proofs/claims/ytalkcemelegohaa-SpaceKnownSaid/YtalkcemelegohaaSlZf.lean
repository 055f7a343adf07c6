/- Regions whose operations may run in any order: what each yields is told by a relation; a value, and parts of its own. -/
import Derived.Test.YtalkcemelegohaaSlZ
set_option linter.unusedVariables false
set_option linter.unusedSectionVars false
namespace Go.Cof
open Go.RowKit

/-- The values and the own parts of all operations. -/
abbrev Rho := Nat → Value × List HProp
def upd (ρ : Rho) (i : Nat) (x : Value × List HProp) : Rho := fun j => if j = i then x else ρ j
theorem upd_at (ρ : Rho) (i : Nat) (x : Value × List HProp) : upd ρ i x i = x := if_pos rfl
theorem upd_ne {ρ : Rho} {i j : Nat} {x : Value × List HProp} (h : j ≠ i) : upd ρ i x j = ρ j := if_neg h
/-- What is known of an operation: those whose values it needs, the one whose parts it takes, what it yields. -/
structure Job where
  dep : List Nat
  use : Option Nat
  rel : Rho → Prop
def dstOf (ops : Array Oper) (j : Nat) : Option Tmp := (ops[j]?).bind (·.dst)
def slot (ops : Array Oper) (ρ : Rho) (j : Nat) : Env := match dstOf ops j with | some t => [(t, (ρ j).1)] | none => []
def taken (us : List (Option Nat)) (S : Nat → Bool) (j : Nat) : Bool := (List.range us.length).any fun i => S i && us[i]? == some (some j)
def live (us : List (Option Nat)) (S : Nat → Bool) : List Nat := (List.range us.length).filter fun j => S j && !taken us S j
section
variable {P : Program} {ops : Array Oper} {n : Nat} {F : Frz}
theorem freeze {w : World} {M R : List HProp} (hs : St F w (M ++ R)) : ∃ G : Frz, Hp.le F.heap G.heap ∧ stars M G.heap ∧ St G w R ∧ ∀ w' L', St G w' L' → St F w' (L' ++ M) := by
  obtain ⟨k, a', d', c⟩ := hs.own
  obtain ⟨hM, hR, dMR, hMk, hRk, cM, cR⟩ := stars_append.1 c
  have dM : Hp.disj F.heap hM := d'.mono (Hp.le_refl F.heap) hMk
  refine ⟨{ F with heap := Hp.or F.heap hM }, Hp.le_or_left _ _, stars_up cM (Hp.le_or_right dM), ⟨hs.os, hs.tape, hs.output, hs.size, Hp.or_le hs.frz (hMk.trans a'), hR, hRk.trans a', Hp.disj_or (d'.mono (Hp.le_refl F.heap) hRk) dMR, cR⟩, fun w' L' hw => ?_⟩
  refine ⟨hw.os, hw.tape, hw.output, hw.size, (Hp.le_or_left _ _).trans hw.frz, ?_⟩
  obtain ⟨q, q1, q2, q3⟩ := hw.own
  have dq : Hp.disj hM q := q2.mono (Hp.le_or_right dM) (Hp.le_refl q)
  exact ⟨Hp.or q hM, Hp.or_le q1 ((Hp.le_or_right dM).trans hw.frz), (Hp.disj_or (q2.mono (Hp.le_or_left _ _) (Hp.le_refl q)).symm dM.symm).symm, stars_append.2 ⟨q, hM, dq.symm, Hp.le_or_left _ _, Hp.le_or_right dq.symm, q3, cM⟩⟩
theorem St.permL {w : World} {L M : List HProp} (h : St F w L) (p : L.Perm M) : St F w M := h.imp fun _ => stars_perm p
/-- The operation's own goal. -/
def KJ (J : Nat → Job) (ops : Array Oper) (n i : Nat) (ρ : Rho) (G : Frz) (base rest : Env) : Exit → Act → World → Prop := fun x a w =>
  x = .normal ∧ ∃ v M, (J i).rel (upd ρ i (v, M)) ∧ Fr n (slot ops (upd ρ i (v, M)) i ++ ((J i).dep.flatMap (slot ops ρ) ++ ((J i).use.toList.flatMap (slot ops ρ) ++ (base ++ rest)))) a ∧ St G w M
def Goal (P : Program) (J : Nat → Job) (ops : Array Oper) (n : Nat) (base : Env) (F : Frz) (i : Nat) : Prop := ∀ o, ops[i]? = some o → ∀ ρ : Rho, (∀ j ∈ (J i).dep, (J j).rel ρ) → (∀ j ∈ (J i).use, (J j).rel ρ) → ∀ G : Frz, Hp.le F.heap G.heap → (∀ j ∈ (J i).dep, stars (ρ j).2 G.heap) →
  ∀ rest : Env, XL P G n ops [o] (KJ J ops n i ρ G base rest) ((J i).dep.flatMap (slot ops ρ) ++ ((J i).use.toList.flatMap (slot ops ρ) ++ (base ++ rest))) ((J i).use.toList.flatMap fun j => (ρ j).2)
def Local (J : Nat → Job) (N : Nat) : Prop := ∀ j, j < N → ∀ i ρ x, i ≠ j → i ∉ (J j).dep → i ∉ (J j).use → (J j).rel ρ → (J j).rel (upd ρ i x)
/-- What is checked of the operations. -/
def okJob (ops : Array Oper) (ds : List (List Nat)) (us : List (Option Nat)) (ts : List Nat) : Bool :=
  Nat.beq us.length ops.size && Nat.beq ds.length ops.size &&
  (List.range ops.size).all (fun i => match (ops[i]? : Option Oper) with
    | none => false
    | some o => o.guard.isNone && o.after.toList.all (fun e => !Region.binds .any e || Nat.blt e.on i) &&
      ((ds.getD i []) ++ (us.getD i none).toList).all (fun d => o.after.toList.any fun e => Region.binds .any e && Nat.beq e.on d) &&
      (match o.dst with | none => true | some t => !ts.contains t) &&
      (List.range ops.size).all (fun j => Nat.beq i j || (match dstOf ops i, dstOf ops j with | some s, some t => !Nat.beq s t | _, _ => true)) &&
      (List.range ops.size).all (fun j => Nat.beq i j || !(us.getD i none).isSome || !(us.getD i none == us.getD j none)) &&
      (List.range ops.size).all (fun k => !(ds.getD i []).any (fun d => us.getD k none == some d)))
structure OkJ (ops : Array Oper) (J : Nat → Job) (us : List (Option Nat)) : Prop where
  len : us.length = ops.size
  us : ∀ i, i < ops.size → us[i]? = some (J i).use
  guard : ∀ (i : Nat) (o : Oper), ops[i]? = some o → o.guard = none
  back : ∀ (i : Nat) (o : Oper), ops[i]? = some o → ∀ e ∈ o.after, Region.binds .any e = true → e.on < i
  dep : ∀ (i : Nat) (o : Oper), ops[i]? = some o → ∀ d, d ∈ (J i).dep ∨ (J i).use = some d → ∃ e ∈ o.after, Region.binds .any e = true ∧ e.on = d
  sep : ∀ i j t, i ≠ j → dstOf ops i = some t → dstOf ops j ≠ some t
  free : ∀ i j k, i < ops.size → k < ops.size → j ∈ (J i).dep → (J k).use ≠ some j
  one : ∀ i j d, i < ops.size → j < ops.size → (J i).use = some d → (J j).use = some d → i = j
structure Inv (J : Nat → Job) (us : List (Option Nat)) (ops : Array Oper) (n : Nat) (F : Frz) (base : Env) (listed : Array Bool) (a : Act) (w : World) : Prop where
  size : listed.size = ops.size
  down : ∀ k o, ops[k]? = some o → listed.getD k false = true → ∀ e ∈ o.after, Region.binds .any e = true → listed.getD e.on false = true
  st : ∃ ρ : Rho, (∀ j, j < ops.size → listed.getD j false = true → (J j).rel ρ) ∧ Fr n base a ∧ (∀ j, j < ops.size → listed.getD j false = true → Fr n (slot ops ρ j) a) ∧ St F w ((live us fun j => listed.getD j false).flatMap fun j => (ρ j).2)
theorem live_nodup (us : List (Option Nat)) (S : Nat → Bool) : (live us S).Nodup := (List.nodup_range).filter _
theorem mem_live {us : List (Option Nat)} {S : Nat → Bool} {j : Nat} : j ∈ live us S ↔ j < us.length ∧ S j = true ∧ ∀ i, i < us.length → S i = true → us[i]? ≠ some (some j) := by
  unfold live taken
  simp only [List.mem_filter, List.mem_range, Bool.and_eq_true, Bool.not_eq_true', List.any_eq_false, beq_iff_eq, not_and]
theorem look_skip {d e : Env} {k : Nat} (h : ∀ v, look d k ≠ some v) : look (d ++ e) k = look e k := by
  induction d with
  | nil => rfl
  | cons p d ih =>
    obtain ⟨j, u⟩ := p
    rw [List.cons_append]
    show (bif Nat.beq k j then some u else look (d ++ e) k) = look e k
    have h1 := h
    cases hc : Nat.beq k j with
    | true => exact absurd (show look ((j, u) :: d) k = some u by show (bif Nat.beq k j then some u else _) = _; rw [hc]; rfl) (h u)
    | false => exact ih fun v hv => h v (by show (bif Nat.beq k j then some u else _) = _; rw [hc]; exact hv)
theorem look_left {d e : Env} {k : Nat} {v : Value} (h : look d k = some v) : look (d ++ e) k = some v := by
  induction d with
  | nil => cases h
  | cons p d ih =>
    obtain ⟨j, u⟩ := p
    rw [List.cons_append]
    have h : (bif Nat.beq k j then some u else look d k) = some v := h
    show (bif Nat.beq k j then some u else look (d ++ e) k) = some v
    cases hc : Nat.beq k j with
    | true => rw [hc] at h; exact h
    | false => rw [hc] at h; exact ih h
theorem slot_look {ρ : Rho} {j t : Nat} {v : Value} (h : look (slot ops ρ j) t = some v) : dstOf ops j = some t ∧ v = (ρ j).1 := by
  unfold slot at h
  cases hd : dstOf ops j with
  | none => rw [hd] at h; cases h
  | some s =>
    rw [hd] at h
    have h : (bif Nat.beq t s then some (ρ j).1 else none) = some v := h
    cases hc : Nat.beq t s with
    | true => rw [hc] at h; cases h; exact ⟨by rw [Nat.eq_of_beq_eq_true hc], rfl⟩
    | false => rw [hc] at h; cases h
theorem slot_at {ρ : Rho} {j t : Nat} (h : dstOf ops j = some t) : look (slot ops ρ j) t = some (ρ j).1 := by
  unfold slot
  rw [h]
  show (bif Nat.beq t t then _ else _) = _
  rw [Nat.beq_refl]; rfl
theorem flat_look {ρ : Rho} {l : List Nat} {t : Nat} {v : Value} (h : look (l.flatMap (slot ops ρ)) t = some v) : ∃ j ∈ l, dstOf ops j = some t := by
  induction l with
  | nil => cases h
  | cons k l ih =>
    rw [List.flatMap_cons] at h
    rcases look_app h with h | h
    · exact ⟨k, by simp, (slot_look h).1⟩
    · obtain ⟨j, h1, h2⟩ := ih h
      exact ⟨j, by simp [h1], h2⟩
theorem flat_at {ρ : Rho} (sep : ∀ i j t, i ≠ j → dstOf ops i = some t → dstOf ops j ≠ some t) {l : List Nat} {e : Env} {j t : Nat} (hj : j ∈ l) (hd : dstOf ops j = some t) : look (l.flatMap (slot ops ρ) ++ e) t = some (ρ j).1 := by
  induction l with
  | nil => cases hj
  | cons k l ih =>
    rw [List.flatMap_cons, List.append_assoc]
    by_cases hk : j = k
    · subst hk
      have h1 := slot_at (ρ := ρ) hd
      have h2 : slot ops ρ j = [(t, (ρ j).1)] := by unfold slot; rw [hd]
      rw [h2]
      show (bif Nat.beq t t then _ else _) = _
      rw [Nat.beq_refl]; rfl
    · rw [look_skip fun v hv => sep j k t hk hd (slot_look hv).1]
      exact ih ((List.mem_cons.1 hj).resolve_left hk)
theorem Fr.flat {ρ : Rho} {a : Act} {e : Env} (he : Fr n e a) : ∀ {l : List Nat}, (∀ j ∈ l, Fr n (slot ops ρ j) a) → Fr n (l.flatMap (slot ops ρ) ++ e) a
  | [], _ => he
  | k :: l, h => by
    rw [List.flatMap_cons, List.append_assoc]
    exact (h k (by simp)).app (Fr.flat he fun j hj => h j (by simp [hj]))
theorem wpOp_of {i : Nat} {o : Oper} {Q K : Exit → Act → World → Prop} {K' : Act → World → Prop} {a : Act} {w : World} (hi : ops[i]? = some o) (hg : o.guard = none) (hK : ∀ x a w, K x a w → x = .normal) (h : wpList P ops K [o] a w) (himp : ∀ a w, K .normal a w → K' a w) : wpOp P ops Q i K' a w := by
  unfold wpOp
  rw [hi]
  unfold wpList at h
  simp only
  have hw : Region.wanted o (yielded ops a.tmps) = true := wanted_none hg _
  rw [if_pos hw] at h ⊢
  rcases h with h | ⟨_, _, _, hx⟩
  · exact .inl (wp_fromNo (wp_noq (fun x _ _ hx h => hx (hK x _ _ h)) (fun a' w' hx => himp a' w' hx) h))
  · exact absurd (hK _ _ _ hx) (by simp)
theorem perm_flat {α β : Type} {l m : List α} (f : α → List β) (p : l.Perm m) : (l.flatMap f).Perm (m.flatMap f) := by
  induction p with
  | nil => exact .refl _
  | cons x _ ih => rw [List.flatMap_cons, List.flatMap_cons]; exact ih.append_left _
  | swap x y l =>
    rw [List.flatMap_cons, List.flatMap_cons, List.flatMap_cons, List.flatMap_cons, ← List.append_assoc, ← List.append_assoc]
    exact List.perm_append_comm.append_right _
  | trans _ _ h1 h2 => exact h1.trans h2
theorem perm_of {α : Type} [DecidableEq α] {l m : List α} (h1 : l.Nodup) (h2 : m.Nodup) (h : ∀ x, x ∈ l ↔ x ∈ m) : l.Perm m := (List.perm_ext_iff_of_nodup h1 h2).2 h
theorem flat_same {α β : Type} {l : List α} {f g : α → List β} (h : ∀ x ∈ l, f x = g x) : l.flatMap f = l.flatMap g := by
  induction l with
  | nil => rfl
  | cons x l ih => rw [List.flatMap_cons, List.flatMap_cons, h x (by simp), ih fun y hy => h y (by simp [hy])]
section
variable {J : Nat → Job} {us : List (Option Nat)} {base : Env}
theorem inv_step (ok : OkJ ops J us) (loc : Local J ops.size) (hb : ∀ i t, dstOf ops i = some t → look base t = none) (goal : ∀ i, i < ops.size → Goal P J ops n base F i) {Q : Exit → Act → World → Prop} {listed : Array Bool} {a : Act} {w : World} (h : Inv J us ops n F base listed a w) {i : Nat} (hi : i ∈ Region.ready .any ops listed) :
    wpOp P ops Q i (Inv J us ops n F base (listed.setIfInBounds i true)) a w := by
  obtain ⟨h1, o, ho, hall⟩ := mem_ready.1 hi
  have hlt : i < ops.size := (Array.getElem?_eq_some_iff.1 ho).1
  have hS : listed.getD i false = false := by
    rw [Array.getD_eq_getD_getElem?] at h1 ⊢
    rw [Array.getElem?_eq_getElem (by rw [h.size]; exact hlt)] at h1 ⊢
    exact h1
  obtain ⟨ρ, hrel, hbase, hslots, hst⟩ := h.st
  have hdep : ∀ d, d ∈ (J i).dep ∨ (J i).use = some d → d < ops.size ∧ listed.getD d false = true := fun d hd => by
    obtain ⟨e, he, hbd, rfl⟩ := ok.dep i o ho d hd
    exact ⟨Nat.lt_trans (ok.back i o ho e he hbd) hlt, hall e he hbd⟩
  have hget : ∀ k, (listed.setIfInBounds i true).getD k false = if k = i then true else listed.getD k false := fun k => by
    simp only [Array.getD_eq_getD_getElem?, Array.getElem?_setIfInBounds]
    by_cases hk : k = i
    · subst hk; simp [h.size, hlt]
    · rw [if_neg (fun e => hk e.symm), if_neg hk]
  -- the parts
  obtain ⟨oth, hoth⟩ : ∃ oth, oth = (live us fun j => listed.getD j false).filter fun j => !decide ((J i).use = some j) := ⟨_, rfl⟩
  have hmo : ∀ j, j ∈ oth ↔ j ∈ live us (fun j => listed.getD j false) ∧ (J i).use ≠ some j := fun j => by
    rw [hoth, List.mem_filter]; simp
  have hnd : oth.Nodup := by rw [hoth]; exact (live_nodup us _).filter _
  have hul : ∀ u, (J i).use = some u → u ∈ live us (fun j => listed.getD j false) := fun u hu => by
    obtain ⟨k1, k2⟩ := hdep u (.inr hu)
    refine mem_live.2 ⟨by rw [ok.len]; exact k1, k2, fun k hk hkS hku => ?_⟩
    rw [ok.len] at hk
    rw [ok.us k hk] at hku
    have := ok.one k i u hk hlt (Option.some.inj hku) hu
    subst this
    rw [hS] at hkS; cases hkS
  have p1 : (live us fun j => listed.getD j false).Perm (oth ++ (J i).use.toList) := by
    refine perm_of (live_nodup us _) ?_ fun x => ?_
    · refine List.nodup_append.2 ⟨hnd, by cases (J i).use <;> simp, fun x hx y hy e => ?_⟩
      subst e
      exact ((hmo x).1 hx).2 (by simpa using hy)
    · rw [List.mem_append, hmo]
      by_cases hx : (J i).use = some x
      · exact ⟨fun _ => .inr (by simp [hx]), fun _ => hul x hx⟩
      · exact ⟨fun hh => .inl ⟨hh, hx⟩, fun hh => hh.elim (fun hh => hh.1) fun hh => absurd (by simpa using hh) hx⟩
  have s1 := hst.permL (perm_flat _ p1)
  rw [List.flatMap_append] at s1
  obtain ⟨G, hFG, hM, hG, thaw⟩ := freeze s1
  have hdeps : ∀ j ∈ (J i).dep, stars (ρ j).2 G.heap := fun j hj => by
    obtain ⟨k1, k2⟩ := hdep j (.inl hj)
    have hjo : j ∈ oth := (hmo j).2 ⟨mem_live.2 ⟨by rw [ok.len]; exact k1, k2, fun k hk hkS hku => by
      rw [ok.len] at hk
      rw [ok.us k hk] at hku
      exact ok.free i j k hlt hk hj (Option.some.inj hku)⟩, fun hu => ok.free i j i hlt hlt hj hu⟩
    obtain ⟨l1, l2, e⟩ := List.append_of_mem hjo
    rw [e, List.flatMap_append, List.flatMap_cons] at hM
    obtain ⟨q1, q2, _, _, b2, _, cB⟩ := stars_append.1 hM
    obtain ⟨q3, q4, _, b3, _, cA, _⟩ := stars_append.1 cB
    exact stars_up cA (b3.trans b2)
  -- the slots
  obtain ⟨rest, hrest⟩ : ∃ rest, rest = ((List.range ops.size).filter fun j => listed.getD j false).flatMap (slot ops ρ) ++ base := ⟨_, rfl⟩
  have hmr : ∀ j, j ∈ ((List.range ops.size).filter fun j => listed.getD j false) ↔ j < ops.size ∧ listed.getD j false = true := fun j => by
    rw [List.mem_filter, List.mem_range]
  have frest : Fr n rest a := by
    rw [hrest]
    exact Fr.flat hbase fun j hj => hslots j ((hmr j).1 hj).1 ((hmr j).1 hj).2
  have fenv : Fr n ((J i).dep.flatMap (slot ops ρ) ++ ((J i).use.toList.flatMap (slot ops ρ) ++ (base ++ rest))) a :=
    Fr.flat (Fr.flat (hbase.app frest) fun j hj => by have := hdep j (.inr (by simpa using hj)); exact hslots j this.1 this.2) fun j hj => by have := hdep j (.inl hj); exact hslots j this.1 this.2
  have hx := (goal i hlt o ho ρ (fun j hj => by have := hdep j (.inl hj); exact hrel j this.1 this.2) (fun j hj => by have := hdep j (.inr hj); exact hrel j this.1 this.2) G hFG hdeps rest).out a w fenv hG
  refine wpOp_of ho (ok.guard i o ho) (fun x a w hk => hk.1) hx fun a' w' hk => ?_
  obtain ⟨_, v, M, hr, hf, hs⟩ := hk
  refine ⟨by simpa using h.size, fun k ok' hk hl e he hbd => ?_, upd ρ i (v, M), fun j hj hl => ?_, ⟨hf.size, hf.defers, fun t u ht => ?_⟩, fun j hj hl => ?_, ?_⟩
  · rw [hget] at hl ⊢
    split
    · rfl
    · split at hl
      · rename_i e1; subst e1; rw [ho] at hk; cases hk; exact hall e he hbd
      · exact h.down k ok' hk hl e he hbd
  · rw [hget] at hl
    split at hl
    · rename_i e1; subst e1; exact hr
    · rename_i e1
      refine loc j hj i ρ _ (fun e => e1 e.symm) (fun hd => ?_) (fun hd => ?_) (hrel j hj hl)
      · obtain ⟨oj, hoj⟩ : ∃ oj, ops[j]? = some oj := ⟨ops[j], Array.getElem?_eq_getElem hj⟩
        obtain ⟨e, he, hbd, e2⟩ := ok.dep j oj hoj i (.inl hd)
        have := h.down j oj hoj hl e he hbd
        rw [e2, hS] at this; cases this
      · obtain ⟨oj, hoj⟩ : ∃ oj, ops[j]? = some oj := ⟨ops[j], Array.getElem?_eq_getElem hj⟩
        obtain ⟨e, he, hbd, e2⟩ := ok.dep j oj hoj i (.inr (by simpa using hd))
        have := h.down j oj hoj hl e he hbd
        rw [e2, hS] at this; cases this
  · refine hf.get t u ?_
    have no : ∀ {l : List Nat} (v' : Value), look (l.flatMap (slot ops ρ)) t ≠ some v' := fun v' hv' => by
      obtain ⟨j, hj, hd⟩ := flat_look hv'
      rw [hb j t hd] at ht; cases ht
    rw [look_skip fun v' hv' => ?_, look_skip no, look_skip no]
    · exact look_left ht
    · rw [hb i t (slot_look hv').1] at ht; cases ht
  · refine ⟨hf.size, hf.defers, fun t u ht => ?_⟩
    obtain ⟨hd, hu⟩ := slot_look ht
    rw [hget] at hl
    by_cases e1 : j = i
    · subst e1
      refine hf.get t u ?_
      have h2 : slot ops (upd ρ j (v, M)) j = [(t, (upd ρ j (v, M) j).1)] := by unfold slot; rw [hd]
      rw [h2, hu]
      show (bif Nat.beq t t then _ else _) = _
      rw [Nat.beq_refl]; rfl
    · rw [if_neg e1] at hl
      rw [upd_ne e1] at hu
      refine hf.get t u ?_
      have go : ∀ (l : List Nat) (e : Env), look e t = some (ρ j).1 → look (l.flatMap (slot ops ρ) ++ e) t = some (ρ j).1 := fun l e he => by
        by_cases hjl : j ∈ l
        · exact flat_at ok.sep hjl hd
        · rw [look_skip fun v' hv' => ?_]
          · exact he
          · obtain ⟨k, hk, hdk⟩ := flat_look hv'
            by_cases hjk : j = k
            · subst hjk; exact hjl hk
            · exact ok.sep j k t hjk hd hdk
      rw [look_skip fun v' hv' => ok.sep j i t e1 hd (slot_look hv').1, go _ _ (go _ _ (by rw [look_skip fun v' hv' => ?_, hrest]; exact flat_at ok.sep ((hmr j).2 ⟨hj, hl⟩) hd; rw [hb j t hd] at hv'; cases hv')), hu]
  · have p2 : (live us fun j => (listed.setIfInBounds i true).getD j false).Perm (i :: oth) := by
      refine perm_of (live_nodup us _) (List.nodup_cons.2 ⟨fun hi => ?_, hnd⟩) fun x => ?_
      · have := (mem_live.1 ((hmo i).1 hi).1).2.1
        rw [hS] at this; cases this
      · rw [List.mem_cons, hmo, mem_live, mem_live]
        simp only [hget]
        constructor
        · rintro ⟨g1, g2, g3⟩
          by_cases hx : x = i
          · exact .inl hx
          · refine .inr ⟨⟨g1, by rwa [if_neg hx] at g2, fun k hk hkS => g3 k hk (by split <;> first | rfl | exact hkS)⟩, fun hu => ?_⟩
            exact g3 i (by rw [ok.len]; exact hlt) (if_pos rfl) (by rw [ok.us i hlt, hu])
        · rintro (rfl | ⟨⟨g1, g2, g3⟩, g4⟩)
          · refine ⟨by rw [ok.len]; exact hlt, if_pos rfl, fun k hk hkS hku => ?_⟩
            rw [ok.len] at hk
            rw [ok.us k hk] at hku
            obtain ⟨okk, hokk⟩ : ∃ okk, ops[k]? = some okk := ⟨ops[k], Array.getElem?_eq_getElem hk⟩
            obtain ⟨e, he, hbd, e2⟩ := ok.dep k okk hokk x (.inr (Option.some.inj hku))
            split at hkS
            · rename_i e3; subst e3
              have := ok.back k okk hokk e he hbd
              omega
            · have := h.down k okk hokk hkS e he hbd
              rw [e2, hS] at this; cases this
          · refine ⟨g1, by split <;> first | rfl | exact g2, fun k hk hkS hku => ?_⟩
            split at hkS
            · rename_i e3; subst e3
              rw [ok.len] at hk
              rw [ok.us k hk] at hku
              exact g4 (Option.some.inj hku)
            · exact g3 k hk hkS hku
    refine (thaw w' M hs).permL ?_
    refine List.Perm.trans ?_ (perm_flat _ p2).symm
    rw [List.flatMap_cons, upd_at]
    have e : (oth.flatMap fun j => (upd ρ i (v, M) j).2) = oth.flatMap fun j => (ρ j).2 := flat_same fun j hj => by
      have : j ≠ i := fun e => by
        subst e
        have := (mem_live.1 ((hmo j).1 hj).1).2.1
        rw [hS] at this; cases this
      rw [upd_ne this]
    rw [e]
/-- All of a region. -/
theorem inv_all (ok : OkJ ops J us) (loc : Local J ops.size) (hb : ∀ i t, dstOf ops i = some t → look base t = none) (goal : ∀ i, i < ops.size → Goal P J ops n base F i) {Q : Exit → Act → World → Prop}
    (hend : ∀ a w (ρ : Rho), (∀ j, j < ops.size → (J j).rel ρ) → Fr n ((List.range ops.size).flatMap (slot ops ρ) ++ base) a → St F w ((live us fun j => decide (j < ops.size)).flatMap fun j => (ρ j).2) → Q .normal a w) : ∀ (fuel : Nat) (listed : Array Bool) (a : Act) (w : World), ((List.range ops.size).filter fun j => !listed.getD j false).length = fuel → Inv J us ops n F base listed a w → wpAny P .any ops Q fuel listed a w := by
  have fin : ∀ (listed : Array Bool) (a : Act) (w : World), Inv J us ops n F base listed a w → (∀ j, j < ops.size → listed.getD j false = true) → Q .normal a w := fun listed a w h hl => by
    obtain ⟨ρ, hrel, hbase, hslots, hst⟩ := h.st
    refine hend a w ρ (fun j hj => hrel j hj (hl j hj)) (Fr.flat hbase fun j hj => hslots j (List.mem_range.1 hj) (hl j (List.mem_range.1 hj))) (hst.permL (perm_flat _ (perm_of (live_nodup us _) (live_nodup us _) fun x => ?_)))
    rw [mem_live, mem_live]
    have key : ∀ j, listed.getD j false = decide (j < ops.size) := fun j => by
      by_cases hj : j < ops.size
      · rw [hl j hj, decide_eq_true hj]
      · rw [decide_eq_false hj, Array.getD_eq_getD_getElem?, Array.getElem?_eq_none (by rw [h.size]; omega)]; rfl
    simp only [key]
  have least : ∀ (listed : Array Bool), (∀ k o, ops[k]? = some o → listed.getD k false = true → True) → listed.size = ops.size → Region.ready .any ops listed = [] → ∀ j, j < ops.size → listed.getD j false = true := fun listed _ hsz hr => by
    have key : ∀ m j, j < m → j < ops.size → listed.getD j false = true := fun m => by
      induction m with
      | zero => intro j hj; omega
      | succ m ih =>
        intro j hj hlt
        by_cases hjm : j < m
        · exact ih j hjm hlt
        · cases hc : listed.getD j false with
          | true => rfl
          | false =>
            exfalso
            have : j ∈ Region.ready .any ops listed := by
              refine mem_ready.2 ⟨?_, ops[j], Array.getElem?_eq_getElem hlt, fun e he hbd => ?_⟩
              · rw [Array.getD_eq_getD_getElem?] at hc ⊢
                rw [Array.getElem?_eq_getElem (by omega)] at hc ⊢
                exact hc
              · have := ok.back j ops[j] (Array.getElem?_eq_getElem hlt) e he hbd
                exact ih e.on (by omega) (by omega)
            rw [hr] at this; cases this
    exact fun j hj => key ops.size j hj hj
  intro fuel
  induction fuel with
  | zero =>
    intro listed a w hf h
    have hl : ∀ j, j < ops.size → listed.getD j false = true := fun j hj => by
      have := List.length_eq_zero_iff.1 hf
      rw [List.filter_eq_nil_iff] at this
      simpa using this j (List.mem_range.2 hj)
    refine ⟨?_, fin listed a w h hl⟩
    cases hr : Region.ready .any ops listed with
    | nil => rfl
    | cons i l =>
      exfalso
      obtain ⟨h1, o, ho, _⟩ := mem_ready.1 (show i ∈ Region.ready .any ops listed by rw [hr]; simp)
      have hlt : i < ops.size := (Array.getElem?_eq_some_iff.1 ho).1
      have h2 := hl i hlt
      rw [Array.getD_eq_getD_getElem?] at h1 h2
      rw [Array.getElem?_eq_getElem (by rw [h.size]; exact hlt)] at h1 h2
      simp only [Option.getD_some] at h1 h2
      rw [h1] at h2
      cases h2
  | succ fuel ih =>
    intro listed a w hf h
    refine ⟨fun hr => fin listed a w h (least listed (fun _ _ _ _ => trivial) h.size hr), fun i hi => ?_⟩
    refine wpOp_mono (fun a' w' h' => ih _ a' w' ?_ h') (inv_step ok loc hb goal h hi)
    obtain ⟨h1, o, ho, _⟩ := mem_ready.1 hi
    have hlt : i < ops.size := (Array.getElem?_eq_some_iff.1 ho).1
    have hS : listed.getD i false = false := by
      rw [Array.getD_eq_getD_getElem?] at h1 ⊢
      rw [Array.getElem?_eq_getElem (by rw [h.size]; exact hlt)] at h1 ⊢
      exact h1
    have hget : ∀ k, (listed.setIfInBounds i true).getD k false = if k = i then true else listed.getD k false := fun k => by
      simp only [Array.getD_eq_getD_getElem?, Array.getElem?_setIfInBounds]
      by_cases hk : k = i
      · subst hk; simp [h.size, hlt]
      · rw [if_neg (fun e => hk e.symm), if_neg hk]
    have p : ((List.range ops.size).filter fun j => !listed.getD j false).Perm (i :: (List.range ops.size).filter fun j => !(listed.setIfInBounds i true).getD j false) := by
      refine perm_of (List.nodup_range.filter _) (List.nodup_cons.2 ⟨by rw [List.mem_filter, hget, if_pos rfl]; simp, List.nodup_range.filter _⟩) fun x => ?_
      rw [List.mem_cons, List.mem_filter, List.mem_filter, hget, List.mem_range]
      by_cases hx : x = i
      · subst hx; simp [hS, hlt]
      · rw [if_neg hx]; simp [hx]
    have := p.length_eq
    rw [hf, List.length_cons] at this
    omega
end
def JJ (ds : List (List Nat)) (us : List (Option Nat)) (rel : Nat → Rho → Prop) (i : Nat) : Job := ⟨ds.getD i [], us.getD i none, rel i⟩
theorem okJ_of {ds : List (List Nat)} {us : List (Option Nat)} {rel : Nat → Rho → Prop} {ts : List Nat} (h : okJob ops ds us ts = true) : OkJ ops (JJ ds us rel) us ∧ ∀ i t, dstOf ops i = some t → t ∉ ts := by
  simp only [okJob, Bool.and_eq_true] at h
  obtain ⟨⟨h1, h2⟩, h3⟩ := h
  have h1 := Nat.eq_of_beq_eq_true h1
  have h2 := Nat.eq_of_beq_eq_true h2
  rw [List.all_eq_true] at h3
  have key : ∀ i, (hi : i < ops.size) → ops[i]? = some ops[i] := fun i hi => Array.getElem?_eq_getElem hi
  have at_ : ∀ i (o : Oper), ops[i]? = some o → i < ops.size := fun i o ho => (Array.getElem?_eq_some_iff.1 ho).1
  have dlt : ∀ i t, dstOf ops i = some t → ∃ o, ops[i]? = some o ∧ o.dst = some t := fun i t hd => by
    unfold dstOf at hd
    cases ho : ops[i]? with
    | none => rw [ho] at hd; cases hd
    | some o => rw [ho] at hd; exact ⟨o, rfl, hd⟩
  have all : ∀ i (o : Oper), ops[i]? = some o → _ := fun i o ho => by
    have := h3 i (List.mem_range.2 (at_ i o ho))
    rw [ho] at this
    simpa only [Bool.and_eq_true] using this
  refine ⟨⟨h1, fun i hi => ?_, fun i o ho => ?_, fun i o ho e he hb => ?_, fun i o ho d hd => ?_, fun i j t hij hi hj => ?_, fun i j k hi hk hj hu => ?_, fun i j d hi hj h4 h5 => ?_⟩, fun i t hd ht => ?_⟩
  · show us[i]? = some (us.getD i none)
    rw [List.getD_eq_getElem?_getD, List.getElem?_eq_getElem (by omega)]; rfl
  · have := (all i o ho).1.1.1.1.1.1
    simpa using this
  · have := (all i o ho).1.1.1.1.1.2
    rw [List.all_eq_true] at this
    have := this e (by simpa using he)
    rw [hb] at this
    simpa [Nat.blt_eq] using this
  · have := (all i o ho).1.1.1.1.2
    rw [List.all_eq_true] at this
    have := this d (by
      rcases hd with hd | hd
      · exact List.mem_append.2 (.inl hd)
      · exact List.mem_append.2 (.inr (by show d ∈ (us.getD i none).toList; rw [show us.getD i none = some d from hd]; simp)))
    rw [List.any_eq_true] at this
    obtain ⟨e, he, hb⟩ := this
    rw [Bool.and_eq_true] at hb
    exact ⟨e, by simpa using he, hb.1, Nat.eq_of_beq_eq_true hb.2⟩
  · obtain ⟨o, ho, hd⟩ := dlt i t hi
    obtain ⟨o', ho', hd'⟩ := dlt j t hj
    have := (all i o ho).1.1.2
    rw [List.all_eq_true] at this
    have := this j (List.mem_range.2 (at_ j o' ho'))
    rw [hi, hj, Bool.or_eq_true] at this
    rcases this with h6 | h6
    · exact hij (Nat.eq_of_beq_eq_true h6)
    · have h6 : (!Nat.beq t t) = true := h6
      rw [Nat.beq_refl] at h6; cases h6
  · have := (all i ops[i] (key i hi)).2
    rw [List.all_eq_true] at this
    have := this k (List.mem_range.2 hk)
    rw [Bool.not_eq_true'] at this
    have h6 : (ds.getD i []).any (fun d => us.getD k none == some d) = true := List.any_eq_true.2 ⟨j, hj, by rw [show us.getD k none = some j from hu]; simp⟩
    rw [h6] at this; cases this
  · have := (all i ops[i] (key i hi)).1.2
    rw [List.all_eq_true] at this
    have := this j (List.mem_range.2 hj)
    rw [show us.getD i none = some d from h4, show us.getD j none = some d from h5] at this
    simp at this
    exact this
  · obtain ⟨o, ho, hd'⟩ := dlt i t hd
    have := (all i o ho).1.1.1.2
    rw [hd'] at this
    simp at this
    exact this ht
theorem pickA_keys {e : Env} : ∀ (ks : List Nat) (acc e1 : Env), pickA ks e acc = some e1 → ∀ k v, look e1 k = some v → k ∈ ks ∨ look acc k = some v
  | [], acc, e1, h, k, v, hk => by
    simp only [pickA, Option.some.injEq] at h
    subst h; exact .inr hk
  | x :: ks, acc, e1, h, k, v, hk => by
    unfold pickA at h
    cases hx : look e x with
    | none =>
      rw [hx] at h
      exact (pickA_keys ks acc e1 h k v hk).imp (fun h => by simp [h]) id
    | some u =>
      rw [hx] at h
      rcases pickA_keys ks _ e1 h k v hk with h1 | h1
      · exact .inl (by simp [h1])
      · have h1 : (bif Nat.beq k x then some u else look acc k) = some v := h1
        cases hc : Nat.beq k x with
        | true => exact .inl (by rw [Nat.eq_of_beq_eq_true hc]; simp)
        | false => rw [hc] at h1; exact .inr h1
/-- A region of any order: all that is owned is frozen meanwhile. -/
theorem X_job {id : Nat} {Q : Exit → Act → World → Prop} {e base : Env} {L : List HProp} (ks : List Nat) (ds : List (List Nat)) (us : List (Option Nat)) (rel : Nat → Rho → Prop) (fin lv : List Nat) (hm : P.follows .mixedOrders = true) (hk : pickA ks e [] = some base) (hok : okJob ops ds us ks = true) (hlv : live us (fun j => decide (j < ops.size)) = lv)
    (hfin : fin.all (fun j => Nat.blt j ops.size) = true) (hloc : Local (JJ ds us rel) ops.size)
    (goal : ∀ G : Frz, Hp.le F.heap G.heap → stars L G.heap → ∀ i, i < ops.size → Goal P (JJ ds us rel) ops n base G i)
    (h : ∀ ρ : Rho, (∀ j, j < ops.size → rel j ρ) → Y F n Q .normal (fin.flatMap (slot ops ρ) ++ base) (lv.flatMap (fun j => (ρ j).2) ++ L)) : X P F n (.region id ops true) Q e L := .mk fun a w hf hs => by
  obtain ⟨ok, hts⟩ := okJ_of (rel := rel) hok
  obtain ⟨G, hFG, hM, hG, thaw⟩ := freeze (M := L) (R := []) (by rw [List.append_nil]; exact hs)
  have hb : Fr n base a := hf.pick hk
  refine wp_region_any hm (inv_all (F := G) (base := base) ok hloc (fun i t hd => ?_) (goal G hFG hM) (Q := Q) (fun a' w' ρ hrel hf' hs' => ?_) ops.size _ _ _ ?_ ⟨by simp, fun k o _ hl => ?_, fun _ => (.bool true, []), fun j hj hl => ?_, hb, fun j hj hl => ?_, ?_⟩)
  · cases hc : look base t with
    | none => rfl
    | some v =>
      rcases pickA_keys ks [] base hk t v hc with h1 | h1
      · exact absurd h1 (hts i t hd)
      · cases h1
  · have hfn : Fr n (fin.flatMap (slot ops ρ) ++ base) a' := by
      have hbase : Fr n base a' := ⟨hf'.size, hf'.defers, fun t u ht => hf'.get t u (by
        rw [look_skip fun v' hv' => ?_]
        · exact ht
        · obtain ⟨j, hj, hd⟩ := flat_look hv'
          rcases pickA_keys ks [] base hk t u ht with h1 | h1
          · exact hts j t hd h1
          · cases h1)⟩
      refine Fr.flat hbase fun j hj => ⟨hf'.size, hf'.defers, fun t u ht => ?_⟩
      obtain ⟨hd, hu⟩ := slot_look ht
      have hlt : j < ops.size := by simpa [Nat.blt_eq] using List.all_eq_true.1 hfin j hj
      exact hf'.get t u (by rw [flat_at ok.sep (List.mem_range.2 hlt) hd, hu])
    rw [hlv] at hs'
    exact (h ρ hrel).out a' w' hfn (thaw w' _ hs')
  · have : ((List.range ops.size).filter fun j => !(Array.replicate ops.size false).getD j false) = List.range ops.size := by
      rw [List.filter_eq_self]
      intro j hj
      have := List.mem_range.1 hj
      simp [Array.getD_eq_getD_getElem?, this]
    rw [this, List.length_range]
  · exfalso
    rw [Array.getD_eq_getD_getElem?] at hl
    by_cases hlt : k < ops.size
    · simp [hlt] at hl
    · rw [Array.getElem?_eq_none (by simpa using hlt)] at hl; cases hl
  · exfalso
    simp [Array.getD_eq_getD_getElem?, hj] at hl
  · exfalso
    simp [Array.getD_eq_getD_getElem?, hj] at hl
  · have e0 : (live us fun j => (Array.replicate ops.size false).getD j false) = [] := by
      rw [List.eq_nil_iff_forall_not_mem]
      intro x hx
      have h1 := (mem_live.1 hx).2.1
      rw [Array.getD_eq_getD_getElem?] at h1
      by_cases hlt : x < ops.size
      · simp [hlt] at h1
      · rw [Array.getElem?_eq_none (by simpa using hlt)] at h1; cases h1
    rw [e0]
    exact hG.drew
theorem Y_job {J : Nat → Job} {i : Nat} {ρ : Rho} {G : Frz} {base rest : Env} {e : Env} {M : List HProp} (v : Value) (hr : (J i).rel (upd ρ i (v, M))) (he : slot ops (upd ρ i (v, M)) i ++ ((J i).dep.flatMap (slot ops ρ) ++ ((J i).use.toList.flatMap (slot ops ρ) ++ (base ++ rest))) = e) : Y G n (KJ J ops n i ρ G base rest) .normal e M :=
  .mk fun a w hf hs => ⟨rfl, v, M, hr, by rw [he]; exact hf, hs⟩
theorem XL_xv {G : Frz} {o : Oper} {l : List Oper} {Q : Exit → Act → World → Prop} {e e' : Env} {L : List HProp} {v : Value} (hv : XV P G n o e v) (hg : o.guard = none) (hp : putE n o.dst v e = some e') (h : XL P G n ops l Q e' L) : XL P G n ops (o :: l) Q e L :=
  XL_next (o := o) hg fun a w hf hs => ⟨v, w, e', L, .inl (hv.out a w hf hs.nil), hp, hs, h⟩
end
end Go.Cof
