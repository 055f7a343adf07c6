/- Regions in which the first operation that turns memory may be one of several: each is walked. -/
import Derived.Test.YtpokfingnflblaaSlM
set_option linter.unusedVariables false
set_option linter.unusedSectionVars false
namespace Go.Cof
open Go.RowKit

/-- One order: values ahead, the first operation that turns memory, the rest. -/
structure Way where
  pre : List Nat
  i : Nat
  post : List Nat
def Way.all (x : Way) : List Nat := x.pre ++ x.i :: x.post
/-- i may stand ahead of q. -/
def freeB (ops : Array Oper) (p q : Nat) : Bool := match ops[p]? with
  | some op => !(op.after.toList.any fun e => Region.binds .any e && Nat.beq e.on q)
  | none => false
def okHead (fu : Nat) (ops : Array Oper) (kd : Nat → Kin) (i q : Nat) : Bool :=
  (decide (kd q = .m) && freeB ops i q) || okPair fu ops kd (fun _ => false) i q
def okWay (fu : Nat) (ops : Array Oper) (kd : Nat → Kin) (x : Way) : Bool :=
  Nat.beq x.all.length ops.size && (List.range ops.size).all (fun i => x.all.contains i) && x.all.all (fun i => Nat.blt i ops.size) && pairsB (fun p q => !Nat.beq p q) x.all &&
  x.all.all (okOne ops kd (fun _ => false)) && pairsB (okPair fu ops kd (fun _ => false)) (x.pre ++ x.post) && x.pre.all (fun p => decide (kd p = .s) && okPair fu ops kd (fun _ => false) p x.i) && decide (kd x.i = .m) && x.post.all (okHead fu ops kd x.i)
/-- Each operation that turns memory may come first, or hangs on one that has not run. -/
def covered (fu : Nat) (ops : Array Oper) (kd : Nat → Kin) (S : List Way) : Bool :=
  (List.range ops.size).all fun q => decide (kd q = .s) || S.any (fun x => Nat.beq x.i q) || S.any (fun x => depF ops fu q x.i)
def okFam (fu : Nat) (ops : Array Oper) (kd : Nat → Kin) (S : List Way) : Bool := Region.noSelect ops && S.all (okWay fu ops kd) && covered fu ops kd S && !S.isEmpty

section
variable {P : Program} {ops : Array Oper} {kd : Nat → Kin} {C : World → Prop}
theorem op_step {Q : Exit → Act → World → Prop} {i : Nat} {oi : Oper} (hoi : ops[i]? = some oi) {K : Act → World → Prop} {a : Act} {w : World} {fuel : Nat} {listed : Array Bool} (hl : kd i ≠ .l) (hC : C w)
    (rest : ∀ a' w', C w' → K a' w' → wpAny P .any ops Q fuel (listed.setIfInBounds i true) a' w') (h : opW P ops kd C i K a w) : wpOp P ops Q i (wpAny P .any ops Q fuel (listed.setIfInBounds i true)) a w := by
  rw [opW_at hoi] at h
  unfold wpOp
  rw [hoi]
  simp only at h ⊢
  by_cases hw : Region.wanted oi (yielded ops a.tmps) = true
  · rw [if_pos hw] at h ⊢
    left
    cases hk : kd i with
    | s =>
      rw [hk] at h
      obtain ⟨v, g1, g2⟩ := h
      unfold Oper.wp
      rw [g1 w hC]
      exact rest _ _ hC g2
    | m =>
      rw [hk] at h
      exact wp_imp (fun a' w' hx => rest a' w' hx.1 hx.2) h
    | l => exact absurd hk hl
  · rw [if_neg hw] at h ⊢
    exact rest _ _ hC h
structure WayOk (fu : Nat) (ops : Array Oper) (kd : Nat → Kin) (listed : Array Bool) (fuel : Nat) (x : Way) : Prop where
  len : fuel = x.pre.length + x.post.length + 1
  nd : (x.pre ++ x.i :: x.post).Nodup
  mem : ∀ j, j ∈ x.pre ++ x.i :: x.post ↔ j < ops.size ∧ listed.getD j false = false
  pw : (x.pre ++ x.post).Pairwise (fun p q => okPair fu ops kd (fun _ => false) p q = true)
  hs : ∀ p ∈ x.pre, kd p = .s ∧ okPair fu ops kd (fun _ => false) p x.i = true
  hm : kd x.i = .m
  hd : ∀ q ∈ x.post, okHead fu ops kd x.i q = true
  one : ∀ p ∈ x.pre ++ x.i :: x.post, okOne ops kd (fun _ => false) p = true
theorem okPair_spec {fu p q : Nat} (h : okPair fu ops kd (fun _ => false) p q = true) : ∃ op oq, ops[p]? = some op ∧ ops[q]? = some oq ∧ (∀ e ∈ op.after, Region.binds .any e = true → e.on ≠ q) ∧ ((kd p = .s ∧ op.apart ops oq = true ∧ kd q ≠ .l) ∨ depF ops fu q p = true) := by
  unfold okPair at h
  split at h
  · rename_i op oq e1 e2
    simp only [Bool.and_eq_true, Bool.or_eq_true, Bool.not_eq_true', decide_eq_true_eq, decide_eq_false_iff_not] at h
    refine ⟨op, oq, e1, e2, fun e he hb heq => ?_, ?_⟩
    · have := h.1.1
      rw [List.any_eq_false] at this
      have h5 := this e (by simpa using he)
      simp [hb, heq] at h5
    · rcases h.2 with h3 | h3
      · exact .inl ⟨h3.1.1.1, h3.1.1.2, h3.1.2⟩
      · exact .inr h3
  · cases h
theorem okHead_spec {fu i q : Nat} (h : okHead fu ops kd i q = true) : (∃ op, ops[i]? = some op ∧ ∀ e ∈ op.after, Region.binds .any e = true → e.on ≠ q) ∧ (kd q = .m ∨ okPair fu ops kd (fun _ => false) i q = true) := by
  unfold okHead at h
  rw [Bool.or_eq_true, Bool.and_eq_true] at h
  rcases h with ⟨h1, h2⟩ | h1
  · refine ⟨?_, .inl (by simpa using h1)⟩
    unfold freeB at h2
    split at h2
    · rename_i op e1
      refine ⟨op, e1, fun e he hb heq => ?_⟩
      simp only [Bool.not_eq_true'] at h2
      rw [List.any_eq_false] at h2
      have h5 := h2 e (by simpa using he)
      simp [hb, heq] at h5
    · cases h2
  · obtain ⟨op, _, h2, _, h3, _⟩ := okPair_spec h1
    exact ⟨⟨op, h2, h3⟩, .inr h1⟩
theorem fam_any {fu : Nat} {Q : Exit → Act → World → Prop} (hsel : ∀ (j : Nat) (o : Oper) cs b, ops[j]? = some o → o.op ≠ .select cs b) : ∀ (fuel : Nat) (S : List Way) (listed : Array Bool) (a : Act) (w : World), S ≠ [] → listed.size = ops.size →
    (∀ x ∈ S, WayOk fu ops kd listed fuel x) → (∀ q, q < ops.size → listed.getD q false = false → kd q = .s ∨ ∃ x ∈ S, x.i = q ∨ depF ops fu q x.i = true) →
    (∀ k o, ops[k]? = some o → listed.getD k false = true → ∀ e ∈ o.after, Region.binds .any e = true → listed.getD e.on false = true) → C w →
    (∀ x ∈ S, wlx P ops kd C (fun a w => Q .normal a w) (x.pre ++ x.i :: x.post) a w) → wpAny P .any ops Q fuel listed a w
  | 0, S, listed, a, w, hne, hsz, hok, hcov, hdown, hC, h => by
    obtain ⟨x, hx⟩ := List.exists_mem_of_ne_nil S hne
    have := (hok x hx).len
    omega
  | fuel + 1, S, listed, a, w, hne, hsz, hok, hcov, hdown, hC, h => by
    have getD_tf : ∀ i, i < ops.size → (listed.getD i true = listed.getD i false) := fun i hi => by
      rw [Array.getD_eq_getD_getElem?, Array.getD_eq_getD_getElem?, Array.getElem?_eq_getElem (by omega)]; rfl
    refine ⟨fun hr => ?_, fun i hi => ?_⟩
    · exfalso
      obtain ⟨x, hx⟩ := List.exists_mem_of_ne_nil S hne
      have k := hok x hx
      obtain ⟨p, l, hpl, hfree⟩ : ∃ p l, x.pre ++ x.i :: x.post = p :: l ∧ ∀ op, ops[p]? = some op → ∀ q ∈ l, ∀ e ∈ op.after, Region.binds .any e = true → e.on ≠ q := by
        cases hp : x.pre with
        | nil =>
          refine ⟨x.i, x.post, rfl, fun op ho q hq e he hb => ?_⟩
          obtain ⟨⟨op', h1, h2⟩, _⟩ := okHead_spec (k.hd q hq)
          rw [ho] at h1; cases h1
          exact h2 e he hb
        | cons p l =>
          refine ⟨p, l ++ x.i :: x.post, rfl, fun op ho q hq e he hb => ?_⟩
          have key : okPair fu ops kd (fun _ => false) p q = true := by
            have hpw := k.pw
            rw [hp, List.cons_append] at hpw
            rcases List.mem_append.1 hq with h1 | h1
            · exact List.rel_of_pairwise_cons hpw (List.mem_append.2 (.inl h1))
            · cases h1 with
              | head => exact (k.hs p (by rw [hp]; simp)).2
              | tail _ h1 => exact List.rel_of_pairwise_cons hpw (List.mem_append.2 (.inr h1))
          obtain ⟨op', _, h1, _, h2, _⟩ := okPair_spec key
          rw [ho] at h1; cases h1
          exact h2 e he hb
      have hpm : p ∈ x.pre ++ x.i :: x.post := by rw [hpl]; simp
      have hp := (k.mem p).1 hpm
      have h1 := k.one p hpm
      unfold okOne at h1
      split at h1
      · rename_i o ho
        simp only [Bool.and_eq_true, List.all_eq_true, Bool.or_eq_true, Bool.not_eq_true'] at h1
        have : p ∈ Region.ready .any ops listed := by
          refine mem_ready.2 ⟨by rw [getD_tf p hp.1]; exact hp.2, o, ho, fun e he hb => ?_⟩
          have h2 := h1.1 e (by simpa using he)
          rw [hb] at h2
          simp only [Bool.true_eq_false, false_or] at h2
          have hlt : e.on < ops.size := by simpa [Nat.blt_eq] using h2.1
          cases hc : listed.getD e.on false with
          | true => rfl
          | false =>
            exfalso
            have hmem := (k.mem e.on).2 ⟨hlt, hc⟩
            rw [hpl] at hmem
            rcases List.mem_cons.1 hmem with h3 | h3
            · have := h2.2; rw [h3, Nat.beq_refl] at this; cases this
            · exact hfree o ho _ h3 e he hb rfl
        rw [hr] at this
        cases this
      · cases h1
    · obtain ⟨h1, oi, hoi, hall⟩ := mem_ready.1 hi
      have hlt : i < ops.size := (Array.getElem?_eq_some_iff.1 hoi).1
      rw [getD_tf i hlt] at h1
      have nodep : ∀ j, listed.getD j false = false → depF ops fu i j = true → False := fun j hj hd => by
        have := depF_listed hdown fu i j (fun o ho e he hb => by rw [hoi] at ho; cases ho; exact hall e he hb) hd
        rw [hj] at this; cases this
      have hget : ∀ k, (listed.setIfInBounds i true).getD k false = if k = i then true else listed.getD k false := fun k => by
        simp only [Array.getD_eq_getD_getElem?, Array.getElem?_setIfInBounds]
        by_cases hk : k = i
        · subst hk; simp [hsz, hlt]
        · rw [if_neg (fun e => hk e.symm), if_neg hk]
      have hdown' : ∀ k o, ops[k]? = some o → (listed.setIfInBounds i true).getD k false = true → ∀ e ∈ o.after, Region.binds .any e = true → (listed.setIfInBounds i true).getD e.on false = true := fun k o ho hk e he hb => by
        rw [hget] at hk ⊢
        split
        · rfl
        · split at hk
          · rename_i e1; subst e1; rw [hoi] at ho; cases ho; exact hall e he hb
          · exact hdown k o ho hk e he hb
      have free : ∀ j, listed.getD j false = false → okPair fu ops kd (fun _ => false) j i = true → kd j = .s ∧ ∃ oj, ops[j]? = some oj ∧ oj.apart ops oi = true := fun j hj hp => by
        obtain ⟨op, oq, e1, e2, _, h3⟩ := okPair_spec hp
        rw [hoi] at e2; cases e2
        rcases h3 with h3 | h3
        · exact ⟨h3.1, op, e1, h3.2.1⟩
        · exact (nodep j hj h3).elim
      by_cases hkm : kd i = .m
      · -- it turns memory
        rcases hcov i hlt h1 with hc | ⟨x, hx, hc⟩
        · rw [hkm] at hc; cases hc
        have k := hok x hx
        have hc : x.i = i := hc.elim id fun hc => (nodep x.i ((k.mem x.i).1 (by simp)).2 hc).elim
        subst hc
        have hw := wlx_bubble hoi hsel (by rw [hkm]; simp) x.pre x.post (fun j hj => free j ((k.mem j).1 (by simp [hj])).2 (k.hs j hj).2) a w hC (h x hx)
        refine op_step hoi (by rw [hkm]; simp) hC (fun a' w' hC' hK => ?_) hw
        have hnd := k.nd
        have hni : x.i ∉ x.pre ++ x.post := fun hm => by
          have h2 := List.nodup_append.1 hnd
          rcases List.mem_append.1 hm with h3 | h3
          · exact h2.2.2 x.i h3 x.i (by simp) rfl
          · exact (List.nodup_cons.1 h2.2.1).1 h3
        refine sched_any (fu := fu) hsel fuel (x.pre ++ x.post) _ a' w' (by have := k.len; rw [List.length_append]; omega) (by simpa using hsz) (hnd.sublist ((List.Sublist.refl _).append (List.sublist_cons_self _ _))) (fun j => ?_) hdown' k.pw (fun p hp => k.one p (by rcases List.mem_append.1 hp with h2 | h2 <;> simp [h2])) (.inl hC') hK
        rw [hget]
        constructor
        · intro hj
          have hne : j ≠ x.i := fun e => hni (e ▸ hj)
          rw [if_neg hne]
          exact (k.mem j).1 (by rcases List.mem_append.1 hj with h2 | h2 <;> simp [h2])
        · rintro ⟨h2, h3⟩
          split at h3
          · cases h3
          · rename_i hne
            have := (k.mem j).2 ⟨h2, h3⟩
            rcases List.mem_append.1 this with h4 | h4
            · simp [h4]
            · cases h4 with
              | head => exact absurd rfl hne
              | tail _ h5 => exact List.mem_append.2 (.inr h5)
      · -- a value
        have hpre : ∀ x ∈ S, i ∈ x.pre := fun x hx => by
          have k := hok x hx
          have hu := ((k.mem x.i).1 (by simp)).2
          have := (k.mem i).2 ⟨hlt, h1⟩
          rcases List.mem_append.1 this with h4 | h4
          · exact h4
          · exfalso
            rcases List.mem_cons.1 h4 with h5 | h5
            · rw [h5] at hkm; exact hkm k.hm
            · rcases (okHead_spec (k.hd i h5)).2 with h6 | h6
              · exact hkm h6
              · have := (free x.i hu h6).1
                rw [k.hm] at this; cases this
        obtain ⟨x0, hx0⟩ := List.exists_mem_of_ne_nil S hne
        have hks : kd i = .s := ((hok x0 hx0).hs i (hpre x0 hx0)).1
        -- i ahead of all others, in each order
        have front : ∀ x ∈ S, opW P ops kd C i (wlx P ops kd C (fun a w => Q .normal a w) (x.pre.erase i ++ x.i :: x.post)) a w := fun x hx => by
          have k := hok x hx
          obtain ⟨l1, l2, hni, e1, e2⟩ := List.exists_erase_eq (hpre x hx)
          rw [e2, List.append_assoc]
          have hw := h x hx
          rw [e1, List.append_assoc, List.cons_append] at hw
          refine wlx_bubble hoi hsel (by rw [hks]; simp) l1 (l2 ++ x.i :: x.post) (fun j hj => free j ((k.mem j).1 (by rw [e1]; simp [hj])).2 ?_) a w hC hw
          have hpw := k.pw
          rw [e1, List.append_assoc] at hpw
          exact (List.pairwise_append.1 hpw).2.2 j hj i (by simp)
        have rest : ∀ a', (∀ x ∈ S, wlx P ops kd C (fun a w => Q .normal a w) (x.pre.erase i ++ x.i :: x.post) a' w) → wpAny P .any ops Q fuel (listed.setIfInBounds i true) a' w := fun a' ha' => by
          refine fam_any (fu := fu) hsel fuel (S.map fun x => ⟨x.pre.erase i, x.i, x.post⟩) _ a' w (by simpa using hne) (by simpa using hsz) (fun y hy => ?_) (fun q hq hl => ?_) hdown' hC (fun y hy => ?_)
          · obtain ⟨x, hx, rfl⟩ := List.mem_map.1 hy
            have k := hok x hx
            have hp := hpre x hx
            have hne : i ≠ x.i := fun e => by rw [e, k.hm] at hks; cases hks
            have hnp : x.pre.Nodup := (List.nodup_append.1 k.nd).1
            have hle : (x.pre.erase i).Sublist x.pre := List.erase_sublist
            have hpos : 0 < x.pre.length := List.length_pos_of_mem hp
            refine ⟨by have := k.len; simp only [List.length_erase_of_mem hp]; omega, k.nd.sublist (hle.append (List.Sublist.refl _)), fun j => ?_, k.pw.sublist (hle.append (List.Sublist.refl _)), fun p hp => k.hs p (hle.mem hp), k.hm, k.hd, fun p hp => k.one p ((hle.append (List.Sublist.refl _)).mem hp)⟩
            rw [hget]
            have hni : i ∉ x.post := fun hm => by
              have h2 := List.nodup_append.1 k.nd
              exact h2.2.2 i hp i (by simp [hm]) rfl
            have hmm := k.mem j
            simp only [List.mem_append, List.mem_cons] at hmm ⊢
            rw [hnp.mem_erase_iff]
            by_cases hji : j = i
            · subst hji
              simp [hne, hni]
            · simp only [if_neg hji]
              rw [← hmm]
              simp [hji]
          · rw [hget] at hl
            split at hl
            · cases hl
            · rcases hcov q hq hl with h2 | ⟨x, hx, h2⟩
              · exact .inl h2
              · exact .inr ⟨_, List.mem_map.2 ⟨x, hx, rfl⟩, h2⟩
          · obtain ⟨x, hx, rfl⟩ := List.mem_map.1 hy
            exact ha' x hx
        unfold wpOp
        rw [hoi]
        simp only
        have f0 := front x0 hx0
        rw [opW_at hoi] at f0
        by_cases hw : Region.wanted oi (yielded ops a.tmps) = true
        · rw [if_pos hw] at f0 ⊢
          rw [hks] at f0
          obtain ⟨v, g1, _⟩ := f0
          left
          unfold Oper.wp
          rw [g1 w hC]
          refine rest _ fun x hx => ?_
          have f1 := front x hx
          rw [opW_at hoi, if_pos hw, hks] at f1
          obtain ⟨u, g2, g3⟩ := f1
          have := (g1 w hC).symm.trans (g2 w hC)
          simp only [Result.ok.injEq, Next.value.injEq, and_true] at this
          rw [this]
          exact g3
        · rw [if_neg hw]
          refine rest _ fun x hx => ?_
          have f1 := front x hx
          rw [opW_at hoi, if_neg hw] at f1
          exact f1
theorem wp_region_fam {fu : Nat} {id : Nat} {Q : Exit → Act → World → Prop} {a : Act} {w : World} (S : List Way) (hm : P.follows .mixedOrders = true) (hok : okFam fu ops kd S = true) (hC : C { w with drawn := w.drawn + 1 })
    (h : ∀ x ∈ S, wlx P ops kd C (fun a w => Q .normal a w) (x.pre ++ x.i :: x.post) a { w with drawn := w.drawn + 1 }) : (Code.region id ops true).wp P Q a w := by
  simp only [okFam, Bool.and_eq_true, Bool.not_eq_true'] at hok
  obtain ⟨⟨⟨h1, h2⟩, h3⟩, h4⟩ := hok
  have h2 := List.all_eq_true.1 h2
  refine wp_region_any hm (fam_any (fu := fu) (kd := kd) (C := C) (Region.noSelect_spec h1) ops.size S (Array.replicate ops.size false) a _ (by intro e; rw [e] at h4; cases h4) (by simp) (fun x hx => ?_) (fun q hq _ => ?_) (fun k o ho hk => ?_) hC h)
  · have := h2 x hx
    simp only [okWay, Bool.and_eq_true, List.all_eq_true, decide_eq_true_eq] at this
    obtain ⟨⟨⟨⟨⟨⟨⟨⟨g1, g2⟩, g3⟩, g4⟩, g5⟩, g6⟩, g7⟩, g8⟩, g9⟩ := this
    refine ⟨?_, ?_, fun j => ?_, pairsB_pairwise g6, g7, g8, g9, g5⟩
    · have := Nat.eq_of_beq_eq_true g1; rw [← this]; simp [Way.all]; omega
    · exact (pairsB_pairwise g4).imp (fun {p q} hpq e => by subst e; rw [Nat.beq_refl] at hpq; cases hpq)
    · constructor
      · intro hj
        have : j < ops.size := by simpa [Nat.blt_eq] using g3 j hj
        exact ⟨this, by simp [Array.getD_eq_getD_getElem?, this]⟩
      · rintro ⟨hj, _⟩
        have := g2 j (by simpa using hj)
        simpa [Way.all] using this
  · simp only [covered, List.all_eq_true] at h3
    have := h3 q (by simpa using hq)
    simp only [Bool.or_eq_true, decide_eq_true_eq, List.any_eq_true] at this
    rcases this with (h5 | ⟨x, hx, h5⟩) | ⟨x, hx, h5⟩
    · exact .inl h5
    · exact .inr ⟨x, hx, .inl (Nat.eq_of_beq_eq_true h5)⟩
    · exact .inr ⟨x, hx, .inr h5⟩
  · exfalso
    rw [Array.getD_eq_getD_getElem?] at hk
    by_cases hlt : k < ops.size
    · simp [hlt] at hk
    · rw [Array.getElem?_eq_none (by simpa using hlt)] at hk; cases hk
end
section
variable {P : Program} {F : Frz} {n : Nat} {Q : Exit → Act → World → Prop} {e : Env} {L : List HProp} {ops : Array Oper}
/-- The first operation that turns memory is one of two. -/
theorem X_draw2 {id : Nat} (x y : Way) (kd : Nat → Kin) (fu : Nat) {M R : List HProp} (hk : Split L M R) (hm : P.follows .mixedOrders = true) (hok : okFam fu ops kd [x, y] = true)
    (h1 : ∀ G : Frz, Hp.le F.heap G.heap → stars M G.heap → (∀ w L, St G w L → St F w (L ++ M)) → XD P G G n ops kd (x.pre ++ x.i :: x.post) Q e R)
    (h2 : ∀ G : Frz, Hp.le F.heap G.heap → stars M G.heap → (∀ w L, St G w L → St F w (L ++ M)) → XD P G G n ops kd (y.pre ++ y.i :: y.post) Q e R) : X P F n (.region id ops true) Q e L := .mk fun a w hf hs => by
  have hs2 : St F w (M ++ R) := hs.perm hk.perm
  obtain ⟨k, a', d', c⟩ := hs2.own
  obtain ⟨hM, hR, dMR, hMk, hRk, cM, cR⟩ := stars_append.1 c
  have dM : Hp.disj F.heap hM := d'.mono (Hp.le_refl F.heap) hMk
  have hG : St { F with heap := Hp.or F.heap hM } w R := ⟨hs.os, hs.tape, hs.output, hs.size, Hp.or_le hs.frz (hMk.trans a'), hR, hRk.trans a', Hp.disj_or (d'.mono (Hp.le_refl F.heap) hRk) dMR, cR⟩
  have thaw : ∀ w' L', St { F with heap := Hp.or F.heap hM } w' L' → St F w' (L' ++ M) := fun w' L' hw => by
    refine ⟨hw.os, hw.tape, hw.output, hw.size, (Hp.le_or_left _ _).trans hw.frz, ?_⟩
    obtain ⟨q, q1, q2, q3⟩ := hw.own
    have dq : Hp.disj hM q := q2.mono (Hp.le_or_right dM) (Hp.le_refl q)
    exact ⟨Hp.or q hM, Hp.or_le q1 ((Hp.le_or_right dM).trans hw.frz), (Hp.disj_or (q2.mono (Hp.le_or_left _ _) (Hp.le_refl q)).symm dM.symm).symm, stars_append.2 ⟨q, hM, dq.symm, Hp.le_or_left _ _, Hp.le_or_right dq.symm, q3, cM⟩⟩
  have g1 := (h1 { F with heap := Hp.or F.heap hM } (Hp.le_or_left _ _) (stars_up cM (Hp.le_or_right dM)) thaw).out _ _ hf hG.drew
  have g2 := (h2 { F with heap := Hp.or F.heap hM } (Hp.le_or_left _ _) (stars_up cM (Hp.le_or_right dM)) thaw).out _ _ hf hG.drew
  refine wp_region_fam (fu := fu) (kd := kd) (C := fun w => St { F with heap := Hp.or F.heap hM } w []) [x, y] hm hok hG.drew.nil fun z hz => ?_
  rcases List.mem_cons.1 hz with rfl | hz
  · exact g1
  · obtain rfl := List.mem_singleton.1 hz
    exact g2
end
end Go.Cof
