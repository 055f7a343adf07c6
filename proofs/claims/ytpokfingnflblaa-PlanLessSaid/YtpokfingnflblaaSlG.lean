/- Regions whose order the tape draws: one order, told by the prover, serves all. -/
import Derived.Test.YtpokfingnflblaaSlF
import Derived.Orders
set_option linter.unusedVariables false
set_option linter.unusedSectionVars false
namespace Go.Cof
open Go.RowKit

/-- What one operation is: 's' it yields one value in every world of the class; 'm' it leaves a world of the class; 'l' it comes behind all others. -/
inductive Kin where | s | m | l
  deriving DecidableEq

def depF (ops : Array Oper) : Nat → Nat → Nat → Bool
  | 0, _, _ => false
  | f + 1, q, p => match ops[q]? with
    | none => false
    | some o => o.after.toList.any fun e => Region.binds .any e && (Nat.beq e.on p || depF ops f e.on p)
/-- q stands behind p in the told order. al p: a late one stands ahead of p. -/
def okPair (fu : Nat) (ops : Array Oper) (kd : Nat → Kin) (al : Nat → Bool) (p q : Nat) : Bool :=
  match ops[p]?, ops[q]? with
  | some op, some oq =>
    !(op.after.toList.any fun e => Region.binds .any e && Nat.beq e.on q) && !(kd p = .l && !al q) &&
    ((kd p = .s && op.apart ops oq && !(kd q = .l) && !al p) || depF ops fu q p)
  | _, _ => false
def okOne (ops : Array Oper) (kd : Nat → Kin) (al : Nat → Bool) (p : Nat) : Bool :=
  match ops[p]? with
  | some o => (o.after.toList.all fun e => !Region.binds .any e || (Nat.blt e.on ops.size && !Nat.beq e.on p)) && !(al p && kd p = .s)
  | none => false
def pairsB (f : Nat → Nat → Bool) : List Nat → Bool
  | [] => true
  | p :: l => l.all (f p) && pairsB f l
def okSched (fu : Nat) (ops : Array Oper) (kd : Nat → Kin) (al : Nat → Bool) (σ : List Nat) : Bool :=
  Region.noSelect ops && Nat.beq σ.length ops.size && (List.range ops.size).all (fun i => σ.contains i) && σ.all (fun i => Nat.blt i ops.size) && pairsB (fun p q => !Nat.beq p q) σ && σ.all (okOne ops kd al) && pairsB (okPair fu ops kd al) σ

theorem pairsB_pairwise {f : Nat → Nat → Bool} : ∀ {l : List Nat}, pairsB f l = true → l.Pairwise (fun p q => f p q = true)
  | [], _ => List.Pairwise.nil
  | p :: l, h => by
    simp only [pairsB, Bool.and_eq_true, List.all_eq_true] at h
    exact List.Pairwise.cons h.1 (pairsB_pairwise h.2)

section
variable {P : Program} {ops : Array Oper} {kd : Nat → Kin} {al : Nat → Bool} {C : World → Prop}

/-- No way out but the plain one. -/
def NoQ : Exit → Act → World → Prop := fun _ _ _ => False

def opW (P : Program) (ops : Array Oper) (kd : Nat → Kin) (C : World → Prop) (i : Nat) (K : Act → World → Prop) (a : Act) (w : World) : Prop :=
  match ops[i]? with
  | none => False
  | some o =>
    if Region.wanted o (yielded ops a.tmps) = true then
      match kd i with
      | .s => ∃ v, (∀ w', C w' → (execOp a.eval o).run P w' = .ok (.value v) w') ∧ K (a.put o.dst v) w
      | .m => o.wp P a w (fun a' w' => C w' ∧ K a' w') NoQ
      | .l => o.wp P a w K NoQ
    else K (a.put o.dst undef) w
def wlx (P : Program) (ops : Array Oper) (kd : Nat → Kin) (C : World → Prop) (K : Act → World → Prop) : List Nat → Act → World → Prop
  | [] => K
  | i :: rest => opW P ops kd C i (wlx P ops kd C K rest)

theorem wp_imp {o : Oper} {a : Act} {w : World} {K K' : Act → World → Prop} {Q : Exit → Act → World → Prop} (h : ∀ a w, K a w → K' a w) (hh : o.wp P a w K NoQ) : o.wp P a w K' Q := by
  unfold Oper.wp at *
  generalize (execOp a.eval o).run P w = r at *
  cases r with
  | ok n w' =>
    cases n <;> simp only [Oper.upon] at hh ⊢ <;> first | exact h _ _ hh | skip
    · exact hh.mono fun e w'' he => by
        cases e with
        | returned v => exact h _ _ he
        | panicked ch => exact he.elim
        | outgrown => obtain ⟨_, _, hx⟩ := he; exact hx.elim
    · exact hh.mono fun v w'' he => h _ _ he
  | halt x w' =>
    cases x <;> simp only [Oper.upon] at hh ⊢
    exact hh.elim

theorem opW_mono {i : Nat} {K K' : Act → World → Prop} {a : Act} {w : World} (hw : kd i = .s → C w) (h : ∀ a w', (kd i = .s → C w') → K a w' → K' a w') (hh : opW P ops kd C i K a w) : opW P ops kd C i K' a w := by
  unfold opW at *
  split at hh
  · exact hh.elim
  · rename_i o ho
    split at hh
    · rename_i hwt
      rw [if_pos hwt]
      split at hh
      · rename_i hk
        obtain ⟨v, h1, h2⟩ := hh
        exact ⟨v, h1, h _ _ (fun _ => hw hk) h2⟩
      · rename_i hk
        exact wp_imp (fun a w' hx => ⟨hx.1, h _ _ (fun hs => hx.1) hx.2⟩) hh
      · rename_i hk
        refine wp_imp (fun a w' hx => h _ _ (fun hs => ?_) hx) hh
        rw [hk] at hs; cases hs
    · rename_i hwt
      rw [if_neg hwt]
      exact h _ _ hw hh

theorem opW_at {i : Nat} {o : Oper} (ho : ops[i]? = some o) {K : Act → World → Prop} {a : Act} {w : World} : opW P ops kd C i K a w = (if Region.wanted o (yielded ops a.tmps) = true then
      match kd i with
      | .s => ∃ v, (∀ w', C w' → (execOp a.eval o).run P w' = .ok (.value v) w') ∧ K (a.put o.dst v) w
      | .m => o.wp P a w (fun a' w' => C w' ∧ K a' w') NoQ
      | .l => o.wp P a w K NoQ
    else K (a.put o.dst undef) w) := by
  unfold opW
  rw [ho]
/-- What is 's' may stand behind the next one. -/
theorem opW_swap {p q : Nat} {op oq : Oper} (hp : ops[p]? = some op) (hq : ops[q]? = some oq) (hsel : ∀ (j : Nat) (o : Oper) cs b, ops[j]? = some o → o.op ≠ .select cs b) (hs : kd p = .s) (hap : op.apart ops oq = true) (hl : kd q ≠ .l) {K : Act → World → Prop} {a : Act} {w : World} (hC : C w)
    (h : opW P ops kd C p (opW P ops kd C q K) a w) : opW P ops kd C q (opW P ops kd C p K) a w := by
  obtain ⟨h1, h2, h3⟩ := Oper.apart_spec hap
  have w1 : ∀ (a : Act) (v : Value), Region.wanted oq (yielded ops (a.put op.dst v).tmps) = Region.wanted oq (yielded ops a.tmps) := fun a v => wanted_put oq a op.dst v h1
  have w2 : ∀ (a : Act) (v : Value), Region.wanted op (yielded ops (a.put oq.dst v).tmps) = Region.wanted op (yielded ops a.tmps) := fun a v => wanted_put op a oq.dst v h3
  have x1 : ∀ (a : Act) (v : Value), execOp (a.put op.dst v).eval oq = execOp a.eval oq := fun a v => execOp_put oq (fun cs b => hsel q oq cs b hq) a op.dst v h1
  have x2 : ∀ (a : Act) (v : Value), execOp (a.put oq.dst v).eval op = execOp a.eval op := fun a v => execOp_put op (fun cs b => hsel p op cs b hp) a oq.dst v h3
  have cm : ∀ (a : Act) (v u : Value), (a.put op.dst v).put oq.dst u = (a.put oq.dst u).put op.dst v := fun a v u => Act.put_comm a v u h2
  -- p's value in a state, whatever q has laid
  have pv : ∃ v, (Region.wanted op (yielded ops a.tmps) = true → ∀ w', C w' → (execOp a.eval op).run P w' = .ok (.value v) w') ∧ (Region.wanted op (yielded ops a.tmps) = false → v = undef) ∧ opW P ops kd C q K (a.put op.dst v) w := by
    rw [opW_at hp] at h
    simp only [hs] at h
    split at h
    · rename_i hw
      obtain ⟨v, g1, g2⟩ := h
      exact ⟨v, fun _ => g1, fun hf => absurd (hw.symm.trans hf) (by simp), g2⟩
    · rename_i hw
      exact ⟨undef, fun hf => absurd hf hw, fun _ => rfl, h⟩
  obtain ⟨v, g1, g2, g3⟩ := pv
  have back : ∀ u w', C w' → K ((a.put op.dst v).put oq.dst u) w' → opW P ops kd C p K (a.put oq.dst u) w' := fun u w' hC' hK => by
    rw [opW_at hp]
    simp only [hs, w2, x2]
    rw [cm] at hK
    by_cases hw : Region.wanted op (yielded ops a.tmps) = true
    · rw [if_pos hw]; exact ⟨v, g1 hw, hK⟩
    · rw [if_neg hw]
      have := g2 (by simpa using hw)
      rw [this] at hK
      exact hK
  rw [opW_at hq] at g3 ⊢
  simp only [w1] at g3 ⊢
  by_cases hw : Region.wanted oq (yielded ops a.tmps) = true
  · rw [if_pos hw] at g3 ⊢
    cases hk : kd q with
    | s =>
      rw [hk] at g3
      simp only at g3 ⊢
      obtain ⟨u, k1, k2⟩ := g3
      rw [x1] at k1
      exact ⟨u, k1, back u w hC k2⟩
    | m =>
      rw [hk] at g3
      simp only at g3 ⊢
      unfold Oper.wp at g3 ⊢
      rw [x1] at g3
      generalize (execOp a.eval oq).run P w = r at *
      cases r with
      | ok n w' =>
        cases n <;> simp only [Oper.upon] at g3 ⊢ <;> first | exact ⟨g3.1, back _ _ g3.1 g3.2⟩ | skip
        · exact g3.mono fun e w'' he => by
            cases e with
            | returned u => exact ⟨he.1, back _ _ he.1 he.2⟩
            | panicked ch => exact he.elim
            | outgrown => obtain ⟨_, _, hx⟩ := he; exact hx.elim
        · rename_i df
          have e1 : ({ a.put op.dst v with defers := df :: (a.put op.dst v).defers } : Act).put oq.dst undef = (({ a with defers := df :: a.defers } : Act).put op.dst v).put oq.dst undef := by
            cases op.dst <;> rfl
          rw [e1] at g3
          refine ⟨g3.1, ?_⟩
          have w3 : Region.wanted op (yielded ops (({ a with defers := df :: a.defers } : Act).put oq.dst undef).tmps) = Region.wanted op (yielded ops a.tmps) := w2 { a with defers := df :: a.defers } undef
          have x3 : execOp (({ a with defers := df :: a.defers } : Act).put oq.dst undef).eval op = execOp a.eval op := by
            rw [execOp_put op (fun cs b => hsel p op cs b hp) _ oq.dst undef h3]
            rfl
          have hK := g3.2
          rw [Act.put_comm _ v undef h2] at hK
          rw [opW_at hp]
          simp only [hs, w3, x3]
          by_cases hw : Region.wanted op (yielded ops a.tmps) = true
          · rw [if_pos hw]; exact ⟨v, g1 hw, hK⟩
          · rw [if_neg hw]
            have := g2 (by simpa using hw)
            rw [this] at hK
            exact hK
        · exact g3.mono fun u w'' he => ⟨he.1, back _ _ he.1 he.2⟩
      | halt x w' =>
        cases x <;> simp only [Oper.upon] at g3 ⊢
        exact g3.elim
    | l => exact absurd hk hl
  · rw [if_neg hw] at g3 ⊢
    exact back _ _ hC g3

theorem wlx_bubble {i : Nat} {oi : Oper} (hi : ops[i]? = some oi) (hsel : ∀ (j : Nat) (o : Oper) cs b, ops[j]? = some o → o.op ≠ .select cs b) (hl : kd i ≠ .l) {K : Act → World → Prop} : ∀ (l1 l2 : List Nat), (∀ j ∈ l1, kd j = .s ∧ ∃ oj, ops[j]? = some oj ∧ oj.apart ops oi = true) → ∀ (a : Act) (w : World), C w →
    wlx P ops kd C K (l1 ++ i :: l2) a w → wlx P ops kd C K (i :: (l1 ++ l2)) a w
  | [], l2, _, a, w, _, h => h
  | j :: l1, l2, hj, a, w, hC, h => by
    obtain ⟨hs, oj, hoj, hap⟩ := hj j (by simp)
    have h1 : opW P ops kd C j (wlx P ops kd C K (i :: (l1 ++ l2))) a w := opW_mono (fun _ => hC) (fun a' w' hC' hK => wlx_bubble hi hsel hl l1 l2 (fun k hk => hj k (by simp [hk])) a' w' (hC' hs) hK) h
    exact opW_swap hoj hi hsel hs hap hl hC h1

theorem depF_listed {listed : Array Bool} (hdown : ∀ k o, ops[k]? = some o → listed.getD k false = true → ∀ e ∈ o.after, Region.binds .any e = true → listed.getD e.on false = true) : ∀ (f q p : Nat), (∀ o, ops[q]? = some o → ∀ e ∈ o.after, Region.binds .any e = true → listed.getD e.on false = true) → depF ops f q p = true → listed.getD p false = true
  | 0, _, _, _, h => by cases h
  | f + 1, q, p, hq, h => by
    simp only [depF] at h
    split at h
    · cases h
    · rename_i o ho
      rw [List.any_eq_true] at h
      obtain ⟨e, he, hb⟩ := h
      simp only [Bool.and_eq_true, Bool.or_eq_true] at hb
      have h1 := hq o ho e (by simpa using he) hb.1
      rcases hb.2 with h2 | h2
      · rw [← Nat.eq_of_beq_eq_true h2]; exact h1
      · exact depF_listed hdown f e.on p (fun o' ho' => hdown _ o' ho' h1) h2

theorem sched_any {fu : Nat} {Q : Exit → Act → World → Prop} (hsel : ∀ (j : Nat) (o : Oper) cs b, ops[j]? = some o → o.op ≠ .select cs b) : ∀ (fuel : Nat) (σ : List Nat) (listed : Array Bool) (a : Act) (w : World), fuel = σ.length → listed.size = ops.size → σ.Nodup →
    (∀ i, i ∈ σ ↔ i < ops.size ∧ listed.getD i false = false) → (∀ k o, ops[k]? = some o → listed.getD k false = true → ∀ e ∈ o.after, Region.binds .any e = true → listed.getD e.on false = true) →
    σ.Pairwise (fun p q => okPair fu ops kd al p q = true) → (∀ p ∈ σ, okOne ops kd al p = true) → (C w ∨ ∀ j ∈ σ, al j = true) →
    wlx P ops kd C (fun a w => Q .normal a w) σ a w → wpAny P .any ops Q fuel listed a w
  | 0, σ, listed, a, w, hf, hsz, hnd, hin, hdown, hpw, hone, hC, h => by
    have hσ : σ = [] := List.eq_nil_of_length_eq_zero hf.symm
    subst hσ
    refine ⟨?_, h⟩
    apply List.eq_nil_iff_forall_not_mem.2
    intro i hi
    obtain ⟨h1, o, ho, _⟩ := mem_ready.1 hi
    have hlt : i < ops.size := (Array.getElem?_eq_some_iff.1 ho).1
    have := (hin i).2 ⟨hlt, by rw [Array.getD_eq_getD_getElem?] at h1 ⊢; rw [Array.getElem?_eq_getElem (by omega)] at h1 ⊢; exact h1⟩
    cases this
  | fuel + 1, σ, listed, a, w, hf, hsz, hnd, hin, hdown, hpw, hone, hC, h => by
    have getD_tf : ∀ i, i < ops.size → (listed.getD i true = listed.getD i false) := fun i hi => by
      rw [Array.getD_eq_getD_getElem?, Array.getD_eq_getD_getElem?, Array.getElem?_eq_getElem (by omega)]; rfl
    refine ⟨fun hr => ?_, fun i hi => ?_⟩
    · -- the head can always come up
      exfalso
      cases σ with
      | nil => cases hf
      | cons p σ =>
        have hp := (hin p).1 (by simp)
        have h1 := hone p (by simp)
        unfold okOne at h1
        split at h1
        · rename_i o ho
          simp only [Bool.and_eq_true, List.all_eq_true, Bool.or_eq_true, Bool.not_eq_true'] at h1
          have : p ∈ Region.ready .any ops listed := by
            refine mem_ready.2 ⟨by rw [getD_tf p hp.1]; exact hp.2, o, ho, fun e he hb => ?_⟩
            have h2 := h1.1 e (by simpa using he)
            rw [hb] at h2
            simp only [Bool.true_eq_false, false_or] at h2
            have hlt : e.on < ops.size := by simpa [Nat.blt_eq] using h2.1
            cases hc : listed.getD e.on false with
            | true => rfl
            | false =>
              exfalso
              have hmem := (hin e.on).2 ⟨hlt, hc⟩
              cases hmem with
              | head => have := h2.2; rw [Nat.beq_refl] at this; cases this
              | tail _ hm =>
                have h3 := List.rel_of_pairwise_cons hpw hm
                unfold okPair at h3
                rw [ho] at h3
                split at h3
                · rename_i op oq e1 e2
                  cases e1
                  simp only [Bool.and_eq_true, Bool.not_eq_true'] at h3
                  have h4 := h3.1.1
                  rw [List.any_eq_false] at h4
                  have h5 := h4 e (by simpa using he)
                  simp [hb] at h5
                · cases h3
          rw [hr] at this
          cases this
        · cases h1
    · -- whatever comes up may be taken first
      obtain ⟨h1, oi, hoi, hall⟩ := mem_ready.1 hi
      have hlt : i < ops.size := (Array.getElem?_eq_some_iff.1 hoi).1
      rw [getD_tf i hlt] at h1
      have hmem := (hin i).2 ⟨hlt, h1⟩
      obtain ⟨l1, l2, rfl⟩ := List.append_of_mem hmem
      have hpw' := List.pairwise_append.1 hpw
      have hpi := List.pairwise_cons.1 hpw'.2.1
      have hbefore : ∀ j ∈ l1, kd j = .s ∧ (∃ oj, ops[j]? = some oj ∧ oj.apart ops oi = true) ∧ kd i ≠ .l ∧ al j = false := fun j hj => by
        have h2 := hpw'.2.2 j hj i (by simp)
        have hjun := (hin j).1 (by simp [hj])
        unfold okPair at h2
        rw [hoi] at h2
        split at h2
        · rename_i op oq e1 e2
          cases e2
          simp only [Bool.and_eq_true, Bool.or_eq_true, Bool.not_eq_true', decide_eq_true_eq, decide_eq_false_iff_not] at h2
          rcases h2.2 with h3 | h3
          · exact ⟨h3.1.1.1, ⟨op, e1, h3.1.1.2⟩, h3.1.2, h3.2⟩
          · have := depF_listed hdown fu i j (fun o ho e he hb => by rw [hoi] at ho; cases ho; exact hall e he hb) h3
            rw [hjun.2] at this; cases this
        · cases h2
      have hfirst : wlx P ops kd C (fun a w => Q .normal a w) (i :: (l1 ++ l2)) a w := by
        cases l1 with
        | nil => exact h
        | cons j l1 =>
          have hj := hbefore j (by simp)
          have hCw : C w := by
            rcases hC with hC | hC
            · exact hC
            · have := hC j (by simp); rw [hj.2.2.2] at this; cases this
          exact wlx_bubble hoi hsel hj.2.2.1 (j :: l1) l2 (fun k hk => ⟨(hbefore k hk).1, (hbefore k hk).2.1⟩) a w hCw h
      have rest : ∀ (a' : Act) (w' : World), (C w' ∨ ∀ j ∈ l1 ++ l2, al j = true) → wlx P ops kd C (fun a w => Q .normal a w) (l1 ++ l2) a' w' → wpAny P .any ops Q fuel (listed.setIfInBounds i true) a' w' := fun a' w' hC' h' => by
        have hnd' : (l1 ++ l2).Nodup := by
          exact hnd.sublist ((List.Sublist.refl l1).append (List.sublist_cons_self i l2))
        have hni : i ∉ l1 ++ l2 := by
          intro hm
          have h2 := List.nodup_append.1 hnd
          rcases List.mem_append.1 hm with h3 | h3
          · exact h2.2.2 i h3 i (by simp) rfl
          · exact (List.nodup_cons.1 h2.2.1).1 h3
        have hget : ∀ k, (listed.setIfInBounds i true).getD k false = if k = i then true else listed.getD k false := fun k => by
          simp only [Array.getD_eq_getD_getElem?, Array.getElem?_setIfInBounds]
          by_cases hk : k = i
          · subst hk; simp [hsz, hlt]
          · rw [if_neg (fun e => hk e.symm), if_neg hk]
        refine sched_any (fu := fu) hsel fuel (l1 ++ l2) _ a' w' (by simp at hf ⊢; omega) (by simpa using hsz) hnd' (fun k => ?_) (fun k o ho hk e he hb => ?_) ?_ (fun p hp => hone p (by rcases List.mem_append.1 hp with h2 | h2 <;> simp [h2])) hC' h'
        · rw [hget]
          constructor
          · intro hk
            have hne : k ≠ i := fun e => hni (e ▸ hk)
            rw [if_neg hne]
            exact (hin k).1 (by rcases List.mem_append.1 hk with h2 | h2 <;> simp [h2])
          · rintro ⟨h2, h3⟩
            split at h3
            · cases h3
            · rename_i hne
              have := (hin k).2 ⟨h2, h3⟩
              rcases List.mem_append.1 this with h4 | h4
              · simp [h4]
              · cases h4 with
                | head => exact absurd rfl hne
                | tail _ h5 => exact List.mem_append.2 (.inr h5)
        · rw [hget] at hk ⊢
          split
          · rfl
          · split at hk
            · rename_i e1; subst e1; rw [hoi] at ho; cases ho; exact hall e he hb
            · exact hdown k o ho hk e he hb
        · exact List.pairwise_append.2 ⟨hpw'.1, hpi.2, fun x hx y hy => hpw'.2.2 x hx y (by simp [hy])⟩
      have hal : kd i = .l → ∀ j ∈ l1 ++ l2, al j = true := fun hk j hj => by
        rcases List.mem_append.1 hj with h2 | h2
        · exact absurd hk (hbefore j h2).2.2.1
        · have h3 := hpi.1 j h2
          unfold okPair at h3
          rw [hoi] at h3
          split at h3
          · simp only [Bool.and_eq_true, Bool.not_eq_true', hk] at h3
            simpa using h3.1.2
          · cases h3
      have hstill : kd i = .s → C w := fun hk => by
        rcases hC with hC | hC
        · exact hC
        · have h2 := hC i (by simp)
          have h3 := hone i (by simp)
          unfold okOne at h3
          rw [hoi] at h3
          simp only [Bool.and_eq_true, Bool.not_eq_true', h2, Bool.true_and, hk] at h3
          simp at h3
      -- the operation itself
      simp only [wlx] at hfirst
      rw [opW_at hoi] at hfirst
      unfold wpOp
      rw [hoi]
      simp only at hfirst ⊢
      have keepC : C w ∨ ∀ j ∈ l1 ++ l2, al j = true := by
        rcases hC with hC | hC
        · exact .inl hC
        · exact .inr fun j hj => hC j (by rcases List.mem_append.1 hj with h2 | h2 <;> simp [h2])
      by_cases hw : Region.wanted oi (yielded ops a.tmps) = true
      · rw [if_pos hw] at hfirst ⊢
        left
        cases hk : kd i with
        | s =>
          rw [hk] at hfirst
          obtain ⟨v, g1, g2⟩ := hfirst
          unfold Oper.wp
          rw [g1 w (hstill hk)]
          exact rest _ _ keepC g2
        | m =>
          rw [hk] at hfirst
          exact wp_imp (fun a' w' hx => rest a' w' (.inl hx.1) hx.2) hfirst
        | l =>
          rw [hk] at hfirst
          exact wp_imp (fun a' w' hx => rest a' w' (.inr (hal hk)) hx) hfirst
      · rw [if_neg hw] at hfirst ⊢
        exact rest _ _ keepC hfirst

theorem wp_region_sched {fu : Nat} {id : Nat} {Q : Exit → Act → World → Prop} {a : Act} {w : World} (σ : List Nat) (hm : P.follows .mixedOrders = true) (hok : okSched fu ops kd al σ = true) (hC : C { w with drawn := w.drawn + 1 })
    (h : wlx P ops kd C (fun a w => Q .normal a w) σ a { w with drawn := w.drawn + 1 }) : (Code.region id ops true).wp P Q a w := by
  simp only [okSched, Bool.and_eq_true, List.all_eq_true] at hok
  obtain ⟨⟨⟨⟨⟨⟨h1, h2⟩, h3⟩, h6⟩, h7⟩, h4⟩, h5⟩ := hok
  have hlen : σ.length = ops.size := Nat.eq_of_beq_eq_true h2
  have hsub : ∀ i, i < ops.size → i ∈ σ := fun i hi => by simpa using h3 i (by simpa using hi)
  have hlt : ∀ i, i ∈ σ → i < ops.size := fun i hi => by simpa [Nat.blt_eq] using h6 i hi
  have hnd : σ.Nodup := (pairsB_pairwise h7).imp (fun {p q} hpq e => by subst e; rw [Nat.beq_refl] at hpq; cases hpq)
  refine wp_region_any hm (sched_any (fu := fu) (kd := kd) (al := al) (C := C) (Region.noSelect_spec h1) ops.size σ (Array.replicate ops.size false) a _ hlen.symm (by simp) hnd (fun i => ?_) (fun k o ho hk => ?_) (pairsB_pairwise h5) h4 (.inl hC) h)
  · constructor
    · intro hi
      have : i < ops.size := hlt i hi
      exact ⟨this, by simp [Array.getD_eq_getD_getElem?, this]⟩
    · rintro ⟨hi, _⟩; exact hsub i hi
  · exfalso
    rw [Array.getD_eq_getD_getElem?] at hk
    by_cases hlt : k < ops.size
    · simp [hlt] at hk
    · rw [Array.getElem?_eq_none (by simpa using hlt)] at hk; cases hk
end

/-! ### over states -/
/-- A value that every world over the frozen part gives. -/
structure XV (P : Program) (G : Frz) (n : Nat) (o : Oper) (e : Env) (v : Value) : Prop where
  out : ∀ a w, Fr n e a → St G w [] → (execOp a.eval o).run P w = .ok (.value v) w
structure XD (P : Program) (G F : Frz) (n : Nat) (ops : Array Oper) (kd : Nat → Kin) (σ : List Nat) (Q : Exit → Act → World → Prop) (e : Env) (L : List HProp) : Prop where
  out : ∀ a w, Fr n e a → St F w L → wlx P ops kd (fun w => St G w []) (fun a w => Q .normal a w) σ a w
/-- What stands behind one operation of such a region. -/
def QD (P : Program) (G : Frz) (ops : Array Oper) (kd : Nat → Kin) (σ : List Nat) (Q : Exit → Act → World → Prop) (m : Bool) : Exit → Act → World → Prop
  | .normal, a, w => (m = true → St G w []) ∧ wlx P ops kd (fun w => St G w []) (fun a w => Q .normal a w) σ a w
  | _, _, _ => False

section
variable {P : Program} {T : Tab} {F G : Frz} {n : Nat} {Q : Exit → Act → World → Prop} {e : Env} {L : List HProp} {ops : Array Oper} {kd : Nat → Kin} {σ : List Nat} {d : Option Tmp} {ty : TypeId} {pos : String} {af : Array Edge}

theorem St.nil {w : World} (h : St F w L) : St F w [] := h.imp fun _ _ => trivial
theorem XD_nil (h : Y F n Q .normal e L) : XD P G F n ops kd [] Q e L := .mk fun a w hf hs => h.out a w hf hs
theorem wanted_none {o : Oper} (h : o.guard = none) (y : Nat → Option Bool) : Region.wanted o y = true := by simp [Region.wanted, h]
theorem wanted_some {o : Oper} {j : Nat} {b c : Bool} {t : Tmp} {a : Act} (hf : Fr n e a) (hg : o.guard = some (j, b)) (hd : (ops[j]?).bind (·.dst) = some t) (hv : look e t = some (.bool c)) : Region.wanted o (yielded ops a.tmps) = (c == b) := by
  have := hf.get t _ hv
  simp only [Region.wanted, hg, yielded, hd, Option.bind_some]
  rw [Array.getD_eq_getD_getElem?] at this
  cases hx : a.tmps[t]? with
  | none => rw [hx] at this; simp [undef] at this
  | some u => rw [hx] at this; simp at this; subst this; cases c <;> cases b <;> rfl
theorem XD_s {i : Nat} {o : Oper} {v : Value} {e' : Env} (hi : ops[i]? = some o) (hk : kd i = .s) (hg : o.guard = none) (hv : XV P G n o e v) (hp : putE n o.dst v e = some e') (h : XD P G F n ops kd σ Q e' L) : XD P G F n ops kd (i :: σ) Q e L := .mk fun a w hf hs => by
  show opW P ops kd _ i _ a w
  rw [opW_at hi, if_pos (wanted_none hg _), hk]
  exact ⟨v, fun w' hw' => hv.out a w' hf hw', h.out _ w (hf.put hp) hs⟩
theorem XD_sy {i j : Nat} {o : Oper} {b : Bool} {t : Tmp} {v : Value} {e' : Env} (hi : ops[i]? = some o) (hk : kd i = .s) (hg : o.guard = some (j, b)) (hd : (ops[j]?).bind (·.dst) = some t) (hb : look e t = some (.bool b)) (hv : XV P G n { o with guard := none } e v) (hp : putE n o.dst v e = some e') (h : XD P G F n ops kd σ Q e' L) : XD P G F n ops kd (i :: σ) Q e L := .mk fun a w hf hs => by
  show opW P ops kd _ i _ a w
  rw [opW_at hi, if_pos (by rw [wanted_some hf hg hd hb]; simp), hk]
  exact ⟨v, fun w' hw' => hv.out a w' hf hw', h.out _ w (hf.put hp) hs⟩
theorem XD_no {i j : Nat} {o : Oper} {b c : Bool} {t : Tmp} {e' : Env} (hi : ops[i]? = some o) (hg : o.guard = some (j, b)) (hd : (ops[j]?).bind (·.dst) = some t) (hb : look e t = some (.bool c)) (hc : c = !b) (hp : putE n o.dst undef e = some e') (h : XD P G F n ops kd σ Q e' L) : XD P G F n ops kd (i :: σ) Q e L := .mk fun a w hf hs => by
  show opW P ops kd _ i _ a w
  rw [opW_at hi, if_neg (by rw [wanted_some hf hg hd hb, hc]; cases b <;> simp)]
  exact h.out _ w (hf.put hp) hs
theorem wp_noq {o : Oper} {a : Act} {w : World} {K K' : Act → World → Prop} {Q' : Exit → Act → World → Prop} (hQ : ∀ x a w, x ≠ .normal → ¬ Q' x a w) (hK : ∀ a w, K a w → K' a w) (hh : o.wp P a w K Q') : o.wp P a w K' NoQ := by
  unfold Oper.wp at *
  generalize (execOp a.eval o).run P w = r at *
  cases r with
  | ok n w' =>
    cases n <;> simp only [Oper.upon] at hh ⊢ <;> first | exact hK _ _ hh | skip
    · exact hh.mono fun e w'' he => by
        cases e with
        | returned v => exact hK _ _ he
        | panicked ch => exact absurd he (hQ _ _ _ (by simp))
        | outgrown => obtain ⟨_, _, hx⟩ := he; exact absurd hx (hQ _ _ _ (by simp))
    · exact hh.mono fun v w'' he => hK _ _ he
  | halt x w' =>
    cases x <;> simp only [Oper.upon] at hh ⊢
    exact absurd hh (hQ _ _ _ (by simp))
theorem QD_no {m : Bool} : ∀ x a w, x ≠ Exit.normal → ¬ QD P G ops kd σ Q m x a w := fun x a w hx h => by
  cases x <;> first | exact absurd rfl hx | exact h
theorem XD_m {i : Nat} {o : Oper} (hi : ops[i]? = some o) (hk : kd i = .m) (h : XL P F n ops [o] (QD P G ops kd σ Q true) e L) : XD P G F n ops kd (i :: σ) Q e L := .mk fun a w hf hs => by
  show opW P ops kd _ i _ a w
  rw [opW_at hi, hk]
  have := h.out a w hf hs
  unfold wpList at this
  split at this
  · rename_i hw
    rw [if_pos hw]
    rcases this with this | ⟨_, _, _, hx⟩
    · exact wp_noq QD_no (fun a' w' hx => ⟨hx.1 rfl, hx.2⟩) this
    · exact hx.elim
  · rename_i hw
    rw [if_neg hw]
    exact this.2
theorem XD_l {i : Nat} {o : Oper} (hi : ops[i]? = some o) (hk : kd i = .l) (h : XL P F n ops [o] (QD P G ops kd σ Q false) e L) : XD P G F n ops kd (i :: σ) Q e L := .mk fun a w hf hs => by
  show opW P ops kd _ i _ a w
  rw [opW_at hi, hk]
  have := h.out a w hf hs
  unfold wpList at this
  split at this
  · rename_i hw
    rw [if_pos hw]
    rcases this with this | ⟨_, _, _, hx⟩
    · exact wp_noq QD_no (fun a' w' hx => hx.2) this
    · exact hx.elim
  · rename_i hw
    rw [if_neg hw]
    exact this.2
theorem Y_m (h : XD P F F n ops kd σ Q e L) : Y F n (QD P F ops kd σ Q true) .normal e L := .mk fun a w hf hs => ⟨fun _ => hs.nil, h.out a w hf hs⟩
theorem Y_l (h : XD P G F n ops kd σ Q e L) : Y F n (QD P G ops kd σ Q false) .normal e L := .mk fun a w hf hs => ⟨(by simp), h.out a w hf hs⟩
/-- What was frozen for the region's sake is owned again. -/
theorem XD_thaw {F' : Frz} {M : List HProp} (ht : ∀ w L, St G w L → St F' w (L ++ M)) (h : XD P G F' n ops kd σ Q e (L ++ M)) : XD P G G n ops kd σ Q e L := .mk fun a w hf hs => h.out a w hf (ht w L hs)
theorem X_draw {id : Nat} (σ : List Nat) (kd : Nat → Kin) (al : Nat → Bool) (fu : Nat) (ks : List Nat) {M R : List HProp} (hk : takeP L ks = some (M, R)) (hm : P.follows .mixedOrders = true) (hok : okSched fu ops kd al σ = true)
    (h : ∀ G : Frz, Hp.le F.heap G.heap → stars M G.heap → (∀ w L, St G w L → St F w (L ++ M)) → XD P G G n ops kd σ Q e R) : X P F n (.region id ops true) Q e L := .mk fun a w hf hs => by
  have hs2 : St F w (M ++ R) := hs.imp fun _ => stars_take ks hk
  obtain ⟨k, a', d', c⟩ := hs2.own
  obtain ⟨hM, hR, dMR, hMk, hRk, cM, cR⟩ := stars_append.1 c
  have dM : Hp.disj F.heap hM := d'.mono (Hp.le_refl F.heap) hMk
  have hG : St { F with heap := Hp.or F.heap hM } w R := ⟨hs.os, hs.tape, hs.output, hs.size, Hp.or_le hs.frz (hMk.trans a'), hR, hRk.trans a', Hp.disj_or (d'.mono (Hp.le_refl F.heap) hRk) dMR, cR⟩
  refine wp_region_sched (fu := fu) (kd := kd) (al := al) (C := fun w => St { F with heap := Hp.or F.heap hM } w []) σ hm hok hG.drew.nil ?_
  refine (h { F with heap := Hp.or F.heap hM } (Hp.le_or_left _ _) (stars_up cM (Hp.le_or_right dM)) (fun w' L' hw => ?_)).out _ _ hf hG.drew
  refine ⟨hw.os, hw.tape, hw.output, hw.size, (Hp.le_or_left _ _).trans hw.frz, ?_⟩
  obtain ⟨q, q1, q2, q3⟩ := hw.own
  have dq : Hp.disj hM q := q2.mono (Hp.le_or_right dM) (Hp.le_refl q)
  exact ⟨Hp.or q hM, Hp.or_le q1 ((Hp.le_or_right dM).trans hw.frz), (Hp.disj_or (q2.mono (Hp.le_or_left _ _) (Hp.le_refl q)).symm dM.symm).symm, stars_append.2 ⟨q, hM, dq.symm, Hp.le_or_left _ _, Hp.le_or_right dq.symm, q3, cM⟩⟩

/-! values -/
theorem XV_op (hT : TabOk P T) {op : Op} {v : Value} (h : opV T e op = some v) : XV P G n ⟨d, op, ty, pos, af, none⟩ e v := .mk fun a w hf _ => opV_run hT hf _ h w
theorem XV_load (hT : TabOk P T) {t : TypeId} {x : Operand} {b i : Nat} {cs : List Value} {et : TypeId} {v : Value} {ti : TI} (hx : ev e x = some (.pointer (some ⟨b, i, none⟩))) (hb : blk b cs et G.heap) (ht : look T t = some ti) (hv : partV T t cs i = some v)
    (hsz : Nat.ble (i + ti.size) cs.length = true) : XV P G n ⟨d, .load t x, ty, pos, af, none⟩ e v := .mk fun a w hf hs => by
  have hc := (blk_rd hb).le hs.frz
  have hr := run_load_cells hT hv (a := ⟨b, 0, none⟩) (w := w) (fun j u hj => cellH_world (hc.2 j u hj)) (fun ti' h' => by
    rw [ht] at h'; cases h'; simpa [Nat.ble_eq] using hsz)
  rw [Addr.add_lit, Nat.zero_add] at hr
  simp [execOp, hf.ev hx, hr]
theorem XV_slice (hT : TabOk P T) {t el : TypeId} {i1 : TI} {de2 : TypeDesc} {z2 : Option Value} {sz2 by2 : Nat} {x : Operand} {xl xh xm : Option Operand} {A : Option Addr} {m c : Nat} {lo hi mx : Option Value} {p q r : Nat} (hx : ev e x = some (.slice A m c)) (h1 : evo e xl = some lo) (h2 : evo e xh = some hi) (h3 : evo e xm = some mx) (hc : Cut3 m c lo hi mx p q r)
    (ht : look T t = some i1) (hd : i1.desc = .slice el) (he : look T el = some ⟨de2, z2, sz2, by2⟩) : XV P G n ⟨d, .slice t x xl xh xm, ty, pos, af, none⟩ e (.slice (sbA A sz2 p r) (q - p) (r - p)) := .mk fun a w hf hs => by
  have hr := run_slice (P := P) hT ht hd he (A := A) hc w
  simp [execOp, hf.ev hx, hf.evo h1, hf.evo h2, hf.evo h3, hr]
theorem XV_slicel (hT : TabOk P T) {t el : TypeId} {i1 : TI} {de2 : TypeDesc} {z2 : Option Value} {sz2 by2 : Nat} {x : Operand} {xl xh xm : Option Operand} {b o m c : Nat} {lo hi mx : Option Value} {p q r : Nat} (hx : ev e x = some (.slice (some ⟨b, o, none⟩) m c)) (h1 : evo e xl = some lo) (h2 : evo e xh = some hi) (h3 : evo e xm = some mx) (hc : Cut3 m c lo hi mx p q r) (hlt : p < r)
    (ht : look T t = some i1) (hd : i1.desc = .slice el) (he : look T el = some ⟨de2, z2, sz2, by2⟩) : XV P G n ⟨d, .slice t x xl xh xm, ty, pos, af, none⟩ e (.slice (some ⟨b, o + p * sz2, none⟩) (q - p) (r - p)) := .mk fun a w hf hs => by
  have := (XV_slice (P := P) (G := G) (n := n) (e := e) (d := d) (ty := ty) (pos := pos) (af := af) hT hx h1 h2 h3 hc ht hd he).out a w hf hs
  rw [sbA_lit hlt] at this
  exact this
section
variable {α : Type} [Inhabited α] {E : Enc α}
theorem XV_idx (hT : TabOk P T) {t el : TypeId} {i1 : TI} {de2 : TypeDesc} {z2 : Option Value} {sz2 by2 : Nat} {x ix : Operand} {A : Option Addr} {m c : Nat} {xs : List α} {k : IntKind} {i : Int} (hx : ev e x = some (.slice A m c)) (hi : ev e ix = some (.int k i)) (ht : look T t = some i1) (hd : i1.desc = .slice el) (he : look T el = some ⟨de2, z2, sz2, by2⟩)
    (r : rdS E G.heap A m xs) (h0 : 0 ≤ i) (h1 : i < m) : XV P G n ⟨d, .indexAddr t x ix, ty, pos, af, none⟩ e (.pointer (some ((bs A).add (i.toNat * sz2)))) := .mk fun a w hf hs => by
  have hr := run_idx (P := P) hT ht hd he (A := A) (c := c) (k := k) (r.pos (by omega)) h0 h1 w
  simp [execOp, hf.ev hx, hf.ev hi, hr]
theorem XV_el (hT : TabOk P T) {A : Option Addr} {m : Nat} {xs : List α} {i : Int} {t : TypeId} {x : Operand} {v : Value} {ti : TI} {sz : Nat} (hx : ev e x = some (.pointer (some ((bs A).add (i.toNat * sz))))) (r : rdS E G.heap A m xs) (hz : E.sz = sz) (h0 : 0 ≤ i) (h1 : i < m) (ht : look T t = some ti)
    (hv : partV T t (E.enc (get xs i)) 0 = some v) (hsz : Nat.ble ti.size E.sz = true) : XV P G n ⟨d, .load t x, ty, pos, af, none⟩ e v := .mk fun a w hf hs => by
  have hr := el_load hT hs.frz r h0 h1 ht hv (by rw [Nat.zero_add]; simpa [Nat.ble_eq] using hsz)
  rw [Addr.add_zero', hz] at hr
  simp [execOp, hf.ev hx, hr]
theorem XV_elf (hT : TabOk P T) {A : Option Addr} {m : Nat} {xs : List α} {i : Int} {f : Nat} {t : TypeId} {x : Operand} {v : Value} {ti : TI} {sz : Nat} (hx : ev e x = some (.pointer (some (((bs A).add (i.toNat * sz)).add f)))) (r : rdS E G.heap A m xs) (hz : E.sz = sz) (h0 : 0 ≤ i) (h1 : i < m) (ht : look T t = some ti)
    (hv : partV T t (E.enc (get xs i)) f = some v) (hsz : Nat.ble (f + ti.size) E.sz = true) : XV P G n ⟨d, .load t x, ty, pos, af, none⟩ e v := .mk fun a w hf hs => by
  have hr := el_load hT hs.frz r h0 h1 ht hv (by simpa [Nat.ble_eq] using hsz)
  rw [hz] at hr
  simp [execOp, hf.ev hx, hr]
end
end
end Go.Cof
