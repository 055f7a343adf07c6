/- Page by page: what a list says of a page; a list in its one form is told by that. -/
import Derived.Test.YtalkcemelegohaaVmPa
set_option linter.unusedVariables false
set_option maxRecDepth 100000
namespace Go.Proofs.Ytalkcemelegohaa.Vm
open Go.RowKit Go.Cof

def atP (l : List Rg) (p : Int) : Option Int := (l.find? (hasP p)).map Rg.m
theorem hasP_iff {p : Int} {r : Rg} : hasP p r = true ↔ r.p ≤ p ∧ p < r.end := by unfold hasP; exact decide_eq_true_iff
theorem hasP_no {p : Int} {r : Rg} : hasP p r = false ↔ ¬ (r.p ≤ p ∧ p < r.end) := by unfold hasP; exact decide_eq_false_iff_not
theorem atP_cons (r : Rg) (l : List Rg) (p : Int) : atP (r :: l) p = if hasP p r = true then some r.m else atP l p := by
  unfold atP
  by_cases h : hasP p r = true
  · rw [List.find?_cons_of_pos h, if_pos h]; rfl
  · rw [List.find?_cons_of_neg h, if_neg h]
theorem atP_append (a b : List Rg) (p : Int) : atP (a ++ b) p = (atP a p).or (atP b p) := by
  unfold atP
  rw [List.find?_append]
  cases List.find? (hasP p) a <;> rfl
theorem atP_none {l : List Rg} {p : Int} (h : ∀ r ∈ l, ¬ (r.p ≤ p ∧ p < r.end)) : atP l p = none := by
  unfold atP
  rw [List.find?_eq_none.2 fun r hr => by rw [hasP_iff]; exact h r hr]
  rfl
theorem atP_mem {l : List Rg} {p m : Int} (h : atP l p = some m) : ∃ r ∈ l, r.p ≤ p ∧ p < r.end ∧ r.m = m := by
  unfold atP at h
  cases hf : l.find? (hasP p) with
  | none => rw [hf] at h; cases h
  | some r =>
    rw [hf] at h
    cases h
    have := hasP_iff.1 (List.find?_some hf)
    exact ⟨r, List.mem_of_find?_eq_some hf, this.1, this.2, rfl⟩
theorem Rg.Ok.lt {r : Rg} (h : r.Ok) : r.p < r.end := by have := h.n; show r.p < r.p + r.n; omega
theorem Good.cons {r : Rg} {l : List Rg} (h : Good (r :: l)) : r.Ok ∧ Good l ∧ ∀ x ∈ l, Fol r x :=
  ⟨h.ok r (by simp), ⟨fun x hx => h.ok x (by simp [hx]), (List.pairwise_cons.1 h.pw).2⟩, (List.pairwise_cons.1 h.pw).1⟩
theorem Fol.le {a b : Rg} (h : Fol a b) : a.end ≤ b.p := by rcases h with h | h <;> omega
/-- Two lists in the one form that say the same of each page are the same. -/
theorem Good.unique : ∀ {l l' : List Rg}, Good l → Good l' → (∀ p, atP l p = atP l' p) → l = l'
  | [], [], _, _, _ => rfl
  | [], r :: l, _, h, he => by
    have := he r.p
    rw [atP_cons, if_pos (hasP_iff.2 ⟨Int.le_refl _, h.cons.1.lt⟩)] at this
    cases this
  | r :: l, [], h, _, he => by
    have := he r.p
    rw [atP_cons, if_pos (hasP_iff.2 ⟨Int.le_refl _, h.cons.1.lt⟩)] at this
    cases this
  | r :: l, s :: t, h, h', he => by
    obtain ⟨hr, hl, hf⟩ := h.cons
    obtain ⟨hs, ht, hg⟩ := h'.cons
    have q1 := hr.lt
    have q2 := hs.lt
    -- a page ahead of the first region has nothing
    have low : ∀ {a : Rg} {b : List Rg}, a.p < a.end → (∀ x ∈ b, Fol a x) → ∀ p, p < a.p → atP (a :: b) p = none := fun {a b} ha hb p hp => atP_none fun x hx => by
      rcases List.mem_cons.1 hx with rfl | hx
      · omega
      · have := (hb x hx).le; omega
    have hp : r.p = s.p := by
      rcases Int.lt_trichotomy r.p s.p with h1 | h1 | h1
      · have := he r.p
        rw [atP_cons, if_pos (hasP_iff.2 ⟨Int.le_refl _, q1⟩), low q2 hg _ h1] at this
        cases this
      · exact h1
      · have := he s.p
        rw [atP_cons (r := s), if_pos (hasP_iff.2 ⟨Int.le_refl _, q2⟩), low q1 hf _ h1] at this
        cases this
    have hm : r.m = s.m := by
      have := he r.p
      rw [atP_cons, if_pos (hasP_iff.2 ⟨Int.le_refl _, q1⟩), atP_cons, if_pos (hasP_iff.2 ⟨by omega, by omega⟩)] at this
      exact Option.some.inj this
    -- the end
    have one : ∀ {a : Rg} {b : List Rg}, a.p < a.end → (∀ x ∈ b, Fol a x) → atP (a :: b) a.end ≠ some a.m := fun {a b} ha hb hc => by
      obtain ⟨x, hx, h1, h2, h3⟩ := atP_mem hc
      rcases List.mem_cons.1 hx with rfl | hx
      · omega
      · rcases hb x hx with h4 | h4
        · omega
        · exact h4.2 h3.symm
    have hend : r.end = s.end := by
      rcases Int.lt_trichotomy r.end s.end with h1 | h1 | h1
      · have h2 := he r.end
        rw [atP_cons (r := s), if_pos (hasP_iff.2 ⟨by omega, h1⟩), ← hm] at h2
        exact absurd h2 (one q1 hf)
      · exact h1
      · have h2 := he s.end
        rw [atP_cons, if_pos (hasP_iff.2 ⟨by omega, h1⟩), hm] at h2
        exact absurd h2.symm (one q2 hg)
    have hrs : r = s := by
      have e1 : r.end = r.p + r.n := rfl
      have e2 : s.end = s.p + s.n := rfl
      cases r; cases s
      simp only [Rg.mk.injEq] at *
      refine ⟨hp, by omega, hm⟩
    subst hrs
    refine congrArg _ (Good.unique hl ht fun p => ?_)
    have h2 := he p
    rw [atP_cons, atP_cons] at h2
    by_cases hc : hasP p r = true
    · have hc := hasP_iff.1 hc
      rw [atP_none fun x hx => by have := (hf x hx).le; omega, atP_none fun x hx => by have := (hg x hx).le; omega]
    · rwa [if_neg hc, if_neg hc] at h2
/-! what is put together -/
theorem last_split {l : List Rg} (h : 0 < l.length) : l = l.take (l.length - 1) ++ [lastR l] := by
  conv => lhs; rw [← List.take_append_drop (l.length - 1) l]
  rw [drop_get l (l.length - 1) (by omega), List.drop_of_length_le (by omega)]
  unfold lastR
  rw [show ((l.length - 1 : Nat) : Int) = (l.length : Int) - 1 from by omega]
theorem set_last {l : List Rg} {x : Rg} (h : 0 < l.length) : l.set (l.length - 1) x = l.take (l.length - 1) ++ [x] := by
  rw [List.set_eq_take_append_cons_drop, if_pos (by omega), List.drop_of_length_le (by omega)]
structure Stands (s : List Rg) (r : Rg) : Prop where
  good : Good s
  ok : r.Ok
  le : ∀ a ∈ s, a.end ≤ r.p
theorem addR_good {s : List Rg} {r : Rg} (h : Stands s r) : Good (addR s r) ∧ (∀ a ∈ addR s r, a.end ≤ r.end) ∧ ∀ p, atP (addR s r) p = if hasP p r = true then some r.m else atP s p := by
  have hr := h.ok.lt
  by_cases hj : joins s r
  · obtain ⟨h0, h1, h2⟩ := hj
    have e : addR s r = s.take (s.length - 1) ++ [⟨(lastR s).p, (lastR s).n + r.n, (lastR s).m⟩] := by unfold addR; rw [if_pos ⟨h0, h1, h2⟩, set_last h0]
    have hsp := last_split h0
    have hok : ∀ x ∈ addR s r, x.Ok := addR_ok h.good.ok h.ok
    generalize lastR s = q at e hsp h1 h2
    generalize s.take (s.length - 1) = u at e hsp
    have hend : (⟨q.p, q.n + r.n, q.m⟩ : Rg).end = r.end := by
      have e1 : q.end = q.p + q.n := rfl
      have e2 : r.end = r.p + r.n := rfl
      show q.p + (q.n + r.n) = r.end
      omega
    have hg := h.good
    rw [hsp] at hg
    have hpw := List.pairwise_append.1 hg.pw
    have hq := hg.ok q (by simp)
    have hql := hq.lt
    have hu : ∀ a ∈ u, Fol a q := fun a ha => hpw.2.2 a ha q (by simp)
    refine ⟨⟨hok, ?_⟩, ?_, fun p => ?_⟩
    · rw [e]
      refine List.pairwise_append.2 ⟨hpw.1, List.pairwise_singleton _ _, fun a ha b hb => ?_⟩
      obtain rfl := List.mem_singleton.1 hb
      exact hu a ha
    · intro a ha
      rw [e] at ha
      rcases List.mem_append.1 ha with ha | ha
      · have := (hu a ha).le; omega
      · obtain rfl := List.mem_singleton.1 ha; omega
    · rw [e, hsp, atP_append, atP_append, atP_cons, atP_cons]
      have hu2 : ∀ p, q.p ≤ p → atP u p = none := fun p hp => atP_none fun a ha => by have := (hu a ha).le; omega
      by_cases hc : hasP p r = true
      · have hc2 := hasP_iff.1 hc
        rw [if_pos hc, if_pos (hasP_iff.2 ⟨by show q.p ≤ p; omega, by rw [hend]; omega⟩), hu2 p (by omega)]
        exact congrArg some h2
      · have hc2 : ¬ (r.p ≤ p ∧ p < r.end) := fun h => hc (hasP_iff.2 h)
        rw [if_neg hc]
        by_cases hc3 : hasP p q = true
        · have := hasP_iff.1 hc3
          rw [if_pos hc3, if_pos (show hasP p ⟨q.p, q.n + r.n, q.m⟩ = true from hasP_iff.2 ⟨this.1, by rw [hend]; omega⟩)]
        · have : ¬ (q.p ≤ p ∧ p < q.end) := fun h => hc3 (hasP_iff.2 h)
          rw [if_neg hc3, if_neg fun h => by
            have := hasP_iff.1 h
            rw [hend] at this
            have : q.p ≤ p := this.1
            omega]
  · have e : addR s r = s ++ [r] := if_neg hj
    have hfol : ∀ a ∈ s, Fol a r := fun a ha => by
      have h0 := mem_last ha
      have hsp := last_split h0
      have hg := h.good
      have hle := h.le (lastR s) (lastR_mem h0)
      rw [hsp] at hg ha
      have hpw := List.pairwise_append.1 hg.pw
      have hql := (hg.ok (lastR s) (by simp)).lt
      rcases List.mem_append.1 ha with ha | ha
      · have := (hpw.2.2 a ha (lastR s) (by simp)).le
        left; omega
      · obtain rfl := List.mem_singleton.1 ha
        by_cases he : (lastR s).end = r.p
        · exact .inr ⟨he, fun hm => hj ⟨h0, he, hm⟩⟩
        · left; omega
    refine ⟨⟨addR_ok h.good.ok h.ok, ?_⟩, ?_, fun p => ?_⟩
    · rw [e]
      refine List.pairwise_append.2 ⟨h.good.pw, List.pairwise_singleton _ _, fun a ha b hb => ?_⟩
      obtain rfl := List.mem_singleton.1 hb
      exact hfol a ha
    · intro a ha
      rw [e] at ha
      rcases List.mem_append.1 ha with ha | ha
      · have := h.le a ha; omega
      · obtain rfl := List.mem_singleton.1 ha; omega
    · rw [e, atP_append, atP_cons]
      by_cases hc : hasP p r = true
      · have hc2 := hasP_iff.1 hc
        rw [if_pos hc, if_pos hc, atP_none fun a ha => by have := h.le a ha; omega]
        rfl
      · rw [if_neg hc, if_neg hc]
        cases atP s p <;> rfl
theorem fold_good : ∀ {L s : List Rg}, Good s → (∀ r ∈ L, r.Ok) → L.Pairwise (fun a b => a.end ≤ b.p) → (∀ a ∈ s, ∀ r ∈ L, a.end ≤ r.p) → Good (L.foldl addR s) ∧ ∀ p, atP (L.foldl addR s) p = (atP L p).or (atP s p)
  | [], s, h, _, _, _ => ⟨h, fun p => rfl⟩
  | r :: L, s, h, hok, hpw, hle => by
    obtain ⟨g1, g2, g3⟩ := addR_good ⟨h, hok r (by simp), fun a ha => hle a ha r (by simp)⟩
    have hp := List.pairwise_cons.1 hpw
    obtain ⟨k1, k2⟩ := fold_good (L := L) (s := addR s r) g1 (fun x hx => hok x (by simp [hx])) hp.2 fun a ha x hx => Int.le_trans (g2 a ha) (hp.1 x hx)
    refine ⟨k1, fun p => ?_⟩
    rw [List.foldl_cons, k2, g3, atP_cons]
    by_cases hc : hasP p r = true
    · have hc2 := hasP_iff.1 hc
      rw [if_pos hc, if_pos hc, atP_none fun x hx => by have := hp.1 x hx; omega]
      rfl
    · rw [if_neg hc, if_neg hc]
theorem atP_betw {from_ to : Int} : ∀ {l : List Rg}, atP (betw l from_ to) = fun p => if from_ ≤ p ∧ p < to then atP l p else none
  | [] => by funext p; simp [betw, atP]
  | r :: l => by
    funext p
    have ih := congrFun (atP_betw (from_ := from_) (to := to) (l := l)) p
    rw [show betw (r :: l) from_ to = betw [r] from_ to ++ betw l from_ to from betw_append [r] l _ _, atP_append, ih, atP_cons]
    have e1 : atP (betw [r] from_ to) p = if (from_ ≤ p ∧ p < to) ∧ hasP p r = true then some r.m else none := by
      unfold betw
      by_cases hc : (if from_ > r.p then from_ else r.p) ≥ (if to < r.end then to else r.end)
      · rw [List.filterMap_cons_none (part_none hc)]
        rw [if_neg fun h => by have := hasP_iff.1 h.2; omega]
        rfl
      · rw [List.filterMap_cons_some (part_some hc), List.filterMap_nil, atP_cons]
        have e : ∀ a b c : Int, (⟨a, b - a, c⟩ : Rg).end = b := fun a b c => by show a + (b - a) = b; omega
        by_cases h : (from_ ≤ p ∧ p < to) ∧ hasP p r = true
        · have := hasP_iff.1 h.2
          rw [if_pos h, if_pos (hasP_iff.2 ⟨by show (if from_ > r.p then from_ else r.p) ≤ p; omega, by rw [e]; omega⟩)]
        · rw [if_neg h, if_neg fun hh => by
            have h2 := hasP_iff.1 hh
            rw [e] at h2
            have h3 : (if from_ > r.p then from_ else r.p) ≤ p := h2.1
            exact h ⟨by omega, hasP_iff.2 (by omega)⟩]
          rfl
    rw [e1]
    by_cases h1 : from_ ≤ p ∧ p < to
    · rw [if_pos h1, if_pos h1]
      by_cases h2 : hasP p r = true
      · rw [if_pos ⟨h1, h2⟩, if_pos h2]; rfl
      · rw [if_neg fun h => h2 h.2, if_neg h2]; rfl
    · rw [if_neg h1, if_neg h1, if_neg fun h => h1 h.1]; rfl
/-- A list whose pages from one up to another one are as told. -/
def newL (l : List Rg) (from_ to : Int) (ins : List Rg) : List Rg := (betw l 0 from_ ++ ins ++ betw l to 1048576).foldl addR []
theorem newL_spec {l ins : List Rg} (h : Good l) {from_ to : Int} (h1 : 1 ≤ from_) (h2 : from_ ≤ to) (h3 : to ≤ 1048576) (hi : ins.length ≤ 1) (ho : ∀ r ∈ ins, r.Ok ∧ r.p = from_ ∧ r.end = to) :
    Good (newL l from_ to ins) ∧ ∀ p, atP (newL l from_ to ins) p = if from_ ≤ p ∧ p < to then atP ins p else atP l p := by
  have a1 : ∀ x ∈ betw l 0 from_, x.Ok ∧ x.end ≤ from_ := fun x hx => by
    obtain ⟨r, hr, hp⟩ := List.mem_filterMap.1 hx
    exact ⟨partR_ok (h.ok r hr) hp, (partR_spec hp).2.2.2.2.1⟩
  have a2 : ∀ x ∈ betw l to 1048576, x.Ok ∧ to ≤ x.p := fun x hx => by
    obtain ⟨r, hr, hp⟩ := List.mem_filterMap.1 hx
    exact ⟨partR_ok (h.ok r hr) hp, (partR_spec hp).2.2.2.1⟩
  have w : ∀ {a : List Rg}, Good a → a.Pairwise (fun a b => a.end ≤ b.p) := fun hg => hg.pw.imp fun hf => hf.le
  obtain ⟨g1, g2⟩ := fold_good (L := betw l 0 from_ ++ ins ++ betw l to 1048576) (s := []) ⟨fun _ h => (by cases h), List.Pairwise.nil⟩ (fun r hr => by
      rcases List.mem_append.1 hr with hr | hr
      · rcases List.mem_append.1 hr with hr | hr
        · exact (a1 r hr).1
        · exact (ho r hr).1
      · exact (a2 r hr).1) (by
      refine List.pairwise_append.2 ⟨List.pairwise_append.2 ⟨w (h.betw _ _), ?_, fun a ha b hb => ?_⟩, w (h.betw _ _), fun a ha b hb => ?_⟩
      · match ins, hi with
        | [], _ => exact List.Pairwise.nil
        | [r], _ => exact List.pairwise_singleton _ _
      · have := (a1 a ha).2; have := (ho b hb).2.1; omega
      · have h5 := (a2 b hb).2
        rcases List.mem_append.1 ha with ha | ha
        · have := (a1 a ha).2; omega
        · have := (ho a ha).2.2; omega) (fun a ha => by cases ha)
  refine ⟨g1, fun p => ?_⟩
  unfold newL
  rw [g2, show atP [] p = none from rfl]
  have e0 : ∀ x : Option Int, x.or none = x := fun x => by cases x <;> rfl
  rw [e0, atP_append, atP_append, congrFun atP_betw p, congrFun atP_betw p]
  by_cases hc : from_ ≤ p ∧ p < to
  · rw [if_pos hc, if_neg (by omega), if_neg (by omega), e0]; rfl
  · rw [if_neg hc]
    have hin : atP ins p = none := atP_none fun r hr => by have := (ho r hr).2; omega
    rw [hin, e0]
    by_cases hlo : p < from_
    · by_cases h0 : 0 ≤ p
      · rw [if_pos (by omega), if_neg (by omega), e0]
      · rw [if_neg (by omega), if_neg (by omega)]
        rw [atP_none fun r hr => by have := (h.ok r hr).p; omega]; rfl
    · rw [if_neg (by omega)]
      by_cases hhi : p < 1048576
      · rw [if_pos (by omega)]; rfl
      · rw [if_neg (by omega), atP_none fun r hr => by have := (h.ok r hr).e; have e : r.end = r.p + r.n := rfl; omega]; rfl
/-! how many pages have something -/
def mc (l : List Rg) (from_ : Int) : Nat → Int
  | 0 => 0
  | k + 1 => mc l from_ k + if (atP l (from_ + k)).isSome = true then 1 else 0
def pc (r : Rg) (from_ : Int) : Nat → Int
  | 0 => 0
  | k + 1 => pc r from_ k + if hasP (from_ + k) r = true then 1 else 0
theorem pc_eq {r : Rg} (h : r.Ok) (from_ : Int) : ∀ k : Nat, pc r from_ k = cnt (betw [r] from_ (from_ + k))
  | 0 => by
    have := h.lt
    unfold betw
    rw [List.filterMap_cons_none (part_none (by omega))]
    rfl
  | k + 1 => by
    have q := h.lt
    have ih := pc_eq h from_ k
    unfold pc
    rw [ih]
    have key : ∀ to : Int, cnt (betw [r] from_ to) = if (if from_ > r.p then from_ else r.p) ≥ (if to < r.end then to else r.end) then 0 else (if to < r.end then to else r.end) - (if from_ > r.p then from_ else r.p) := fun to => by
      unfold betw
      by_cases hc : (if from_ > r.p then from_ else r.p) ≥ (if to < r.end then to else r.end)
      · rw [List.filterMap_cons_none (part_none hc), if_pos hc]; rfl
      · rw [List.filterMap_cons_some (part_some hc), if_neg hc]
        simp [cnt]
    rw [key, key]
    by_cases hc : hasP (from_ + k) r = true
    · have := hasP_iff.1 hc
      rw [if_pos hc]
      omega
    · have : ¬ (r.p ≤ from_ + k ∧ from_ + k < r.end) := fun h => hc (hasP_iff.2 h)
      rw [if_neg hc]
      omega
theorem mc_nil (from_ : Int) : ∀ k, mc [] from_ k = 0
  | 0 => rfl
  | k + 1 => by unfold mc; rw [mc_nil from_ k]; rfl
theorem mc_cons {r : Rg} {l : List Rg} (h : Good (r :: l)) (from_ : Int) : ∀ k, mc (r :: l) from_ k = pc r from_ k + mc l from_ k
  | 0 => rfl
  | k + 1 => by
    unfold mc pc
    rw [mc_cons h from_ k, atP_cons]
    by_cases hc : hasP (from_ + k) r = true
    · have hc2 := hasP_iff.1 hc
      have : atP l (from_ + k) = none := atP_none fun x hx => by have := (h.cons.2.2 x hx).le; omega
      have e1 : (if (some r.m).isSome = true then (1 : Int) else 0) = 1 := rfl
      have e2 : (if (none : Option Int).isSome = true then (1 : Int) else 0) = 0 := rfl
      rw [if_pos hc, if_pos hc, this, e1, e2]
      omega
    · rw [if_neg hc, if_neg hc]
      omega
theorem cnt_mc : ∀ {l : List Rg}, Good l → ∀ (from_ : Int) (k : Nat), cnt (betw l from_ (from_ + k)) = mc l from_ k
  | [], _, f, k => by rw [mc_nil]; rfl
  | r :: l, h, f, k => by
    rw [show betw (r :: l) f (f + k) = betw [r] f (f + k) ++ betw l f (f + k) from betw_append [r] l _ _, cnt_append, mc_cons h, pc_eq h.cons.1, cnt_mc h.cons.2.1]
theorem mc_le (l : List Rg) (f : Int) : ∀ k : Nat, 0 ≤ mc l f k ∧ mc l f k ≤ k ∧ (mc l f k = k ↔ ∀ i : Nat, i < k → (atP l (f + i)).isSome = true) ∧ (mc l f k = 0 ↔ ∀ i : Nat, i < k → atP l (f + i) = none)
  | 0 => ⟨Int.le_refl _, Int.le_refl _, ⟨fun _ i hi => by omega, fun _ => rfl⟩, ⟨fun _ i hi => by omega, fun _ => rfl⟩⟩
  | k + 1 => by
    obtain ⟨h0, h1, h2, h3⟩ := mc_le l f k
    unfold mc
    by_cases hc : (atP l (f + k)).isSome = true
    · rw [if_pos hc]
      refine ⟨by omega, by omega, ⟨fun h i hi => ?_, fun h => ?_⟩, ⟨fun h => by omega, fun h => ?_⟩⟩
      · by_cases hik : i < k
        · exact h2.1 (by omega) i hik
        · obtain rfl : i = k := by omega
          exact hc
      · have := h2.2 fun i hi => h i (by omega)
        omega
      · have := h k (by omega); rw [this] at hc; cases hc
    · rw [if_neg hc]
      have hn : atP l (f + k) = none := by cases hx : atP l (f + k) with | none => rfl | some _ => rw [hx] at hc; exact absurd rfl hc
      refine ⟨by omega, by omega, ⟨fun h => by omega, fun h => absurd (h k (by omega)) hc⟩, ⟨fun h i hi => ?_, fun h => ?_⟩⟩
      · by_cases hik : i < k
        · exact h3.1 (by omega) i hik
        · obtain rfl : i = k := by omega
          exact hn
      · have := h3.2 fun i hi => h i (by omega)
        omega
theorem cnt_range {l : List Rg} (h : Good l) {f n : Int} (hn : 0 ≤ n) : cnt (betw l f (f + n)) ≤ n ∧ (cnt (betw l f (f + n)) = n ↔ ∀ p, f ≤ p → p < f + n → (atP l p).isSome = true) ∧ (cnt (betw l f (f + n)) = 0 ↔ ∀ p, f ≤ p → p < f + n → atP l p = none) ∧ 0 ≤ cnt (betw l f (f + n)) := by
  obtain ⟨k, rfl⟩ : ∃ k : Nat, n = k := ⟨n.toNat, by omega⟩
  obtain ⟨h0, h1, h2, h3⟩ := mc_le l f k
  rw [cnt_mc h]
  refine ⟨h1, h2.trans ⟨fun h p hp hq => ?_, fun h i hi => h _ (by omega) (by omega)⟩, h3.trans ⟨fun h p hp hq => ?_, fun h i hi => h _ (by omega) (by omega)⟩, h0⟩
  · have := h (p - f).toNat (by omega)
    rwa [show f + ((p - f).toNat : Int) = p from by omega] at this
  · have := h (p - f).toNat (by omega)
    rwa [show f + ((p - f).toNat : Int) = p from by omega] at this
theorem protP_ref (l : List Rg) (p n m : Int) : rprotP l p n m = protP l p n m := by
  unfold rprotP protP
  by_cases hc : checkE l = 0
  · have hc' : ¬ checkE l ≠ 0 := by omega
    rw [if_neg hc', if_neg hc']
    by_cases hp : pgs p n = false ∨ prm m = false
    · rw [if_pos hp, if_pos hp]
    · rw [if_neg hp, if_neg hp]
      have h1 := pgs_rng (p := p) (n := n) (by cases h : pgs p n <;> simp [h] at hp ⊢)
      have hg := Good.of_check hc
      rw [changedF_eq hg (by omega) (by omega)]
      have h2 := (cnt_range hg (f := p) (n := n) (by omega)).1
      have e : (betw l p (p + n)).foldl (fun s r => s + r.n) 0 = cnt (betw l p (p + n)) := rfl
      rw [e]
      by_cases hb : cnt (betw l p (p + n)) < n
      · rw [if_pos (by omega), if_pos hb]
      · rw [if_neg (by omega), if_neg hb]
        rfl
  · rw [if_pos hc, if_pos hc]
end Go.Proofs.Ytalkcemelegohaa.Vm
