/- What Put, Cut and Protect make, page by page. -/
import Derived.Test.YtalkcemelegohaaVmPb
set_option linter.unusedVariables false
set_option maxRecDepth 100000
namespace Go.Proofs.Ytalkcemelegohaa.Vm
open Go.RowKit Go.Cof

theorem pieces_length : ∀ {l : List Rg}, Good l → ∀ {f t : Int}, f ≤ t → (betw l 0 f).length + (betw l t 1048576).length ≤ l.length + 1
  | [], _, f, t, _ => by simp [betw]
  | r :: l, h, f, t, hft => by
    obtain ⟨hr, hl, hf⟩ := h.cons
    have q := hr.lt
    have e : ∀ a b, betw (r :: l) a b = betw [r] a b ++ betw l a b := fun a b => betw_append [r] l a b
    rw [e, e, List.length_append, List.length_append, List.length_cons]
    have l1 := betw_length [r] 0 f
    have l2 := betw_length [r] t 1048576
    simp only [List.length_singleton] at l1 l2
    by_cases hs : r.p < f ∧ t < r.end
    · have : betw l 0 f = [] := betw_behind fun x hx => by have := (hf x hx).le; omega
      have l3 := betw_length l t 1048576
      rw [this, List.length_nil]
      omega
    · have ih := pieces_length (l := l) hl hft
      have : (betw [r] 0 f).length = 0 ∨ (betw [r] t 1048576).length = 0 := by
        by_cases h1 : r.p < f
        · right
          rw [betw_out fun x hx => by obtain rfl := List.mem_singleton.1 hx; omega]; rfl
        · left
          rw [betw_behind fun x hx => by obtain rfl := List.mem_singleton.1 hx; omega]; rfl
      omega
theorem newL_length {l ins : List Rg} (h : Good l) {f t : Int} (hft : f ≤ t) : (newL l f t ins).length ≤ l.length + 1 + ins.length := by
  have h1 := pieces_length h hft
  have h2 := fold_length (betw l 0 f ++ ins ++ betw l t 1048576) []
  unfold newL
  simp only [List.length_append, List.length_nil] at h2
  omega
structure Fine (l : List Rg) : Prop where
  good : Good l
  len : l.length ≤ 1024
theorem fine_iff {l : List Rg} : checkE l = 0 ↔ Fine l := ⟨fun h => ⟨Good.of_check h, (checkE_good h).1⟩, fun h => h.good.check h.len⟩
theorem ok_pgs {r : Rg} (h : r.Ok) : pgs r.p r.n = true ∧ prm r.m = true := by
  have := h.p; have := h.n; have := h.e
  unfold pgs prm
  exact ⟨decide_eq_true (by omega), decide_eq_true h.m⟩
theorem putP_eq {l : List Rg} {r : Rg} (h : Fine l) (hr : r.Ok) : ((∀ p, r.p ≤ p → p < r.end → atP l p = none) → putP l r = fewP (newL l r.p r.end [r])) ∧ ((¬ ∀ p, r.p ≤ p → p < r.end → atP l p = none) → putP l r = ([], 171)) := by
  have hc := fine_iff.2 h
  obtain ⟨h1, h2⟩ := ok_pgs hr
  have q1 := hr.p; have q2 := hr.n
  have hx : putP l r = if 0 < cnt (betw l r.p r.end) then ([], 171) else fewP (newL l r.p r.end [r]) := by
    unfold putP
    rw [if_neg (by omega), if_neg (by simp [h1, h2]), changedF_eq h.good q1 (by have := hr.lt; omega)]
    rfl
  have hn := cnt_range h.good (f := r.p) (n := r.n) (by omega)
  have e : r.p + r.n = r.end := rfl
  rw [e] at hn
  rw [hx]
  constructor
  · intro hf; rw [if_neg (by have := hn.2.2.1.2 hf; omega)]
  · intro hf
    rw [if_pos (by
      rcases Int.lt_or_le 0 (cnt (betw l r.p r.end)) with h3 | h3
      · exact h3
      · exact absurd (hn.2.2.1.1 (by omega)) hf)]
theorem cutP_eq {l : List Rg} {p n : Int} (h : Fine l) (h1 : 1 ≤ p) (h2 : 1 ≤ n) (h3 : p + n ≤ 1048576) : cutP l p n = fewP (newL l p (p + n) []) := by
  have hc := fine_iff.2 h
  unfold cutP
  rw [if_neg (by omega), if_neg (by unfold pgs; simp; omega), changedF_eq h.good h1 (by omega)]
  rfl
theorem protP_eq {l : List Rg} {p n m : Int} (h : Fine l) (hr : (⟨p, n, m⟩ : Rg).Ok) : ((∀ x, p ≤ x → x < p + n → (atP l x).isSome = true) → protP l p n m = fewP (newL l p (p + n) [⟨p, n, m⟩])) ∧ ((¬ ∀ x, p ≤ x → x < p + n → (atP l x).isSome = true) → protP l p n m = ([], 170)) := by
  have hc := fine_iff.2 h
  obtain ⟨h1, h2⟩ := ok_pgs hr
  have q1 : 1 ≤ p := hr.p
  have q2 : 1 ≤ n := hr.n
  have hx : protP l p n m = if cnt (betw l p (p + n)) < n then ([], 170) else fewP (newL l p (p + n) [⟨p, n, m⟩]) := by
    have h1' : pgs p n = true := h1
    have h2' : prm m = true := h2
    unfold protP
    rw [if_neg (by omega), if_neg (by simp [h1', h2']), changedF_eq h.good q1 (by omega)]
    rfl
  have hn := cnt_range h.good (f := p) (n := n) (by omega)
  rw [hx]
  constructor
  · intro hf; rw [if_neg (by have := hn.2.1.2 hf; omega)]
  · intro hf
    rw [if_pos (by
      rcases Int.lt_or_le (cnt (betw l p (p + n))) n with h3 | h3
      · exact h3
      · exact absurd (hn.2.1.1 (by omega)) hf)]
theorem fewP_0 {xs a : List Rg} (h : fewP xs = (a, 0)) : a = xs ∧ xs.length ≤ 1024 := by
  unfold fewP at h
  split at h
  · cases h
  · cases h; exact ⟨rfl, by omega⟩
theorem fewP_fine {xs : List Rg} (h : xs.length ≤ 1024) : fewP xs = (xs, 0) := if_neg (by omega)
/-- What a change made. -/
structure Made (l a : List Rg) (f t : Int) (x : Option Int) : Prop where
  was : Fine l
  fine : Fine a
  rng : 1 ≤ f ∧ f < t ∧ t ≤ 1048576
  at_ : ∀ p, atP a p = if f ≤ p ∧ p < t then x else atP l p
theorem new_put {l : List Rg} {r : Rg} (h : Good l) (hr : r.Ok) : Good (newL l r.p r.end [r]) ∧ ∀ p, atP (newL l r.p r.end [r]) p = if r.p ≤ p ∧ p < r.end then some r.m else atP l p := by
  have hlt := hr.lt
  obtain ⟨g1, g2⟩ := newL_spec (ins := [r]) (from_ := r.p) (to := r.end) h hr.p (by omega) (by have := hr.e; have e : r.end = r.p + r.n := rfl; omega) (by simp) fun x hx => by
    obtain rfl := List.mem_singleton.1 hx; exact ⟨hr, rfl, rfl⟩
  refine ⟨g1, fun p => ?_⟩
  rw [g2]
  by_cases hc : r.p ≤ p ∧ p < r.end
  · rw [if_pos hc, if_pos hc, atP_cons, if_pos (hasP_iff.2 hc)]
  · rw [if_neg hc, if_neg hc]
theorem new_cut {l : List Rg} {f t : Int} (h : Good l) (h1 : 1 ≤ f) (h2 : f ≤ t) (h3 : t ≤ 1048576) : Good (newL l f t []) ∧ ∀ p, atP (newL l f t []) p = if f ≤ p ∧ p < t then none else atP l p := by
  obtain ⟨g1, g2⟩ := newL_spec (ins := []) h h1 h2 h3 (by simp) fun x hx => by cases hx
  exact ⟨g1, g2⟩
theorem put_made {l a : List Rg} {r : Rg} (h : putP l r = (a, 0)) : Made l a r.p r.end (some r.m) ∧ r.Ok ∧ ∀ p, r.p ≤ p → p < r.end → atP l p = none := by
  have hc : checkE l = 0 := by
    by_cases hc : checkE l = 0
    · exact hc
    · unfold putP at h; rw [if_pos hc] at h; exact absurd (congrArg Prod.snd h) hc
  have hp : ¬ (pgs r.p r.n = false ∨ prm r.m = false) := fun hp => by
    unfold putP at h; rw [if_neg (by omega), if_pos hp] at h; cases h
  have hr : r.Ok := by
    have := pgs_ok (p := r.p) (n := r.n) (m := r.m) (by cases h : pgs r.p r.n <;> simp [h] at hp ⊢) (by cases h : prm r.m <;> simp [h] at hp ⊢)
    exact this
  have hf := fine_iff.1 hc
  obtain ⟨k1, k2⟩ := putP_eq hf hr
  have hfree : ∀ p, r.p ≤ p → p < r.end → atP l p = none := by
    by_cases hfr : ∀ p, r.p ≤ p → p < r.end → atP l p = none
    · exact hfr
    · rw [k2 hfr] at h; cases h
  rw [k1 hfree] at h
  obtain ⟨rfl, hlen⟩ := fewP_0 h
  obtain ⟨g1, g2⟩ := new_put hf.good hr
  exact ⟨⟨hf, ⟨g1, hlen⟩, ⟨hr.p, hr.lt, hr.e⟩, g2⟩, hr, hfree⟩
theorem cut_made {l a : List Rg} {p n : Int} (h : cutP l p n = (a, 0)) : Made l a p (p + n) none := by
  have hc : checkE l = 0 := by
    by_cases hc : checkE l = 0
    · exact hc
    · unfold cutP at h; rw [if_pos hc] at h; exact absurd (congrArg Prod.snd h) hc
  have hp : ¬ pgs p n = false := fun hp => by
    unfold cutP at h; rw [if_neg (by omega), if_pos hp] at h; cases h
  have hr := pgs_rng (p := p) (n := n) (by simpa using hp)
  have hf := fine_iff.1 hc
  rw [cutP_eq hf hr.1 hr.2.1 hr.2.2] at h
  obtain ⟨rfl, hlen⟩ := fewP_0 h
  obtain ⟨g1, g2⟩ := new_cut hf.good hr.1 (t := p + n) (by omega) hr.2.2
  exact ⟨hf, ⟨g1, hlen⟩, ⟨hr.1, by omega, hr.2.2⟩, g2⟩
theorem prot_made {l a : List Rg} {p n m : Int} (h : protP l p n m = (a, 0)) : Made l a p (p + n) (some m) ∧ (⟨p, n, m⟩ : Rg).Ok ∧ ∀ x, p ≤ x → x < p + n → (atP l x).isSome = true := by
  have hc : checkE l = 0 := by
    by_cases hc : checkE l = 0
    · exact hc
    · unfold protP at h; rw [if_pos hc] at h; exact absurd (congrArg Prod.snd h) hc
  have hp : ¬ (pgs p n = false ∨ prm m = false) := fun hp => by
    unfold protP at h; rw [if_neg (by omega), if_pos hp] at h; cases h
  have hr : (⟨p, n, m⟩ : Rg).Ok := pgs_ok (by cases h : pgs p n <;> simp [h] at hp ⊢) (by cases h : prm m <;> simp [h] at hp ⊢)
  have hf := fine_iff.1 hc
  obtain ⟨k1, k2⟩ := protP_eq hf hr
  have hfull : ∀ x, p ≤ x → x < p + n → (atP l x).isSome = true := by
    by_cases hfr : ∀ x, p ≤ x → x < p + n → (atP l x).isSome = true
    · exact hfr
    · rw [k2 hfr] at h; cases h
  rw [k1 hfull] at h
  obtain ⟨rfl, hlen⟩ := fewP_0 h
  obtain ⟨g1, g2⟩ := new_put hf.good hr
  exact ⟨⟨hf, ⟨g1, hlen⟩, ⟨hr.p, hr.lt, hr.e⟩, g2⟩, hr, hfull⟩
/-- What comes of a change, where it is known what it is. -/
theorem put_to {l a : List Rg} {r : Rg} (h : Fine l) (ha : Fine a) (hr : r.Ok) (hfree : ∀ p, r.p ≤ p → p < r.end → atP l p = none) (hat : ∀ p, atP a p = if r.p ≤ p ∧ p < r.end then some r.m else atP l p) : putP l r = (a, 0) := by
  obtain ⟨g1, g2⟩ := new_put h.good hr
  rw [(putP_eq h hr).1 hfree, g1.unique ha.good fun p => by rw [g2, hat]]
  exact fewP_fine ha.len
theorem cut_to {l a : List Rg} {p n : Int} (h : Fine l) (ha : Fine a) (h1 : 1 ≤ p) (h2 : 1 ≤ n) (h3 : p + n ≤ 1048576) (hat : ∀ x, atP a x = if p ≤ x ∧ x < p + n then none else atP l x) : cutP l p n = (a, 0) := by
  obtain ⟨g1, g2⟩ := new_cut h.good h1 (t := p + n) (by omega) h3
  rw [cutP_eq h h1 h2 h3, g1.unique ha.good fun x => by rw [g2, hat]]
  exact fewP_fine ha.len
theorem prot_to {l a : List Rg} {p n m : Int} (h : Fine l) (ha : Fine a) (hr : (⟨p, n, m⟩ : Rg).Ok) (hfull : ∀ x, p ≤ x → x < p + n → (atP l x).isSome = true) (hat : ∀ x, atP a x = if p ≤ x ∧ x < p + n then some m else atP l x) : protP l p n m = (a, 0) := by
  obtain ⟨g1, g2⟩ := new_put h.good hr
  have e : newL l p (p + n) [⟨p, n, m⟩] = a := Good.unique g1 ha.good fun x => (g2 x).trans (hat x).symm
  rw [(protP_eq h hr).1 hfull, e]
  exact fewP_fine ha.len
/-! VmaBack -/
theorem back_cut {l a : List Rg} {r : Rg} (h : putP l r = (a, 0)) : cutP a r.p r.n = (l, 0) := by
  obtain ⟨m, hr, hf⟩ := put_made h
  refine cut_to m.fine m.was hr.p hr.n hr.e fun x => ?_
  rw [m.at_]
  have e : r.p + r.n = r.end := rfl
  rw [e]
  by_cases hc : r.p ≤ x ∧ x < r.end
  · rw [if_pos hc]; exact hf x hc.1 hc.2
  · simp only [if_neg hc]
theorem back_prot {l a : List Rg} {r : Rg} (h : putP l r = (a, 0)) : protP a r.p r.n r.m = (a, 0) := by
  obtain ⟨m, hr, hf⟩ := put_made h
  have e : r.p + r.n = r.end := rfl
  refine prot_to m.fine m.fine hr (fun x h1 h2 => by rw [m.at_, if_pos ⟨h1, h2⟩]; rfl) fun x => ?_
  rw [m.at_, e]
  by_cases hc : r.p ≤ x ∧ x < r.end
  · simp only [if_pos hc]
  · simp only [if_neg hc]
/-! VmaOrder -/
theorem cut_twice {l a : List Rg} {p n : Int} (h : cutP l p n = (a, 0)) : cutP a p n = (a, 0) := by
  have m := cut_made h
  refine cut_to m.fine m.fine m.rng.1 (by have := m.rng; omega) m.rng.2.2 fun x => ?_
  rw [m.at_]
  by_cases hc : p ≤ x ∧ x < p + n
  · simp only [if_pos hc]
  · simp only [if_neg hc]
theorem prot_last {l a b : List Rg} {p n m k : Int} (h : protP l p n m = (a, 0)) (h2 : protP l p n k = (b, 0)) : protP a p n k = (b, 0) ∧ protP a p n m = (a, 0) := by
  obtain ⟨ma, ra, fa⟩ := prot_made h
  obtain ⟨mb, rb, fb⟩ := prot_made h2
  have full : ∀ x, p ≤ x → x < p + n → (atP a x).isSome = true := fun x h1 h3 => by rw [ma.at_, if_pos ⟨h1, h3⟩]; rfl
  refine ⟨prot_to ma.fine mb.fine rb full fun x => ?_, prot_to ma.fine ma.fine ra full fun x => ?_⟩
  · rw [mb.at_, ma.at_]
    by_cases hc : p ≤ x ∧ x < p + n
    · simp only [if_pos hc]
    · simp only [if_neg hc]
  · rw [ma.at_]
    by_cases hc : p ≤ x ∧ x < p + n
    · simp only [if_pos hc]
    · simp only [if_neg hc]
theorem put_len {l a : List Rg} {r : Rg} (h : putP l r = (a, 0)) : a.length ≤ l.length + 2 := by
  obtain ⟨m, hr, hf⟩ := put_made h
  rw [(putP_eq m.was hr).1 hf] at h
  obtain ⟨rfl, _⟩ := fewP_0 h
  have := newL_length (ins := [r]) m.was.good (f := r.p) (t := r.end) (by have := hr.lt; omega)
  simpa using this
/-- Two regions that have nothing together, put in in either order, and taken out again. -/
theorem put_two_ways {l a b : List Rg} {r q : Rg} (h : putP l r = (a, 0)) (h2 : putP l q = (b, 0)) (hap : r.end ≤ q.p ∨ q.end ≤ r.p) (hl : l.length ≤ 900) :
    ∃ c, putP a q = (c, 0) ∧ putP b r = (c, 0) ∧ cutP c r.p r.n = (b, 0) ∧ cutP c q.p q.n = (a, 0) ∧ cutP b q.p q.n = (l, 0) ∧ cutP a r.p r.n = (l, 0) := by
  obtain ⟨ma, ra, fa⟩ := put_made h
  obtain ⟨mb, rb, fb⟩ := put_made h2
  have la := put_len h
  have hfq : ∀ p, q.p ≤ p → p < q.end → atP a p = none := fun p h1 h3 => by rw [ma.at_, if_neg (by omega)]; exact fb p h1 h3
  have hfr : ∀ p, r.p ≤ p → p < r.end → atP b p = none := fun p h1 h3 => by rw [mb.at_, if_neg (by omega)]; exact fa p h1 h3
  obtain ⟨g1, g2⟩ := new_put ma.fine.good rb
  have hlen := newL_length (ins := [q]) ma.fine.good (f := q.p) (t := q.end) (by have := rb.lt; omega)
  have hc : putP a q = (newL a q.p q.end [q], 0) := by
    rw [(putP_eq ma.fine rb).1 hfq]
    exact fewP_fine (by simp at hlen; omega)
  have hfine : Fine (newL a q.p q.end [q]) := ⟨g1, by simp at hlen; omega⟩
  have hc2 : putP b r = (newL a q.p q.end [q], 0) := put_to mb.fine hfine ra hfr fun p => by
    rw [g2, ma.at_, mb.at_]
    by_cases h3 : r.p ≤ p ∧ p < r.end
    · rw [if_pos h3, if_pos h3, if_neg (by omega)]
    · rw [if_neg h3, if_neg h3]
  exact ⟨_, hc, hc2, back_cut hc2, back_cut hc, back_cut h2, back_cut h⟩
end Go.Proofs.Ytalkcemelegohaa.Vm
