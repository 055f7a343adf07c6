/- The program's Gap answers as the reference's. -/
import Derived.Test.YtalkcemelegohaaVmPc
import Derived.Test.YtalkcemelegohaaVmRe
import Derived.Test.YtalkcemelegohaaVmB
set_option linter.unusedVariables false
set_option maxRecDepth 100000
namespace Go.Proofs.Ytalkcemelegohaa.Vm
open Go.RowKit Go.Cof

/-! a place with so many pages that nothing has -/
def Free (l : List Rg) (p n : Int) : Prop := ∀ q, p ≤ q → q < p + n → atP l q = none
theorem free_iff {l : List Rg} (h : Good l) {p n : Int} (hn : 0 ≤ n) : Free l p n ↔ (betw l p (p + n)).length = 0 := by
  have h1 := (cnt_range h (f := p) (n := n) hn).2.2
  have h2 := betw_pos (p := p) (q := p + n) h.ok
  constructor
  · intro hf
    have := h1.1.2 hf
    omega
  · intro hl
    exact h1.1.1 (by omega)
theorem gapL_spec : ∀ {l : List Rg} {n p : Int}, Good l → 1 ≤ n → (∀ r ∈ l, p < r.end) → p ≤ gapL n l p ∧ Free l (gapL n l p) n ∧ (gapL n l p = p ∨ ∃ r ∈ l, gapL n l p = r.end) ∧ ∀ q, p ≤ q → q < gapL n l p → ¬ Free l q n
  | [], n, p, _, _, _ => ⟨Int.le_refl _, fun q _ _ => rfl, .inl rfl, fun q h1 h2 => by simp only [gapL] at h2; omega⟩
  | r :: l, n, p, h, hn, hp => by
    obtain ⟨hr, hl, hf⟩ := h.cons
    have q1 := hr.lt
    have q2 := hp r (by simp)
    by_cases hc : r.p - p ≥ n
    · rw [gapL_stop hc]
      refine ⟨Int.le_refl _, fun q h1 h2 => atP_none fun x hx => ?_, .inl rfl, fun q h1 h2 => by omega⟩
      rcases List.mem_cons.1 hx with rfl | hx
      · omega
      · have := (hf x hx).le; omega
    · rw [gapL_on hc, if_pos q2]
      have hle : ∀ x ∈ l, r.end < x.end := fun x hx => by have := (hf x hx).le; have := (hl.ok x hx).lt; omega
      obtain ⟨g1, g2, g3, g4⟩ := gapL_spec (l := l) (n := n) (p := r.end) hl hn hle
      refine ⟨by omega, fun q h1 h2 => ?_, ?_, fun q h1 h2 hfr => ?_⟩
      · rw [atP_cons, if_neg fun hh => by have := hasP_iff.1 hh; omega]
        exact g2 q h1 h2
      · rcases g3 with g3 | ⟨x, hx, g3⟩
        · exact .inr ⟨r, by simp, g3⟩
        · exact .inr ⟨x, by simp [hx], g3⟩
      · by_cases hq : q < r.end
        · -- the region has a page of these
          by_cases hqp : q ≤ r.p
          · have := hfr r.p hqp (by omega)
            rw [atP_cons, if_pos (hasP_iff.2 ⟨Int.le_refl _, q1⟩)] at this
            cases this
          · have := hfr q (Int.le_refl _) (by omega)
            rw [atP_cons, if_pos (hasP_iff.2 ⟨by omega, hq⟩)] at this
            cases this
        · refine g4 q (by omega) h2 fun x h3 h4 => ?_
          have := hfr x h3 h4
          rwa [atP_cons, if_neg fun hh => by have := hasP_iff.1 hh; omega] at this
theorem gap_from {l : List Rg} (h : Good l) {n f : Int} (hn : 1 ≤ n) : f ≤ gapL n (l.drop (firstN l f)) f ∧ Free l (gapL n (l.drop (firstN l f)) f) n ∧ (gapL n (l.drop (firstN l f)) f = f ∨ ∃ r ∈ l, gapL n (l.drop (firstN l f)) f = r.end) ∧ ∀ q, f ≤ q → q < gapL n (l.drop (firstN l f)) f → ¬ Free l q n := by
  have ho := firstN_out (l := l) (page := f)
  have hd : ∀ x, f ≤ x → atP l x = atP (l.drop (firstN l f)) x := fun x hx => by
    conv => lhs; rw [← List.take_append_drop (firstN l f) l]
    rw [atP_append, atP_none fun r hr => by have := ho r hr; omega]
    rfl
  have hend : ∀ r ∈ l.drop (firstN l f), f < r.end := by
    by_cases hlt : firstN l f < l.length
    · have he := firstN_end hlt
      have hdg := drop_get l (firstN l f) hlt
      have hg2 : Good (Cof.get l (firstN l f : Nat) :: l.drop (firstN l f + 1)) := by rw [← hdg]; exact h.sub (List.drop_sublist _ _)
      rw [hdg]
      intro r hr
      rcases List.mem_cons.1 hr with rfl | hr
      · exact he
      · have := (hg2.cons.2.2 r hr).le
        have := (hg2.cons.2.1.ok r hr).lt
        omega
    · rw [List.drop_of_length_le (by omega)]
      exact fun r hr => by cases hr
  obtain ⟨g1, g2, g3, g4⟩ := gapL_spec (h.sub (List.drop_sublist (firstN l f) l)) hn hend
  refine ⟨g1, fun q h1 h2 => by rw [hd q (by omega)]; exact g2 q h1 h2, ?_, fun q h1 h2 hfr => g4 q h1 h2 fun x h3 h4 => by rw [← hd x (by omega)]; exact hfr x h3 h4⟩
  rcases g3 with g3 | ⟨r, hr, g3⟩
  · exact .inl g3
  · exact .inr ⟨r, List.mem_of_mem_drop hr, g3⟩
theorem gstep_fold {l : List Rg} (h : Good l) {n f to g : Int} (hn : 1 ≤ n) (hf0 : 0 ≤ f) (hfree : Free l g n) (hfg : f ≤ g) (hmin : ∀ q, f ≤ q → q < g → ¬ Free l q n) : ∀ (cs : List Int) (b : Int), (b = -1 ∨ (b ≥ g ∧ f ≤ b ∧ b ≤ to - n)) → (g ≤ to - n → b = g ∨ g ∈ cs) →
    (g > to - n → cs.foldl (gstep l n f to) b = -1) ∧ (g ≤ to - n → cs.foldl (gstep l n f to) b = g)
  | [], b, hb, hin => ⟨fun hg => by rcases hb with hb | hb; exact hb; omega, fun hg => by rcases hin hg with h1 | h1; exact h1; cases h1⟩
  | c :: cs, b, hb, hin => by
    classical
    have key : gstep l n f to b c = (if c < f ∨ c > to - n ∨ (0 ≤ b ∧ b ≤ c) ∨ ¬ Free l c n then b else c) := by
      unfold gstep
      have e : (0 < (betw l c (c + n)).length) ↔ ¬ Free l c n := by rw [free_iff h (by omega)]; omega
      by_cases h1 : c < f ∨ c > to - n ∨ (0 ≤ b ∧ b ≤ c) ∨ ¬ Free l c n
      · rw [if_pos h1, if_pos (by rw [e]; exact h1)]
      · rw [if_neg h1, if_neg (by rw [e]; exact h1)]
    rw [List.foldl_cons, key]
    by_cases h1 : c < f ∨ c > to - n ∨ (0 ≤ b ∧ b ≤ c) ∨ ¬ Free l c n
    · rw [if_pos h1]
      refine gstep_fold h hn hf0 hfree hfg hmin cs b hb fun hg => ?_
      rcases hin hg with h2 | h2
      · exact .inl h2
      · rcases List.mem_cons.1 h2 with h3 | h3
        · subst h3
          left
          rcases h1 with h1 | h1 | h1 | h1
          · omega
          · omega
          · omega
          · exact absurd hfree h1
        · exact .inr h3
    · rw [if_neg h1]
      have hcf : Free l c n := Decidable.of_not_not fun h2 => h1 (.inr (.inr (.inr h2)))
      have hcg : g ≤ c := by
        rcases Int.lt_or_le c g with h3 | h3
        · exact absurd hcf (hmin c (by omega) h3)
        · exact h3
      refine gstep_fold h hn hf0 hfree hfg hmin cs c (.inr ⟨hcg, by omega, by omega⟩) fun hg => ?_
      rcases hin hg with h2 | h2
      · left
        subst h2
        omega
      · rcases List.mem_cons.1 h2 with h3 | h3
        · exact .inl h3.symm
        · exact .inr h3
theorem gapP_ref {l : List Rg} {n f to : Int} : rgapP l n f to = gapP l n f to := by
  unfold rgapP gapP
  by_cases hc : checkE l = 0
  · have hc' : ¬ checkE l ≠ 0 := by omega
    rw [if_neg hc', if_neg hc']
    have hg := Good.of_check hc
    by_cases hp : n < 1 ∨ n > 1048576 ∨ f < 0 ∨ to > 1048576 ∨ f > to
    · rw [if_pos (by omega), if_pos hp]
    · rw [if_neg (by omega), if_neg hp]
      obtain ⟨g1, g2, g3, g4⟩ := gap_from hg (n := n) (f := f) (by omega)
      generalize gapL n (l.drop (firstN l f)) f = g at g1 g2 g3 g4
      have hk := gstep_fold hg (n := n) (f := f) (to := to) (g := g) (by omega) (by omega) g2 g1 g4 (cands l f) (-1) (.inl rfl) fun _ => .inr (by
        unfold cands
        rcases g3 with g3 | ⟨r, hr, g3⟩
        · rw [g3]; simp
        · rw [g3]; exact List.mem_cons_of_mem _ (List.mem_map.2 ⟨r, hr, rfl⟩))
      have e : rgapB l n f to = (cands l f).foldl (gstep l n f to) (-1) := rfl
      rw [e]
      by_cases hgt : g > to - n
      · rw [hk.1 hgt, if_pos (by decide), if_pos hgt]
      · rw [hk.2 (by omega), if_neg (by omega), if_neg hgt]
  · rw [if_pos hc, if_pos hc]
end Go.Proofs.Ytalkcemelegohaa.Vm
