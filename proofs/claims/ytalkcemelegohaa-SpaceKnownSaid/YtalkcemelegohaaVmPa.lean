/- Lists of regions in their one form: the program's way and the reference's way come to the same. -/
import Derived.Test.YtalkcemelegohaaVmC
set_option linter.unusedVariables false
set_option maxRecDepth 100000
namespace Go.Proofs.Ytalkcemelegohaa.Vm
open Go.RowKit Go.Cof

def hasP (page : Int) (r : Rg) : Bool := decide (r.p ≤ page ∧ page < r.end)
/-- b may stand behind a. -/
def Fol (a b : Rg) : Prop := a.end < b.p ∨ (a.end = b.p ∧ a.m ≠ b.m)
structure Good (l : List Rg) : Prop where
  ok : ∀ r ∈ l, r.Ok
  pw : l.Pairwise Fol
theorem follows_iff {a b : Rg} : follows a b = true ↔ Fol a b := by
  unfold follows Fol
  simp only [Bool.not_eq_true', decide_eq_false_iff_not]
  by_cases h : a.m = b.m <;> simp [h] <;> omega
theorem get_eq {α : Type} [Inhabited α] {l : List α} {i : Nat} (h : i < l.length) : Cof.get l (i : Int) = l[i] := by
  unfold Cof.get
  rw [Int.toNat_natCast, List.getD_eq_getElem?_getD, List.getElem?_eq_getElem h]
  rfl
theorem Fol.trans {a b c : Rg} (hb : b.Ok) (h1 : Fol a b) (h2 : Fol b c) : Fol a c := by
  have := hb.n
  have e : b.end = b.p + b.n := rfl
  left
  rcases h1 with h1 | h1 <;> rcases h2 with h2 | h2 <;> omega
theorem Good.of_check {l : List Rg} (h : checkE l = 0) : Good l := by
  have hg := checkE_good h
  refine ⟨hg.2, ?_⟩
  unfold checkE at h
  rw [if_neg (by omega)] at h
  have ha : ∀ i : Nat, i < l.length → okAt l i = true := by
    intro i hi
    split at h
    · rename_i hc; exact List.all_eq_true.1 hc i (List.mem_range.2 hi)
    · cases h
  rw [List.pairwise_iff_getElem]
  have key : ∀ d i : Nat, ∀ (hi : i < l.length) (hj : i + d + 1 < l.length), Fol l[i] l[i + d + 1] := by
    intro d
    induction d with
    | zero =>
      intro i hi hj
      have := ha (i + 1) hj
      unfold okAt at this
      simp only [Bool.and_eq_true, Bool.or_eq_true, decide_eq_true_eq] at this
      rcases this.2 with h0 | h0
      · omega
      · rw [follows_iff, show ((i + 1 : Nat) : Int) - 1 = (i : Int) from by omega, get_eq hi, get_eq hj] at h0
        exact h0
    | succ d ih =>
      intro i hi hj
      have h1 := ih i hi (by omega)
      have h2 : Fol l[i + d + 1] l[i + (d + 1) + 1] := by
        have := ha (i + d + 1 + 1) hj
        unfold okAt at this
        simp only [Bool.and_eq_true, Bool.or_eq_true, decide_eq_true_eq] at this
        rcases this.2 with h0 | h0
        · omega
        · rw [follows_iff, show ((i + d + 1 + 1 : Nat) : Int) - 1 = ((i + d + 1 : Nat) : Int) from by omega, get_eq (by omega), get_eq (i := i + d + 1 + 1) hj] at h0
          exact h0
      exact h1.trans (hg.2 _ (List.getElem_mem _)) h2
  intro i j hi hj hij
  have := key (j - i - 1) i hi (by omega)
  simpa [show i + (j - i - 1) + 1 = j from by omega] using this
theorem Good.check {l : List Rg} (h : Good l) (hl : l.length ≤ 1024) : checkE l = 0 := by
  refine checkE_ok (by omega) fun i hi => ?_
  have hok := h.ok _ (get_mem (l := l) (i := (i : Int)) (by omega) (by omega))
  have q1 := hok.p; have q2 := hok.n; have q3 := hok.e
  have hp : pgs (Cof.get l i).p (Cof.get l i).n = true := by unfold pgs; exact decide_eq_true (by omega)
  have hq : prm (Cof.get l i).m = true := by unfold prm; exact decide_eq_true hok.m
  unfold okAt
  rw [hp, hq]
  simp only [Bool.and_self, Bool.true_and, Bool.or_eq_true, decide_eq_true_eq]
  by_cases h0 : i = 0
  · exact .inl h0
  · right
    rw [follows_iff, show ((i : Int) - 1) = ((i - 1 : Nat) : Int) from by omega, get_eq (by omega), get_eq hi]
    exact (List.pairwise_iff_getElem.1 h.pw) (i - 1) i (by omega) hi (by omega)
theorem Good.sub {l l' : List Rg} (h : Good l) (hs : l'.Sublist l) : Good l' := ⟨fun r hr => h.ok r (hs.mem hr), h.pw.sublist hs⟩
/-! what lies between -/
theorem partR_spec {from_ to : Int} {r x : Rg} (h : partR from_ to r = some x) : x.m = r.m ∧ r.p ≤ x.p ∧ x.end ≤ r.end ∧ from_ ≤ x.p ∧ x.end ≤ to ∧ (x.p = r.p ∨ x.p = from_) ∧ (x.end = r.end ∨ x.end = to) := by
  by_cases hc : (if from_ > r.p then from_ else r.p) ≥ (if to < r.end then to else r.end)
  · rw [part_none hc] at h; cases h
  · rw [part_some hc] at h
    cases h
    have e : ∀ a b c : Int, (⟨a, b - a, c⟩ : Rg).end = b := fun a b c => by show a + (b - a) = b; omega
    rw [e]
    refine ⟨rfl, ?_, ?_, ?_, ?_, ?_, ?_⟩
    · show r.p ≤ if from_ > r.p then from_ else r.p; omega
    · omega
    · show from_ ≤ if from_ > r.p then from_ else r.p; omega
    · omega
    · show (if from_ > r.p then from_ else r.p) = _ ∨ (if from_ > r.p then from_ else r.p) = _; omega
    · omega
theorem Good.betw {l : List Rg} (h : Good l) (from_ to : Int) : Good (betw l from_ to) := by
  refine ⟨betw_ok h.ok, ?_⟩
  unfold Go.Proofs.Ytalkcemelegohaa.Vm.betw
  refine h.pw.filterMap _ fun a a' hf b hb b' hb' => ?_
  have h1 := partR_spec (Option.mem_def.1 hb)
  have h2 := partR_spec (Option.mem_def.1 hb')
  unfold Fol at hf ⊢
  rw [h1.1, h2.1]
  omega
theorem mem_last {l : List Rg} {r : Rg} (h : r ∈ l) : 0 < l.length := List.length_pos_of_mem h
theorem fold_same : ∀ {l s : List Rg}, Good (s ++ l) → l.foldl addR s = s ++ l
  | [], s, _ => by simp
  | r :: l, s, h => by
    have hj : ¬ joins s r := fun ⟨h0, h1, h2⟩ => by
      have := (List.pairwise_append.1 h.pw).2.2 (lastR s) (lastR_mem h0) r (by simp)
      rcases this with h3 | h3
      · omega
      · exact h3.2 h2
    have e : addR s r = s ++ [r] := if_neg hj
    rw [List.foldl_cons, e, fold_same (by simpa using h)]
    simp
theorem firstN_out {l : List Rg} {page : Int} : ∀ r ∈ l.take (firstN l page), r.end ≤ page := by
  unfold firstN
  rw [show l.take (l.takeWhile fun r => decide (r.end ≤ page)).length = l.takeWhile fun r => decide (r.end ≤ page) from (List.prefix_iff_eq_take.1 (List.takeWhile_prefix _)).symm]
  intro r hr
  have h := List.all_takeWhile (l := l) (p := fun r => decide (r.end ≤ page))
  simpa using List.all_eq_true.1 h r hr
theorem betw_out {l : List Rg} {from_ to : Int} (h : ∀ r ∈ l, r.end ≤ from_) : betw l from_ to = [] := by
  unfold betw
  rw [List.filterMap_eq_nil_iff]
  intro r hr
  have := h r hr
  exact part_none (by omega)
theorem betw_behind {l : List Rg} {from_ to : Int} (h : ∀ r ∈ l, to ≤ r.p) : betw l from_ to = [] := by
  unfold betw
  rw [List.filterMap_eq_nil_iff]
  intro r hr
  have := h r hr
  exact part_none (by omega)
theorem fm_some {α : Type} {f : α → Option α} : ∀ {l : List α}, (∀ r ∈ l, f r = some r) → l.filterMap f = l
  | [], _ => rfl
  | r :: l, h => by rw [List.filterMap_cons_some (h r (by simp)), fm_some fun x hx => h x (by simp [hx])]
theorem betw_whole {l : List Rg} {from_ to : Int} (hl : ∀ r ∈ l, r.Ok) (h : ∀ r ∈ l, from_ ≤ r.p ∧ r.end ≤ to) : betw l from_ to = l := by
  unfold betw
  have : ∀ r ∈ l, partR from_ to r = some r := fun r hr => by
    have h1 := h r hr
    have h2 := (hl r hr).n
    have e : r.end = r.p + r.n := rfl
    rw [part_some (by omega), if_neg (by omega), if_neg (by omega)]
    rw [show r.end - r.p = r.n from by omega]
  exact fm_some this
theorem betw_append (a b : List Rg) (from_ to : Int) : betw (a ++ b) from_ to = betw a from_ to ++ betw b from_ to := List.filterMap_append
theorem headF_betw {l : List Rg} (h : Good l) {from_ : Int} (h1 : 1 ≤ from_) : headF l from_ = betw l 0 from_ := by
  have hk := firstN_le l from_
  have ho := firstN_out (l := l) (page := from_)
  have e0 : betw (l.take (firstN l from_)) 0 from_ = l.take (firstN l from_) := betw_whole (fun r hr => h.ok r (List.mem_of_mem_take hr)) fun r hr => ⟨by have := (h.ok r (List.mem_of_mem_take hr)).p; omega, ho r hr⟩
  have e1 : betw l 0 from_ = l.take (firstN l from_) ++ betw (l.drop (firstN l from_)) 0 from_ := by
    conv => lhs; rw [← List.take_append_drop (firstN l from_) l]
    rw [betw_append, e0]
  rw [e1]
  unfold headF
  simp only
  by_cases hlt : firstN l from_ < l.length
  · have hd := drop_get l (firstN l from_) hlt
    have hend := firstN_end hlt
    generalize Cof.get l (firstN l from_ : Nat) = r at hd hend
    have hg : Good (r :: l.drop (firstN l from_ + 1)) := by rw [← hd]; exact h.sub (List.drop_sublist _ _)
    have hr := hg.ok r (by simp)
    have q1 := hr.p; have q2 := hr.n; have e : r.end = r.p + r.n := rfl
    have hb : ∀ x ∈ l.drop (firstN l from_ + 1), from_ ≤ x.p := fun x hx => by
      have := List.rel_of_pairwise_cons hg.pw hx
      unfold Fol at this
      omega
    rw [hd]
    have e2 : betw (r :: l.drop (firstN l from_ + 1)) 0 from_ = betw [r] 0 from_ := by
      rw [show r :: l.drop (firstN l from_ + 1) = [r] ++ l.drop (firstN l from_ + 1) from rfl, betw_append, betw_behind hb, List.append_nil]
    rw [e2]
    by_cases hp : r.p < from_
    · rw [if_pos ⟨hlt, hp⟩]
      unfold betw
      rw [List.filterMap_cons_some (part_some (by omega)), List.filterMap_nil, if_neg (by omega), if_pos (by omega)]
    · rw [if_neg fun hc => hp hc.2]
      unfold betw
      rw [List.filterMap_cons_none (part_none (by omega)), List.filterMap_nil, List.append_nil]
  · rw [if_neg fun hc => hlt hc.1, List.drop_of_length_le (by omega)]
    simp [betw]
def cnt (l : List Rg) : Int := l.foldl (fun s r => s + r.n) 0
theorem cnt_from (l : List Rg) (z : Int) : l.foldl (fun s r => s + r.n) z = z + cnt l := by
  unfold cnt
  induction l generalizing z with
  | nil => simp
  | cons r l ih => rw [List.foldl_cons, List.foldl_cons, ih, ih (0 + r.n)]; omega
theorem cnt_append (a b : List Rg) : cnt (a ++ b) = cnt a + cnt b := by
  unfold cnt
  rw [List.foldl_append, cnt_from]
  rfl
theorem steps_betw {from_ to : Int} : ∀ {l : List Rg} {s : List Rg} {z : Int}, (∀ r ∈ l, r.Ok) → l.foldl (stepR from_ to) (s, z) = ((betw l to 1048576).foldl addR s, z + cnt (betw l from_ to))
  | [], s, z, _ => by simp [betw, cnt]
  | r :: l, s, z, h => by
    have hr := h r (by simp)
    have q1 := hr.p; have q2 := hr.n; have q3 := hr.e; have e : r.end = r.p + r.n := rfl
    rw [List.foldl_cons]
    have e1 : stepR from_ to (s, z) r = ((betw [r] to 1048576).foldl addR s, z + cnt (betw [r] from_ to)) := by
      unfold stepR
      refine Prod.ext ?_ ?_
      · show (if to < r.end then addR s (tailR r to) else s) = _
        unfold betw
        by_cases hc : to < r.end
        · have e5 : (if (1048576 : Int) < r.end then (1048576 : Int) else r.end) = r.end := if_neg (by omega)
          rw [if_pos hc, List.filterMap_cons_some (part_some (by omega)), e5]
          rfl
        · rw [if_neg hc, List.filterMap_cons_none (part_none (by omega))]
          rfl
      · show z + gotR r from_ to = _
        unfold betw gotR
        by_cases hc : (if from_ > r.p then from_ else r.p) ≥ (if to < r.end then to else r.end)
        · rw [List.filterMap_cons_none (part_none hc), if_neg (by omega)]
          rfl
        · rw [List.filterMap_cons_some (part_some hc), if_pos (by omega)]
          simp [cnt]
    rw [e1, steps_betw (l := l) fun x hx => h x (by simp [hx])]
    have e2 : ∀ a b, betw (r :: l) a b = betw [r] a b ++ betw l a b := fun a b => betw_append [r] l a b
    rw [e2, e2, List.foldl_append, cnt_append, Int.add_assoc]
theorem changedF_eq {l ins : List Rg} (h : Good l) {from_ to : Int} (h1 : 1 ≤ from_) (h2 : from_ ≤ to) :
    changedF l from_ to ins = ((betw l 0 from_ ++ ins ++ betw l to 1048576).foldl addR [], cnt (betw l from_ to)) := by
  have ho := firstN_out (l := l) (page := from_)
  have e0 : ∀ q, from_ ≤ q → ∀ t, betw l q t = betw (l.drop (firstN l from_)) q t := fun q hq t => by
    conv => lhs; rw [← List.take_append_drop (firstN l from_) l]
    rw [betw_append, betw_out fun r hr => Int.le_trans (ho r hr) hq, List.nil_append]
  unfold changedF
  rw [steps_betw fun r hr => h.ok r (List.mem_of_mem_drop hr), headF_betw h h1, ← e0 to h2, ← e0 from_ (Int.le_refl _), List.foldl_append, List.foldl_append]
  rw [fold_same (l := betw l 0 from_) (s := []) (by simpa using h.betw 0 from_)]
  simp
/-! the program's way is the reference's -/
theorem betw_pos {l : List Rg} (hl : ∀ r ∈ l, r.Ok) {p q : Int} : 0 < cnt (betw l p q) ↔ 0 < (betw l p q).length := by
  have hb := betw_ok (from_ := p) (to := q) hl
  generalize betw l p q = x at hb
  cases x with
  | nil => simp [cnt]
  | cons r x =>
    have h1 := (hb r (by simp)).n
    have h2 := sum_num x 0 fun y hy => hb y (by simp [hy])
    have e : cnt (r :: x) = r.n + cnt x := cnt_append [r] x ▸ by simp [cnt]
    have e2 : cnt x = x.foldl (fun s r => s + r.n) 0 := rfl
    constructor
    · intro _; simp
    · intro _; rw [e, e2]; omega
theorem putP_ref (l : List Rg) (r : Rg) : rputP l r = putP l r := by
  unfold rputP putP
  by_cases hc : checkE l = 0
  · have hc' : ¬ checkE l ≠ 0 := by omega
    rw [if_neg hc', if_neg hc']
    by_cases hp : pgs r.p r.n = false ∨ prm r.m = false
    · rw [if_pos hp, if_pos hp]
    · rw [if_neg hp, if_neg hp]
      have h1 := pgs_rng (p := r.p) (n := r.n) (by cases h : pgs r.p r.n <;> simp [h] at hp ⊢)
      have hg := Good.of_check hc
      have ee : r.end = r.p + r.n := rfl
      rw [changedF_eq hg (by omega) (by omega)]
      by_cases hb : 0 < (betw l r.p r.end).length
      · rw [if_pos hb, if_pos ((betw_pos hg.ok).2 hb)]
      · rw [if_neg hb, if_neg fun h => hb ((betw_pos hg.ok).1 h)]
        rfl
  · rw [if_pos hc, if_pos hc]
theorem cutP_ref (l : List Rg) (p n : Int) : rcutP l p n = cutP l p n := by
  unfold rcutP cutP
  by_cases hc : checkE l = 0
  · have hc' : ¬ checkE l ≠ 0 := by omega
    rw [if_neg hc', if_neg hc']
    by_cases hp : pgs p n = false
    · rw [if_pos hp, if_pos hp]
    · rw [if_neg hp, if_neg hp]
      have h1 := pgs_rng (p := p) (n := n) (by simpa using hp)
      rw [changedF_eq (Good.of_check hc) (by omega) (by omega)]
      rfl
  · rw [if_pos hc, if_pos hc]
end Go.Proofs.Ytalkcemelegohaa.Vm
