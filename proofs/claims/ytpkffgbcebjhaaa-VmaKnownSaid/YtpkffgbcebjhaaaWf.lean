/- Walk of changed. -/
import Derived.Test.YtpkffgbcebjhaaaWe
import Derived.Test.YtpkffgbcebjhaaaSlL
set_option linter.unusedVariables false
namespace Go.Proofs.Ytpkffgbcebjhaaa
open Go.RowKit Go.Cof

theorem end_ok (r : Rg) (h : r.Ok) : FnC Try.prog 39 [rgV r] (fun _ => True) (.int .i64 r.end) := end_spec r (by have := h.p; have := h.n; omega) (by have := h.e; omega)
theorem lastR_mem {l : List Rg} (h : 0 < l.length) : lastR l ∈ l := get_mem (by omega) (by omega)
theorem add_ok (A : Option Addr) (m c : Nat) (l : List Rg) (r : Rg) (hm : m ≤ 1048576) (hl : ∀ r ∈ l, r.Ok) (hr : r.Ok) :
    Ctr Try.prog 49 [.slice A m c, rgV r] (fun _ => True) [own encRg A m c l] (fun v L => ∃ o : Ow Rg, o.xs = addR l r ∧ o.m = o.xs.length ∧ v = o.v ∧ L = [o.own encRg]) := by
  have key : Ctr Try.prog 49 [.slice A m c, rgV r] (fun _ => True) [own encRg A m c l] (fun v L => ∃ A' c', v = .slice A' (addR l r).length c' ∧ L = [own encRg A' (addR l r).length c' (addR l r)]) := by
    by_cases hml : m = l.length
    · refine add_spec A m c l r hm fun h => ?_
      have k := hl _ (lastR_mem (l := l) (by omega))
      have k1 := k.p; have k2 := k.n; have k3 := k.e; have k4 := hr.n; have k5 := hr.e; have k6 := hr.p
      unfold Rg.end
      omega
    · refine ⟨(add_spec A 0 c l r (by omega) (by omega)).1, fun F w hp hs => ?_⟩
      obtain ⟨g, _, _, o⟩ := hs.mem (A := own encRg A m c l) (by simp)
      exact absurd (own_len o).1 hml
  exact key.mono (fun _ h => h) fun v L ⟨A', c', h1, h2⟩ => ⟨L, ⟨⟨A', _, c', addR l r⟩, rfl, rfl, h1, h2⟩, fun _ h => h⟩
theorem addR_ok {l : List Rg} {r : Rg} (hl : ∀ x ∈ l, x.Ok) (hr : r.Ok) : ∀ x ∈ addR l r, x.Ok := by
  unfold addR
  split
  · rename_i hj
    obtain ⟨h1, h2, h3⟩ := hj
    have k := hl _ (lastR_mem h1)
    intro x hx
    rcases List.mem_or_eq_of_mem_set hx with h | h
    · exact hl x h
    · subst h
      refine ⟨k.p, ?_, ?_, k.m⟩
      · have := k.n; have := hr.n; show 1 ≤ _ + _; omega
      · have h4 := hr.e; unfold Rg.end at h2; show (lastR l).p + ((lastR l).n + r.n) ≤ _; omega
  · intro x hx
    rcases List.mem_append.1 hx with h | h
    · exact hl x h
    · obtain rfl := List.mem_singleton.1 h; exact hr
theorem addR_length (l : List Rg) (r : Rg) : (addR l r).length ≤ l.length + 1 := by
  unfold addR
  split <;> simp
theorem fold_ok : ∀ {ins l : List Rg}, (∀ x ∈ l, x.Ok) → (∀ x ∈ ins, x.Ok) → ∀ x ∈ ins.foldl addR l, x.Ok
  | [], _, hl, _ => hl
  | r :: ins, l, hl, hi => fold_ok (ins := ins) (addR_ok hl (hi r (by simp))) fun x hx => hi x (by simp [hx])
theorem fold_length : ∀ (ins l : List Rg), (ins.foldl addR l).length ≤ l.length + ins.length
  | [], _ => by simp
  | r :: ins, l => by
    have := fold_length ins (addR l r)
    have := addR_length l r
    simp only [List.foldl_cons, List.length_cons]
    omega
theorem firstN_le (l : List Rg) (page : Int) : firstN l page ≤ l.length := by
  unfold firstN
  exact (List.takeWhile_prefix _).length_le
theorem firstN_end {l : List Rg} {page : Int} (h : firstN l page < l.length) : page < (Cof.get l (firstN l page : Nat)).end := by
  unfold firstN at h ⊢
  induction l with
  | nil => cases h
  | cons r l ih =>
    rw [List.takeWhile_cons] at h ⊢
    by_cases hr : r.end ≤ page
    · rw [decide_eq_true hr] at h ⊢
      simp only [if_true, List.length_cons] at h ⊢
      have := ih (by omega)
      unfold Cof.get at this ⊢
      rw [Int.toNat_natCast] at this ⊢
      exact this
    · rw [decide_eq_false hr] at h ⊢
      show page < r.end
      omega
theorem cut_ok {r : Rg} {from_ : Int} (h : r.Ok) (h1 : r.p < from_) (h2 : from_ < r.end) : (⟨r.p, from_ - r.p, r.m⟩ : Rg).Ok := ⟨h.p, by show 1 ≤ from_ - r.p; omega, by have := h.e; unfold Rg.end at h2; show r.p + (from_ - r.p) ≤ _; omega, h.m⟩
theorem tail_ok {r : Rg} {to : Int} (h : r.Ok) (h1 : 1 ≤ to) (h2 : to < r.end) : (tailR r to).Ok := by
  have := h.p; have := h.n; have := h.e; have e : r.end = r.p + r.n := rfl
  exact ⟨by show 1 ≤ if to > r.p then to else r.p; omega, by show 1 ≤ r.end - (if to > r.p then to else r.p); omega, by show (if to > r.p then to else r.p) + (r.end - (if to > r.p then to else r.p)) ≤ _; omega, h.m⟩
theorem headF_ok {l : List Rg} {from_ : Int} (hl : ∀ r ∈ l, r.Ok) : ∀ r ∈ headF l from_, r.Ok := by
  unfold headF
  simp only
  split
  · rename_i hc
    intro x hx
    rcases List.mem_append.1 hx with h | h
    · exact hl x (List.mem_of_mem_take h)
    · obtain rfl := List.mem_singleton.1 h
      exact cut_ok (hl _ (get_mem (by omega) (by omega))) hc.2 (firstN_end hc.1)
  · exact fun x hx => hl x (List.mem_of_mem_take hx)
theorem headF_length (l : List Rg) (from_ : Int) : (headF l from_).length ≤ firstN l from_ + 1 := by
  unfold headF
  simp only
  have := firstN_le l from_
  split <;> simp <;> omega
theorem step_ok {from_ to : Int} {s : List Rg × Int} {r : Rg} (hs : ∀ x ∈ s.1, x.Ok) (hr : r.Ok) (h1 : 1 ≤ to) : ∀ x ∈ (stepR from_ to s r).1, x.Ok := by
  unfold stepR
  simp only
  split
  · exact addR_ok hs (tail_ok hr h1 (by assumption))
  · exact hs
theorem step_length (from_ to : Int) (s : List Rg × Int) (r : Rg) : (stepR from_ to s r).1.length ≤ s.1.length + 1 := by
  unfold stepR
  simp only
  split
  · exact addR_length _ _
  · omega
theorem steps_ok {from_ to : Int} (h1 : 1 ≤ to) : ∀ {l : List Rg} {s : List Rg × Int}, (∀ x ∈ s.1, x.Ok) → (∀ r ∈ l, r.Ok) → ∀ x ∈ (l.foldl (stepR from_ to) s).1, x.Ok
  | [], _, hs, _ => hs
  | r :: l, s, hs, hl => steps_ok h1 (l := l) (step_ok hs (hl r (by simp)) h1) fun x hx => hl x (by simp [hx])
theorem steps_length (from_ to : Int) : ∀ (l : List Rg) (s : List Rg × Int), (l.foldl (stepR from_ to) s).1.length ≤ s.1.length + l.length
  | [], _ => by simp
  | r :: l, s => by
    have := steps_length from_ to l (stepR from_ to s r)
    have := step_length from_ to s r
    simp only [List.foldl_cons, List.length_cons]
    omega
theorem steps_num (from_ to : Int) (h : 0 ≤ from_) (h2 : to ≤ 1048576) : ∀ (l : List Rg) (s : List Rg × Int), s.2 ≤ (l.foldl (stepR from_ to) s).2 ∧ (l.foldl (stepR from_ to) s).2 ≤ s.2 + l.length * 1048576
  | [], _ => by simp
  | r :: l, s => by
    have := steps_num from_ to h h2 l (stepR from_ to s r)
    have e : (stepR from_ to s r).2 = s.2 + gotR r from_ to := rfl
    have e2 : 0 ≤ gotR r from_ to ∧ gotR r from_ to ≤ 1048576 := by unfold gotR; omega
    simp only [List.foldl_cons, List.length_cons]
    rw [e] at this
    omega
theorem take_fold {α β : Type} [Inhabited α] (f : β → α → β) (l : List α) (s : β) (i : Nat) (h : i < l.length) : (l.take (i + 1)).foldl f s = f ((l.take i).foldl f s) (Cof.get l i) := by
  have e : l.take (i + 1) = l.take i ++ [Cof.get l i] := by
    rw [List.take_succ_eq_append_getElem h]
    unfold Cof.get
    rw [Int.toNat_natCast, List.getD_eq_getElem?_getD, List.getElem?_eq_getElem h]
    rfl
  rw [e, List.foldl_append]
  rfl
theorem app_len {α : Type} (l : List α) (x : α) : (l ++ [x]).length = l.length + 1 := by simp
end Go.Proofs.Ytpkffgbcebjhaaa
