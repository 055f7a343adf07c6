/- Walks of the reference's functions: perm, pages, Check, part, between, count. Walks of the reference's joined, with, Put, Cut, Protect. Walks of the reference's with, Put, Cut, Protect. -/
import Derived.Test.YtalkcemelegohaaGreatVmB
import Derived.Test.YtalkcemelegohaaGreatSlS
set_option linter.unusedVariables false
set_option maxRecDepth 100000
namespace Go.Proofs.YtalkcemelegohaaGreat.Vm
open Go.RowKit Go.Cof

theorem within_spec (x a b : Int) : FnC Tryz.prog 86 [.int .i64 x, .int .i64 a, .int .i64 b] (fun _ => True) (.bool (decide (a ≤ x ∧ x ≤ b))) := by
  refine Ctr.intro Tryz.func86 rfl rfl (by decide +kernel) fun F hpre => ?_
  repeat' (first | (refine XL_id ?_; first | refine XL_nil ?_ | refine XL_guard_yes rfl rfl rfl ?_ | refine XL_guard_no rfl rfl rfl rfl rfl ?_ | (refine XL_op tt_ok rfl rfl ?_; try (refine XL_dec (fun _ => ?_) (fun _ => ?_)))) | (refine X_id ?_; first | refine X_seq ?_ | (refine X_regionN (by repeat' (exact .nil)) ?_) | refine X_ret ?_) | (refine Y_id ?_; refine Y_then ?_))
  all_goals (refine Y_fn1 rfl rfl ?_)
  all_goals (first | exact bool_t (by omega) | exact bool_f (by omega))
/-- What of a region lies from a page up to another one. -/
def partR (from_ to : Int) (r : Rg) : Option Rg :=
  if (if from_ > r.p then from_ else r.p) ≥ (if to < r.end then to else r.end) then none else some ⟨if from_ > r.p then from_ else r.p, (if to < r.end then to else r.end) - (if from_ > r.p then from_ else r.p), r.m⟩
def betw (l : List Rg) (from_ to : Int) : List Rg := l.filterMap (partR from_ to)
def partV_ (x : Option Rg) : Value := match x with | none => .tuple #[rgV ⟨0, 0, 0⟩, .bool false] | some r => .tuple #[rgV r, .bool true]
theorem part_none {from_ to : Int} {r : Rg} (h : (if from_ > r.p then from_ else r.p) ≥ (if to < r.end then to else r.end)) : partR from_ to r = none := if_pos h
theorem part_some {from_ to : Int} {r : Rg} (h : ¬ (if from_ > r.p then from_ else r.p) ≥ (if to < r.end then to else r.end)) : partR from_ to r = some ⟨if from_ > r.p then from_ else r.p, (if to < r.end then to else r.end) - (if from_ > r.p then from_ else r.p), r.m⟩ := if_neg h
theorem betw_take (l : List Rg) (from_ to : Int) (i : Nat) (h : i < l.length) : betw (l.take (i + 1)) from_ to = betw (l.take i) from_ to ++ (partR from_ to (Cof.get l i)).toList := by
  unfold betw
  rw [take_snoc _ _ h, List.filterMap_append]
  cases hp : partR from_ to (Cof.get l i) <;> simp [hp]
theorem betw_length (l : List Rg) (from_ to : Int) : (betw l from_ to).length ≤ l.length := List.length_filterMap_le _ _
end Go.Proofs.YtalkcemelegohaaGreat.Vm
set_option linter.unusedVariables false
set_option maxRecDepth 100000
namespace Go.Proofs.YtalkcemelegohaaGreat.Vm
open Go.RowKit Go.Cof

end Go.Proofs.YtalkcemelegohaaGreat.Vm
set_option linter.unusedVariables false
set_option maxRecDepth 100000
namespace Go.Proofs.YtalkcemelegohaaGreat.Vm
open Go.RowKit Go.Cof

theorem partR_ok {from_ to : Int} {r x : Rg} (h : r.Ok) (h1 : partR from_ to r = some x) : x.Ok := by
  have q1 := h.p; have q2 := h.n; have q3 := h.e; have ee : r.end = r.p + r.n := rfl
  by_cases hc : (if from_ > r.p then from_ else r.p) ≥ (if to < r.end then to else r.end)
  · rw [part_none hc] at h1; cases h1
  · rw [part_some hc] at h1
    cases h1
    exact ⟨by show 1 ≤ if from_ > r.p then from_ else r.p; omega, by show 1 ≤ (if to < r.end then to else r.end) - (if from_ > r.p then from_ else r.p); omega, by show (if from_ > r.p then from_ else r.p) + ((if to < r.end then to else r.end) - (if from_ > r.p then from_ else r.p)) ≤ _; omega, h.m⟩
theorem betw_ok {l : List Rg} {from_ to : Int} (hl : ∀ r ∈ l, r.Ok) : ∀ x ∈ betw l from_ to, x.Ok := fun x hx => by
  obtain ⟨r, hr, h⟩ := List.mem_filterMap.1 hx
  exact partR_ok (hl r hr) h
def withP (l : List Rg) (p n : Int) (ins : List Rg) : List Rg × Int := fewP ((betw l 0 p ++ ins ++ betw l (p + n) 1048576).foldl addR [])
def rputP (l : List Rg) (r : Rg) : List Rg × Int :=
  if checkE l ≠ 0 then ([], checkE l) else if pgs r.p r.n = false ∨ prm r.m = false then ([], 2) else
  if 0 < (betw l r.p r.end).length then ([], 171) else withP l r.p r.n [r]
def rcutP (l : List Rg) (p n : Int) : List Rg × Int :=
  if checkE l ≠ 0 then ([], checkE l) else if pgs p n = false then ([], 2) else withP l p n []
def rprotP (l : List Rg) (p n m : Int) : List Rg × Int :=
  if checkE l ≠ 0 then ([], checkE l) else if pgs p n = false ∨ prm m = false then ([], 2) else
  if ¬ (betw l p (p + n)).foldl (fun s r => s + r.n) 0 = n then ([], 170) else withP l p n [⟨p, n, m⟩]
theorem rputP_1 {l : List Rg} {r : Rg} (h : ¬ checkE l = 0) : rputP l r = ([], checkE l) := by unfold rputP; rw [if_pos h]
theorem rputP_2 {l : List Rg} {r : Rg} (h : ¬ ¬ checkE l = 0) (h1 : pgs r.p r.n = false) : rputP l r = ([], 2) := by unfold rputP; rw [if_neg h, if_pos (.inl h1)]
theorem rputP_2' {l : List Rg} {r : Rg} (h : ¬ ¬ checkE l = 0) (h1 : prm r.m = false) : rputP l r = ([], 2) := by unfold rputP; rw [if_neg h, if_pos (.inr h1)]
theorem rputP_3 {l : List Rg} {r : Rg} (h : ¬ ¬ checkE l = 0) (h1 : pgs r.p r.n = true) (h2 : prm r.m = true) (h3 : 0 < (betw l r.p r.end).length) : rputP l r = ([], 171) := by unfold rputP; rw [if_neg h, if_neg (by simp [h1, h2]), if_pos h3]
theorem rputP_4 {l : List Rg} {r : Rg} (h : ¬ ¬ checkE l = 0) (h1 : pgs r.p r.n = true) (h2 : prm r.m = true) (h3 : ¬ 0 < (betw l r.p r.end).length) : rputP l r = withP l r.p r.n [r] := by unfold rputP; rw [if_neg h, if_neg (by simp [h1, h2]), if_neg h3]
theorem rcutP_1 {l : List Rg} {p n : Int} (h : ¬ checkE l = 0) : rcutP l p n = ([], checkE l) := by unfold rcutP; rw [if_pos h]
theorem rcutP_2 {l : List Rg} {p n : Int} (h : ¬ ¬ checkE l = 0) (h1 : pgs p n = false) : rcutP l p n = ([], 2) := by unfold rcutP; rw [if_neg h, if_pos h1]
theorem rcutP_4 {l : List Rg} {p n : Int} (h : ¬ ¬ checkE l = 0) (h1 : pgs p n = true) : rcutP l p n = withP l p n [] := by unfold rcutP; rw [if_neg h, if_neg (by simp [h1])]
theorem rprotP_1 {l : List Rg} {p n m : Int} (h : ¬ checkE l = 0) : rprotP l p n m = ([], checkE l) := by unfold rprotP; rw [if_pos h]
theorem rprotP_2 {l : List Rg} {p n m : Int} (h : ¬ ¬ checkE l = 0) (h1 : pgs p n = false) : rprotP l p n m = ([], 2) := by unfold rprotP; rw [if_neg h, if_pos (.inl h1)]
theorem rprotP_2' {l : List Rg} {p n m : Int} (h : ¬ ¬ checkE l = 0) (h1 : prm m = false) : rprotP l p n m = ([], 2) := by unfold rprotP; rw [if_neg h, if_pos (.inr h1)]
theorem rprotP_3 {l : List Rg} {p n m : Int} (h : ¬ ¬ checkE l = 0) (h1 : pgs p n = true) (h2 : prm m = true) (h3 : ¬ (betw l p (p + n)).foldl (fun s r => s + r.n) 0 = n) : rprotP l p n m = ([], 170) := by unfold rprotP; rw [if_neg h, if_neg (by simp [h1, h2]), if_pos h3]
theorem rprotP_4 {l : List Rg} {p n m : Int} (h : ¬ ¬ checkE l = 0) (h1 : pgs p n = true) (h2 : prm m = true) (h3 : ¬ ¬ (betw l p (p + n)).foldl (fun s r => s + r.n) 0 = n) : rprotP l p n m = withP l p n [⟨p, n, m⟩] := by unfold rprotP; rw [if_neg h, if_neg (by simp [h1, h2]), if_neg h3]
theorem sum_betw_num {l : List Rg} {p q : Int} (h : l.length ≤ 1024) (hl : ∀ r ∈ l, r.Ok) : (betw l p q).length ≤ 1024 ∧ ∀ r ∈ betw l p q, r.Ok := ⟨Nat.le_trans (betw_length _ _ _) h, betw_ok hl⟩
end Go.Proofs.YtalkcemelegohaaGreat.Vm
