/- What changed does; the walk of few. -/
import Derived.Test.YtpkffgbcebjhaaaWd
set_option linter.unusedVariables false
namespace Go.Proofs.Ytpkffgbcebjhaaa
open Go.RowKit Go.Cof

/-- What of a region lies from a page on. -/
def tailR (r : Rg) (to : Int) : Rg := ⟨if to > r.p then to else r.p, r.end - (if to > r.p then to else r.p), r.m⟩
/-- How many pages of a region lie from a page up to another one. -/
def gotR (r : Rg) (from_ to : Int) : Int := if ((if to < r.end then to else r.end) - (if from_ > r.p then from_ else r.p)) > 0 then ((if to < r.end then to else r.end) - (if from_ > r.p then from_ else r.p)) else 0
def stepR (from_ to : Int) (s : List Rg × Int) (r : Rg) : List Rg × Int :=
  (if to < r.end then addR s.1 (tailR r to) else s.1, s.2 + gotR r from_ to)
/-- What lies ahead, and the piece of a region that a page cuts. -/
def headF (l : List Rg) (from_ : Int) : List Rg :=
  let k := firstN l from_
  if k < l.length ∧ (Cof.get l k).p < from_ then l.take k ++ [⟨(Cof.get l k).p, from_ - (Cof.get l k).p, (Cof.get l k).m⟩] else l.take k
def changedF (l : List Rg) (from_ to : Int) (ins : List Rg) : List Rg × Int :=
  (l.drop (firstN l from_)).foldl (stepR from_ to) (ins.foldl addR (headF l from_), 0)
def fewV (A : Option Addr) (m c : Nat) : Value := if 1024 < m then .tuple #[.slice none 0 0, .int .i64 3] else .tuple #[.slice A m c, .int .i64 0]
theorem few_spec (A : Option Addr) (m c : Nat) (hm : m ≤ 9223372036854775807) : FnC Try.prog 43 [.slice A m c] (fun _ => True) (fewV A m c) := by
  unfold fewV
  by_cases h : 1024 < m
  · rw [if_pos h]
    refine Ctr.intro Try.func43 rfl rfl (by decide +kernel) fun F hpre => ?_
    repeat' (first | (refine XL_id ?_; first | refine XL_nil ?_ | (refine XL_op tt_ok rfl rfl ?_; try (refine XL_dec_t (by omega) ?_))) | (refine X_id ?_; first | refine X_seq ?_ | refine X_region ?_ | refine X_ret ?_ | refine X_cond_t rfl ?_) | (refine Y_id ?_; first | refine Y_then ?_ | refine Y_then_ret ?_))
    all_goals (try (exfalso; omega))
    exact Y_fn2 rfl rfl rfl rfl
  · rw [if_neg h]
    refine Ctr.intro Try.func43 rfl rfl (by decide +kernel) fun F hpre => ?_
    repeat' (first | (refine XL_id ?_; first | refine XL_nil ?_ | (refine XL_op tt_ok rfl rfl ?_; try (refine XL_dec_f (by omega) ?_))) | (refine X_id ?_; first | refine X_seq ?_ | refine X_region ?_ | refine X_skip ?_ | refine X_ret ?_ | refine X_cond_f rfl ?_) | (refine Y_id ?_; refine Y_then ?_))
    all_goals (try (exfalso; omega))
    exact Y_fn2 rfl rfl rfl rfl
end Go.Proofs.Ytpkffgbcebjhaaa
