/- What changed does; the walk of few. -/
import Derived.Test.YtpkffgbcebjhaaaWd
set_option linter.unusedVariables false
namespace Go.Proofs.Ytpkffgbcebjhaaa
open Go.RowKit Go.Cof

/-- What of a region lies from a page on. -/
def tailR (r : Rg) (to : Int) : Rg := ⟨if to > r.p then to else r.p, r.end - (if to > r.p then to else r.p), r.m⟩
/-- How many pages of a region lie from a page up to another one. -/
def gotR (r : Rg) (from_ to : Int) : Int := if ((if to < r.end then to else r.end) - (if from_ > r.p then from_ else r.p)) > 0 then ((if to < r.end then to else r.end) - (if from_ > r.p then from_ else r.p)) else 0
def stepR (from_ to : Int) (s : List Rg × Int) (r : Rg) : List Rg × Int :=
  (if to < r.end then addR s.1 (tailR r to) else s.1, s.2 + gotR r from_ to)
/-- What lies ahead, and the piece of a region that a page cuts. -/
def headF (l : List Rg) (from_ : Int) : List Rg :=
  let k := firstN l from_
  if k < l.length ∧ (Cof.get l k).p < from_ then l.take k ++ [⟨(Cof.get l k).p, from_ - (Cof.get l k).p, (Cof.get l k).m⟩] else l.take k
def changedF (l : List Rg) (from_ to : Int) (ins : List Rg) : List Rg × Int :=
  (l.drop (firstN l from_)).foldl (stepR from_ to) (ins.foldl addR (headF l from_), 0)
def fewV (A : Option Addr) (m c : Nat) : Value := if 1024 < m then .tuple #[.slice none 0 0, .int .i64 3] else .tuple #[.slice A m c, .int .i64 0]
theorem few_spec (A : Option Addr) (m c : Nat) (hm : m ≤ 9223372036854775807) : FnC Try.prog 43 [.slice A m c] (fun _ => True) (fewV A m c) := by
  unfold fewV
  by_cases h : 1024 < m
  · rw [if_pos h]
    refine Ctr.intro Try.func43 rfl rfl (by decide +kernel) fun F hpre => ?_
    repeat' (first
    | (refine XL_id ?_; first
      | (refine XL_nil ?_)
      | (refine XL_guard_yes rfl rfl rfl ?_)
      | (refine XL_guard_no rfl rfl rfl rfl rfl ?_)
      | (refine XL_guard_nou rfl rfl rfl rfl ?_)
      | (refine XG_load ?_; first
        | (refine XL_loadW tt_ok 0 rfl rfl rfl rfl rfl rfl ?_)
        | (refine XL_loadW tt_ok 1 rfl rfl rfl rfl rfl rfl ?_)
        | (refine XL_loadW tt_ok 2 rfl rfl rfl rfl rfl rfl ?_)
        | (refine XL_loadW tt_ok 3 rfl rfl rfl rfl rfl rfl ?_)
        | (refine XL_loadW tt_ok 4 rfl rfl rfl rfl rfl rfl ?_)
        | (refine XL_loadW tt_ok 5 rfl rfl rfl rfl rfl rfl ?_)
        | (refine XL_loadW tt_ok 6 rfl rfl rfl rfl rfl rfl ?_)
        | (refine XL_loadW tt_ok 7 rfl rfl rfl rfl rfl rfl ?_)
        | (refine XL_loadW tt_ok 8 rfl rfl rfl rfl rfl rfl ?_)
        | (refine XL_loadW tt_ok 9 rfl rfl rfl rfl rfl rfl ?_)
        | (refine XL_load tt_ok 0 rfl rfl rfl rfl rfl rfl ?_)
        | (refine XL_load tt_ok 1 rfl rfl rfl rfl rfl rfl ?_)
        | (refine XL_load tt_ok 2 rfl rfl rfl rfl rfl rfl ?_)
        | (refine XL_load tt_ok 3 rfl rfl rfl rfl rfl rfl ?_)
        | (refine XL_load tt_ok 4 rfl rfl rfl rfl rfl rfl ?_)
        | (refine XL_load tt_ok 5 rfl rfl rfl rfl rfl rfl ?_)
        | (refine XL_load tt_ok 6 rfl rfl rfl rfl rfl rfl ?_)
        | (refine XL_load tt_ok 7 rfl rfl rfl rfl rfl rfl ?_)
        | (refine XL_load tt_ok 8 rfl rfl rfl rfl rfl rfl ?_)
        | (refine XL_load tt_ok 9 rfl rfl rfl rfl rfl rfl ?_)
        | (refine XL_loadF tt_ok rfl (by assumption) rfl rfl rfl rfl ?_)
        | (refine XL_elW tt_ok rfl (by assumption) rfl (by omega) (by omega) rfl rfl rfl rfl ?_)
        | (refine XL_el tt_ok rfl (by assumption) rfl (by omega) (by omega) rfl rfl rfl rfl ?_)
        | (refine XL_elf tt_ok rfl (by assumption) rfl (by omega) (by omega) rfl rfl rfl rfl ?_)
        | (refine XL_eloW tt_ok 0 rfl rfl rfl (by omega) (by omega) rfl rfl rfl rfl ?_)
        | (refine XL_elo tt_ok 0 rfl rfl rfl (by omega) (by omega) rfl rfl rfl rfl ?_)
        | (refine XL_elof tt_ok 0 rfl rfl rfl (by omega) (by omega) rfl rfl rfl rfl ?_)
        | (refine XL_eloW tt_ok 1 rfl rfl rfl (by omega) (by omega) rfl rfl rfl rfl ?_)
        | (refine XL_elo tt_ok 1 rfl rfl rfl (by omega) (by omega) rfl rfl rfl rfl ?_)
        | (refine XL_elof tt_ok 1 rfl rfl rfl (by omega) (by omega) rfl rfl rfl rfl ?_)
        | (refine XL_eloW tt_ok 2 rfl rfl rfl (by omega) (by omega) rfl rfl rfl rfl ?_)
        | (refine XL_elo tt_ok 2 rfl rfl rfl (by omega) (by omega) rfl rfl rfl rfl ?_)
        | (refine XL_elof tt_ok 2 rfl rfl rfl (by omega) (by omega) rfl rfl rfl rfl ?_)
        | (refine XL_eloW tt_ok 3 rfl rfl rfl (by omega) (by omega) rfl rfl rfl rfl ?_)
        | (refine XL_elo tt_ok 3 rfl rfl rfl (by omega) (by omega) rfl rfl rfl rfl ?_)
        | (refine XL_elof tt_ok 3 rfl rfl rfl (by omega) (by omega) rfl rfl rfl rfl ?_)
      )
      | (refine XG_idx ?_; first
        | (refine XL_idx tt_ok rfl rfl rfl rfl rfl (by assumption) (by omega) (by omega) rfl ?_)
        | (refine XL_idxo tt_ok 0 rfl rfl rfl rfl rfl rfl (by omega) (by omega) rfl ?_)
        | (refine XL_idxo tt_ok 1 rfl rfl rfl rfl rfl rfl (by omega) (by omega) rfl ?_)
        | (refine XL_idxo tt_ok 2 rfl rfl rfl rfl rfl rfl (by omega) (by omega) rfl ?_)
        | (refine XL_idxo tt_ok 3 rfl rfl rfl rfl rfl rfl (by omega) (by omega) rfl ?_)
      )
      | (refine XG_box ?_; first
        | (refine XL_box rfl (fun _ => rfl) (fun _ => ?_))
      )
      | (refine XG_build ?_; first
        | (refine XL_build tt_ok rfl rfl rfl rfl rfl rfl rfl ?_)
      )
      | (refine XG_alloc ?_; first
        | (refine XL_alloc tt_ok rfl rfl (fun _ => rfl) (fun b => ?_))
      )
      | (refine XG_lit ?_; first
        | (refine XL_lit tt_ok rfl rfl rfl rfl rfl rfl rfl rfl rfl (fun _ => rfl) (fun b => ?_))
      )
      | (refine XG_store ?_; first
        | (refine XL_storeW tt_ok 0 rfl rfl rfl rfl rfl rfl rfl ?_)
        | (refine XL_storeW tt_ok 1 rfl rfl rfl rfl rfl rfl rfl ?_)
        | (refine XL_storeW tt_ok 2 rfl rfl rfl rfl rfl rfl rfl ?_)
        | (refine XL_storeW tt_ok 3 rfl rfl rfl rfl rfl rfl rfl ?_)
        | (refine XL_storeW tt_ok 4 rfl rfl rfl rfl rfl rfl rfl ?_)
        | (refine XL_storeW tt_ok 5 rfl rfl rfl rfl rfl rfl rfl ?_)
        | (refine XL_storeW tt_ok 6 rfl rfl rfl rfl rfl rfl rfl ?_)
        | (refine XL_storeW tt_ok 7 rfl rfl rfl rfl rfl rfl rfl ?_)
        | (refine XL_storeW tt_ok 8 rfl rfl rfl rfl rfl rfl rfl ?_)
        | (refine XL_storeW tt_ok 9 rfl rfl rfl rfl rfl rfl rfl ?_)
        | (refine XL_store tt_ok 0 rfl rfl rfl rfl rfl rfl rfl rfl ?_)
        | (refine XL_store tt_ok 1 rfl rfl rfl rfl rfl rfl rfl rfl ?_)
        | (refine XL_store tt_ok 2 rfl rfl rfl rfl rfl rfl rfl rfl ?_)
        | (refine XL_store tt_ok 3 rfl rfl rfl rfl rfl rfl rfl rfl ?_)
        | (refine XL_store tt_ok 4 rfl rfl rfl rfl rfl rfl rfl rfl ?_)
        | (refine XL_store tt_ok 5 rfl rfl rfl rfl rfl rfl rfl rfl ?_)
        | (refine XL_store tt_ok 6 rfl rfl rfl rfl rfl rfl rfl rfl ?_)
        | (refine XL_store tt_ok 7 rfl rfl rfl rfl rfl rfl rfl rfl ?_)
        | (refine XL_store tt_ok 8 rfl rfl rfl rfl rfl rfl rfl rfl ?_)
        | (refine XL_store tt_ok 9 rfl rfl rfl rfl rfl rfl rfl rfl ?_)
      )
      | (refine XL_op tt_ok rfl rfl ?_; try (first | (refine XL_int (shl8_u64 (by omega) (by omega)) ?_) | (refine XL_int (shr8) ?_) | (refine XL_int (wrap_i64 (by omega) (by omega)) ?_) | (refine XL_int (wrap_u64 (by omega) (by omega)) ?_) | (refine XL_int (wrap_u8 (by omega) (by omega)) ?_) | (refine XL_int (quo_i64 (by omega) (by omega) (by omega)) ?_) | (refine XL_int (quo_u64 (by omega) (by omega) (by omega)) ?_) | (refine XL_int (rem_pos (by omega)) ?_) | (refine XL_remb (by omega) (fun _ _ _ _ => ?_)) | (refine XL_dec_t (by omega) ?_) | (refine XL_dec_f (by omega) ?_) | (refine XL_dec (fun _ => ?_) (fun _ => ?_))))
    )
    | (refine X_id ?_; first
      | (refine X_seq ?_)
      | (refine X_region ?_)
      | (refine X_skip ?_)
      | (refine X_ret ?_)
      | (refine X_exit ?_)
      | (refine X_block ?_)
      | (refine X_cond_t rfl ?_)
      | (refine X_cond_f rfl ?_)
    )
    | (refine Y_id ?_; first
      | (refine Y_then ?_)
      | (refine Y_then_ret ?_)
      | (refine Y_then_exit ?_)
      | (refine Y_block_hit ?_)
      | (refine Y_block_miss rfl ?_)
      | (refine Y_block_normal ?_)
      | (refine Y_block_ret ?_)
    )
    )
    all_goals (try (exfalso; omega))
    exact Y_fn2 rfl rfl rfl rfl
  · rw [if_neg h]
    refine Ctr.intro Try.func43 rfl rfl (by decide +kernel) fun F hpre => ?_
    repeat' (first
    | (refine XL_id ?_; first
      | (refine XL_nil ?_)
      | (refine XL_guard_yes rfl rfl rfl ?_)
      | (refine XL_guard_no rfl rfl rfl rfl rfl ?_)
      | (refine XL_guard_nou rfl rfl rfl rfl ?_)
      | (refine XG_load ?_; first
        | (refine XL_loadW tt_ok 0 rfl rfl rfl rfl rfl rfl ?_)
        | (refine XL_loadW tt_ok 1 rfl rfl rfl rfl rfl rfl ?_)
        | (refine XL_loadW tt_ok 2 rfl rfl rfl rfl rfl rfl ?_)
        | (refine XL_loadW tt_ok 3 rfl rfl rfl rfl rfl rfl ?_)
        | (refine XL_loadW tt_ok 4 rfl rfl rfl rfl rfl rfl ?_)
        | (refine XL_loadW tt_ok 5 rfl rfl rfl rfl rfl rfl ?_)
        | (refine XL_loadW tt_ok 6 rfl rfl rfl rfl rfl rfl ?_)
        | (refine XL_loadW tt_ok 7 rfl rfl rfl rfl rfl rfl ?_)
        | (refine XL_loadW tt_ok 8 rfl rfl rfl rfl rfl rfl ?_)
        | (refine XL_loadW tt_ok 9 rfl rfl rfl rfl rfl rfl ?_)
        | (refine XL_load tt_ok 0 rfl rfl rfl rfl rfl rfl ?_)
        | (refine XL_load tt_ok 1 rfl rfl rfl rfl rfl rfl ?_)
        | (refine XL_load tt_ok 2 rfl rfl rfl rfl rfl rfl ?_)
        | (refine XL_load tt_ok 3 rfl rfl rfl rfl rfl rfl ?_)
        | (refine XL_load tt_ok 4 rfl rfl rfl rfl rfl rfl ?_)
        | (refine XL_load tt_ok 5 rfl rfl rfl rfl rfl rfl ?_)
        | (refine XL_load tt_ok 6 rfl rfl rfl rfl rfl rfl ?_)
        | (refine XL_load tt_ok 7 rfl rfl rfl rfl rfl rfl ?_)
        | (refine XL_load tt_ok 8 rfl rfl rfl rfl rfl rfl ?_)
        | (refine XL_load tt_ok 9 rfl rfl rfl rfl rfl rfl ?_)
        | (refine XL_loadF tt_ok rfl (by assumption) rfl rfl rfl rfl ?_)
        | (refine XL_elW tt_ok rfl (by assumption) rfl (by omega) (by omega) rfl rfl rfl rfl ?_)
        | (refine XL_el tt_ok rfl (by assumption) rfl (by omega) (by omega) rfl rfl rfl rfl ?_)
        | (refine XL_elf tt_ok rfl (by assumption) rfl (by omega) (by omega) rfl rfl rfl rfl ?_)
        | (refine XL_eloW tt_ok 0 rfl rfl rfl (by omega) (by omega) rfl rfl rfl rfl ?_)
        | (refine XL_elo tt_ok 0 rfl rfl rfl (by omega) (by omega) rfl rfl rfl rfl ?_)
        | (refine XL_elof tt_ok 0 rfl rfl rfl (by omega) (by omega) rfl rfl rfl rfl ?_)
        | (refine XL_eloW tt_ok 1 rfl rfl rfl (by omega) (by omega) rfl rfl rfl rfl ?_)
        | (refine XL_elo tt_ok 1 rfl rfl rfl (by omega) (by omega) rfl rfl rfl rfl ?_)
        | (refine XL_elof tt_ok 1 rfl rfl rfl (by omega) (by omega) rfl rfl rfl rfl ?_)
        | (refine XL_eloW tt_ok 2 rfl rfl rfl (by omega) (by omega) rfl rfl rfl rfl ?_)
        | (refine XL_elo tt_ok 2 rfl rfl rfl (by omega) (by omega) rfl rfl rfl rfl ?_)
        | (refine XL_elof tt_ok 2 rfl rfl rfl (by omega) (by omega) rfl rfl rfl rfl ?_)
        | (refine XL_eloW tt_ok 3 rfl rfl rfl (by omega) (by omega) rfl rfl rfl rfl ?_)
        | (refine XL_elo tt_ok 3 rfl rfl rfl (by omega) (by omega) rfl rfl rfl rfl ?_)
        | (refine XL_elof tt_ok 3 rfl rfl rfl (by omega) (by omega) rfl rfl rfl rfl ?_)
      )
      | (refine XG_idx ?_; first
        | (refine XL_idx tt_ok rfl rfl rfl rfl rfl (by assumption) (by omega) (by omega) rfl ?_)
        | (refine XL_idxo tt_ok 0 rfl rfl rfl rfl rfl rfl (by omega) (by omega) rfl ?_)
        | (refine XL_idxo tt_ok 1 rfl rfl rfl rfl rfl rfl (by omega) (by omega) rfl ?_)
        | (refine XL_idxo tt_ok 2 rfl rfl rfl rfl rfl rfl (by omega) (by omega) rfl ?_)
        | (refine XL_idxo tt_ok 3 rfl rfl rfl rfl rfl rfl (by omega) (by omega) rfl ?_)
      )
      | (refine XG_box ?_; first
        | (refine XL_box rfl (fun _ => rfl) (fun _ => ?_))
      )
      | (refine XG_build ?_; first
        | (refine XL_build tt_ok rfl rfl rfl rfl rfl rfl rfl ?_)
      )
      | (refine XG_alloc ?_; first
        | (refine XL_alloc tt_ok rfl rfl (fun _ => rfl) (fun b => ?_))
      )
      | (refine XG_lit ?_; first
        | (refine XL_lit tt_ok rfl rfl rfl rfl rfl rfl rfl rfl rfl (fun _ => rfl) (fun b => ?_))
      )
      | (refine XG_store ?_; first
        | (refine XL_storeW tt_ok 0 rfl rfl rfl rfl rfl rfl rfl ?_)
        | (refine XL_storeW tt_ok 1 rfl rfl rfl rfl rfl rfl rfl ?_)
        | (refine XL_storeW tt_ok 2 rfl rfl rfl rfl rfl rfl rfl ?_)
        | (refine XL_storeW tt_ok 3 rfl rfl rfl rfl rfl rfl rfl ?_)
        | (refine XL_storeW tt_ok 4 rfl rfl rfl rfl rfl rfl rfl ?_)
        | (refine XL_storeW tt_ok 5 rfl rfl rfl rfl rfl rfl rfl ?_)
        | (refine XL_storeW tt_ok 6 rfl rfl rfl rfl rfl rfl rfl ?_)
        | (refine XL_storeW tt_ok 7 rfl rfl rfl rfl rfl rfl rfl ?_)
        | (refine XL_storeW tt_ok 8 rfl rfl rfl rfl rfl rfl rfl ?_)
        | (refine XL_storeW tt_ok 9 rfl rfl rfl rfl rfl rfl rfl ?_)
        | (refine XL_store tt_ok 0 rfl rfl rfl rfl rfl rfl rfl rfl ?_)
        | (refine XL_store tt_ok 1 rfl rfl rfl rfl rfl rfl rfl rfl ?_)
        | (refine XL_store tt_ok 2 rfl rfl rfl rfl rfl rfl rfl rfl ?_)
        | (refine XL_store tt_ok 3 rfl rfl rfl rfl rfl rfl rfl rfl ?_)
        | (refine XL_store tt_ok 4 rfl rfl rfl rfl rfl rfl rfl rfl ?_)
        | (refine XL_store tt_ok 5 rfl rfl rfl rfl rfl rfl rfl rfl ?_)
        | (refine XL_store tt_ok 6 rfl rfl rfl rfl rfl rfl rfl rfl ?_)
        | (refine XL_store tt_ok 7 rfl rfl rfl rfl rfl rfl rfl rfl ?_)
        | (refine XL_store tt_ok 8 rfl rfl rfl rfl rfl rfl rfl rfl ?_)
        | (refine XL_store tt_ok 9 rfl rfl rfl rfl rfl rfl rfl rfl ?_)
      )
      | (refine XL_op tt_ok rfl rfl ?_; try (first | (refine XL_int (shl8_u64 (by omega) (by omega)) ?_) | (refine XL_int (shr8) ?_) | (refine XL_int (wrap_i64 (by omega) (by omega)) ?_) | (refine XL_int (wrap_u64 (by omega) (by omega)) ?_) | (refine XL_int (wrap_u8 (by omega) (by omega)) ?_) | (refine XL_int (quo_i64 (by omega) (by omega) (by omega)) ?_) | (refine XL_int (quo_u64 (by omega) (by omega) (by omega)) ?_) | (refine XL_int (rem_pos (by omega)) ?_) | (refine XL_remb (by omega) (fun _ _ _ _ => ?_)) | (refine XL_dec_t (by omega) ?_) | (refine XL_dec_f (by omega) ?_) | (refine XL_dec (fun _ => ?_) (fun _ => ?_))))
    )
    | (refine X_id ?_; first
      | (refine X_seq ?_)
      | (refine X_region ?_)
      | (refine X_skip ?_)
      | (refine X_ret ?_)
      | (refine X_exit ?_)
      | (refine X_block ?_)
      | (refine X_cond_t rfl ?_)
      | (refine X_cond_f rfl ?_)
    )
    | (refine Y_id ?_; first
      | (refine Y_then ?_)
      | (refine Y_then_ret ?_)
      | (refine Y_then_exit ?_)
      | (refine Y_block_hit ?_)
      | (refine Y_block_miss rfl ?_)
      | (refine Y_block_normal ?_)
      | (refine Y_block_ret ?_)
    )
    )
    all_goals (try (exfalso; omega))
    exact Y_fn2 rfl rfl rfl rfl
end Go.Proofs.Ytpkffgbcebjhaaa
