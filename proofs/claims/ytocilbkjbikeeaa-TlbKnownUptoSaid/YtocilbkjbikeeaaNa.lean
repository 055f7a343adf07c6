/- TLBs that are none: nil, and one that New did not make. -/
import Derived.Test.YtocilbkjbikeeaaLa
set_option linter.unusedVariables false
namespace Go.Proofs.Ytocilbkjbikeeaa
open Go.RowKit Go.Cof

abbrev emB (p : Nat) : HProp := blk p [.int .i64 0, .slice none 0 0] 62
theorem nasked_n (a pg : Int) : FnC Try.prog 30 [.pointer none, kyV a pg] (fun _ => True) (.int .i64 1) := by
  refine Ctr.intro Try.func30 rfl rfl (by decide +kernel) fun F hpre => ?_
  repeat' (first | (refine XL_id ?_; first | refine XL_nil ?_ | refine XL_guard_no rfl rfl rfl rfl rfl ?_ | (refine XG_box ?_; (refine XL_box rfl (fun _ => rfl) (fun _ => ?_); refine XL_nB (by repeat' (first | exact .nil | apply NL.cons)) ?_)) | (refine XL_op tt_ok rfl rfl ?_; try (refine XL_dec_t (by omega) ?_))) | (refine X_id ?_; first | refine X_seq ?_ | (refine X_regionN (by repeat' (first | exact .nil | apply NL.cons)) ?_) | refine X_ret ?_ | refine X_cond_t rfl ?_) | (refine Y_id ?_; first | refine Y_then ?_ | refine Y_then_ret ?_))
  all_goals first
    | exact Y_fn1 rfl rfl rfl
    | skip
  
theorem nPeek_n (a pg : Int) : FnC Try.prog 19 [.pointer none, .int .i64 a, .int .i64 pg] (fun _ => True) (peekV (tr0, false, 1)) := by
  refine Ctr.intro Try.func19 rfl rfl (by decide +kernel) fun F hpre => ?_
  repeat' (first | (refine XL_id ?_; first | refine XL_nil ?_ | (refine XG_load ?_; refine XL_loadW tt_ok 0 rfl rfl rfl rfl rfl rfl ?_) | (refine XG_build ?_; (refine XL_build tt_ok rfl rfl rfl rfl rfl rfl rfl ?_; refine XL_aggN (by repeat' (first | exact .nil | apply NL.cons)) ?_)) | (refine XG_call ?_; refine XL_fn (nasked_n a pg) rfl rfl (fun _ _ _ => trivial) ?_) | (refine XG_alloc ?_; (refine XL_alloc tt_ok rfl rfl (fun _ => rfl) (fun b => ?_); refine XL_nB (by repeat' (first | exact .nil | apply NL.cons)) ?_)) | (refine XG_store ?_; first | (refine XL_storeW tt_ok 0 rfl rfl rfl rfl rfl rfl rfl ?_; refine XL_nK 0 rfl (by repeat' (first | exact .nil | apply NL.cons)) ?_) | (refine XL_storeW tt_ok 1 rfl rfl rfl rfl rfl rfl rfl ?_; refine XL_nK 1 rfl (by repeat' (first | exact .nil | apply NL.cons)) ?_)) | (refine XL_op tt_ok rfl rfl ?_; try (refine XL_dec_t (by omega) ?_))) | (refine X_id ?_; first | refine X_seq ?_ | (refine X_regionN (by repeat' (first | exact .nil | apply NL.cons)) ?_) | refine X_ret ?_ | refine X_cond_t rfl ?_) | (refine Y_id ?_; first | refine Y_then ?_ | refine Y_then_ret ?_))
  all_goals first
    | exact Y_res3 rfl (.cell tt_ok 0 rfl rfl rfl rfl rfl) (.tmp rfl) (.tmp rfl) (L' := []) (fun _ _ => trivial) ⟨rfl, rfl⟩
    | exact Y_res3 rfl (.cell tt_ok 1 rfl rfl rfl rfl rfl) (.tmp rfl) (.tmp rfl) (L' := []) (fun _ _ => trivial) ⟨rfl, rfl⟩
    | skip
    | skip
  
theorem nFind_n (a pg : Int) : FnC Try.prog 11 [.pointer none, .int .i64 a, .int .i64 pg] (fun _ => True) (peekV (tr0, false, 1)) := by
  refine Ctr.intro Try.func11 rfl rfl (by decide +kernel) fun F hpre => ?_
  repeat' (first | (refine XL_id ?_; first | refine XL_nil ?_ | (refine XG_load ?_; refine XL_loadW tt_ok 0 rfl rfl rfl rfl rfl rfl ?_) | (refine XG_call ?_; refine XL_fn (nPeek_n a pg) rfl rfl (fun _ _ _ => trivial) ?_) | (refine XG_alloc ?_; (refine XL_alloc tt_ok rfl rfl (fun _ => rfl) (fun b => ?_); refine XL_nB (by repeat' (first | exact .nil | apply NL.cons)) ?_)) | (refine XG_store ?_; first | (refine XL_storeW tt_ok 0 rfl rfl rfl rfl rfl rfl rfl ?_; refine XL_nK 0 rfl (by repeat' (first | exact .nil | apply NL.cons)) ?_) | (refine XL_storeW tt_ok 1 rfl rfl rfl rfl rfl rfl rfl ?_; refine XL_nK 1 rfl (by repeat' (first | exact .nil | apply NL.cons)) ?_)) | (refine XL_op tt_ok rfl rfl ?_)) | (refine X_id ?_; first | refine X_seq ?_ | (refine X_regionN (by repeat' (first | exact .nil | apply NL.cons)) ?_) | refine X_skip ?_ | refine X_ret ?_ | refine X_cond_f rfl ?_) | (refine Y_id ?_; refine Y_then ?_))
  all_goals first
    | exact Y_res3 rfl (.cell tt_ok 0 rfl rfl rfl rfl rfl) (.tmp rfl) (.tmp rfl) (L' := []) (fun _ _ => trivial) ⟨rfl, rfl⟩
    | exact Y_res3 rfl (.cell tt_ok 1 rfl rfl rfl rfl rfl) (.tmp rfl) (.tmp rfl) (L' := []) (fun _ _ => trivial) ⟨rfl, rfl⟩
    | skip
    | skip
  
theorem nFill_n (x : Tr) : FnC Try.prog 13 [.pointer none, trV x] (fun _ => True) (.int .i64 1) := by
  refine Ctr.intro Try.func13 rfl rfl (by decide +kernel) fun F hpre => ?_
  repeat' (first | (refine XL_id ?_; first | refine XL_nil ?_ | (refine XG_load ?_; refine XL_loadW tt_ok 0 rfl rfl rfl rfl rfl rfl ?_) | (refine XG_box ?_; (refine XL_box rfl (fun _ => rfl) (fun _ => ?_); refine XL_nB (by repeat' (first | exact .nil | apply NL.cons)) ?_)) | (refine XG_call ?_; first | refine XL_fn (nasked_n x.a x.p) rfl rfl (fun _ _ _ => trivial) ?_ | refine XL_fn (of_spec x) rfl rfl (fun _ _ _ => trivial) ?_) | (refine XL_op tt_ok rfl rfl ?_; try (refine XL_dec_t (by omega) ?_))) | (refine X_id ?_; first | refine X_seq ?_ | (refine X_regionN (by repeat' (first | exact .nil | apply NL.cons)) ?_) | refine X_ret ?_ | refine X_cond_t rfl ?_) | (refine Y_id ?_; first | refine Y_then ?_ | refine Y_then_ret ?_))
  all_goals first
    | exact Y_fn1 rfl rfl rfl
    | skip
  
theorem nMark_n (a pg : Int) : FnC Try.prog 20 [.pointer none, .int .i64 a, .int .i64 pg] (fun _ => True) (.tuple #[.bool false, .int .i64 1]) := by
  refine Ctr.intro Try.func20 rfl rfl (by decide +kernel) fun F hpre => ?_
  repeat' (first | (refine XL_id ?_; first | refine XL_nil ?_ | (refine XG_load ?_; refine XL_loadW tt_ok 0 rfl rfl rfl rfl rfl rfl ?_) | (refine XG_build ?_; (refine XL_build tt_ok rfl rfl rfl rfl rfl rfl rfl ?_; refine XL_aggN (by repeat' (first | exact .nil | apply NL.cons)) ?_)) | (refine XG_call ?_; refine XL_fn (nasked_n a pg) rfl rfl (fun _ _ _ => trivial) ?_) | (refine XG_alloc ?_; (refine XL_alloc tt_ok rfl rfl (fun _ => rfl) (fun b => ?_); refine XL_nB (by repeat' (first | exact .nil | apply NL.cons)) ?_)) | (refine XG_store ?_; (refine XL_storeW tt_ok 0 rfl rfl rfl rfl rfl rfl rfl ?_; refine XL_nK 0 rfl (by repeat' (first | exact .nil | apply NL.cons)) ?_)) | (refine XL_op tt_ok rfl rfl ?_; try (refine XL_dec_t (by omega) ?_))) | (refine X_id ?_; first | refine X_seq ?_ | (refine X_regionN (by repeat' (first | exact .nil | apply NL.cons)) ?_) | refine X_ret ?_ | refine X_cond_t rfl ?_) | (refine Y_id ?_; first | refine Y_then ?_ | refine Y_then_ret ?_))
  all_goals first
    | exact Y_fn2 rfl rfl rfl rfl
    | skip
  
theorem nDrop_n (a pg : Int) : FnC Try.prog 14 [.pointer none, .int .i64 a, .int .i64 pg] (fun _ => True) (.tuple #[.bool false, .int .i64 1]) := by
  refine Ctr.intro Try.func14 rfl rfl (by decide +kernel) fun F hpre => ?_
  repeat' (first | (refine XL_id ?_; first | refine XL_nil ?_ | (refine XG_load ?_; refine XL_loadW tt_ok 0 rfl rfl rfl rfl rfl rfl ?_) | (refine XG_build ?_; (refine XL_build tt_ok rfl rfl rfl rfl rfl rfl rfl ?_; refine XL_aggN (by repeat' (first | exact .nil | apply NL.cons)) ?_)) | (refine XG_call ?_; refine XL_fn (nasked_n a pg) rfl rfl (fun _ _ _ => trivial) ?_) | (refine XG_alloc ?_; (refine XL_alloc tt_ok rfl rfl (fun _ => rfl) (fun b => ?_); refine XL_nB (by repeat' (first | exact .nil | apply NL.cons)) ?_)) | (refine XG_store ?_; (refine XL_storeW tt_ok 0 rfl rfl rfl rfl rfl rfl rfl ?_; refine XL_nK 0 rfl (by repeat' (first | exact .nil | apply NL.cons)) ?_)) | (refine XL_op tt_ok rfl rfl ?_; try (refine XL_dec_t (by omega) ?_))) | (refine X_id ?_; first | refine X_seq ?_ | (refine X_regionN (by repeat' (first | exact .nil | apply NL.cons)) ?_) | refine X_ret ?_ | refine X_cond_t rfl ?_) | (refine Y_id ?_; first | refine Y_then ?_ | refine Y_then_ret ?_))
  all_goals first
    | exact Y_fn2 rfl rfl rfl rfl
    | skip
  
theorem nDropAll_n (a : Int) : FnC Try.prog 22 [.pointer none, .int .i64 a] (fun _ => True) (.tuple #[.int .i64 0, .int .i64 1]) := by
  refine Ctr.intro Try.func22 rfl rfl (by decide +kernel) fun F hpre => ?_
  repeat' (first | (refine XL_id ?_; first | refine XL_nil ?_ | (refine XG_load ?_; refine XL_load tt_ok 0 rfl rfl rfl rfl rfl rfl ?_) | (refine XG_box ?_; (refine XL_box rfl (fun _ => rfl) (fun _ => ?_); refine XL_nB (by repeat' (first | exact .nil | apply NL.cons)) ?_)) | (refine XG_build ?_; (refine XL_build tt_ok rfl rfl rfl rfl rfl rfl rfl ?_; refine XL_aggN (by repeat' (first | exact .nil | apply NL.cons)) ?_)) | (refine XG_call ?_; refine XL_fn (nasked_n a 0) rfl rfl (fun _ _ _ => trivial) ?_) | (refine XL_op tt_ok rfl rfl ?_; try (refine XL_dec_t (by omega) ?_))) | (refine X_id ?_; first | refine X_seq ?_ | (refine X_regionN (by repeat' (first | exact .nil | apply NL.cons)) ?_) | refine X_ret ?_ | refine X_cond_t rfl ?_) | (refine Y_id ?_; first | refine Y_then ?_ | refine Y_then_ret ?_))
  all_goals first
    | exact Y_fn2 rfl rfl rfl rfl
    | skip
  
theorem nEmpty_n  : FnC Try.prog 27 [.pointer none] (fun _ => True) (.tuple #[.int .i64 0, .int .i64 1]) := by
  refine Ctr.intro Try.func27 rfl rfl (by decide +kernel) fun F hpre => ?_
  repeat' (first | (refine XL_id ?_; first | refine XL_nil ?_ | (refine XG_build ?_; (refine XL_build tt_ok rfl rfl rfl rfl rfl rfl rfl ?_; refine XL_aggN (by repeat' (first | exact .nil | apply NL.cons)) ?_)) | (refine XG_call ?_; refine XL_fn (nasked_n 0 0) rfl rfl (fun _ _ _ => trivial) ?_) | (refine XL_op tt_ok rfl rfl ?_; try (refine XL_dec_t (by omega) ?_))) | (refine X_id ?_; first | refine X_seq ?_ | (refine X_regionN (by repeat' (exact .nil)) ?_) | refine X_ret ?_ | refine X_cond_t rfl ?_) | (refine Y_id ?_; first | refine Y_then ?_ | refine Y_then_ret ?_))
  all_goals first
    | exact Y_fn2 rfl rfl rfl rfl
    | skip
  
theorem nasked_e (p : Nat) (a pg : Int) : FnC Try.prog 30 [ptr p, kyV a pg] (emB p) (.int .i64 1) := by
  refine Ctr.intro Try.func30 rfl rfl (by decide +kernel) fun F hpre => ?_
  repeat' (first | (refine XL_id ?_; first | refine XL_nil ?_ | refine XL_guard_yes rfl rfl rfl ?_ | (refine XG_load ?_; refine XL_loadF tt_ok rfl (by assumption) rfl rfl rfl rfl ?_) | (refine XG_box ?_; (refine XL_box rfl (fun _ => rfl) (fun _ => ?_); refine XL_nB (by repeat' (first | exact .nil | apply NL.cons)) ?_)) | (refine XL_op tt_ok rfl rfl ?_; try (refine XL_dec_t (by omega) ?_))) | (refine X_id ?_; first | refine X_seq ?_ | (refine X_regionN (by repeat' (first | exact .nil | apply NL.cons)) ?_) | refine X_ret ?_ | refine X_cond_t rfl ?_) | (refine Y_id ?_; first | refine Y_then ?_ | refine Y_then_ret ?_))
  all_goals first
    | exact Y_fn1 rfl rfl rfl
    | skip
  
theorem nPeek_e (p : Nat) (a pg : Int) : FnC Try.prog 19 [ptr p, .int .i64 a, .int .i64 pg] (emB p) (peekV (tr0, false, 1)) := by
  refine Ctr.intro Try.func19 rfl rfl (by decide +kernel) fun F hpre => ?_
  repeat' (first | (refine XL_id ?_; first | refine XL_nil ?_ | (refine XG_load ?_; refine XL_loadW tt_ok 0 rfl rfl rfl rfl rfl rfl ?_) | (refine XG_build ?_; (refine XL_build tt_ok rfl rfl rfl rfl rfl rfl rfl ?_; refine XL_aggN (by repeat' (first | exact .nil | apply NL.cons)) ?_)) | (refine XG_call ?_; refine XL_fn (nasked_e p a pg) rfl rfl (fun g hg hL => blk_le hpre hg) ?_) | (refine XG_alloc ?_; (refine XL_alloc tt_ok rfl rfl (fun _ => rfl) (fun b => ?_); refine XL_nB (by repeat' (first | exact .nil | apply NL.cons)) ?_)) | (refine XG_store ?_; first | (refine XL_storeW tt_ok 0 rfl rfl rfl rfl rfl rfl rfl ?_; refine XL_nK 0 rfl (by repeat' (first | exact .nil | apply NL.cons)) ?_) | (refine XL_storeW tt_ok 1 rfl rfl rfl rfl rfl rfl rfl ?_; refine XL_nK 1 rfl (by repeat' (first | exact .nil | apply NL.cons)) ?_)) | (refine XL_op tt_ok rfl rfl ?_; try (refine XL_dec_t (by omega) ?_))) | (refine X_id ?_; first | refine X_seq ?_ | (refine X_regionN (by repeat' (first | exact .nil | apply NL.cons)) ?_) | refine X_ret ?_ | refine X_cond_t rfl ?_) | (refine Y_id ?_; first | refine Y_then ?_ | refine Y_then_ret ?_))
  all_goals first
    | exact Y_res3 rfl (.cell tt_ok 0 rfl rfl rfl rfl rfl) (.tmp rfl) (.tmp rfl) (L' := []) (fun _ _ => trivial) ⟨rfl, rfl⟩
    | exact Y_res3 rfl (.cell tt_ok 1 rfl rfl rfl rfl rfl) (.tmp rfl) (.tmp rfl) (L' := []) (fun _ _ => trivial) ⟨rfl, rfl⟩
    | skip
    | skip
  
theorem nFind_e (p : Nat) (a pg : Int) : FnC Try.prog 11 [ptr p, .int .i64 a, .int .i64 pg] (emB p) (peekV (tr0, false, 1)) := by
  refine Ctr.intro Try.func11 rfl rfl (by decide +kernel) fun F hpre => ?_
  repeat' (first | (refine XL_id ?_; first | refine XL_nil ?_ | (refine XG_load ?_; refine XL_loadW tt_ok 0 rfl rfl rfl rfl rfl rfl ?_) | (refine XG_call ?_; refine XL_fn (nPeek_e p a pg) rfl rfl (fun g hg hL => blk_le hpre hg) ?_) | (refine XG_alloc ?_; (refine XL_alloc tt_ok rfl rfl (fun _ => rfl) (fun b => ?_); refine XL_nB (by repeat' (first | exact .nil | apply NL.cons)) ?_)) | (refine XG_store ?_; first | (refine XL_storeW tt_ok 0 rfl rfl rfl rfl rfl rfl rfl ?_; refine XL_nK 0 rfl (by repeat' (first | exact .nil | apply NL.cons)) ?_) | (refine XL_storeW tt_ok 1 rfl rfl rfl rfl rfl rfl rfl ?_; refine XL_nK 1 rfl (by repeat' (first | exact .nil | apply NL.cons)) ?_)) | (refine XL_op tt_ok rfl rfl ?_)) | (refine X_id ?_; first | refine X_seq ?_ | (refine X_regionN (by repeat' (first | exact .nil | apply NL.cons)) ?_) | refine X_skip ?_ | refine X_ret ?_ | refine X_cond_f rfl ?_) | (refine Y_id ?_; refine Y_then ?_))
  all_goals first
    | exact Y_res3 rfl (.cell tt_ok 0 rfl rfl rfl rfl rfl) (.tmp rfl) (.tmp rfl) (L' := []) (fun _ _ => trivial) ⟨rfl, rfl⟩
    | exact Y_res3 rfl (.cell tt_ok 1 rfl rfl rfl rfl rfl) (.tmp rfl) (.tmp rfl) (L' := []) (fun _ _ => trivial) ⟨rfl, rfl⟩
    | skip
    | skip
  
theorem nFill_e (p : Nat) (x : Tr) : FnC Try.prog 13 [ptr p, trV x] (emB p) (.int .i64 1) := by
  refine Ctr.intro Try.func13 rfl rfl (by decide +kernel) fun F hpre => ?_
  repeat' (first | (refine XL_id ?_; first | refine XL_nil ?_ | (refine XG_load ?_; refine XL_loadW tt_ok 0 rfl rfl rfl rfl rfl rfl ?_) | (refine XG_box ?_; (refine XL_box rfl (fun _ => rfl) (fun _ => ?_); refine XL_nB (by repeat' (first | exact .nil | apply NL.cons)) ?_)) | (refine XG_call ?_; first | refine XL_fn (nasked_e p x.a x.p) rfl rfl (fun g hg hL => blk_le hpre hg) ?_ | refine XL_fn (of_spec x) rfl rfl (fun _ _ _ => trivial) ?_) | (refine XL_op tt_ok rfl rfl ?_; try (refine XL_dec_t (by omega) ?_))) | (refine X_id ?_; first | refine X_seq ?_ | (refine X_regionN (by repeat' (first | exact .nil | apply NL.cons)) ?_) | refine X_ret ?_ | refine X_cond_t rfl ?_) | (refine Y_id ?_; first | refine Y_then ?_ | refine Y_then_ret ?_))
  all_goals first
    | exact Y_fn1 rfl rfl rfl
    | skip
  
theorem nMark_e (p : Nat) (a pg : Int) : FnC Try.prog 20 [ptr p, .int .i64 a, .int .i64 pg] (emB p) (.tuple #[.bool false, .int .i64 1]) := by
  refine Ctr.intro Try.func20 rfl rfl (by decide +kernel) fun F hpre => ?_
  repeat' (first | (refine XL_id ?_; first | refine XL_nil ?_ | (refine XG_load ?_; refine XL_loadW tt_ok 0 rfl rfl rfl rfl rfl rfl ?_) | (refine XG_build ?_; (refine XL_build tt_ok rfl rfl rfl rfl rfl rfl rfl ?_; refine XL_aggN (by repeat' (first | exact .nil | apply NL.cons)) ?_)) | (refine XG_call ?_; refine XL_fn (nasked_e p a pg) rfl rfl (fun g hg hL => blk_le hpre hg) ?_) | (refine XG_alloc ?_; (refine XL_alloc tt_ok rfl rfl (fun _ => rfl) (fun b => ?_); refine XL_nB (by repeat' (first | exact .nil | apply NL.cons)) ?_)) | (refine XG_store ?_; (refine XL_storeW tt_ok 0 rfl rfl rfl rfl rfl rfl rfl ?_; refine XL_nK 0 rfl (by repeat' (first | exact .nil | apply NL.cons)) ?_)) | (refine XL_op tt_ok rfl rfl ?_; try (refine XL_dec_t (by omega) ?_))) | (refine X_id ?_; first | refine X_seq ?_ | (refine X_regionN (by repeat' (first | exact .nil | apply NL.cons)) ?_) | refine X_ret ?_ | refine X_cond_t rfl ?_) | (refine Y_id ?_; first | refine Y_then ?_ | refine Y_then_ret ?_))
  all_goals first
    | exact Y_fn2 rfl rfl rfl rfl
    | skip
  
theorem nDrop_e (p : Nat) (a pg : Int) : FnC Try.prog 14 [ptr p, .int .i64 a, .int .i64 pg] (emB p) (.tuple #[.bool false, .int .i64 1]) := by
  refine Ctr.intro Try.func14 rfl rfl (by decide +kernel) fun F hpre => ?_
  repeat' (first | (refine XL_id ?_; first | refine XL_nil ?_ | (refine XG_load ?_; refine XL_loadW tt_ok 0 rfl rfl rfl rfl rfl rfl ?_) | (refine XG_build ?_; (refine XL_build tt_ok rfl rfl rfl rfl rfl rfl rfl ?_; refine XL_aggN (by repeat' (first | exact .nil | apply NL.cons)) ?_)) | (refine XG_call ?_; refine XL_fn (nasked_e p a pg) rfl rfl (fun g hg hL => blk_le hpre hg) ?_) | (refine XG_alloc ?_; (refine XL_alloc tt_ok rfl rfl (fun _ => rfl) (fun b => ?_); refine XL_nB (by repeat' (first | exact .nil | apply NL.cons)) ?_)) | (refine XG_store ?_; (refine XL_storeW tt_ok 0 rfl rfl rfl rfl rfl rfl rfl ?_; refine XL_nK 0 rfl (by repeat' (first | exact .nil | apply NL.cons)) ?_)) | (refine XL_op tt_ok rfl rfl ?_; try (refine XL_dec_t (by omega) ?_))) | (refine X_id ?_; first | refine X_seq ?_ | (refine X_regionN (by repeat' (first | exact .nil | apply NL.cons)) ?_) | refine X_ret ?_ | refine X_cond_t rfl ?_) | (refine Y_id ?_; first | refine Y_then ?_ | refine Y_then_ret ?_))
  all_goals first
    | exact Y_fn2 rfl rfl rfl rfl
    | skip
  
theorem nDropAll_e (p : Nat) (a : Int) : FnC Try.prog 22 [ptr p, .int .i64 a] (emB p) (.tuple #[.int .i64 0, .int .i64 1]) := by
  refine Ctr.intro Try.func22 rfl rfl (by decide +kernel) fun F hpre => ?_
  repeat' (first | (refine XL_id ?_; first | refine XL_nil ?_ | (refine XG_load ?_; refine XL_load tt_ok 0 rfl rfl rfl rfl rfl rfl ?_) | (refine XG_box ?_; (refine XL_box rfl (fun _ => rfl) (fun _ => ?_); refine XL_nB (by repeat' (first | exact .nil | apply NL.cons)) ?_)) | (refine XG_build ?_; (refine XL_build tt_ok rfl rfl rfl rfl rfl rfl rfl ?_; refine XL_aggN (by repeat' (first | exact .nil | apply NL.cons)) ?_)) | (refine XG_call ?_; refine XL_fn (nasked_e p a 0) rfl rfl (fun g hg hL => blk_le hpre hg) ?_) | (refine XL_op tt_ok rfl rfl ?_; try (refine XL_dec_t (by omega) ?_))) | (refine X_id ?_; first | refine X_seq ?_ | (refine X_regionN (by repeat' (first | exact .nil | apply NL.cons)) ?_) | refine X_ret ?_ | refine X_cond_t rfl ?_) | (refine Y_id ?_; first | refine Y_then ?_ | refine Y_then_ret ?_))
  all_goals first
    | exact Y_fn2 rfl rfl rfl rfl
    | skip
  
theorem nEmpty_e (p : Nat)  : FnC Try.prog 27 [ptr p] (emB p) (.tuple #[.int .i64 0, .int .i64 1]) := by
  refine Ctr.intro Try.func27 rfl rfl (by decide +kernel) fun F hpre => ?_
  repeat' (first | (refine XL_id ?_; first | refine XL_nil ?_ | (refine XG_build ?_; (refine XL_build tt_ok rfl rfl rfl rfl rfl rfl rfl ?_; refine XL_aggN (by repeat' (first | exact .nil | apply NL.cons)) ?_)) | (refine XG_call ?_; refine XL_fn (nasked_e p 0 0) rfl rfl (fun g hg hL => blk_le hpre hg) ?_) | (refine XL_op tt_ok rfl rfl ?_; try (refine XL_dec_t (by omega) ?_))) | (refine X_id ?_; first | refine X_seq ?_ | (refine X_regionN (by repeat' (exact .nil)) ?_) | refine X_ret ?_ | refine X_cond_t rfl ?_) | (refine Y_id ?_; first | refine Y_then ?_ | refine Y_then_ret ?_))
  all_goals first
    | exact Y_fn2 rfl rfl rfl rfl
    | skip
  
theorem nAll_n  : FnC Try.prog 17 [.pointer none] (fun _ => True) (.slice none 0 0) := by
  refine Ctr.intro Try.func17 rfl rfl (by decide +kernel) fun F hpre => ?_
  repeat' (first | (refine XL_id ?_; first | refine XL_nil ?_ | (refine XL_op tt_ok rfl rfl ?_; try (refine XL_dec_t (by omega) ?_))) | (refine X_id ?_; first | refine X_seq ?_ | (refine X_regionN (by repeat' (exact .nil)) ?_) | refine X_ret ?_ | refine X_cond_t rfl ?_) | (refine Y_id ?_; first | refine Y_then ?_ | refine Y_then_ret ?_))
  all_goals first
    | exact Y_fn1 rfl rfl rfl
    | skip
  
theorem nAll_e (p : Nat) : FnC Try.prog 17 [ptr p] (emB p) (.slice none 0 0) := by
  have hcl : FnC Try.prog 34 [.slice none 0 0] (fun _ => True) (.slice none 0 0) := by
    refine Ctr.intro Try.func34 rfl rfl (by decide +kernel) fun F hpre => ?_
    repeat' (first | (refine XL_id ?_; first | refine XL_nil ?_ | (refine XL_op tt_ok rfl rfl ?_; try (refine XL_dec_t (by omega) ?_))) | (refine X_id ?_; first | refine X_seq ?_ | (refine X_regionN (by repeat' (exact .nil)) ?_) | refine X_ret ?_ | refine X_cond_t rfl ?_) | (refine Y_id ?_; first | refine Y_then ?_ | refine Y_then_ret ?_))
    all_goals exact Y_fn1 rfl rfl rfl
  have hrv : FnC Try.prog 35 [.slice none 0 0] (fun _ => True) (.tuple #[]) := by
    refine Ctr.intro Try.func35 rfl rfl (by decide +kernel) fun F hpre => ?_
    repeat' (first | (refine XL_id ?_; first | refine XL_nil ?_ | (refine XL_op tt_ok rfl rfl ?_; try (first | refine XL_int (wrap_i64 (by omega) (by omega)) ?_ | refine XL_dec_f (by omega) ?_))) | (refine X_id ?_; first | refine X_unroll 1 ?_ | refine X_seq ?_ | (refine X_regionN (by repeat' (exact .nil)) ?_) | refine X_exit ?_ | refine X_block ?_ | refine X_cond_f rfl ?_) | (refine Y_id ?_; first | refine Y_then ?_ | refine Y_then_exit ?_ | refine Y_block_hit ?_))
    all_goals exact Y_end0 rfl (L' := []) (fun _ _ => trivial) ⟨rfl, rfl⟩
  refine Ctr.intro Try.func17 rfl rfl (by decide +kernel) fun F hpre => ?_
  repeat' (first | (refine XL_id ?_; first | refine XL_nil ?_ | (refine XG_load ?_; refine XL_loadF tt_ok rfl (by assumption) rfl rfl rfl rfl ?_) | (refine XG_call ?_; first | refine XL_fn hcl rfl rfl (fun _ _ _ => trivial) ?_ | refine XL_fn hrv rfl rfl (fun _ _ _ => trivial) ?_) | (refine XL_op tt_ok rfl rfl ?_)) | (refine X_id ?_; first | refine X_seq ?_ | (refine X_regionN (by repeat' (exact .nil)) ?_) | refine X_skip ?_ | refine X_ret ?_ | refine X_cond_f rfl ?_) | (refine Y_id ?_; refine Y_then ?_))
  all_goals exact Y_fn1 rfl rfl rfl
theorem qasked_n (a pg : Int) : FnC Try.prog 52 [.pointer none, .int .i64 a, .int .i64 pg] (fun _ => True) (.int .i64 1) := by
  refine Ctr.intro Try.func52 rfl rfl (by decide +kernel) fun F hpre => ?_
  repeat' (first | (refine XL_id ?_; first | refine XL_nil ?_ | refine XL_guard_no rfl rfl rfl rfl rfl ?_ | (refine XL_op tt_ok rfl rfl ?_; try (refine XL_dec_t (by omega) ?_))) | (refine X_id ?_; first | refine X_seq ?_ | (refine X_regionN (by repeat' (exact .nil)) ?_) | refine X_ret ?_ | refine X_cond_t rfl ?_) | (refine Y_id ?_; first | refine Y_then ?_ | refine Y_then_ret ?_))
  all_goals first
    | exact Y_fn1 rfl rfl rfl
    | skip
  
theorem qPeek_n (a pg : Int) : FnC Try.prog 39 [.pointer none, .int .i64 a, .int .i64 pg] (fun _ => True) (peekV (tr0, false, 1)) := by
  refine Ctr.intro Try.func39 rfl rfl (by decide +kernel) fun F hpre => ?_
  repeat' (first | (refine XL_id ?_; first | refine XL_nil ?_ | (refine XG_build ?_; (refine XL_build tt_ok rfl rfl rfl rfl rfl rfl rfl ?_; refine XL_aggN (by repeat' (first | exact .nil | apply NL.cons)) ?_)) | (refine XG_call ?_; refine XL_fn (qasked_n a pg) rfl rfl (fun _ _ _ => trivial) ?_) | (refine XG_alloc ?_; (refine XL_alloc tt_ok rfl rfl (fun _ => rfl) (fun b => ?_); refine XL_nB (by repeat' (first | exact .nil | apply NL.cons)) ?_)) | (refine XG_store ?_; (refine XL_storeW tt_ok 0 rfl rfl rfl rfl rfl rfl rfl ?_; refine XL_nK 0 rfl (by repeat' (first | exact .nil | apply NL.cons)) ?_)) | (refine XL_op tt_ok rfl rfl ?_; try (refine XL_dec_t (by omega) ?_))) | (refine X_id ?_; first | refine X_seq ?_ | (refine X_regionN (by repeat' (first | exact .nil | apply NL.cons)) ?_) | refine X_ret ?_ | refine X_cond_t rfl ?_) | (refine Y_id ?_; first | refine Y_then ?_ | refine Y_then_ret ?_))
  all_goals first
    | exact Y_res3 rfl (.cell tt_ok 0 rfl rfl rfl rfl rfl) (.tmp rfl) (.tmp rfl) (L' := []) (fun _ _ => trivial) ⟨rfl, rfl⟩
    | exact Y_res3 rfl (.cell tt_ok 1 rfl rfl rfl rfl rfl) (.tmp rfl) (.tmp rfl) (L' := []) (fun _ _ => trivial) ⟨rfl, rfl⟩
    | skip
    | skip
  
theorem qFind_n (a pg : Int) : FnC Try.prog 38 [.pointer none, .int .i64 a, .int .i64 pg] (fun _ => True) (peekV (tr0, false, 1)) := by
  refine Ctr.intro Try.func38 rfl rfl (by decide +kernel) fun F hpre => ?_
  repeat' (first | (refine XL_id ?_; first | refine XL_nil ?_ | (refine XG_load ?_; refine XL_loadW tt_ok 0 rfl rfl rfl rfl rfl rfl ?_) | (refine XG_call ?_; refine XL_fn (qPeek_n a pg) rfl rfl (fun _ _ _ => trivial) ?_) | (refine XG_alloc ?_; (refine XL_alloc tt_ok rfl rfl (fun _ => rfl) (fun b => ?_); refine XL_nB (by repeat' (first | exact .nil | apply NL.cons)) ?_)) | (refine XG_store ?_; first | (refine XL_storeW tt_ok 0 rfl rfl rfl rfl rfl rfl rfl ?_; refine XL_nK 0 rfl (by repeat' (first | exact .nil | apply NL.cons)) ?_) | (refine XL_storeW tt_ok 1 rfl rfl rfl rfl rfl rfl rfl ?_; refine XL_nK 1 rfl (by repeat' (first | exact .nil | apply NL.cons)) ?_)) | (refine XL_op tt_ok rfl rfl ?_)) | (refine X_id ?_; first | refine X_seq ?_ | (refine X_regionN (by repeat' (first | exact .nil | apply NL.cons)) ?_) | refine X_skip ?_ | refine X_ret ?_ | refine X_cond_f rfl ?_) | (refine Y_id ?_; refine Y_then ?_))
  all_goals first
    | exact Y_res3 rfl (.cell tt_ok 0 rfl rfl rfl rfl rfl) (.tmp rfl) (.tmp rfl) (L' := []) (fun _ _ => trivial) ⟨rfl, rfl⟩
    | exact Y_res3 rfl (.cell tt_ok 1 rfl rfl rfl rfl rfl) (.tmp rfl) (.tmp rfl) (L' := []) (fun _ _ => trivial) ⟨rfl, rfl⟩
    | skip
    | skip
  
theorem qFill_n (x : Tr) : FnC Try.prog 40 [.pointer none, trV x] (fun _ => True) (.int .i64 1) := by
  refine Ctr.intro Try.func40 rfl rfl (by decide +kernel) fun F hpre => ?_
  repeat' (first | (refine XL_id ?_; first | refine XL_nil ?_ | (refine XG_load ?_; refine XL_load tt_ok 0 rfl rfl rfl rfl rfl rfl ?_) | (refine XG_box ?_; (refine XL_box rfl (fun _ => rfl) (fun _ => ?_); refine XL_nB (by repeat' (first | exact .nil | apply NL.cons)) ?_)) | (refine XG_call ?_; refine XL_fn (qasked_n x.a x.p) rfl rfl (fun _ _ _ => trivial) ?_) | (refine XL_op tt_ok rfl rfl ?_; try (refine XL_dec_t (by omega) ?_))) | (refine X_id ?_; first | refine X_seq ?_ | (refine X_regionN (by repeat' (first | exact .nil | apply NL.cons)) ?_) | refine X_ret ?_ | refine X_cond_t rfl ?_) | (refine Y_id ?_; first | refine Y_then ?_ | refine Y_then_ret ?_))
  all_goals first
    | exact Y_fn1 rfl rfl rfl
    | skip
  
theorem qMark_n (a pg : Int) : FnC Try.prog 41 [.pointer none, .int .i64 a, .int .i64 pg] (fun _ => True) (.tuple #[.bool false, .int .i64 1]) := by
  refine Ctr.intro Try.func41 rfl rfl (by decide +kernel) fun F hpre => ?_
  repeat' (first | (refine XL_id ?_; first | refine XL_nil ?_ | (refine XG_call ?_; refine XL_fn (qPeek_n a pg) rfl rfl (fun _ _ _ => trivial) ?_) | (refine XG_alloc ?_; (refine XL_alloc tt_ok rfl rfl (fun _ => rfl) (fun b => ?_); refine XL_nB (by repeat' (first | exact .nil | apply NL.cons)) ?_)) | (refine XG_store ?_; (refine XL_storeW tt_ok 0 rfl rfl rfl rfl rfl rfl rfl ?_; refine XL_nK 0 rfl (by repeat' (first | exact .nil | apply NL.cons)) ?_)) | (refine XL_op tt_ok rfl rfl ?_)) | (refine X_id ?_; first | refine X_seq ?_ | (refine X_regionN (by repeat' (first | exact .nil | apply NL.cons)) ?_) | refine X_skip ?_ | refine X_ret ?_ | refine X_cond_f rfl ?_) | (refine Y_id ?_; refine Y_then ?_))
  all_goals first
    | exact Y_fn2 rfl rfl rfl rfl
    | skip
  
theorem qDrop_n (a pg : Int) : FnC Try.prog 42 [.pointer none, .int .i64 a, .int .i64 pg] (fun _ => True) (.tuple #[.bool false, .int .i64 1]) := by
  refine Ctr.intro Try.func42 rfl rfl (by decide +kernel) fun F hpre => ?_
  repeat' (first | (refine XL_id ?_; first | refine XL_nil ?_ | (refine XG_call ?_; refine XL_fn (qPeek_n a pg) rfl rfl (fun _ _ _ => trivial) ?_) | (refine XG_alloc ?_; (refine XL_alloc tt_ok rfl rfl (fun _ => rfl) (fun b => ?_); refine XL_nB (by repeat' (first | exact .nil | apply NL.cons)) ?_)) | (refine XG_store ?_; (refine XL_storeW tt_ok 0 rfl rfl rfl rfl rfl rfl rfl ?_; refine XL_nK 0 rfl (by repeat' (first | exact .nil | apply NL.cons)) ?_)) | (refine XL_op tt_ok rfl rfl ?_)) | (refine X_id ?_; first | refine X_seq ?_ | (refine X_regionN (by repeat' (first | exact .nil | apply NL.cons)) ?_) | refine X_skip ?_ | refine X_ret ?_ | refine X_cond_f rfl ?_) | (refine Y_id ?_; refine Y_then ?_))
  all_goals first
    | exact Y_fn2 rfl rfl rfl rfl
    | skip
  
theorem qDropAll_n (a : Int) : FnC Try.prog 43 [.pointer none, .int .i64 a] (fun _ => True) (.tuple #[.int .i64 0, .int .i64 1]) := by
  refine Ctr.intro Try.func43 rfl rfl (by decide +kernel) fun F hpre => ?_
  repeat' (first | (refine XL_id ?_; first | refine XL_nil ?_ | (refine XG_call ?_; refine XL_fn (qasked_n a 0) rfl rfl (fun _ _ _ => trivial) ?_) | (refine XL_op tt_ok rfl rfl ?_; try (refine XL_dec_t (by omega) ?_))) | (refine X_id ?_; first | refine X_seq ?_ | (refine X_regionN (by repeat' (exact .nil)) ?_) | refine X_ret ?_ | refine X_cond_t rfl ?_) | (refine Y_id ?_; first | refine Y_then ?_ | refine Y_then_ret ?_))
  all_goals first
    | exact Y_fn2 rfl rfl rfl rfl
    | skip
  
theorem qEmpty_n  : FnC Try.prog 44 [.pointer none] (fun _ => True) (.tuple #[.int .i64 0, .int .i64 1]) := by
  refine Ctr.intro Try.func44 rfl rfl (by decide +kernel) fun F hpre => ?_
  repeat' (first | (refine XL_id ?_; first | refine XL_nil ?_ | (refine XG_call ?_; refine XL_fn (qasked_n 0 0) rfl rfl (fun _ _ _ => trivial) ?_) | (refine XL_op tt_ok rfl rfl ?_; try (refine XL_dec_t (by omega) ?_))) | (refine X_id ?_; first | refine X_seq ?_ | (refine X_regionN (by repeat' (exact .nil)) ?_) | refine X_ret ?_ | refine X_cond_t rfl ?_) | (refine Y_id ?_; first | refine Y_then ?_ | refine Y_then_ret ?_))
  all_goals first
    | exact Y_fn2 rfl rfl rfl rfl
    | skip
  
theorem qAll_n  : FnC Try.prog 25 [.pointer none] (fun _ => True) (.slice none 0 0) := by
  refine Ctr.intro Try.func25 rfl rfl (by decide +kernel) fun F hpre => ?_
  repeat' (first | (refine XL_id ?_; first | refine XL_nil ?_ | (refine XL_op tt_ok rfl rfl ?_; try (refine XL_dec_t (by omega) ?_))) | (refine X_id ?_; first | refine X_seq ?_ | (refine X_regionN (by repeat' (exact .nil)) ?_) | refine X_ret ?_ | refine X_cond_t rfl ?_) | (refine Y_id ?_; first | refine Y_then ?_ | refine Y_then_ret ?_))
  all_goals first
    | exact Y_fn1 rfl rfl rfl
    | skip
  
set_option maxRecDepth 100000 in
set_option maxHeartbeats 16000000 in
theorem done_nil (y : Dd) (hy : y.In) : FnC Try.prog 24 [.pointer none, .pointer none, ddV y] (fun _ => True) (.bool true) := by
  have x1 := hy.k
  have hk8 : y.k % 7 = 0 ∨ y.k % 7 = 1 ∨ y.k % 7 = 2 ∨ y.k % 7 = 3 ∨ y.k % 7 = 4 ∨ y.k % 7 = 5 ∨ y.k % 7 = 6 := by omega
  have hkd := kind_spec y.k 7 x1.1 x1.2 (by decide) (by decide)
  refine Ctr.intro Try.func24 rfl rfl (by decide +kernel) fun F hpre => ?_
  rcases hk8 with hk | hk | hk | hk | hk | hk | hk
  · repeat' (first | (refine XL_id ?_; first | (refine XL_eq (a := tr0) (b := tr0) eqTr rfl rfl rfl ?_; refine XL_dec_t rfl ?_) | refine XL_nil ?_ | refine XL_guard_yes rfl rfl rfl ?_ | (refine XG_load ?_; first | refine XL_loadW tt_ok 0 rfl rfl rfl rfl rfl rfl ?_ | refine XL_loadW tt_ok 1 rfl rfl rfl rfl rfl rfl ?_ | refine XL_load tt_ok 0 rfl rfl rfl rfl rfl rfl ?_) | (refine XG_box ?_; (refine XL_box rfl (fun _ => rfl) (fun _ => ?_); refine XL_nB (by repeat' (first | exact .nil | apply NL.cons)) ?_)) | (refine XG_call ?_; first | refine XL_fn hkd rfl rfl (fun _ _ _ => trivial) ?_ | refine XL_fn (nFind_n _ _) rfl rfl (fun _ _ _ => trivial) ?_ | refine XL_fn (qFind_n _ _) rfl rfl (fun _ _ _ => trivial) ?_) | (refine XG_alloc ?_; (refine XL_alloc tt_ok rfl rfl (fun _ => rfl) (fun b => ?_); refine XL_nB (by repeat' (first | exact .nil | apply NL.cons)) ?_)) | (refine XG_store ?_; (refine XL_storeW tt_ok 0 rfl rfl rfl rfl rfl rfl rfl ?_; refine XL_nK 0 rfl (by repeat' (first | exact .nil | apply NL.cons)) ?_)) | (refine XL_op tt_ok rfl rfl ?_; try (first | refine XL_dec_t (by omega) ?_ | refine XL_dec_t (by decide +kernel) ?_))) | (refine XD_id ?_; first | (refine XD_thaw thaw ?_; refine XD_nil ?_) | (refine XD_id ?_; (first | (refine XD_uL rfl ?_; refine XD_s rfl rfl rfl (XV_load tt_ok rfl (blk_at 0 rfl hM) rfl rfl rfl) rfl ?_) | (refine XD_u rfl rfl ?_; refine XD_s rfl rfl rfl (XV_op tt_ok rfl) rfl ?_)))) | (refine X_id ?_; first | (refine X_drawS (id := 1) [0, 1, 2, 3, 4, 5, 6, 7] (fun _ => .s) 8 (by repeat' (first | exact Split.nil | apply Split.blk)) mixed (by decide +kernel) ?_; intro G hFG hM thaw; show XD _ _ _ _ _ _ [0, 1, 2, 3, 4, 5, 6, 7] _ _ _) | refine X_seq ?_ | (refine X_regionN (by repeat' (first | exact .nil | apply NL.cons)) ?_) | refine X_ret ?_ | refine X_block ?_ | refine X_cond_t rfl ?_) | (refine Y_id ?_; first | refine Y_then ?_ | refine Y_then_ret ?_ | refine Y_block_ret ?_))
    all_goals first
      | exact Y_fn1 rfl rfl rfl
      | (exfalso; omega)
      | skip
    
  · repeat' (first | (refine XL_id ?_; first | (refine XL_eq (a := tr0) (b := tr0) eqTr rfl rfl rfl ?_; refine XL_dec_t rfl ?_) | refine XL_nil ?_ | refine XL_guard_yes rfl rfl rfl ?_ | (refine XG_load ?_; first | refine XL_loadW tt_ok 0 rfl rfl rfl rfl rfl rfl ?_ | refine XL_loadW tt_ok 1 rfl rfl rfl rfl rfl rfl ?_ | refine XL_load tt_ok 0 rfl rfl rfl rfl rfl rfl ?_) | (refine XG_box ?_; (refine XL_box rfl (fun _ => rfl) (fun _ => ?_); refine XL_nB (by repeat' (first | exact .nil | apply NL.cons)) ?_)) | (refine XG_call ?_; first | refine XL_fn hkd rfl rfl (fun _ _ _ => trivial) ?_ | refine XL_fn (nPeek_n _ _) rfl rfl (fun _ _ _ => trivial) ?_ | refine XL_fn (qPeek_n _ _) rfl rfl (fun _ _ _ => trivial) ?_) | (refine XG_alloc ?_; (refine XL_alloc tt_ok rfl rfl (fun _ => rfl) (fun b => ?_); refine XL_nB (by repeat' (first | exact .nil | apply NL.cons)) ?_)) | (refine XG_store ?_; (refine XL_storeW tt_ok 0 rfl rfl rfl rfl rfl rfl rfl ?_; refine XL_nK 0 rfl (by repeat' (first | exact .nil | apply NL.cons)) ?_)) | (refine XL_op tt_ok rfl rfl ?_; try (first | refine XL_dec_t (by omega) ?_ | refine XL_dec_f (by omega) ?_ | refine XL_dec_t (by decide +kernel) ?_))) | (refine XD_id ?_; first | (refine XD_thaw thaw ?_; refine XD_nil ?_) | (refine XD_id ?_; (first | (refine XD_uL rfl ?_; refine XD_s rfl rfl rfl (XV_load tt_ok rfl (blk_at 0 rfl hM) rfl rfl rfl) rfl ?_) | (refine XD_u rfl rfl ?_; refine XD_s rfl rfl rfl (XV_op tt_ok rfl) rfl ?_)))) | (refine X_id ?_; first | (refine X_drawS (id := 1) [0, 1, 2, 3, 4, 5, 6, 7] (fun _ => .s) 8 (by repeat' (first | exact Split.nil | apply Split.blk)) mixed (by decide +kernel) ?_; intro G hFG hM thaw; show XD _ _ _ _ _ _ [0, 1, 2, 3, 4, 5, 6, 7] _ _ _) | refine X_seq ?_ | (refine X_regionN (by repeat' (first | exact .nil | apply NL.cons)) ?_) | refine X_ret ?_ | refine X_block ?_ | refine X_cond_t rfl ?_ | refine X_cond_f rfl ?_) | (refine Y_id ?_; first | refine Y_then ?_ | refine Y_then_ret ?_ | refine Y_block_ret ?_))
    all_goals first
      | exact Y_fn1 rfl rfl rfl
      | (exfalso; omega)
      | skip
    
  · repeat' (first | (refine XL_id ?_; first | refine XL_nil ?_ | (refine XG_load ?_; refine XL_load tt_ok 0 rfl rfl rfl rfl rfl rfl ?_) | (refine XG_box ?_; (refine XL_box rfl (fun _ => rfl) (fun _ => ?_); refine XL_nB (by repeat' (first | exact .nil | apply NL.cons)) ?_)) | (refine XG_call ?_; first | refine XL_fn hkd rfl rfl (fun _ _ _ => trivial) ?_ | refine XL_fn (nFill_n y.x) rfl rfl (fun _ _ _ => trivial) ?_ | refine XL_fn (qFill_n y.x) rfl rfl (fun _ _ _ => trivial) ?_) | (refine XL_op tt_ok rfl rfl ?_; try (first | refine XL_dec_t (by omega) ?_ | refine XL_dec_f (by omega) ?_))) | (refine XD_id ?_; first | (refine XD_thaw thaw ?_; refine XD_nil ?_) | (refine XD_id ?_; (first | (refine XD_uL rfl ?_; refine XD_s rfl rfl rfl (XV_load tt_ok rfl (blk_at 0 rfl hM) rfl rfl rfl) rfl ?_) | (refine XD_u rfl rfl ?_; refine XD_s rfl rfl rfl (XV_op tt_ok rfl) rfl ?_)); try (refine XD_dec_t (by omega) ?_)) | refine XD_m rfl rfl ?_) | (refine X_id ?_; first | (refine X_drawS (id := 1) [0, 1, 2, 3, 4, 5, 6, 7] (fun _ => .s) 8 (by repeat' (first | exact Split.nil | apply Split.blk)) mixed (by decide +kernel) ?_; intro G hFG hM thaw; show XD _ _ _ _ _ _ [0, 1, 2, 3, 4, 5, 6, 7] _ _ _) | (refine X_drawS (id := 12) [0, 1, 2, 4, 5, 6, 3, 7, 8, 9] (fun | 3 => .m | 7 => .m | _ => .s) 8 (by repeat' (first | exact Split.nil | apply Split.blk)) mixed (by decide +kernel) ?_; intro G hFG hM thaw; show XD _ _ _ _ _ _ [0, 1, 2, 4, 5, 6, 3, 7, 8, 9] _ _ _) | refine X_seq ?_ | (refine X_regionN (by repeat' (first | exact .nil | apply NL.cons)) ?_) | refine X_ret ?_ | refine X_block ?_ | refine X_cond_t rfl ?_ | refine X_cond_f rfl ?_) | (refine Y_id ?_; first | refine Y_then ?_ | refine Y_then_ret ?_ | refine Y_block_ret ?_ | refine Y_m ?_))
    all_goals first
      | exact Y_fn1 rfl rfl rfl
      | (exfalso; omega)
      | skip
    
  · repeat' (first | (refine XL_id ?_; first | refine XL_nil ?_ | refine XL_guard_yes rfl rfl rfl ?_ | (refine XG_load ?_; refine XL_load tt_ok 0 rfl rfl rfl rfl rfl rfl ?_) | (refine XG_box ?_; (refine XL_box rfl (fun _ => rfl) (fun _ => ?_); refine XL_nB (by repeat' (first | exact .nil | apply NL.cons)) ?_)) | (refine XG_call ?_; first | refine XL_fn hkd rfl rfl (fun _ _ _ => trivial) ?_ | refine XL_fn (nMark_n _ _) rfl rfl (fun _ _ _ => trivial) ?_ | refine XL_fn (qMark_n _ _) rfl rfl (fun _ _ _ => trivial) ?_) | (refine XL_op tt_ok rfl rfl ?_; try (first | refine XL_dec_t (by omega) ?_ | refine XL_dec_f (by omega) ?_ | refine XL_dec_t (by decide +kernel) ?_))) | (refine XD_id ?_; first | (refine XD_thaw thaw ?_; refine XD_nil ?_) | (refine XD_id ?_; (first | (refine XD_uL rfl ?_; refine XD_s rfl rfl rfl (XV_load tt_ok rfl (blk_at 0 rfl hM) rfl rfl rfl) rfl ?_) | (refine XD_u rfl rfl ?_; refine XD_s rfl rfl rfl (XV_op tt_ok rfl) rfl ?_)))) | (refine X_id ?_; first | (refine X_drawS (id := 1) [0, 1, 2, 3, 4, 5, 6, 7] (fun _ => .s) 8 (by repeat' (first | exact Split.nil | apply Split.blk)) mixed (by decide +kernel) ?_; intro G hFG hM thaw; show XD _ _ _ _ _ _ [0, 1, 2, 3, 4, 5, 6, 7] _ _ _) | refine X_seq ?_ | (refine X_regionN (by repeat' (first | exact .nil | apply NL.cons)) ?_) | refine X_ret ?_ | refine X_block ?_ | refine X_cond_t rfl ?_ | refine X_cond_f rfl ?_) | (refine Y_id ?_; first | refine Y_then ?_ | refine Y_then_ret ?_ | refine Y_block_ret ?_))
    all_goals first
      | exact Y_fn1 rfl rfl rfl
      | (exfalso; omega)
      | skip
    
  · repeat' (first | (refine XL_id ?_; first | refine XL_nil ?_ | refine XL_guard_yes rfl rfl rfl ?_ | (refine XG_load ?_; refine XL_load tt_ok 0 rfl rfl rfl rfl rfl rfl ?_) | (refine XG_box ?_; (refine XL_box rfl (fun _ => rfl) (fun _ => ?_); refine XL_nB (by repeat' (first | exact .nil | apply NL.cons)) ?_)) | (refine XG_call ?_; first | refine XL_fn hkd rfl rfl (fun _ _ _ => trivial) ?_ | refine XL_fn (nDrop_n _ _) rfl rfl (fun _ _ _ => trivial) ?_ | refine XL_fn (qDrop_n _ _) rfl rfl (fun _ _ _ => trivial) ?_) | (refine XL_op tt_ok rfl rfl ?_; try (first | refine XL_dec_t (by omega) ?_ | refine XL_dec_f (by omega) ?_ | refine XL_dec_t (by decide +kernel) ?_))) | (refine XD_id ?_; first | (refine XD_thaw thaw ?_; refine XD_nil ?_) | (refine XD_id ?_; (first | (refine XD_uL rfl ?_; refine XD_s rfl rfl rfl (XV_load tt_ok rfl (blk_at 0 rfl hM) rfl rfl rfl) rfl ?_) | (refine XD_u rfl rfl ?_; refine XD_s rfl rfl rfl (XV_op tt_ok rfl) rfl ?_)))) | (refine X_id ?_; first | (refine X_drawS (id := 1) [0, 1, 2, 3, 4, 5, 6, 7] (fun _ => .s) 8 (by repeat' (first | exact Split.nil | apply Split.blk)) mixed (by decide +kernel) ?_; intro G hFG hM thaw; show XD _ _ _ _ _ _ [0, 1, 2, 3, 4, 5, 6, 7] _ _ _) | refine X_seq ?_ | (refine X_regionN (by repeat' (first | exact .nil | apply NL.cons)) ?_) | refine X_ret ?_ | refine X_block ?_ | refine X_cond_t rfl ?_ | refine X_cond_f rfl ?_) | (refine Y_id ?_; first | refine Y_then ?_ | refine Y_then_ret ?_ | refine Y_block_ret ?_))
    all_goals first
      | exact Y_fn1 rfl rfl rfl
      | (exfalso; omega)
      | skip
    
  · repeat' (first | (refine XL_id ?_; first | refine XL_nil ?_ | refine XL_guard_yes rfl rfl rfl ?_ | (refine XG_load ?_; refine XL_load tt_ok 0 rfl rfl rfl rfl rfl rfl ?_) | (refine XG_box ?_; (refine XL_box rfl (fun _ => rfl) (fun _ => ?_); refine XL_nB (by repeat' (first | exact .nil | apply NL.cons)) ?_)) | (refine XG_call ?_; first | refine XL_fn hkd rfl rfl (fun _ _ _ => trivial) ?_ | refine XL_fn (nDropAll_n _) rfl rfl (fun _ _ _ => trivial) ?_ | refine XL_fn (qDropAll_n _) rfl rfl (fun _ _ _ => trivial) ?_) | (refine XL_op tt_ok rfl rfl ?_; try (first | refine XL_dec_t (by omega) ?_ | refine XL_dec_f (by omega) ?_))) | (refine XD_id ?_; first | (refine XD_thaw thaw ?_; refine XD_nil ?_) | (refine XD_id ?_; (first | (refine XD_uL rfl ?_; refine XD_s rfl rfl rfl (XV_load tt_ok rfl (blk_at 0 rfl hM) rfl rfl rfl) rfl ?_) | (refine XD_u rfl rfl ?_; refine XD_s rfl rfl rfl (XV_op tt_ok rfl) rfl ?_)))) | (refine X_id ?_; first | (refine X_drawS (id := 1) [0, 1, 2, 3, 4, 5, 6, 7] (fun _ => .s) 8 (by repeat' (first | exact Split.nil | apply Split.blk)) mixed (by decide +kernel) ?_; intro G hFG hM thaw; show XD _ _ _ _ _ _ [0, 1, 2, 3, 4, 5, 6, 7] _ _ _) | refine X_seq ?_ | (refine X_regionN (by repeat' (first | exact .nil | apply NL.cons)) ?_) | refine X_ret ?_ | refine X_block ?_ | refine X_cond_t rfl ?_ | refine X_cond_f rfl ?_) | (refine Y_id ?_; first | refine Y_then ?_ | refine Y_then_ret ?_ | refine Y_block_ret ?_))
    all_goals first
      | exact Y_fn1 rfl rfl rfl
      | (exfalso; omega)
      | skip
    
  · repeat' (first | (refine XL_id ?_; first | refine XL_nil ?_ | refine XL_guard_yes rfl rfl rfl ?_ | (refine XG_load ?_; refine XL_load tt_ok 0 rfl rfl rfl rfl rfl rfl ?_) | (refine XG_box ?_; (refine XL_box rfl (fun _ => rfl) (fun _ => ?_); refine XL_nB (by repeat' (first | exact .nil | apply NL.cons)) ?_)) | (refine XG_call ?_; first | refine XL_fn hkd rfl rfl (fun _ _ _ => trivial) ?_ | refine XL_fn (nEmpty_n) rfl rfl (fun _ _ _ => trivial) ?_ | refine XL_fn (qEmpty_n) rfl rfl (fun _ _ _ => trivial) ?_) | (refine XL_op tt_ok rfl rfl ?_; try (first | refine XL_dec_t (by omega) ?_ | refine XL_dec_f (by omega) ?_))) | (refine XD_id ?_; first | (refine XD_thaw thaw ?_; refine XD_nil ?_) | (refine XD_id ?_; (first | (refine XD_uL rfl ?_; refine XD_s rfl rfl rfl (XV_load tt_ok rfl (blk_at 0 rfl hM) rfl rfl rfl) rfl ?_) | (refine XD_u rfl rfl ?_; refine XD_s rfl rfl rfl (XV_op tt_ok rfl) rfl ?_)))) | (refine X_id ?_; first | (refine X_drawS (id := 1) [0, 1, 2, 3, 4, 5, 6, 7] (fun _ => .s) 8 (by repeat' (first | exact Split.nil | apply Split.blk)) mixed (by decide +kernel) ?_; intro G hFG hM thaw; show XD _ _ _ _ _ _ [0, 1, 2, 3, 4, 5, 6, 7] _ _ _) | refine X_seq ?_ | (refine X_regionN (by repeat' (first | exact .nil | apply NL.cons)) ?_) | refine X_skip ?_ | refine X_ret ?_ | refine X_block ?_ | refine X_cond_f rfl ?_) | (refine Y_id ?_; first | refine Y_then ?_ | refine Y_block_normal ?_))
    all_goals first
      | exact Y_fn1 rfl rfl rfl
      | (exfalso; omega)
      | skip
    
end Go.Proofs.Ytocilbkjbikeeaa
