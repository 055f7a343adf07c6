/- Walks, on: entries and tables of a page; runs. -/
import Derived.Test.YtgoebgefhgffcaaDefs
set_option linter.unusedVariables false
namespace Go.Proofs.Ytgoebgefhgffcaa
open Go.RowKit Go.Cof

set_option maxHeartbeats 8000000 in
theorem index_spec (p k : Int) : FnC Try.prog 16 [iV p, iV k] (fun _ => True) (pr2 (iV (indexF p k).1) (iV (indexF p k).2)) := by
  unfold indexF
  have h1 := pageMay_spec p
  by_cases hc : lvl p k
  · rw [if_pos hc]
    unfold lvl at hc
    have h4 : k = 0 ∨ k = 1 ∨ k = 2 ∨ k = 3 := by omega
    rcases h4 with rfl | rfl | rfl | rfl
    · have e : (1 : Int) = 1 := rfl
      show FnC _ _ _ _ (pr2 (iV (p / 1 % 32)) (iV 0))
      refine Ctr.intro Try.func16 rfl rfl (by decide +kernel) fun F hpre => ?_
      repeat' (first | (refine XL_id ?_; first | refine XL_nil ?_ | refine XL_guard_yes rfl rfl rfl ?_ | refine XL_guard_no rfl rfl rfl rfl rfl ?_ | (refine XG_call ?_; (refine XL_fn h1 rfl rfl (fun _ _ _ => trivial) ?_; refine XL_dec (fun _ => ?_) (fun _ => ?_))) | (refine XL_op tt_ok rfl rfl ?_; refine XL_int (show p / _ = p / 1 from rfl) ?_) | (refine XL_op tt_ok rfl rfl ?_; refine XL_int (and31 (by omega) (by omega)) ?_) | (refine XL_op tt_ok rfl rfl ?_; try (first | refine XL_int (wrap_i64 (by omega) (by omega)) ?_ | refine XL_dec_f (by omega) ?_))) | (refine X_id ?_; first | refine X_seq ?_ | (refine X_regionN (by repeat' (exact .nil)) ?_) | refine X_skip ?_ | refine X_ret ?_ | refine X_cond_t rfl ?_ | refine X_cond_f rfl ?_) | (refine Y_id ?_; first | refine Y_then ?_ | refine Y_then_ret ?_))
      all_goals first
        | exact Y_fn2 rfl rfl rfl rfl
        | (exfalso; omega)
        | skip
      
    · have e : (32 : Int) = 32 := rfl
      show FnC _ _ _ _ (pr2 (iV (p / 32 % 32)) (iV 0))
      refine Ctr.intro Try.func16 rfl rfl (by decide +kernel) fun F hpre => ?_
      repeat' (first | (refine XL_id ?_; first | refine XL_nil ?_ | refine XL_guard_yes rfl rfl rfl ?_ | refine XL_guard_no rfl rfl rfl rfl rfl ?_ | (refine XG_call ?_; (refine XL_fn h1 rfl rfl (fun _ _ _ => trivial) ?_; refine XL_dec (fun _ => ?_) (fun _ => ?_))) | (refine XL_op tt_ok rfl rfl ?_; refine XL_int (show p / _ = p / 32 from rfl) ?_) | (refine XL_op tt_ok rfl rfl ?_; refine XL_int (and31 (by omega) (by omega)) ?_) | (refine XL_op tt_ok rfl rfl ?_; try (first | refine XL_int (wrap_i64 (by omega) (by omega)) ?_ | refine XL_dec_f (by omega) ?_))) | (refine X_id ?_; first | refine X_seq ?_ | (refine X_regionN (by repeat' (exact .nil)) ?_) | refine X_skip ?_ | refine X_ret ?_ | refine X_cond_t rfl ?_ | refine X_cond_f rfl ?_) | (refine Y_id ?_; first | refine Y_then ?_ | refine Y_then_ret ?_))
      all_goals first
        | exact Y_fn2 rfl rfl rfl rfl
        | (exfalso; omega)
        | skip
      
    · have e : (1024 : Int) = 1024 := rfl
      show FnC _ _ _ _ (pr2 (iV (p / 1024 % 32)) (iV 0))
      refine Ctr.intro Try.func16 rfl rfl (by decide +kernel) fun F hpre => ?_
      repeat' (first | (refine XL_id ?_; first | refine XL_nil ?_ | refine XL_guard_yes rfl rfl rfl ?_ | refine XL_guard_no rfl rfl rfl rfl rfl ?_ | (refine XG_call ?_; (refine XL_fn h1 rfl rfl (fun _ _ _ => trivial) ?_; refine XL_dec (fun _ => ?_) (fun _ => ?_))) | (refine XL_op tt_ok rfl rfl ?_; refine XL_int (show p / _ = p / 1024 from rfl) ?_) | (refine XL_op tt_ok rfl rfl ?_; refine XL_int (and31 (by omega) (by omega)) ?_) | (refine XL_op tt_ok rfl rfl ?_; try (first | refine XL_int (wrap_i64 (by omega) (by omega)) ?_ | refine XL_dec_f (by omega) ?_))) | (refine X_id ?_; first | refine X_seq ?_ | (refine X_regionN (by repeat' (exact .nil)) ?_) | refine X_skip ?_ | refine X_ret ?_ | refine X_cond_t rfl ?_ | refine X_cond_f rfl ?_) | (refine Y_id ?_; first | refine Y_then ?_ | refine Y_then_ret ?_))
      all_goals first
        | exact Y_fn2 rfl rfl rfl rfl
        | (exfalso; omega)
        | skip
      
    · have e : (32768 : Int) = 32768 := rfl
      show FnC _ _ _ _ (pr2 (iV (p / 32768 % 32)) (iV 0))
      refine Ctr.intro Try.func16 rfl rfl (by decide +kernel) fun F hpre => ?_
      repeat' (first | (refine XL_id ?_; first | refine XL_nil ?_ | refine XL_guard_yes rfl rfl rfl ?_ | refine XL_guard_no rfl rfl rfl rfl rfl ?_ | (refine XG_call ?_; (refine XL_fn h1 rfl rfl (fun _ _ _ => trivial) ?_; refine XL_dec (fun _ => ?_) (fun _ => ?_))) | (refine XL_op tt_ok rfl rfl ?_; refine XL_int (show p / _ = p / 32768 from rfl) ?_) | (refine XL_op tt_ok rfl rfl ?_; refine XL_int (and31 (by omega) (by omega)) ?_) | (refine XL_op tt_ok rfl rfl ?_; try (first | refine XL_int (wrap_i64 (by omega) (by omega)) ?_ | refine XL_dec_f (by omega) ?_))) | (refine X_id ?_; first | refine X_seq ?_ | (refine X_regionN (by repeat' (exact .nil)) ?_) | refine X_skip ?_ | refine X_ret ?_ | refine X_cond_t rfl ?_ | refine X_cond_f rfl ?_) | (refine Y_id ?_; first | refine Y_then ?_ | refine Y_then_ret ?_))
      all_goals first
        | exact Y_fn2 rfl rfl rfl rfl
        | (exfalso; omega)
        | skip
      
  · rw [if_neg hc]
    unfold lvl at hc
    refine Ctr.intro Try.func16 rfl rfl (by decide +kernel) fun F hpre => ?_
    repeat' (first | (refine XL_id ?_; first | refine XL_nil ?_ | refine XL_guard_yes rfl rfl rfl ?_ | refine XL_guard_no rfl rfl rfl rfl rfl ?_ | (refine XG_call ?_; (refine XL_fn h1 rfl rfl (fun _ _ _ => trivial) ?_; refine XL_dec (fun _ => ?_) (fun _ => ?_))) | (refine XL_op tt_ok rfl rfl ?_; try (first | refine XL_dec_t (by omega) ?_ | refine XL_dec (fun _ => ?_) (fun _ => ?_)))) | (refine X_id ?_; first | refine X_seq ?_ | (refine X_regionN (by repeat' (exact .nil)) ?_) | refine X_ret ?_ | refine X_cond_t rfl ?_) | (refine Y_id ?_; first | refine Y_then ?_ | refine Y_then_ret ?_))
    all_goals first
      | exact Y_fn2 rfl rfl rfl rfl
      | (exfalso; omega)
      | skip
    
set_option maxHeartbeats 8000000 in
theorem table_spec (p k : Int) : FnC Try.prog 18 [iV p, iV k] (fun _ => True) (pr2 (iV (tableF p k).1) (iV (tableF p k).2)) := by
  unfold tableF
  have h1 := pageMay_spec p
  by_cases hc : lvl p k
  · rw [if_pos hc]
    unfold lvl at hc
    have h4 : k = 0 ∨ k = 1 ∨ k = 2 ∨ k = 3 := by omega
    rcases h4 with rfl | rfl | rfl | rfl
    · have e : (32 : Int) = 32 := rfl
      show FnC _ _ _ _ (pr2 (iV (p / 32)) (iV 0))
      refine Ctr.intro Try.func18 rfl rfl (by decide +kernel) fun F hpre => ?_
      repeat' (first | (refine XL_id ?_; first | refine XL_nil ?_ | refine XL_guard_yes rfl rfl rfl ?_ | refine XL_guard_no rfl rfl rfl rfl rfl ?_ | (refine XG_call ?_; (refine XL_fn h1 rfl rfl (fun _ _ _ => trivial) ?_; refine XL_dec (fun _ => ?_) (fun _ => ?_))) | (refine XL_op tt_ok rfl rfl ?_; refine XL_int (show p / _ = p / 32 from rfl) ?_) | (refine XL_op tt_ok rfl rfl ?_; try (first | refine XL_int (wrap_i64 (by omega) (by omega)) ?_ | refine XL_dec_f (by omega) ?_))) | (refine X_id ?_; first | refine X_seq ?_ | (refine X_regionN (by repeat' (exact .nil)) ?_) | refine X_skip ?_ | refine X_ret ?_ | refine X_cond_t rfl ?_ | refine X_cond_f rfl ?_) | (refine Y_id ?_; first | refine Y_then ?_ | refine Y_then_ret ?_))
      all_goals first
        | exact Y_fn2 rfl rfl rfl rfl
        | (exfalso; omega)
        | skip
      
    · have e : (1024 : Int) = 1024 := rfl
      show FnC _ _ _ _ (pr2 (iV (p / 1024)) (iV 0))
      refine Ctr.intro Try.func18 rfl rfl (by decide +kernel) fun F hpre => ?_
      repeat' (first | (refine XL_id ?_; first | refine XL_nil ?_ | refine XL_guard_yes rfl rfl rfl ?_ | refine XL_guard_no rfl rfl rfl rfl rfl ?_ | (refine XG_call ?_; (refine XL_fn h1 rfl rfl (fun _ _ _ => trivial) ?_; refine XL_dec (fun _ => ?_) (fun _ => ?_))) | (refine XL_op tt_ok rfl rfl ?_; refine XL_int (show p / _ = p / 1024 from rfl) ?_) | (refine XL_op tt_ok rfl rfl ?_; try (first | refine XL_int (wrap_i64 (by omega) (by omega)) ?_ | refine XL_dec_f (by omega) ?_))) | (refine X_id ?_; first | refine X_seq ?_ | (refine X_regionN (by repeat' (exact .nil)) ?_) | refine X_skip ?_ | refine X_ret ?_ | refine X_cond_t rfl ?_ | refine X_cond_f rfl ?_) | (refine Y_id ?_; first | refine Y_then ?_ | refine Y_then_ret ?_))
      all_goals first
        | exact Y_fn2 rfl rfl rfl rfl
        | (exfalso; omega)
        | skip
      
    · have e : (32768 : Int) = 32768 := rfl
      show FnC _ _ _ _ (pr2 (iV (p / 32768)) (iV 0))
      refine Ctr.intro Try.func18 rfl rfl (by decide +kernel) fun F hpre => ?_
      repeat' (first | (refine XL_id ?_; first | refine XL_nil ?_ | refine XL_guard_yes rfl rfl rfl ?_ | refine XL_guard_no rfl rfl rfl rfl rfl ?_ | (refine XG_call ?_; (refine XL_fn h1 rfl rfl (fun _ _ _ => trivial) ?_; refine XL_dec (fun _ => ?_) (fun _ => ?_))) | (refine XL_op tt_ok rfl rfl ?_; refine XL_int (show p / _ = p / 32768 from rfl) ?_) | (refine XL_op tt_ok rfl rfl ?_; try (first | refine XL_int (wrap_i64 (by omega) (by omega)) ?_ | refine XL_dec_f (by omega) ?_))) | (refine X_id ?_; first | refine X_seq ?_ | (refine X_regionN (by repeat' (exact .nil)) ?_) | refine X_skip ?_ | refine X_ret ?_ | refine X_cond_t rfl ?_ | refine X_cond_f rfl ?_) | (refine Y_id ?_; first | refine Y_then ?_ | refine Y_then_ret ?_))
      all_goals first
        | exact Y_fn2 rfl rfl rfl rfl
        | (exfalso; omega)
        | skip
      
    · have e : (1048576 : Int) = 1048576 := rfl
      show FnC _ _ _ _ (pr2 (iV (p / 1048576)) (iV 0))
      refine Ctr.intro Try.func18 rfl rfl (by decide +kernel) fun F hpre => ?_
      repeat' (first | (refine XL_id ?_; first | refine XL_nil ?_ | refine XL_guard_yes rfl rfl rfl ?_ | refine XL_guard_no rfl rfl rfl rfl rfl ?_ | (refine XG_call ?_; (refine XL_fn h1 rfl rfl (fun _ _ _ => trivial) ?_; refine XL_dec (fun _ => ?_) (fun _ => ?_))) | (refine XL_op tt_ok rfl rfl ?_; refine XL_int (show p / _ = p / 1048576 from rfl) ?_) | (refine XL_op tt_ok rfl rfl ?_; try (first | refine XL_int (wrap_i64 (by omega) (by omega)) ?_ | refine XL_dec_f (by omega) ?_))) | (refine X_id ?_; first | refine X_seq ?_ | (refine X_regionN (by repeat' (exact .nil)) ?_) | refine X_skip ?_ | refine X_ret ?_ | refine X_cond_t rfl ?_ | refine X_cond_f rfl ?_) | (refine Y_id ?_; first | refine Y_then ?_ | refine Y_then_ret ?_))
      all_goals first
        | exact Y_fn2 rfl rfl rfl rfl
        | (exfalso; omega)
        | skip
      
  · rw [if_neg hc]
    unfold lvl at hc
    refine Ctr.intro Try.func18 rfl rfl (by decide +kernel) fun F hpre => ?_
    repeat' (first | (refine XL_id ?_; first | refine XL_nil ?_ | refine XL_guard_yes rfl rfl rfl ?_ | refine XL_guard_no rfl rfl rfl rfl rfl ?_ | (refine XG_call ?_; (refine XL_fn h1 rfl rfl (fun _ _ _ => trivial) ?_; refine XL_dec (fun _ => ?_) (fun _ => ?_))) | (refine XL_op tt_ok rfl rfl ?_; try (first | refine XL_dec_t (by omega) ?_ | refine XL_dec (fun _ => ?_) (fun _ => ?_)))) | (refine X_id ?_; first | refine X_seq ?_ | (refine X_regionN (by repeat' (exact .nil)) ?_) | refine X_ret ?_ | refine X_cond_t rfl ?_) | (refine Y_id ?_; first | refine Y_then ?_ | refine Y_then_ret ?_))
    all_goals first
      | exact Y_fn2 rfl rfl rfl rfl
      | (exfalso; omega)
      | skip
    
set_option maxHeartbeats 8000000 in
theorem rindex_spec (p k : Int) : FnC Try.prog 17 [iV p, iV k] (fun _ => True) (pr2 (iV (indexF p k).1) (iV (indexF p k).2)) := by
  unfold indexF
  have h1 := rwithin_spec p 0 1048575
  have h2 := rwithin_spec k 0 3
  by_cases hc : lvl p k
  · rw [if_pos hc]
    unfold lvl at hc
    have h3 := over_spec p (k) (by omega) (by omega)
    have hpos : 0 ≤ p / pow32 (k) := by
      unfold pow32
      split
      · omega
      split
      · omega
      split
      · omega
      split
      · omega
      omega
    refine Ctr.intro Try.func17 rfl rfl (by decide +kernel) fun F hpre => ?_
    repeat' (first | (refine XL_id ?_; first | refine XL_nil ?_ | refine XL_guard_yes rfl rfl rfl ?_ | refine XL_guard_no rfl rfl rfl rfl rfl ?_ | (refine XG_call ?_; first | (refine XL_fn h1 rfl rfl (fun _ _ _ => trivial) ?_; refine XL_dec (fun _ => ?_) (fun _ => ?_)) | (refine XL_fn h2 rfl rfl (fun _ _ _ => trivial) ?_; refine XL_dec (fun _ => ?_) (fun _ => ?_)) | refine XL_fn h3 rfl rfl (fun _ _ _ => trivial) ?_) | (refine XL_op tt_ok rfl rfl ?_; refine XL_int (rem_pos (y := 32) hpos) ?_) | (refine XL_op tt_ok rfl rfl ?_)) | (refine X_id ?_; first | refine X_seq ?_ | (refine X_regionN (by repeat' (exact .nil)) ?_) | refine X_skip ?_ | refine X_ret ?_ | refine X_cond_t rfl ?_ | refine X_cond_f rfl ?_) | (refine Y_id ?_; first | refine Y_then ?_ | refine Y_then_ret ?_))
    all_goals first
      | exact Y_fn2 rfl rfl rfl rfl
      | (exfalso; omega)
      | skip
    
  · rw [if_neg hc]
    unfold lvl at hc
    refine Ctr.intro Try.func17 rfl rfl (by decide +kernel) fun F hpre => ?_
    repeat' (first | (refine XL_id ?_; first | refine XL_nil ?_ | refine XL_guard_yes rfl rfl rfl ?_ | refine XL_guard_no rfl rfl rfl rfl rfl ?_ | (refine XG_call ?_; first | (refine XL_fn h1 rfl rfl (fun _ _ _ => trivial) ?_; refine XL_dec (fun _ => ?_) (fun _ => ?_)) | (refine XL_fn h2 rfl rfl (fun _ _ _ => trivial) ?_; refine XL_dec (fun _ => ?_) (fun _ => ?_))) | (refine XL_op tt_ok rfl rfl ?_)) | (refine X_id ?_; first | refine X_seq ?_ | (refine X_regionN (by repeat' (exact .nil)) ?_) | refine X_skip ?_ | refine X_ret ?_ | refine X_cond_t rfl ?_ | refine X_cond_f rfl ?_) | (refine Y_id ?_; first | refine Y_then ?_ | refine Y_then_ret ?_))
    all_goals first
      | exact Y_fn2 rfl rfl rfl rfl
      | (exfalso; omega)
      | skip
    
set_option maxHeartbeats 8000000 in
theorem rtable_spec (p k : Int) : FnC Try.prog 19 [iV p, iV k] (fun _ => True) (pr2 (iV (tableF p k).1) (iV (tableF p k).2)) := by
  unfold tableF
  have h1 := rwithin_spec p 0 1048575
  have h2 := rwithin_spec k 0 3
  by_cases hc : lvl p k
  · rw [if_pos hc]
    unfold lvl at hc
    have h3 := over_spec p (k + 1) (by omega) (by omega)
    have hpos : 0 ≤ p / pow32 (k + 1) := by
      unfold pow32
      split
      · omega
      split
      · omega
      split
      · omega
      split
      · omega
      omega
    refine Ctr.intro Try.func19 rfl rfl (by decide +kernel) fun F hpre => ?_
    repeat' (first | (refine XL_id ?_; first | refine XL_nil ?_ | refine XL_guard_yes rfl rfl rfl ?_ | refine XL_guard_no rfl rfl rfl rfl rfl ?_ | (refine XG_call ?_; first | (refine XL_fn h1 rfl rfl (fun _ _ _ => trivial) ?_; refine XL_dec (fun _ => ?_) (fun _ => ?_)) | (refine XL_fn h2 rfl rfl (fun _ _ _ => trivial) ?_; refine XL_dec (fun _ => ?_) (fun _ => ?_)) | refine XL_fn h3 rfl rfl (fun _ _ _ => trivial) ?_) | (refine XL_op tt_ok rfl rfl ?_; try (refine XL_int (wrap_i64 (by omega) (by omega)) ?_))) | (refine X_id ?_; first | refine X_seq ?_ | (refine X_regionN (by repeat' (exact .nil)) ?_) | refine X_skip ?_ | refine X_ret ?_ | refine X_cond_t rfl ?_ | refine X_cond_f rfl ?_) | (refine Y_id ?_; first | refine Y_then ?_ | refine Y_then_ret ?_))
    all_goals first
      | exact Y_fn2 rfl rfl rfl rfl
      | (exfalso; omega)
      | skip
    
  · rw [if_neg hc]
    unfold lvl at hc
    refine Ctr.intro Try.func19 rfl rfl (by decide +kernel) fun F hpre => ?_
    repeat' (first | (refine XL_id ?_; first | refine XL_nil ?_ | refine XL_guard_yes rfl rfl rfl ?_ | refine XL_guard_no rfl rfl rfl rfl rfl ?_ | (refine XG_call ?_; first | (refine XL_fn h1 rfl rfl (fun _ _ _ => trivial) ?_; refine XL_dec (fun _ => ?_) (fun _ => ?_)) | (refine XL_fn h2 rfl rfl (fun _ _ _ => trivial) ?_; refine XL_dec (fun _ => ?_) (fun _ => ?_))) | (refine XL_op tt_ok rfl rfl ?_; try (refine XL_int (wrap_i64 (by omega) (by omega)) ?_))) | (refine X_id ?_; first | refine X_seq ?_ | (refine X_regionN (by repeat' (exact .nil)) ?_) | refine X_skip ?_ | refine X_ret ?_ | refine X_cond_t rfl ?_ | refine X_cond_f rfl ?_) | (refine Y_id ?_; first | refine Y_then ?_ | refine Y_then_ret ?_))
    all_goals first
      | exact Y_fn2 rfl rfl rfl rfl
      | (exfalso; omega)
      | skip
    
set_option maxHeartbeats 8000000 in
theorem run_spec (va s : Int) (h : u64In va) (hs : i64In s) : FnC Try.prog 24 [uV va, iV s] (fun _ => True) (tr3 (iV (runF va s).1) (iV (runF va s).2.1) (iV (runF va s).2.2)) := by
  have h1 := split_spec va h
  obtain ⟨g0, g1⟩ := h
  obtain ⟨g2, g3⟩ := hs
  unfold splitF at h1
  unfold runF
  by_cases hv : va < 268435456
  · rw [if_pos hv] at h1 ⊢
    dsimp only at h1
    by_cases hc : 1 ≤ s ∧ s ≤ 8 ∧ va % 256 + s ≤ 256
    · rw [if_pos hc]
      refine Ctr.intro Try.func24 rfl rfl (by decide +kernel) fun F hpre => ?_
      repeat' (first | (refine XL_id ?_; first | refine XL_nil ?_ | refine XL_guard_yes rfl rfl rfl ?_ | (refine XG_call ?_; refine XL_fn h1 rfl rfl (fun _ _ _ => trivial) ?_) | (refine XL_op tt_ok rfl rfl ?_; try (first | refine XL_int (shr8) ?_ | refine XL_int (wrap_i64 (by omega) (by omega)) ?_ | refine XL_dec_f (by omega) ?_))) | (refine X_id ?_; first | refine X_seq ?_ | (refine X_regionN (by repeat' (exact .nil)) ?_) | refine X_skip ?_ | refine X_ret ?_ | refine X_cond_f rfl ?_) | (refine Y_id ?_; refine Y_then ?_))
      all_goals first
        | exact Y_fn3 rfl rfl rfl rfl rfl
        | (exfalso; rename_i h9; exact absurd rfl h9)
        | (exfalso; omega)
        | skip
      
    · rw [if_neg hc]
      refine Ctr.intro Try.func24 rfl rfl (by decide +kernel) fun F hpre => ?_
      repeat' (first | (refine XL_id ?_; first | refine XL_nil ?_ | refine XL_guard_yes rfl rfl rfl ?_ | refine XL_guard_no rfl rfl rfl rfl rfl ?_ | (refine XG_call ?_; refine XL_fn h1 rfl rfl (fun _ _ _ => trivial) ?_) | (refine XL_op tt_ok rfl rfl ?_; try (first | refine XL_int (shr8) ?_ | refine XL_int (wrap_i64 (by omega) (by omega)) ?_ | refine XL_dec_t (by omega) ?_ | refine XL_dec_f (by omega) ?_ | refine XL_dec (fun _ => ?_) (fun _ => ?_)))) | (refine X_id ?_; first | refine X_seq ?_ | (refine X_regionN (by repeat' (exact .nil)) ?_) | refine X_skip ?_ | refine X_ret ?_ | refine X_cond_t rfl ?_ | refine X_cond_f rfl ?_) | (refine Y_id ?_; first | refine Y_then ?_ | refine Y_then_ret ?_))
      all_goals first
        | exact Y_fn3 rfl rfl rfl rfl rfl
        | (exfalso; rename_i h9; exact absurd rfl h9)
        | (exfalso; omega)
        | skip
      
  · rw [if_neg hv] at h1 ⊢
    dsimp only at h1
    refine Ctr.intro Try.func24 rfl rfl (by decide +kernel) fun F hpre => ?_
    repeat' (first | (refine XL_id ?_; first | refine XL_nil ?_ | (refine XG_call ?_; refine XL_fn h1 rfl rfl (fun _ _ _ => trivial) ?_) | (refine XL_op tt_ok rfl rfl ?_; try (refine XL_dec_t (by omega) ?_))) | (refine X_id ?_; first | refine X_seq ?_ | (refine X_regionN (by repeat' (exact .nil)) ?_) | refine X_ret ?_ | refine X_cond_t rfl ?_) | (refine Y_id ?_; first | refine Y_then ?_ | refine Y_then_ret ?_))
    all_goals first
      | exact Y_fn3 rfl rfl rfl rfl rfl
      | (exfalso; rename_i h9; exact absurd rfl h9)
      | (exfalso; omega)
      | skip
    
set_option maxHeartbeats 8000000 in
theorem rrun_spec (va s : Int) (h : u64In va) (hs : i64In s) : FnC Try.prog 25 [uV va, iV s] (fun _ => True) (tr3 (iV (runF va s).1) (iV (runF va s).2.1) (iV (runF va s).2.2)) := by
  have h1 := rsplit_spec va h
  obtain ⟨g0, g1⟩ := h
  obtain ⟨g2, g3⟩ := hs
  have h2 := rwithin_spec s 1 8
  unfold splitF at h1
  unfold runF
  by_cases hv : va < 268435456
  · rw [if_pos hv] at h1 ⊢
    dsimp only at h1
    by_cases hc : 1 ≤ s ∧ s ≤ 8 ∧ va % 256 + s ≤ 256
    · rw [if_pos hc]
      refine Ctr.intro Try.func25 rfl rfl (by decide +kernel) fun F hpre => ?_
      repeat' (first | (refine XL_id ?_; first | refine XL_nil ?_ | refine XL_guard_yes rfl rfl rfl ?_ | refine XL_guard_no rfl rfl rfl rfl rfl ?_ | (refine XG_call ?_; first | refine XL_fn h1 rfl rfl (fun _ _ _ => trivial) ?_ | (refine XL_fn h2 rfl rfl (fun _ _ _ => trivial) ?_; refine XL_dec (fun _ => ?_) (fun _ => ?_))) | (refine XL_op tt_ok rfl rfl ?_; try (first | refine XL_int (shr8) ?_ | refine XL_int (wrap_i64 (by omega) (by omega)) ?_ | refine XL_dec_f (by omega) ?_))) | (refine X_id ?_; first | refine X_seq ?_ | (refine X_regionN (by repeat' (exact .nil)) ?_) | refine X_skip ?_ | refine X_ret ?_ | refine X_cond_t rfl ?_ | refine X_cond_f rfl ?_) | (refine Y_id ?_; first | refine Y_then ?_ | refine Y_then_ret ?_))
      all_goals first
        | exact Y_fn3 rfl rfl rfl rfl rfl
        | (exfalso; rename_i h9; exact absurd rfl h9)
        | (exfalso; omega)
        | skip
      
    · rw [if_neg hc]
      refine Ctr.intro Try.func25 rfl rfl (by decide +kernel) fun F hpre => ?_
      repeat' (first | (refine XL_id ?_; first | refine XL_nil ?_ | refine XL_guard_yes rfl rfl rfl ?_ | refine XL_guard_no rfl rfl rfl rfl rfl ?_ | (refine XG_call ?_; first | refine XL_fn h1 rfl rfl (fun _ _ _ => trivial) ?_ | (refine XL_fn h2 rfl rfl (fun _ _ _ => trivial) ?_; refine XL_dec (fun _ => ?_) (fun _ => ?_))) | (refine XL_op tt_ok rfl rfl ?_; try (first | refine XL_int (shr8) ?_ | refine XL_int (wrap_i64 (by omega) (by omega)) ?_ | refine XL_dec_t (by omega) ?_ | refine XL_dec_f (by omega) ?_))) | (refine X_id ?_; first | refine X_seq ?_ | (refine X_regionN (by repeat' (exact .nil)) ?_) | refine X_skip ?_ | refine X_ret ?_ | refine X_cond_t rfl ?_ | refine X_cond_f rfl ?_) | (refine Y_id ?_; first | refine Y_then ?_ | refine Y_then_ret ?_))
      all_goals first
        | exact Y_fn3 rfl rfl rfl rfl rfl
        | (exfalso; rename_i h9; exact absurd rfl h9)
        | (exfalso; omega)
        | skip
      
  · rw [if_neg hv] at h1 ⊢
    dsimp only at h1
    refine Ctr.intro Try.func25 rfl rfl (by decide +kernel) fun F hpre => ?_
    repeat' (first | (refine XL_id ?_; first | refine XL_nil ?_ | (refine XG_call ?_; refine XL_fn h1 rfl rfl (fun _ _ _ => trivial) ?_) | (refine XL_op tt_ok rfl rfl ?_; try (refine XL_dec_t (by omega) ?_))) | (refine X_id ?_; first | refine X_seq ?_ | (refine X_regionN (by repeat' (exact .nil)) ?_) | refine X_ret ?_ | refine X_cond_t rfl ?_) | (refine Y_id ?_; first | refine Y_then ?_ | refine Y_then_ret ?_))
    all_goals first
      | exact Y_fn3 rfl rfl rfl rfl rfl
      | (exfalso; rename_i h9; exact absurd rfl h9)
      | (exfalso; omega)
      | skip
    
end Go.Proofs.Ytgoebgefhgffcaa
