/- The machine and the costs, checked: program and reference; Switch. -/
import Derived.Test.YthmllhihldbfoaaPlDefs
set_option linter.unusedVariables false
namespace Go.Proofs.Ythmllhihldbfoaa.Pl
open Go.RowKit Go.Cof

set_option maxHeartbeats 4000000 in
theorem ccheck_spec (x : Cs) (hx : x.In) : FnC Try.prog 40 [csV x] (fun _ => True) (iV (costE x)) := by
  obtain ⟨h1, h2, h3, h4, h5, h6⟩ := hx
  refine Ctr.intro Try.func40 rfl rfl (by decide +kernel) fun F hpre => ?_
  repeat' (first | (refine XL_id ?_; first | refine XL_nil ?_ | refine XL_guard_yes rfl rfl rfl ?_ | refine XL_guard_no rfl rfl rfl rfl rfl ?_ | (refine XG_load ?_; first | refine XL_load tt_ok 0 rfl rfl rfl rfl rfl rfl ?_ | refine XL_load tt_ok 1 rfl rfl rfl rfl rfl rfl ?_) | (refine XG_idx ?_; refine XL_idxl tt_ok rfl rfl rfl rfl rfl (by decide) (by decide) rfl ?_) | (refine XG_box ?_; (refine XL_box rfl (fun _ => rfl) (fun _ => ?_); refine XL_nB (by repeat' (first | exact .nil | apply NL.cons)) ?_)) | (refine XG_lit ?_; (refine XL_lit tt_ok rfl rfl rfl rfl rfl rfl rfl rfl rfl (fun _ => rfl) (fun b => ?_); refine XL_nB (by repeat' (first | exact .nil | apply NL.cons)) ?_)) | (refine XL_op tt_ok rfl rfl ?_; try (first | refine XL_int (wrap_i64 (by omega) (by omega)) ?_ | refine XL_dec_t (by omega) ?_ | refine XL_dec_f (by omega) ?_ | refine XL_dec (fun _ => ?_) (fun _ => ?_)))) | (refine X_id ?_; first | refine X_unroll 3 ?_ | refine X_seq ?_ | (refine X_regionN (by repeat' (first | exact .nil | apply NL.cons)) ?_) | refine X_skip ?_ | refine X_ret ?_ | refine X_exit ?_ | refine X_block ?_ | refine X_cond_t rfl ?_ | refine X_cond_f rfl ?_) | (refine Y_id ?_; first | refine Y_unroll ?_ | refine Y_then ?_ | refine Y_then_ret ?_ | refine Y_then_exit ?_ | refine Y_block_hit ?_ | refine Y_block_normal ?_ | refine Y_block_ret ?_))
  all_goals first
    | (refine Y_fn1 rfl rfl ?_; first | exact congrArg iV (costE_ok ⟨by omega, by omega, by omega, by omega, by omega, by omega, by omega⟩).symm | exact congrArg iV (costE_no (fun h => by have a := (CostP.iff x).1 h; omega)).symm)
    | (exfalso; omega)
    | skip
  
set_option maxHeartbeats 4000000 in
theorem machine_spec (d : Cd) (y : Ly) (hd : d.In) (hl : d.ps.length = y.pm) : FnC Try.prog 39 [cfV d y] (fun _ => True) (.bool (decide (MachP d))) := by
  have h1 := hd.co
  have h2 := hd.ls
  have hp1 := power_spec d.co 16 h1.1 h1.2
  have hp2 := power_spec d.ls 4096 h2.1 h2.2
  refine Ctr.intro Try.func39 rfl rfl (by decide +kernel) fun F hpre => ?_
  repeat' (first | (refine XL_id ?_; first | refine XL_nil ?_ | refine XL_guard_yes rfl rfl rfl ?_ | refine XL_guard_no rfl rfl rfl rfl rfl ?_ | (refine XG_load ?_; refine XL_load tt_ok 0 rfl rfl rfl rfl rfl rfl ?_) | (refine XG_box ?_; (refine XL_box rfl (fun _ => rfl) (fun _ => ?_); refine XL_nB (by repeat' (first | exact .nil | apply NL.cons)) ?_)) | (refine XG_call ?_; first | (refine XL_op tt_ok rfl rfl ?_) | (refine XL_fn hp1 rfl rfl (fun _ _ _ => trivial) ?_; refine XL_dec (fun _ => ?_) (fun _ => ?_)) | (refine XL_fn hp2 rfl rfl (fun _ _ _ => trivial) ?_; refine XL_dec (fun _ => ?_) (fun _ => ?_)) | (refine XL_fn (pwithin_spec _ _ _) rfl rfl (fun _ _ _ => trivial) ?_; refine XL_dec (fun _ => ?_) (fun _ => ?_))) | refine XL_op tt_ok (opV_rem rfl rfl (by omega)) rfl ?_ | (refine XL_op tt_ok rfl rfl ?_; try (refine XL_dec (fun _ => ?_) (fun _ => ?_)))) | (refine X_id ?_; first | refine X_seq ?_ | (refine X_regionN (by repeat' (first | exact .nil | apply NL.cons)) ?_) | refine X_ret ?_) | (refine Y_id ?_; refine Y_then ?_))
  all_goals first
    | (refine Y_fn1 rfl rfl ?_; first | exact bool_t ((MachP.iff d).2 (by omega)) | exact bool_f (fun h => by have a := (MachP.iff d).1 h; omega))
    | (exfalso; omega)
    | skip
  
/-- What Switch answers where the numbers fit. -/
theorem switch_spec (x : Cs) (hx : x.In) (n t : Int) (hc : CostP x) (h1 : 0 ≤ n ∧ n ≤ 65536) (h2 : 0 ≤ t ∧ t ≤ 64) : FnC Try.prog 32 [csV x, iV n, iV t] (fun _ => True) (.tuple #[uV ((n + t) * x.st), iV 0]) := by
  have hck := ccheck_spec x hx
  rw [costE_ok hc] at hck
  have hs := hc.st
  have hb : 0 ≤ (n + t) * x.st ∧ (n + t) * x.st ≤ 65600 * 65536 := ⟨Int.mul_nonneg (by omega) (by omega), Int.mul_le_mul (by omega) hs.2 (by omega) (by omega)⟩
  refine Ctr.intro Try.func32 rfl rfl (by decide +kernel) fun F hpre => ?_
  repeat' (first | (refine XL_id ?_; first | refine XL_nil ?_ | refine XL_guard_yes rfl rfl rfl ?_ | (refine XG_load ?_; first | refine XL_loadW tt_ok 0 rfl rfl rfl rfl rfl rfl ?_ | refine XL_load tt_ok 0 rfl rfl rfl rfl rfl rfl ?_) | (refine XG_box ?_; (refine XL_box rfl (fun _ => rfl) (fun _ => ?_); refine XL_nB (by repeat' (first | exact .nil | apply NL.cons)) ?_)) | (refine XG_call ?_; first | refine XL_fn hck rfl rfl (fun _ _ _ => trivial) ?_ | (refine XL_fn (cwithin_spec _ _ _) rfl rfl (fun _ _ _ => trivial) ?_; refine XL_dec_t (by omega) ?_)) | (refine XL_op tt_ok rfl rfl ?_; try (first | refine XL_int (wrap_i64 (by omega) (by omega)) ?_ | refine XL_int (wrap_u64 (by omega) (by omega)) ?_ | refine XL_dec_f (by omega) ?_))) | (refine X_id ?_; first | refine X_seq ?_ | (refine X_regionN (by repeat' (first | exact .nil | apply NL.cons)) ?_) | refine X_skip ?_ | refine X_ret ?_ | refine X_cond_f rfl ?_) | (refine Y_id ?_; refine Y_then ?_))
  all_goals first
    | exact Y_fn2 rfl rfl rfl rfl
    | (exfalso; omega)
    | skip
  
end Go.Proofs.Ythmllhihldbfoaa.Pl
