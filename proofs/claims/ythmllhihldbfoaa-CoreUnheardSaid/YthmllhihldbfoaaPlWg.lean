/- A part's code and shape: the program's. -/
import Derived.Test.YthmllhihldbfoaaPlWf
set_option linter.unusedVariables false
namespace Go.Proofs.Ythmllhihldbfoaa.Pl
open Go.RowKit Go.Cof

abbrev liF (x : Pd) : Int := if 16 * x.d < x.u + x.k - 1 then 16 * x.d else x.u + x.k - 1
abbrev shF (x : Pd) : Sh := ⟨imF x.o, x.u, liF x, x.t⟩
theorem shF_ok {x : Pd} (h : Nine x) : ShP (shF x) := by
  obtain ⟨h1, h2, h3, h4, h5, h6, h7⟩ := h
  refine ⟨imF_rng x.o, h2, ?_, ?_⟩
  · show 1 ≤ liF x ∧ liF x ≤ 5120
    unfold liF
    split <;> omega
  · show 1 ≤ x.t ∧ x.t ≤ 4096
    omega
theorem part_spec (d : Cd) (y : Ly) (hd : d.In) (hf : y.Fit) (hl : d.ps.length = y.pm) (p : Nat) (hp : p < y.pm) (hp8 : p < 8) : FnC Try.prog 43 [cfV d y, iV p] (fun h => CfR h d y) (iV (partE d p)) := by
  have h1 := colours_spec d y hf p hp
  have h2 := fun hc => quotas_spec d y hd hf hl p hp hp8 hc
  unfold partE
  by_cases hc : ColP d p
  · rw [if_pos hc]
    rw [decide_eq_true hc] at h1
    have h2 := h2 hc
    by_cases hq : QuoP d p
    · rw [if_pos hq]
      rw [decide_eq_true hq] at h2
      refine Ctr.intro Try.func43 rfl rfl (by decide +kernel) fun F hpre => ?_
      repeat' (first | (refine XL_id ?_; first | refine XL_nil ?_ | (refine XG_load ?_; refine XL_loadW tt_ok 0 rfl rfl rfl rfl rfl rfl ?_) | (refine XG_box ?_; (refine XL_box rfl (fun _ => rfl) (fun _ => ?_); refine XL_nB (by repeat' (first | exact .nil | apply NL.cons)) ?_)) | (refine XG_call ?_; first | refine XL_fn h1 rfl rfl (fun g hg hL => CfR.le hpre hg) ?_ | refine XL_fn h2 rfl rfl (fun g hg hL => CfR.le hpre hg) ?_) | (refine XL_op tt_ok rfl rfl ?_)) | (refine X_id ?_; first | refine X_seq ?_ | (refine X_regionN (by repeat' (first | exact .nil | apply NL.cons)) ?_) | refine X_skip ?_ | refine X_ret ?_ | refine X_block ?_ | refine X_cond_f rfl ?_) | (refine Y_id ?_; first | refine Y_then ?_ | refine Y_block_normal ?_))
      all_goals exact Y_fn1 rfl rfl rfl
    · rw [if_neg hq]
      rw [decide_eq_false hq] at h2
      refine Ctr.intro Try.func43 rfl rfl (by decide +kernel) fun F hpre => ?_
      repeat' (first | (refine XL_id ?_; first | refine XL_nil ?_ | (refine XG_load ?_; refine XL_loadW tt_ok 0 rfl rfl rfl rfl rfl rfl ?_) | (refine XG_box ?_; (refine XL_box rfl (fun _ => rfl) (fun _ => ?_); refine XL_nB (by repeat' (first | exact .nil | apply NL.cons)) ?_)) | (refine XG_call ?_; first | refine XL_fn h1 rfl rfl (fun g hg hL => CfR.le hpre hg) ?_ | refine XL_fn h2 rfl rfl (fun g hg hL => CfR.le hpre hg) ?_) | (refine XL_op tt_ok rfl rfl ?_)) | (refine X_id ?_; first | refine X_seq ?_ | (refine X_regionN (by repeat' (first | exact .nil | apply NL.cons)) ?_) | refine X_ret ?_ | refine X_block ?_ | refine X_cond_t rfl ?_ | refine X_cond_f rfl ?_) | (refine Y_id ?_; first | refine Y_then ?_ | refine Y_then_ret ?_ | refine Y_block_ret ?_))
      all_goals exact Y_fn1 rfl rfl rfl
  · rw [if_neg hc]
    rw [decide_eq_false hc] at h1
    refine Ctr.intro Try.func43 rfl rfl (by decide +kernel) fun F hpre => ?_
    repeat' (first | (refine XL_id ?_; first | refine XL_nil ?_ | (refine XG_load ?_; refine XL_loadW tt_ok 0 rfl rfl rfl rfl rfl rfl ?_) | (refine XG_box ?_; (refine XL_box rfl (fun _ => rfl) (fun _ => ?_); refine XL_nB (by repeat' (first | exact .nil | apply NL.cons)) ?_)) | (refine XG_call ?_; refine XL_fn h1 rfl rfl (fun g hg hL => CfR.le hpre hg) ?_) | (refine XL_op tt_ok rfl rfl ?_)) | (refine X_id ?_; first | refine X_seq ?_ | (refine X_regionN (by repeat' (first | exact .nil | apply NL.cons)) ?_) | refine X_ret ?_ | refine X_block ?_ | refine X_cond_t rfl ?_) | (refine Y_id ?_; first | refine Y_then ?_ | refine Y_then_ret ?_ | refine Y_block_ret ?_))
    all_goals exact Y_fn1 rfl rfl rfl
set_option maxHeartbeats 4000000 in
theorem shape_spec (d : Cd) (y : Ly) (p : Nat) (hp : p < y.pm) (hn : Nine (Cof.get d.ps (p : Int))) : FnC Try.prog 57 [cfV d y, iV p] (fun h => CfR h d y) (shV (shF (Cof.get d.ps (p : Int)))) := by
  refine Ctr.intro Try.func57 rfl rfl (by decide +kernel) fun F hpre => ?_
  have hpre : CfR F.heap d y := hpre
  have r1 := hpre.ps
  have hdat := get_dat hpre hp
  rw [← hdat] at hn ⊢
  obtain ⟨h1, h2, h3, h4, h5, h6, h7⟩ := hn
  have hsh := @shl_im (Cof.get y.ps (p : Int)).d.o (by omega)
  repeat' (first | (refine XL_id ?_; first | refine XL_nil ?_ | (refine XG_load ?_; first | refine XL_load tt_ok 1 rfl rfl rfl rfl rfl rfl ?_ | refine XL_elW tt_ok rfl (by assumption) rfl (by omega) (by omega) rfl rfl rfl rfl ?_) | (refine XG_idx ?_; refine XL_idx tt_ok rfl rfl rfl rfl rfl (by assumption) (by omega) (by omega) rfl ?_) | (refine XG_box ?_; (refine XL_box rfl (fun _ => rfl) (fun _ => ?_); refine XL_nB (by repeat' (first | exact .nil | apply NL.cons)) ?_)) | (refine XG_alloc ?_; (refine XL_alloc tt_ok rfl rfl (fun _ => rfl) (fun b => ?_); refine XL_nB (by repeat' (first | exact .nil | apply NL.cons)) ?_)) | (refine XG_store ?_; first | (refine XL_storeW tt_ok 0 rfl rfl rfl rfl rfl rfl rfl ?_; refine XL_nK 0 rfl (by repeat' (first | exact .nil | apply NL.cons)) ?_) | (refine XL_storeW tt_ok 1 rfl rfl rfl rfl rfl rfl rfl ?_; refine XL_nK 1 rfl (by repeat' (first | exact .nil | apply NL.cons)) ?_)) | (refine XL_op tt_ok rfl rfl ?_)) | (refine XD_id ?_; first | refine XD_nil ?_ | (refine XD_id ?_; (first | (refine XD_uL rfl ?_; refine XD_s rfl rfl rfl (XV_load tt_ok rfl (blk_at 0 rfl hM) rfl rfl rfl) rfl ?_) | (refine XD_u rfl rfl ?_; first | refine XD_s rfl rfl rfl (XV_op tt_ok rfl) rfl ?_ | refine XD_s rfl rfl rfl (XV_build tt_ok rfl rfl rfl rfl rfl rfl) rfl ?_ | refine XD_s rfl rfl rfl (XV_op tt_ok (opV_shl rfl rfl (by omega))) rfl ?_)); try (refine XD_int (wrap_i64 (by omega) (by omega)) ?_)) | (refine XD_thaw thaw ?_; refine XD_l rfl rfl ?_)) | (refine X_id ?_; first | (refine X_drawS (id := 3) [0, 1, 2, 3, 4, 5, 6, 7, 8, 9, 10, 11, 12, 13, 14, 15, 16, 17, 18, 19] (fun | 19 => .l | _ => .s) 8 (by repeat' (first | exact Split.nil | apply Split.blk)) mixed (by decide +kernel) ?_; intro G hFG hM thaw; show XD _ _ _ _ _ _ [0, 1, 2, 3, 4, 5, 6, 7, 8, 9, 10, 11, 12, 13, 14, 15, 16, 17, 18, 19] _ _ _) | refine X_seq ?_ | (refine X_regionN (by repeat' (first | exact .nil | apply NL.cons)) ?_) | refine X_ret ?_) | (refine Y_id ?_; first | refine Y_then ?_ | refine Y_l ?_))
  all_goals first
    | exact Y_res1 rfl (.cell tt_ok 1 rfl rfl rfl rfl rfl) (L' := []) (fun _ _ => trivial) ⟨congrArg (fun z => Value.agg #[iV z, iV (Cof.get y.ps (p : Int)).d.u, iV (liF (Cof.get y.ps (p : Int)).d), iV (Cof.get y.ps (p : Int)).d.t]) hsh, rfl⟩
    | skip
  
end Go.Proofs.Ythmllhihldbfoaa.Pl
