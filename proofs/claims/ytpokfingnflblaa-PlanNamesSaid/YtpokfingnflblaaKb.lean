/- PlanNames: the numbers; the examples. A closed law. -/
import Derived.Test.YtpokfingnflblaaKa
set_option linter.unusedVariables false
namespace Go.Proofs.Ytpokfingnflblaa
open Go.RowKit Go.Cof

set_option maxHeartbeats 8000000 in
theorem planNames_walk : FnC Try.prog 7 [] (fun _ => True) (.bool true) := by
  refine Ctr.intro Try.func7 rfl rfl (by decide +kernel) fun F hpre => ?_
  repeat' (first | (refine XL_id ?_; first | refine XL_nil ?_ | (refine XG_lit ?_; (refine XL_lit tt_ok rfl rfl rfl rfl rfl rfl rfl rfl rfl (fun _ => rfl) (fun b => ?_); refine XL_nB (by repeat' (first | exact .nil | apply NL.cons)) ?_)) | (refine XL_op tt_ok rfl rfl ?_)) | (refine X_id ?_; first | refine X_block (id := 0) (hold ?_) | refine X_seq ?_ | (refine X_regionN (by repeat' (first | exact .nil | apply NL.cons)) ?_)) | (refine Y_id ?_; refine Y_then ?_))
  intro _
  refine X_loopD [1] (fun (i : Nat) => [(2, .int .i64 i)]) (fun i => [own encN _ 15 15 atL]) (fun i => i ≤ 15) (fun i => 15 - i) 0 rfl (Nat.zero_le _) (by (repeat' (first | exact trivial | refine And.intro rfl ?_)); done) (stars_fin [0] rfl (fun h hs => own_of_blk (stars_blk hs) rfl rfl (by decide))) ?_
  intro i hi
  have hi : i ≤ 15 := hi
  by_cases hlt : i < 15
  · have htu := turnedD_spec i hlt
    have hin := tuD_in i hlt
    obtain ⟨hc1, hc2⟩ := tuD_chk i hlt
    have hlen := chkF_len (tuD i)
    generalize tuD i = d at htu hin hc1 hc2 hlen
    repeat' (first | (refine XL_id ?_; first | refine XL_nil ?_ | refine XL_guard_yes rfl rfl rfl ?_ | (refine XG_load ?_; refine XL_loadW tt_ok 0 rfl rfl rfl rfl rfl rfl ?_) | (refine XG_call ?_; first | (refine XL_op tt_ok rfl rfl ?_) | (refine XL_callK [] htu rfl rfl (fun _ => rfl) (fun _ _ _ => trivial) (fun u L hv => ?_); obtain ⟨y2, rfl, rfl⟩ := hv; refine XL_fact 0 rfl (fun h hs => isCf_fit hs) (fun hfit => ?_); obtain ⟨hf2, hl2⟩ := hfit) | (refine XL_callK [] (check_spec d y2 hin hf2 hl2) rfl rfl (fun _ => rfl) (fun g hg hL => cf_at 1 rfl hL) (fun u L hv => ?_); obtain ⟨A1, c1, rfl, rfl⟩ := hv) | (refine XL_fn (planChecks_walk d y2 hin hf2) rfl rfl (fun g hg hL => by exact cf_at 2 rfl (stars_up hM hg)) ?_) | (refine XL_fn (planTells_walk d y2 hin hf2 0 0) rfl rfl (fun g hg hL => by exact cf_at 2 rfl (stars_up hM hg)) ?_)) | (refine XG_alloc ?_; (refine XL_alloc tt_ok rfl rfl (fun _ => rfl) (fun b => ?_); refine XL_nB (by repeat' (first | exact .nil | apply NL.cons)) ?_)) | (refine XG_store ?_; (refine XL_storeW tt_ok 0 rfl rfl rfl rfl rfl rfl rfl ?_; refine XL_nK 0 rfl (by repeat' (first | exact .nil | apply NL.cons)) ?_)) | (refine XL_op tt_ok rfl rfl ?_; try (first | refine XL_int (wrap_i64 (by omega) (by omega)) ?_ | refine XL_dec_t (by omega) ?_))) | (refine XD_id ?_; first | (refine XD_thaw thaw ?_; refine XD_nil ?_) | (refine XD_id ?_; (first | (refine XD_gL rfl ?_; first | refine XD_sy rfl rfl rfl rfl rfl (XV_loadW tt_ok rfl (blk_at 1 rfl hM) rfl rfl rfl) rfl ?_ | refine XD_sy rfl rfl rfl rfl rfl (XV_elf tt_ok rfl (rd_at 0 rfl hM) rfl (by omega) (by omega) rfl rfl rfl) rfl ?_ | refine XD_sy rfl rfl rfl rfl rfl (XV_el tt_ok rfl (rd_at 3 rfl hM) rfl (by omega) (by omega) rfl rfl rfl) rfl ?_) | (refine XD_gI rfl ?_; first | refine XD_sy rfl rfl rfl rfl rfl (XV_idx tt_ok rfl rfl rfl rfl rfl (rd_at 0 rfl hM) (by omega) (by omega)) rfl ?_ | refine XD_sy rfl rfl rfl rfl rfl (XV_idx tt_ok rfl rfl rfl rfl rfl (rd_at 3 rfl hM) (by omega) (by omega)) rfl ?_) | (refine XD_u rfl rfl ?_; refine XD_s rfl rfl rfl (XV_op tt_ok rfl) rfl ?_) | (refine XD_g rfl rfl ?_; refine XD_sy rfl rfl rfl rfl rfl (XV_op tt_ok rfl) rfl ?_)); try (refine XD_dec_f (by omega) ?_)) | refine XD_m rfl rfl ?_) | (refine X_id ?_; first | (refine X_drawS (id := 7) [0, 1, 2, 3, 4, 5, 6, 7, 8, 9, 10, 11, 12, 13, 14, 15, 16, 17, 18, 19, 20, 21, 22, 23] (fun | 16 => .m | 21 => .m | _ => .s) 8 (by (repeat apply Split.blk); apply Split.frz; (repeat apply Split.blk); apply Split.frz; (repeat apply Split.blk); apply Split.frz; repeat' (exact Split.nil)) mixed (by decide +kernel) ?_; intro G hFG hM thaw; show XD _ _ _ _ _ _ [0, 1, 2, 3, 4, 5, 6, 7, 8, 9, 10, 11, 12, 13, 14, 15, 16, 17, 18, 19, 20, 21, 22, 23] _ _ _) | refine X_seq ?_ | (refine X_regionN (by repeat' (first | exact .nil | apply NL.cons)) ?_) | refine X_skip ?_ | refine X_block ?_ | refine X_cond_t rfl ?_ | refine X_cond_f rfl ?_) | (refine Y_id ?_; first | refine Y_then ?_ | refine Y_block_normal ?_ | refine Y_m ?_))
    all_goals first
      | exact Y_again (i + 1) fun _ _ hf hs => ⟨by show i + 1 ≤ 15; omega, by show 15 - (i + 1) < 15 - i; omega, hf.sub (by (repeat' (first | exact trivial | refine And.intro rfl ?_)); done), hs.imp fun h hs => stars_only [3] rfl h hs⟩
      | (exfalso; omega)
      | skip
    
  · repeat' (first | (refine XL_id ?_; first | refine XL_nil ?_ | refine XL_guard_yes rfl rfl rfl ?_ | (refine XG_call ?_; first | (refine XL_op tt_ok rfl rfl ?_) | refine XL_fn awake_spec rfl rfl (fun _ _ _ => trivial) ?_ | (refine XL_callK [] usual_spec rfl rfl (fun _ => rfl) (fun _ _ _ => trivial) (fun u L hv => ?_); obtain ⟨y2, rfl, rfl⟩ := hv; refine XL_fact 0 rfl (fun h hs => isCf_fit hs) (fun hfit => ?_); obtain ⟨hf2, hl2⟩ := hfit) | refine XL_fn (planTells_walk usD _ usD_in (by assumption) 1 3) rfl rfl (fun g hg hL => cf_at 0 rfl hL) ?_ | refine XL_fn (planTells_walk usD _ usD_in (by assumption) 2 4) rfl rfl (fun g hg hL => cf_at 0 rfl hL) ?_ | refine XL_fn (planTells_walk usD _ usD_in (by assumption) (-1) (-1)) rfl rfl (fun g hg hL => cf_at 0 rfl hL) ?_ | refine XL_fn (planParts_walk usD _ usD_in (by assumption)) rfl rfl (fun g hg hL => cf_at 0 rfl hL) ?_) | (refine XL_op tt_ok rfl rfl ?_; try (refine XL_dec_f (by omega) ?_))) | (refine X_id ?_; first | refine X_seq ?_ | (refine X_regionN (by repeat' (first | exact .nil | apply NL.cons)) ?_) | refine X_ret ?_ | refine X_exit ?_ | refine X_cond_f rfl ?_) | (refine Y_id ?_; first | refine Y_then ?_ | refine Y_then_exit ?_ | refine Y_block_hit ?_))
    all_goals first
      | exact Y_fn1 rfl rfl rfl
      | (exfalso; omega)
      | skip
    
end Go.Proofs.Ytpokfingnflblaa
