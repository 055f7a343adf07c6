/- Walk of works; the laws VmaGaps, VmaChanges. -/
import Derived.Test.YtpkffgbcebjhaaaLb
set_option linter.unusedVariables false
namespace Go.Proofs.Ytpkffgbcebjhaaa
open Go.RowKit Go.Cof

theorem twoL_in : ∀ r ∈ twoL, r.In := fun r hr => by
  rcases List.mem_cons.1 hr with rfl | hr
  · exact ⟨by decide, by decide, by decide⟩
  · obtain rfl := List.mem_singleton.1 hr; exact ⟨by decide, by decide, by decide⟩
theorem w_put : putP twoL ⟨8, 2, 1⟩ = ([⟨5, 5, 1⟩, ⟨10, 2, 3⟩], 0) := by decide +kernel
theorem w_cut : cutP twoL 6 5 = ([⟨5, 1, 1⟩, ⟨11, 1, 3⟩], 0) := by decide +kernel
theorem w_prot : protP twoL 6 1 3 = ([⟨5, 1, 1⟩, ⟨6, 1, 3⟩, ⟨7, 1, 1⟩, ⟨10, 2, 3⟩], 0) := by decide +kernel
theorem w_gap : gapP twoL 4 3 100 = (12, true, 0) := by decide +kernel
set_option maxRecDepth 100000 in
set_option maxHeartbeats 4000000 in
theorem works_spec : FnC Try.prog 23 [] (fun _ => True) (.bool true) := by
  refine Ctr.intro Try.func23 rfl rfl (by decide +kernel) fun F hpre => ?_
  have hp := fun q : Nat => put_spec (some ⟨q, 0, none⟩) 2 2 twoL ⟨8, 2, 1⟩ (by decide) (by decide) twoL_in ⟨by decide, by decide, by decide⟩
  have hc := fun q : Nat => cut_spec (some ⟨q, 0, none⟩) 2 2 twoL 6 5 (by decide) (by decide) twoL_in (by decide)
  have hr := fun q : Nat => prot_spec (some ⟨q, 0, none⟩) 2 2 twoL 6 1 3 (by decide) (by decide) twoL_in (by decide)
  have hg := fun q : Nat => gap_spec (some ⟨q, 0, none⟩) 2 2 twoL 4 3 100 (by decide) (by decide) twoL_in (by decide) (by decide) (by decide)
  simp only [w_put, w_cut, w_prot, w_gap] at hp hc hr hg
  repeat' (first
    | (refine XL_id ?_; first
      | (refine XL_nil ?_)
      | (refine XL_guard_yes rfl rfl rfl ?_)
      | (refine XL_guard_no rfl rfl rfl rfl rfl ?_)
      | (refine XL_guard_nou rfl rfl rfl rfl ?_)
      | (refine XG_load ?_; first
        | (refine XL_loadW tt_ok 0 rfl rfl rfl rfl rfl rfl ?_)
        | (refine XL_loadW tt_ok 1 rfl rfl rfl rfl rfl rfl ?_)
        | (refine XL_loadW tt_ok 2 rfl rfl rfl rfl rfl rfl ?_)
        | (refine XL_loadW tt_ok 3 rfl rfl rfl rfl rfl rfl ?_)
        | (refine XL_loadW tt_ok 4 rfl rfl rfl rfl rfl rfl ?_)
        | (refine XL_loadW tt_ok 5 rfl rfl rfl rfl rfl rfl ?_)
        | (refine XL_loadW tt_ok 6 rfl rfl rfl rfl rfl rfl ?_)
        | (refine XL_loadW tt_ok 7 rfl rfl rfl rfl rfl rfl ?_)
        | (refine XL_loadW tt_ok 8 rfl rfl rfl rfl rfl rfl ?_)
        | (refine XL_loadW tt_ok 9 rfl rfl rfl rfl rfl rfl ?_)
        | (refine XL_load tt_ok 0 rfl rfl rfl rfl rfl rfl ?_)
        | (refine XL_load tt_ok 1 rfl rfl rfl rfl rfl rfl ?_)
        | (refine XL_load tt_ok 2 rfl rfl rfl rfl rfl rfl ?_)
        | (refine XL_load tt_ok 3 rfl rfl rfl rfl rfl rfl ?_)
        | (refine XL_load tt_ok 4 rfl rfl rfl rfl rfl rfl ?_)
        | (refine XL_load tt_ok 5 rfl rfl rfl rfl rfl rfl ?_)
        | (refine XL_load tt_ok 6 rfl rfl rfl rfl rfl rfl ?_)
        | (refine XL_load tt_ok 7 rfl rfl rfl rfl rfl rfl ?_)
        | (refine XL_load tt_ok 8 rfl rfl rfl rfl rfl rfl ?_)
        | (refine XL_load tt_ok 9 rfl rfl rfl rfl rfl rfl ?_)
        | (refine XL_loadF tt_ok rfl (by assumption) rfl rfl rfl rfl ?_)
        | (refine XL_elW tt_ok rfl (by assumption) rfl (by omega) (by omega) rfl rfl rfl rfl ?_)
        | (refine XL_el tt_ok rfl (by assumption) rfl (by omega) (by omega) rfl rfl rfl rfl ?_)
        | (refine XL_elf tt_ok rfl (by assumption) rfl (by omega) (by omega) rfl rfl rfl rfl ?_)
        | (refine XL_eloW tt_ok 0 rfl rfl rfl (by omega) (by omega) rfl rfl rfl rfl ?_)
        | (refine XL_elo tt_ok 0 rfl rfl rfl (by omega) (by omega) rfl rfl rfl rfl ?_)
        | (refine XL_elof tt_ok 0 rfl rfl rfl (by omega) (by omega) rfl rfl rfl rfl ?_)
        | (refine XL_eloW tt_ok 1 rfl rfl rfl (by omega) (by omega) rfl rfl rfl rfl ?_)
        | (refine XL_elo tt_ok 1 rfl rfl rfl (by omega) (by omega) rfl rfl rfl rfl ?_)
        | (refine XL_elof tt_ok 1 rfl rfl rfl (by omega) (by omega) rfl rfl rfl rfl ?_)
        | (refine XL_eloW tt_ok 2 rfl rfl rfl (by omega) (by omega) rfl rfl rfl rfl ?_)
        | (refine XL_elo tt_ok 2 rfl rfl rfl (by omega) (by omega) rfl rfl rfl rfl ?_)
        | (refine XL_elof tt_ok 2 rfl rfl rfl (by omega) (by omega) rfl rfl rfl rfl ?_)
        | (refine XL_eloW tt_ok 3 rfl rfl rfl (by omega) (by omega) rfl rfl rfl rfl ?_)
        | (refine XL_elo tt_ok 3 rfl rfl rfl (by omega) (by omega) rfl rfl rfl rfl ?_)
        | (refine XL_elof tt_ok 3 rfl rfl rfl (by omega) (by omega) rfl rfl rfl rfl ?_)
      )
      | (refine XG_idx ?_; first
        | (refine XL_idx tt_ok rfl rfl rfl rfl rfl (by assumption) (by omega) (by omega) rfl ?_)
        | (refine XL_idxo tt_ok 0 rfl rfl rfl rfl rfl rfl (by omega) (by omega) rfl ?_)
        | (refine XL_idxo tt_ok 1 rfl rfl rfl rfl rfl rfl (by omega) (by omega) rfl ?_)
        | (refine XL_idxo tt_ok 2 rfl rfl rfl rfl rfl rfl (by omega) (by omega) rfl ?_)
        | (refine XL_idxo tt_ok 3 rfl rfl rfl rfl rfl rfl (by omega) (by omega) rfl ?_)
      )
      | (refine XG_box ?_; first
        | (refine XL_box rfl (fun _ => rfl) (fun _ => ?_))
      )
      | (refine XG_build ?_; first
        | (refine XL_build tt_ok rfl rfl rfl rfl rfl rfl rfl ?_)
      )
      | (refine XG_call ?_; first
        | (refine XL_op tt_ok rfl rfl ?_; try (first | (refine XL_int (shl8_u64 (by omega) (by omega)) ?_) | (refine XL_int (shr8) ?_) | (refine XL_int (wrap_i64 (by omega) (by omega)) ?_) | (refine XL_int (wrap_u64 (by omega) (by omega)) ?_) | (refine XL_int (wrap_u8 (by omega) (by omega)) ?_) | (refine XL_int (quo_i64 (by omega) (by omega) (by omega)) ?_) | (refine XL_int (quo_u64 (by omega) (by omega) (by omega)) ?_) | (refine XL_int (rem_pos (by omega)) ?_) | (refine XL_remb (by omega) (fun _ _ _ _ => ?_)) | (refine XL_dec_t (by omega) ?_) | (refine XL_dec_f (by omega) ?_) | (refine XL_dec (fun _ => ?_) (fun _ => ?_))))
        | (refine XL_callK [] (hp _) rfl rfl (fun _ => rfl) (fun g hg hL => rd_at 0 rfl hL) (fun u L hv => ?_); obtain ⟨o1, ho1, hm1, rfl, rfl⟩ := hv)
        | (refine XL_callK [] (hc _) rfl rfl (fun _ => rfl) (fun g hg hL => rd_at 0 rfl hL) (fun u L hv => ?_); obtain ⟨o2, ho2, hm2, rfl, rfl⟩ := hv)
        | (refine XL_callK [] (hr _) rfl rfl (fun _ => rfl) (fun g hg hL => rd_at 0 rfl hL) (fun u L hv => ?_); obtain ⟨o3, ho3, hm3, rfl, rfl⟩ := hv)
        | (refine XL_fn (hg _) rfl rfl (fun g hg hL => rd_at 0 rfl hL) ?_)
        | (refine XL_fn (same_spec _ _ _ _ _ _ o1.xs [⟨5, 5, 1⟩, ⟨10, 2, 3⟩] (by rw [hm1, ho1]; decide) (by decide)) rfl rfl (fun g hg hL => ⟨by first | exact rd_at 1 rfl hL | exact rd_at 2 rfl hL | exact rd_at 3 rfl hL | exact rd_at 4 rfl hL | exact rd_at 5 rfl hL | exact rd_at 6 rfl hL, blk_rdS (blk_at 0 rfl hL) rfl rfl⟩) ?_; refine XL_dec_t ho1 ?_)
        | (refine XL_fn (same_spec _ _ _ _ _ _ o2.xs [⟨5, 1, 1⟩, ⟨11, 1, 3⟩] (by rw [hm2, ho2]; decide) (by decide)) rfl rfl (fun g hg hL => ⟨by first | exact rd_at 1 rfl hL | exact rd_at 2 rfl hL | exact rd_at 3 rfl hL | exact rd_at 4 rfl hL | exact rd_at 5 rfl hL | exact rd_at 6 rfl hL, blk_rdS (blk_at 0 rfl hL) rfl rfl⟩) ?_; refine XL_dec_t ho2 ?_)
        | (refine XL_fn (same_spec _ _ _ _ _ _ o3.xs [⟨5, 1, 1⟩, ⟨6, 1, 3⟩, ⟨7, 1, 1⟩, ⟨10, 2, 3⟩] (by rw [hm3, ho3]; decide) (by decide)) rfl rfl (fun g hg hL => ⟨by first | exact rd_at 1 rfl hL | exact rd_at 2 rfl hL | exact rd_at 3 rfl hL | exact rd_at 4 rfl hL | exact rd_at 5 rfl hL | exact rd_at 6 rfl hL, blk_rdS (blk_at 0 rfl hL) rfl rfl⟩) ?_; refine XL_dec_t ho3 ?_)
        | (refine XL_callK [] two_spec rfl rfl (fun _ => rfl) (fun _ _ _ => trivial) (fun u L hv => ?_); obtain ⟨q, rfl, rfl⟩ := hv)
      )
      | (refine XG_alloc ?_; first
        | (refine XL_alloc tt_ok rfl rfl (fun _ => rfl) (fun b => ?_))
      )
      | (refine XG_lit ?_; first
        | (refine XL_lit tt_ok rfl rfl rfl rfl rfl rfl rfl rfl rfl (fun _ => rfl) (fun b => ?_))
      )
      | (refine XG_store ?_; first
        | (refine XL_storeW tt_ok 0 rfl rfl rfl rfl rfl rfl rfl ?_)
        | (refine XL_storeW tt_ok 1 rfl rfl rfl rfl rfl rfl rfl ?_)
        | (refine XL_storeW tt_ok 2 rfl rfl rfl rfl rfl rfl rfl ?_)
        | (refine XL_storeW tt_ok 3 rfl rfl rfl rfl rfl rfl rfl ?_)
        | (refine XL_storeW tt_ok 4 rfl rfl rfl rfl rfl rfl rfl ?_)
        | (refine XL_storeW tt_ok 5 rfl rfl rfl rfl rfl rfl rfl ?_)
        | (refine XL_storeW tt_ok 6 rfl rfl rfl rfl rfl rfl rfl ?_)
        | (refine XL_storeW tt_ok 7 rfl rfl rfl rfl rfl rfl rfl ?_)
        | (refine XL_storeW tt_ok 8 rfl rfl rfl rfl rfl rfl rfl ?_)
        | (refine XL_storeW tt_ok 9 rfl rfl rfl rfl rfl rfl rfl ?_)
        | (refine XL_store tt_ok 0 rfl rfl rfl rfl rfl rfl rfl rfl ?_)
        | (refine XL_store tt_ok 1 rfl rfl rfl rfl rfl rfl rfl rfl ?_)
        | (refine XL_store tt_ok 2 rfl rfl rfl rfl rfl rfl rfl rfl ?_)
        | (refine XL_store tt_ok 3 rfl rfl rfl rfl rfl rfl rfl rfl ?_)
        | (refine XL_store tt_ok 4 rfl rfl rfl rfl rfl rfl rfl rfl ?_)
        | (refine XL_store tt_ok 5 rfl rfl rfl rfl rfl rfl rfl rfl ?_)
        | (refine XL_store tt_ok 6 rfl rfl rfl rfl rfl rfl rfl rfl ?_)
        | (refine XL_store tt_ok 7 rfl rfl rfl rfl rfl rfl rfl rfl ?_)
        | (refine XL_store tt_ok 8 rfl rfl rfl rfl rfl rfl rfl rfl ?_)
        | (refine XL_store tt_ok 9 rfl rfl rfl rfl rfl rfl rfl rfl ?_)
      )
      | (refine XL_op tt_ok rfl rfl ?_; try (first | (refine XL_int (shl8_u64 (by omega) (by omega)) ?_) | (refine XL_int (shr8) ?_) | (refine XL_int (wrap_i64 (by omega) (by omega)) ?_) | (refine XL_int (wrap_u64 (by omega) (by omega)) ?_) | (refine XL_int (wrap_u8 (by omega) (by omega)) ?_) | (refine XL_int (quo_i64 (by omega) (by omega) (by omega)) ?_) | (refine XL_int (quo_u64 (by omega) (by omega) (by omega)) ?_) | (refine XL_int (rem_pos (by omega)) ?_) | (refine XL_remb (by omega) (fun _ _ _ _ => ?_)) | (refine XL_dec_t (by omega) ?_) | (refine XL_dec_f (by omega) ?_) | (refine XL_dec (fun _ => ?_) (fun _ => ?_))))
    )
    | (refine X_id ?_; first
      | (refine X_seq ?_)
      | (refine X_region ?_)
      | (refine X_skip ?_)
      | (refine X_ret ?_)
      | (refine X_exit ?_)
      | (refine X_block ?_)
      | (refine X_cond_t rfl ?_)
      | (refine X_cond_f rfl ?_)
    )
    | (refine Y_id ?_; first
      | (refine Y_then ?_)
      | (refine Y_then_ret ?_)
      | (refine Y_then_exit ?_)
      | (refine Y_block_hit ?_)
      | (refine Y_block_miss rfl ?_)
      | (refine Y_block_normal ?_)
      | (refine Y_block_ret ?_)
    )
    )
  all_goals first
    | exact Y_fn1 rfl rfl rfl
    | (rename_i h; exact absurd rfl h)
    | skip
  
end Go.Proofs.Ytpkffgbcebjhaaa
