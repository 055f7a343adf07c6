/- Walk of works; the laws VmaGaps, VmaChanges. -/
import Derived.Test.YtpkffgbcebjhaaaLb
set_option linter.unusedVariables false
namespace Go.Proofs.Ytpkffgbcebjhaaa
open Go.RowKit Go.Cof

theorem twoL_in : ∀ r ∈ twoL, r.In := fun r hr => by
  rcases List.mem_cons.1 hr with rfl | hr
  · exact ⟨by decide, by decide, by decide⟩
  · obtain rfl := List.mem_singleton.1 hr; exact ⟨by decide, by decide, by decide⟩
theorem w_put : putP twoL ⟨8, 2, 1⟩ = ([⟨5, 5, 1⟩, ⟨10, 2, 3⟩], 0) := by decide +kernel
theorem w_cut : cutP twoL 6 5 = ([⟨5, 1, 1⟩, ⟨11, 1, 3⟩], 0) := by decide +kernel
theorem w_prot : protP twoL 6 1 3 = ([⟨5, 1, 1⟩, ⟨6, 1, 3⟩, ⟨7, 1, 1⟩, ⟨10, 2, 3⟩], 0) := by decide +kernel
theorem w_gap : gapP twoL 4 3 100 = (12, true, 0) := by decide +kernel
set_option maxRecDepth 100000 in
set_option maxHeartbeats 4000000 in
theorem works_spec : FnC Try.prog 23 [] (fun _ => True) (.bool true) := by
  refine Ctr.intro Try.func23 rfl rfl (by decide +kernel) fun F hpre => ?_
  have hp := fun q : Nat => put_spec (some ⟨q, 0, none⟩) 2 2 twoL ⟨8, 2, 1⟩ (by decide) (by decide) twoL_in ⟨by decide, by decide, by decide⟩
  have hc := fun q : Nat => cut_spec (some ⟨q, 0, none⟩) 2 2 twoL 6 5 (by decide) (by decide) twoL_in (by decide)
  have hr := fun q : Nat => prot_spec (some ⟨q, 0, none⟩) 2 2 twoL 6 1 3 (by decide) (by decide) twoL_in (by decide)
  have hg := fun q : Nat => gap_spec (some ⟨q, 0, none⟩) 2 2 twoL 4 3 100 (by decide) (by decide) twoL_in (by decide) (by decide) (by decide)
  simp only [w_put, w_cut, w_prot, w_gap] at hp hc hr hg
  repeat' (first | (refine XL_id ?_; first | refine XL_nil ?_ | refine XL_guard_yes rfl rfl rfl ?_ | (refine XG_build ?_; refine XL_build tt_ok rfl rfl rfl rfl rfl rfl rfl ?_) | (refine XG_call ?_; first | (refine XL_callK [] (hp _) rfl rfl (fun _ => rfl) (fun g hg hL => rd_at 0 rfl hL) (fun u L hv => ?_); obtain ⟨o1, ho1, hm1, rfl, rfl⟩ := hv) | (refine XL_callK [] (hc _) rfl rfl (fun _ => rfl) (fun g hg hL => rd_at 0 rfl hL) (fun u L hv => ?_); obtain ⟨o2, ho2, hm2, rfl, rfl⟩ := hv) | (refine XL_callK [] (hr _) rfl rfl (fun _ => rfl) (fun g hg hL => rd_at 0 rfl hL) (fun u L hv => ?_); obtain ⟨o3, ho3, hm3, rfl, rfl⟩ := hv) | refine XL_fn (hg _) rfl rfl (fun g hg hL => rd_at 0 rfl hL) ?_ | (refine XL_fn (same_spec _ _ _ _ _ _ o1.xs [⟨5, 5, 1⟩, ⟨10, 2, 3⟩] (by rw [hm1, ho1]; decide) (by decide)) rfl rfl (fun g hg hL => ⟨by exact rd_at 6 rfl hL, blk_rdS (blk_at 0 rfl hL) rfl rfl⟩) ?_; refine XL_dec_t ho1 ?_) | (refine XL_fn (same_spec _ _ _ _ _ _ o2.xs [⟨5, 1, 1⟩, ⟨11, 1, 3⟩] (by rw [hm2, ho2]; decide) (by decide)) rfl rfl (fun g hg hL => ⟨by exact rd_at 5 rfl hL, blk_rdS (blk_at 0 rfl hL) rfl rfl⟩) ?_; refine XL_dec_t ho2 ?_) | (refine XL_fn (same_spec _ _ _ _ _ _ o3.xs [⟨5, 1, 1⟩, ⟨6, 1, 3⟩, ⟨7, 1, 1⟩, ⟨10, 2, 3⟩] (by rw [hm3, ho3]; decide) (by decide)) rfl rfl (fun g hg hL => ⟨by exact rd_at 4 rfl hL, blk_rdS (blk_at 0 rfl hL) rfl rfl⟩) ?_; refine XL_dec_t ho3 ?_) | (refine XL_callK [] two_spec rfl rfl (fun _ => rfl) (fun _ _ _ => trivial) (fun u L hv => ?_); obtain ⟨q, rfl, rfl⟩ := hv)) | (refine XG_lit ?_; refine XL_lit tt_ok rfl rfl rfl rfl rfl rfl rfl rfl rfl (fun _ => rfl) (fun b => ?_)) | (refine XL_op tt_ok rfl rfl ?_; try (first | refine XL_dec_t (by omega) ?_ | refine XL_dec_f (by omega) ?_ | refine XL_dec (fun _ => ?_) (fun _ => ?_)))) | (refine X_id ?_; first | refine X_seq ?_ | refine X_region ?_ | refine X_ret ?_) | (refine Y_id ?_; refine Y_then ?_))
  all_goals first
    | exact Y_fn1 rfl rfl rfl
    | (rename_i h; exact absurd rfl h)
    | skip
  
end Go.Proofs.Ytpkffgbcebjhaaa
