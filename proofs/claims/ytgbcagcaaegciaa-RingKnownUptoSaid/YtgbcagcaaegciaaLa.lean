/- Walks of the laws' helpers: done. -/
import Derived.Test.YtgbcagcaaegciaaRb
set_option linter.unusedVariables false
namespace Go.Proofs.Ytgbcagcaaegciaa
open Go.RowKit Go.Cof

theorem ask_conv (q : Nat) (x : Do) : ∀ h, askB q x none 0 0 h → isAsk q x [] h := fun h hb =>
  ⟨(none, 0), trivial, stars_swap (stars_new (own_nil encN _) ⟨h, Hp.nil, ⟨fun _ => .inr rfl⟩, Hp.le_refl h, ⟨fun b o hh => by cases hh⟩, hb, trivial⟩)⟩
abbrev doV (x : Do) : Value := .agg #[iV x.k, iV x.i, .slice x.B x.m x.c, .bool x.r]
def stepR (ys : List Int) (x : Do) (bs : List Bool) : List Int := if x.k % 3 = 0 then addT ys x.i else if x.k % 3 = 1 then rmI x.i ys else (nextF (ansA bs x.r) nxA x.i ys []).2.1
set_option maxRecDepth 100000 in
set_option maxHeartbeats 8000000 in
theorem done_spec (r s : Nat) (ys : List Int) (x : Do) (bs : List Bool) (hk : -9223372036854775808 ≤ x.k ∧ x.k ≤ 9223372036854775807) :
    Ctr Try.prog 12 [ptr r, ptr s, doV x] (fun h => rdS encB h x.B x.m bs) [isRing r ys, isRef s ys] (fun v L => v = .bool true ∧ L = [isRing r (stepR ys x bs), isRef s (stepR ys x bs)]) := by
  have hw := within_spec x.k 3 hk.1 hk.2 (by decide) (by decide)
  have hk3 : x.k % 3 = 0 ∨ x.k % 3 = 1 ∨ x.k % 3 = 2 := by omega
  unfold stepR
  refine Ctr.intro Try.func12 rfl rfl (by decide +kernel) fun F hpre => ?_
  have r1 : rdS encB F.heap x.B x.m bs := hpre
  rcases hk3 with hk0 | hk0 | hk0
  · rw [if_pos hk0]
    repeat' (first | (refine XL_id ?_; first | refine XL_nil ?_ | (refine XG_load ?_; refine XL_load tt_ok 0 rfl rfl rfl rfl rfl rfl ?_) | (refine XG_box ?_; (refine XL_box rfl (fun _ => rfl) (fun _ => ?_); refine XL_nB (by repeat' (first | exact .nil | apply NL.cons)) ?_)) | (refine XG_call ?_; first | refine XL_fn hw rfl rfl (fun _ _ _ => trivial) ?_ | refine XL_callE [0] (add_spec r ys x.i) rfl rfl rfl (fun _ _ _ => trivial) ?_ | refine XL_callE [1] (radd_spec s ys x.i) rfl rfl rfl (fun _ _ _ => trivial) ?_) | (refine XL_op tt_ok rfl rfl ?_; try (refine XL_dec_t (by omega) ?_))) | (refine XD_id ?_; first | (refine XD_thaw thaw ?_; refine XD_nil ?_) | (refine XD_id ?_; (first | (refine XD_uL rfl ?_; refine XD_s rfl rfl rfl (XV_load tt_ok rfl (blk_at 0 rfl hM) rfl rfl rfl) rfl ?_) | (refine XD_u rfl rfl ?_; refine XD_s rfl rfl rfl (XV_op tt_ok rfl) rfl ?_)); try (refine XD_dec_t (by omega) ?_)) | refine XD_m rfl rfl ?_) | (refine X_id ?_; first | (refine X_drawS (id := 3) [0, 1, 2, 4, 5, 6, 3, 7, 8, 9] (fun | 3 => .m | 7 => .m | _ => .s) 8 (by repeat' (first | exact Split.nil | apply Split.blk | apply Split.keep)) mixed (by decide +kernel) ?_; intro G hFG hM thaw; show XD _ _ _ _ _ _ [0, 1, 2, 4, 5, 6, 3, 7, 8, 9] _ _ _) | refine X_seq ?_ | (refine X_regionN (by repeat' (first | exact .nil | apply NL.cons)) ?_) | refine X_ret ?_ | refine X_block ?_ | refine X_cond_t rfl ?_) | (refine Y_id ?_; first | refine Y_then ?_ | refine Y_then_ret ?_ | refine Y_block_ret ?_ | refine Y_m ?_))
    all_goals first
      | exact Y_ret1 rfl rfl (stars_only [1, 0] rfl) ⟨rfl, rfl⟩
      | exact Y_ret1 rfl rfl (stars_only [0, 0] rfl) ⟨rfl, rfl⟩
      | (exfalso; omega)
      | skip
    
  · rw [if_neg (by omega), if_pos hk0]
    repeat' (first | (refine XL_id ?_; first | refine XL_nil ?_ | (refine XG_load ?_; refine XL_load tt_ok 0 rfl rfl rfl rfl rfl rfl ?_) | (refine XG_box ?_; (refine XL_box rfl (fun _ => rfl) (fun _ => ?_); refine XL_nB (by repeat' (first | exact .nil | apply NL.cons)) ?_)) | (refine XG_call ?_; first | refine XL_fn hw rfl rfl (fun _ _ _ => trivial) ?_ | refine XL_callE [0] (remove_spec r ys x.i) rfl rfl rfl (fun _ _ _ => trivial) ?_ | refine XL_callE [1] (rremove_spec s ys x.i) rfl rfl rfl (fun _ _ _ => trivial) ?_) | (refine XL_op tt_ok rfl rfl ?_; try (first | refine XL_dec_t (by omega) ?_ | refine XL_dec_f (by omega) ?_))) | (refine XD_id ?_; first | (refine XD_thaw thaw ?_; refine XD_nil ?_) | (refine XD_id ?_; (first | (refine XD_uL rfl ?_; refine XD_s rfl rfl rfl (XV_load tt_ok rfl (blk_at 0 rfl hM) rfl rfl rfl) rfl ?_) | (refine XD_u rfl rfl ?_; refine XD_s rfl rfl rfl (XV_op tt_ok rfl) rfl ?_)); try (refine XD_dec_t (by omega) ?_)) | refine XD_m rfl rfl ?_) | (refine X_id ?_; first | (refine X_drawS (id := 5) [0, 1, 2, 4, 5, 6, 3, 7, 8, 9] (fun | 3 => .m | 7 => .m | _ => .s) 8 (by repeat' (first | exact Split.nil | apply Split.blk | apply Split.keep)) mixed (by decide +kernel) ?_; intro G hFG hM thaw; show XD _ _ _ _ _ _ [0, 1, 2, 4, 5, 6, 3, 7, 8, 9] _ _ _) | refine X_seq ?_ | (refine X_regionN (by repeat' (first | exact .nil | apply NL.cons)) ?_) | refine X_ret ?_ | refine X_block ?_ | refine X_cond_t rfl ?_ | refine X_cond_f rfl ?_) | (refine Y_id ?_; first | refine Y_then ?_ | refine Y_then_ret ?_ | refine Y_block_ret ?_ | refine Y_m ?_))
    all_goals first
      | exact Y_ret1 rfl rfl (stars_only [1, 0] rfl) ⟨rfl, rfl⟩
      | exact Y_ret1 rfl rfl (stars_only [0, 0] rfl) ⟨rfl, rfl⟩
      | (exfalso; omega)
      | skip
    
  · rw [if_neg (by omega), if_neg (by omega)]
    have hnx := fun q => next_spec r ys x.i _ #[ptr q] #[] _ _ _ _ _ (ask_used q x bs ys) [] (Nat.zero_le _)
    have hrn := rnext_spec s ys x.i x.B x.m x.c bs x.r
    have hEq := fun A c B c' => eqInts_spec A B (nextF (ansA bs x.r) nxA x.i ys []).2.2.length c (nextF (ansA bs x.r) nxA x.i ys []).2.2.length c' (nextF (ansA bs x.r) nxA x.i ys []).2.2 (nextF (ansA bs x.r) nxA x.i ys []).2.2
    repeat' (first | (refine XL_id ?_; first | refine XL_nil ?_ | refine XL_guard_yes rfl rfl rfl ?_ | (refine XL_conv 0 (isAsk _ x []) rfl (ask_conv _ x) ?_; refine XL_callE [2, 0] (hnx _) rfl rfl rfl (fun g hg hL => r1.le hg) ?_) | refine XL_openp 1 rfl (fun _ (h : isAsk _ _ _ _) => h) fun y _ => ?_ | (refine XG_load ?_; first | refine XL_loadW tt_ok 0 rfl rfl rfl rfl rfl rfl ?_ | refine XL_load tt_ok 0 rfl rfl rfl rfl rfl rfl ?_ | refine XL_load tt_ok 1 rfl rfl rfl rfl rfl rfl ?_ | refine XL_load tt_ok 2 rfl rfl rfl rfl rfl rfl ?_ | refine XL_load tt_ok 3 rfl rfl rfl rfl rfl rfl ?_) | (refine XG_box ?_; (refine XL_box rfl (fun _ => rfl) (fun _ => ?_); refine XL_nB (by repeat' (first | exact .nil | apply NL.cons)) ?_)) | (refine XG_build ?_; (refine XL_build tt_ok rfl rfl rfl rfl rfl rfl rfl ?_; refine XL_aggN (by repeat' (first | exact .nil | apply NL.cons)) ?_)) | (refine XG_call ?_; first | refine XL_fn hw rfl rfl (fun _ _ _ => trivial) ?_ | (refine XL_callK [4] hrn rfl rfl (fun _ => rfl) (fun g hg hL => r1.le hg) (fun u L hv => ?_); obtain ⟨x3, rfl, rfl⟩ := hv; refine XL_fact 0 rfl (fun _ o => own_len o) fun hq3 => ?_) | (refine XL_fn (hEq _ _ _ _ (by have := hq3.2.1; have := hq3.2.2; simp only [maxLen] at this; omega) (by have := hq3.2.1; have := hq3.2.2; simp only [maxLen] at this; omega)) rfl rfl (fun g hg hL => ⟨(by exact rd_at 3 rfl hL), (by exact rd_at 0 rfl hL)⟩) ?_; refine XL_dec_t rfl ?_)) | (refine XL_op tt_ok rfl rfl ?_; try (first | refine XL_dec_t (by omega) ?_ | refine XL_dec_f (by omega) ?_))) | (refine X_id ?_; first | refine X_seq ?_ | (refine X_regionN (by repeat' (first | exact .nil | apply NL.cons)) ?_) | refine X_skip ?_ | refine X_ret ?_ | refine X_block ?_ | refine X_cond_f rfl ?_) | (refine Y_id ?_; first | refine Y_then ?_ | refine Y_block_normal ?_))
    all_goals first
      | exact Y_ret1 rfl rfl (stars_only [4, 1] rfl) ⟨rfl, rfl⟩
      | exact Y_ret1 rfl rfl (stars_only [3, 2] rfl) ⟨rfl, rfl⟩
      | exact Y_ret1 rfl rfl (stars_only [4, 2] rfl) ⟨rfl, rfl⟩
      | exact Y_ret1 rfl rfl (stars_only [3, 3] rfl) ⟨rfl, rfl⟩
      | (exfalso; omega)
      | skip
    
end Go.Proofs.Ytgbcagcaaegciaa
