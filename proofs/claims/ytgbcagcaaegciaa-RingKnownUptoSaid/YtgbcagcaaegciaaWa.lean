/- Walks of the program's ring, on: Remove, List. -/
import Derived.Test.YtgbcagcaaegciaaDefs
set_option linter.unusedVariables false
namespace Go.Proofs.Ytgbcagcaaegciaa
open Go.RowKit Go.Cof

set_option maxHeartbeats 8000000 in
theorem remove_spec (p : Nat) (ys : List Int) (id : Int) : Ctr Try.prog 20 [ptr p, iV id] (fun _ => True) [isRing p ys] (fun v L => v = iV (remE ys id) ∧ L = [isRing p (rmI id ys)]) := by
  refine Ctr.intro Try.func20 rfl rfl (by decide +kernel) fun F hpre => ?_
  refine X_openp 0 rfl (fun _ h => h) fun x hok => ?_
  obtain ⟨⟨A, c⟩, xs, h⟩ := x
  obtain ⟨hok, hy⟩ := hok
  dsimp only at hok hy ⊢
  have hth := there_spec p A xs.length c h
  have hix := indexI_spec A xs.length c xs id (by have := hok.len; omega)
  have hlen := hok.len
  have hhl : h ≤ xs.length := by rcases hok.hand with hh | hh <;> omega
  have hfm := firstQ_mem id xs
  have hmem : id ∈ ys ↔ id ∈ xs := by rw [hy]; exact rotL_mem
  unfold idxI at hix
  by_cases h1 : id ∈ xs
  · have hfl := hfm.2 h1
    rw [if_pos hfl] at hix
    rw [show remE ys id = 0 from if_pos (hmem.2 h1)]
    have her := erase_rmI hok.nodup hfl
    have hrl := rmI_len hok.nodup h1
    refine X_fact 1 rfl (fun _ o => own_some o (by omega)) fun hq2 => ?_
    obtain ⟨bq, rfl⟩ := hq2
    have hdl := deleteI_spec bq xs.length c xs (firstQ (qI id) xs) (by omega) hfl
    rw [her] at hdl
    have hrm := hok.remove h1 rfl
    by_cases hc : firstQ (qI id) xs < h
    · rw [if_pos hc] at hrm
      by_cases he : h - 1 = xs.length - 1
      · exfalso
        rcases hok.hand with hh | hh <;> omega
      · have hr := hrm.1 he
        repeat' (first | (refine XL_id ?_; first | refine XL_nil ?_ | (refine XG_load ?_; first | refine XL_load tt_ok 0 rfl rfl rfl rfl rfl rfl ?_ | refine XL_load tt_ok 1 rfl rfl rfl rfl rfl rfl ?_) | (refine XG_call ?_; first | refine XL_fn hth rfl rfl (fun g hg hL => blk_at 0 rfl hL) ?_ | refine XL_fn hix rfl rfl (fun g hg hL => rd_at 1 rfl hL) ?_ | refine XL_callE [1] hdl rfl rfl rfl (fun _ _ _ => trivial) ?_) | (refine XG_store ?_; (refine XL_store tt_ok 1 rfl rfl rfl rfl rfl rfl rfl rfl ?_; refine XL_nK 1 rfl (by repeat' (first | exact .nil | apply NL.cons)) ?_)) | (refine XL_op tt_ok rfl rfl ?_; try (first | refine XL_int (wrap_i64 (by omega) (by omega)) ?_ | refine XL_dec_t (by omega) ?_ | refine XL_dec_f (by omega) ?_))) | (refine XD_id ?_; first | (refine XD_thaw thaw ?_; refine XD_nil ?_) | (refine XD_id ?_; (first | (refine XD_uL rfl ?_; refine XD_s rfl rfl rfl (XV_load tt_ok rfl (blk_at 0 rfl hM) rfl rfl rfl) rfl ?_) | (refine XD_u rfl rfl ?_; refine XD_s rfl rfl rfl (XV_op tt_ok rfl) rfl ?_)); try (refine XD_dec_f (by omega) ?_))) | (refine X_id ?_; first | (refine X_drawS (id := 9) [0, 1, 2, 3, 4, 5, 6, 7, 8, 9] (fun _ => .s) 8 (by repeat' (first | exact Split.nil | apply Split.blk | apply Split.keep)) mixed (by decide +kernel) ?_; intro G hFG hM thaw; show XD _ _ _ _ _ _ [0, 1, 2, 3, 4, 5, 6, 7, 8, 9] _ _ _) | refine X_seq ?_ | (refine X_regionN (by repeat' (first | exact .nil | apply NL.cons)) ?_) | refine X_skip ?_ | refine X_ret ?_ | refine X_cond_t rfl ?_ | refine X_cond_f rfl ?_) | (refine Y_id ?_; refine Y_then ?_))
        all_goals first
          | exact Y_ret1 rfl rfl (stars_fin [1, 0] rfl (isRing_mk (h := h - 1) (by omega) hr.1 hrl.symm (by rw [hr.2, hy]))) ⟨rfl, rfl⟩
          | exact Y_ret1 rfl rfl (stars_fin [0, 0] rfl (isRing_mk (h := h - 1) (by omega) hr.1 hrl.symm (by rw [hr.2, hy]))) ⟨rfl, rfl⟩
          | (exfalso; omega)
          | skip
        
    · rw [if_neg hc] at hrm
      by_cases he : h = xs.length - 1
      · have hr := hrm.2 he
        repeat' (first | (refine XL_id ?_; first | refine XL_nil ?_ | (refine XG_load ?_; first | refine XL_load tt_ok 0 rfl rfl rfl rfl rfl rfl ?_ | refine XL_load tt_ok 1 rfl rfl rfl rfl rfl rfl ?_) | (refine XG_call ?_; first | refine XL_fn hth rfl rfl (fun g hg hL => blk_at 0 rfl hL) ?_ | refine XL_fn hix rfl rfl (fun g hg hL => rd_at 1 rfl hL) ?_ | refine XL_callE [1] hdl rfl rfl rfl (fun _ _ _ => trivial) ?_) | (refine XG_store ?_; (refine XL_store tt_ok 1 rfl rfl rfl rfl rfl rfl rfl rfl ?_; refine XL_nK 1 rfl (by repeat' (first | exact .nil | apply NL.cons)) ?_)) | (refine XL_op tt_ok rfl rfl ?_; try (first | refine XL_int (wrap_i64 (by omega) (by omega)) ?_ | refine XL_dec_f (by omega) ?_))) | (refine XD_id ?_; first | (refine XD_thaw thaw ?_; refine XD_nil ?_) | (refine XD_id ?_; (first | (refine XD_uL rfl ?_; refine XD_s rfl rfl rfl (XV_load tt_ok rfl (blk_at 0 rfl hM) rfl rfl rfl) rfl ?_) | (refine XD_u rfl rfl ?_; refine XD_s rfl rfl rfl (XV_op tt_ok rfl) rfl ?_)); try (refine XD_dec_t (by omega) ?_))) | (refine X_id ?_; first | (refine X_drawS (id := 9) [0, 1, 2, 3, 4, 5, 6, 7, 8, 9] (fun _ => .s) 8 (by repeat' (first | exact Split.nil | apply Split.blk | apply Split.keep)) mixed (by decide +kernel) ?_; intro G hFG hM thaw; show XD _ _ _ _ _ _ [0, 1, 2, 3, 4, 5, 6, 7, 8, 9] _ _ _) | refine X_seq ?_ | (refine X_regionN (by repeat' (first | exact .nil | apply NL.cons)) ?_) | refine X_skip ?_ | refine X_ret ?_ | refine X_cond_t rfl ?_ | refine X_cond_f rfl ?_) | (refine Y_id ?_; refine Y_then ?_))
        all_goals first
          | exact Y_ret1 rfl rfl (stars_fin [1, 0] rfl (isRing_mk (h := 0) rfl hr.1 hrl.symm (by rw [hr.2, hy]))) ⟨rfl, rfl⟩
          | exact Y_ret1 rfl rfl (stars_fin [0, 0] rfl (isRing_mk (h := 0) rfl hr.1 hrl.symm (by rw [hr.2, hy]))) ⟨rfl, rfl⟩
          | (exfalso; omega)
          | skip
        
      · have hr := hrm.1 he
        repeat' (first | (refine XL_id ?_; first | refine XL_nil ?_ | (refine XG_load ?_; first | refine XL_load tt_ok 0 rfl rfl rfl rfl rfl rfl ?_ | refine XL_load tt_ok 1 rfl rfl rfl rfl rfl rfl ?_) | (refine XG_call ?_; first | refine XL_fn hth rfl rfl (fun g hg hL => blk_at 0 rfl hL) ?_ | refine XL_fn hix rfl rfl (fun g hg hL => rd_at 1 rfl hL) ?_ | refine XL_callE [1] hdl rfl rfl rfl (fun _ _ _ => trivial) ?_) | (refine XG_store ?_; (refine XL_store tt_ok 1 rfl rfl rfl rfl rfl rfl rfl rfl ?_; refine XL_nK 1 rfl (by repeat' (first | exact .nil | apply NL.cons)) ?_)) | (refine XL_op tt_ok rfl rfl ?_; try (first | refine XL_int (wrap_i64 (by omega) (by omega)) ?_ | refine XL_dec_f (by omega) ?_))) | (refine XD_id ?_; first | (refine XD_thaw thaw ?_; refine XD_nil ?_) | (refine XD_id ?_; (first | (refine XD_uL rfl ?_; refine XD_s rfl rfl rfl (XV_load tt_ok rfl (blk_at 0 rfl hM) rfl rfl rfl) rfl ?_) | (refine XD_u rfl rfl ?_; refine XD_s rfl rfl rfl (XV_op tt_ok rfl) rfl ?_)); try (refine XD_dec_f (by omega) ?_))) | (refine X_id ?_; first | (refine X_drawS (id := 9) [0, 1, 2, 3, 4, 5, 6, 7, 8, 9] (fun _ => .s) 8 (by repeat' (first | exact Split.nil | apply Split.blk | apply Split.keep)) mixed (by decide +kernel) ?_; intro G hFG hM thaw; show XD _ _ _ _ _ _ [0, 1, 2, 3, 4, 5, 6, 7, 8, 9] _ _ _) | refine X_seq ?_ | (refine X_regionN (by repeat' (first | exact .nil | apply NL.cons)) ?_) | refine X_skip ?_ | refine X_ret ?_ | refine X_cond_f rfl ?_) | (refine Y_id ?_; refine Y_then ?_))
        all_goals first
          | exact Y_ret1 rfl rfl (stars_fin [1, 0] rfl (isRing_mk (h := h) rfl hr.1 hrl.symm (by rw [hr.2, hy]))) ⟨rfl, rfl⟩
          | exact Y_ret1 rfl rfl (stars_fin [0, 0] rfl (isRing_mk (h := h) rfl hr.1 hrl.symm (by rw [hr.2, hy]))) ⟨rfl, rfl⟩
          | (exfalso; omega)
          | skip
        
  · rw [if_neg (fun hh => h1 (hfm.1 hh))] at hix
    rw [show remE ys id = 190 from if_neg (fun hh => h1 (hmem.1 hh)), rmI_none (fun hh => h1 (hmem.1 hh))]
    repeat' (first | (refine XL_id ?_; first | refine XL_nil ?_ | (refine XG_load ?_; refine XL_load tt_ok 0 rfl rfl rfl rfl rfl rfl ?_) | (refine XG_call ?_; first | refine XL_fn hth rfl rfl (fun g hg hL => blk_at 0 rfl hL) ?_ | refine XL_fn hix rfl rfl (fun g hg hL => rd_at 1 rfl hL) ?_) | (refine XL_op tt_ok rfl rfl ?_; try (refine XL_dec_t (by omega) ?_))) | (refine X_id ?_; first | refine X_seq ?_ | (refine X_regionN (by repeat' (first | exact .nil | apply NL.cons)) ?_) | refine X_skip ?_ | refine X_ret ?_ | refine X_cond_t rfl ?_ | refine X_cond_f rfl ?_) | (refine Y_id ?_; first | refine Y_then ?_ | refine Y_then_ret ?_))
    all_goals first
      | exact Y_ret1 rfl rfl (stars_fin [0, 0] rfl (isRing_mk rfl hok rfl hy.symm)) ⟨rfl, rfl⟩
      | (exfalso; omega)
      | skip
    
set_option maxHeartbeats 8000000 in
theorem list_spec (p : Nat) (ys : List Int) : Ctr Try.prog 13 [ptr p] (fun _ => True) [isRing p ys] (fun v L => ∃ A c, v = .slice A ys.length c ∧ L = [own encN A ys.length c ys, isRing p ys]) := by
  refine Ctr.intro Try.func13 rfl rfl (by decide +kernel) fun F hpre => ?_
  refine X_openp 0 rfl (fun _ h => h) fun x hok => ?_
  obtain ⟨⟨A, c⟩, xs, h⟩ := x
  obtain ⟨hok, hy⟩ := hok
  dsimp only at hok hy ⊢
  have hth := there_spec p A xs.length c h
  have hlen := hok.len
  have hhl : h ≤ xs.length := by rcases hok.hand with hh | hh <;> omega
  have hyl : ys.length = xs.length - h + h := by rw [hy, rotL_len]; omega
  refine X_fact 1 rfl (fun _ o => own_len o) fun hq => ?_
  obtain ⟨_, hc1, hc2⟩ := hq
  have hcc := fun q => concat2_spec q (sbA A 1 h c) (sbA A 1 0 c) (xs.length - h) (c - h) h (c - 0) (xs.drop h) (xs.take h) (by omega) (by omega)
  have hsub : ∀ g, rdS encN g A xs.length xs → rdS encN g (sbA A 1 h c) (xs.length - h) (xs.drop h) ∧ rdS encN g (sbA A 1 0 c) h (xs.take h) := fun g r => by
    have h1 := r.sub (l := h) (k := xs.length) (cc := c) (by omega) (by omega) (by omega)
    have h2 := r.sub (l := 0) (k := h) (cc := c) (by omega) (by omega) (by omega)
    rw [List.take_length] at h1
    exact ⟨h1, h2⟩
  rw [hyl]
  repeat' (first | (refine XL_id ?_; first | refine XL_nil ?_ | (refine XG_call ?_; first | refine XL_fn hth rfl rfl (fun g hg hL => blk_at 0 rfl hL) ?_ | (refine XL_callK [] (hcc _) rfl rfl (fun _ => rfl) (fun g hg hL => ⟨blk_at 0 rfl hL, hsub _ (rd_at 1 rfl hL)⟩) (fun u L hv => ?_); obtain ⟨A2, c2, rfl, rfl⟩ := hv)) | (refine XG_lit ?_; (refine XL_lit tt_ok rfl rfl rfl rfl rfl rfl rfl rfl rfl (fun _ => rfl) (fun b => ?_); refine XL_nB (by repeat' (first | exact .nil | apply NL.cons)) ?_)) | (refine XL_op tt_ok rfl rfl ?_)) | (refine XD_id ?_; first | (refine XD_thaw thaw ?_; refine XD_nil ?_) | (refine XD_id ?_; (first | (refine XD_uL rfl ?_; refine XD_s rfl rfl rfl (XV_load tt_ok rfl (blk_at 0 rfl hM) rfl rfl rfl) rfl ?_) | (refine XD_u rfl rfl ?_; first | refine XD_s rfl rfl rfl (XV_op tt_ok rfl) rfl ?_ | refine XD_s rfl rfl rfl (XV_slice tt_ok rfl rfl rfl rfl (.lo (x := (h : Int)) (by omega) (by omega)) rfl rfl rfl) rfl ?_ | refine XD_s rfl rfl rfl (XV_slice tt_ok rfl rfl rfl rfl (.hi (by omega) (by omega)) rfl rfl rfl) rfl ?_))) | refine XD_m rfl rfl ?_) | (refine X_id ?_; first | (refine X_drawS (id := 3) [0, 1, 2, 3, 4, 5, 6, 7, 8, 9, 10, 11, 12, 13, 14, 15, 16, 17, 18, 19, 20] (fun | 18 => .m | 19 => .m | _ => .s) 8 (by repeat' (first | exact Split.nil | apply Split.blk | apply Split.keep)) mixed (by decide +kernel) ?_; intro G hFG hM thaw; show XD _ _ _ _ _ _ [0, 1, 2, 3, 4, 5, 6, 7, 8, 9, 10, 11, 12, 13, 14, 15, 16, 17, 18, 19, 20] _ _ _) | refine X_seq ?_ | (refine X_regionN (by repeat' (first | exact .nil | apply NL.cons)) ?_) | refine X_skip ?_ | refine X_ret ?_ | refine X_cond_f rfl ?_) | (refine Y_id ?_; first | refine Y_then ?_ | refine Y_m ?_))
  all_goals first
    | exact Y_ret1 rfl rfl (stars_two [0] [2, 1] rfl rfl (fun h hs => by rw [hy]; exact stars_own hs) (isRing_mk rfl hok rfl hy.symm)) ⟨_, _, rfl, rfl⟩
    | skip
  
end Go.Proofs.Ytgbcagcaaegciaa
