/- SpaceKnown: fits walked. -/
import Derived.Test.YtalkcemelegohaaKg
import Derived.Test.YtalkcemelegohaaLf
set_option linter.unusedVariables false
set_option maxRecDepth 100000
namespace Go.Proofs.Ytalkcemelegohaa
open Go.RowKit Go.Cof
open Pl (Cd Ly CfR cfV thE shpE thE_zero Pt encPt)

theorem k_n0 : fitR (cfD 64 1) 0 ⟨-1, 0, 0, 0⟩ = (false, 2) := k_f4 ⟨0, by decide⟩
theorem k_n1 : fitR (cfD 64 1) 0 ⟨0, -1, 0, 0⟩ = (false, 2) := k_f4 ⟨1, by decide⟩
theorem k_n2 : fitR (cfD 64 1) 0 ⟨0, 0, -1, 0⟩ = (false, 2) := k_f4 ⟨2, by decide⟩
theorem k_n3 : fitR (cfD 64 1) 0 ⟨0, 0, 0, -1⟩ = (false, 2) := k_f4 ⟨3, by decide⟩
theorem ft_all : ftL.take 6 = [true, false, false, false, false, true] := by decide +kernel
set_option maxHeartbeats 32000000 in
theorem fitsK_spec : FnC Try.prog 33 [] (fun _ => True) (.bool true) := by
  refine Ctr.intro Try.func33 rfl rfl (by decide +kernel) fun F hpre => ?_
  repeat' (first | (refine XL_id ?_; first | refine XL_nil ?_ | (refine XG_build ?_; (refine XL_build tt_ok rfl rfl rfl rfl rfl rfl rfl ?_; refine XL_aggN (by repeat' (first | exact .nil | apply NL.cons)) ?_)) | (refine XG_lit ?_; (refine XL_lit tt_ok rfl rfl rfl rfl rfl rfl rfl rfl rfl (fun _ => rfl) (fun b => ?_); refine XL_nB (by repeat' (first | exact .nil | apply NL.cons)) ?_)) | (refine XL_op tt_ok rfl rfl ?_)) | (refine X_id ?_; first | refine X_block (id := 0) (hold ?_) | refine X_seq ?_ | (refine X_regionN (by repeat' (exact .nil)) ?_)) | (refine Y_id ?_; refine Y_then ?_))
  intro _
  revert b
  intro ba
  refine X_loopD2 [25, 26] (fun (i : Nat) (s : Option Addr × Nat) => [(27, .int .i64 i), (1, .slice s.1 i s.2)]) (fun i s => [own encB s.1 i s.2 (ftL.take i), own encNd (some ⟨ba, 0, none⟩) 6 6 ndL]) (fun i s => i ≤ 6) (fun i s => 6 - i) 0 (none, 0) rfl (Nat.zero_le _) (by (repeat' (first | exact trivial | refine And.intro rfl ?_)); done) (fun h hs => stars_new (own_nil encB _) (stars_conv (k := 0) (B := own encNd (some ⟨ba, 0, none⟩) 6 6 ndL) rfl (fun _ o => own_of_blk o rfl rfl (by decide)) hs)) ?_
  intro i s hi
  obtain ⟨A, c⟩ := s
  dsimp only
  by_cases hlt : i < 6
  · have hki := k_fits ⟨i, hlt⟩
    have hfi : fitR (cfD 64 1) 0 (Cof.get ndL (i : Int)) = (Cof.get ftL (i : Int), 0) := hki.1
    have hsn : ftL.take (i + 1) = ftL.take i ++ [Cof.get ftL (i : Int)] := hki.2
    obtain ⟨v, hv9⟩ : ∃ v, Cof.get ftL (i : Int) = v := ⟨_, rfl⟩
    rw [hv9] at hfi hsn
    repeat' (first | (refine XL_id ?_; first | refine XL_nil ?_ | (refine XL_conv 0 (own encB (some ⟨_, 0, none⟩) 1 1 [v]) rfl (fun h o => own_of_blk o rfl rfl (by decide)) ?_; refine XL_appO tt_ok 5 0 rfl rfl rfl rfl rfl rfl rfl rfl rfl rfl (by show (_ : Nat) * 1 ≤ _; omega) (by omega) (fun _ _ => rfl) (fun A2 c2 => ?_)) | (refine XG_load ?_; refine XL_eloW tt_ok 1 rfl rfl rfl (by omega) (by omega) rfl rfl rfl rfl ?_) | (refine XG_idx ?_; refine XL_idxo tt_ok 1 rfl rfl rfl rfl rfl rfl (by omega) (by omega) rfl ?_) | (refine XG_call ?_; first | (refine XL_callK [] conf_spec rfl rfl (fun _ => rfl) (fun _ _ _ => trivial) (fun u L hv => ?_); obtain ⟨bt, bp, b1, b2, rfl, rfl⟩ := hv) | refine XL_fn (kf cf_in64 hfi) rfl rfl (fun g hg hL => stars_only [0, 0, 0, 0] rfl g hL) ?_) | (refine XG_alloc ?_; (refine XL_alloc tt_ok rfl rfl (fun _ => rfl) (fun b => ?_); refine XL_nB (by repeat' (first | exact .nil | apply NL.cons)) ?_)) | (refine XG_lit ?_; (refine XL_lit tt_ok rfl rfl rfl rfl rfl rfl rfl rfl rfl (fun _ => rfl) (fun b => ?_); refine XL_nB (by repeat' (first | exact .nil | apply NL.cons)) ?_)) | (refine XG_store ?_; (refine XL_storeW tt_ok 0 rfl rfl rfl rfl rfl rfl rfl ?_; refine XL_nK 0 rfl (by repeat' (first | exact .nil | apply NL.cons)) ?_)) | (refine XL_op tt_ok rfl rfl ?_; try (first | refine XL_int (wrap_i64 (by omega) (by omega)) ?_ | refine XL_dec_t (by omega) ?_ | refine XL_dec_f (by omega) ?_))) | (refine XD_id ?_; first | (refine XD_thaw thaw ?_; refine XD_nil ?_) | (refine XD_id ?_; (first | (refine XD_uL rfl ?_; refine XD_s rfl rfl rfl (XV_loadW tt_ok rfl (blk_at 0 rfl hM) rfl rfl rfl) rfl ?_) | (refine XD_u rfl rfl ?_; refine XD_s rfl rfl rfl (XV_op tt_ok rfl) rfl ?_))) | refine XD_m rfl rfl ?_) | (refine X_id ?_; first | (refine X_drawS (id := 5) [1, 0, 2, 3, 4, 5, 6, 7] (fun | 0 => .m | 2 => .m | _ => .s) 8 (by (repeat apply Split.blk); apply Split.keep; (repeat apply Split.blk); apply Split.keep; repeat' (exact Split.nil)) mixed (by decide +kernel) ?_; intro G hFG hM thaw; show XD _ _ _ _ _ _ [1, 0, 2, 3, 4, 5, 6, 7] _ _ _) | refine X_seq ?_ | (refine X_regionN (by repeat' (first | exact .nil | apply NL.cons)) ?_) | refine X_skip ?_ | refine X_block ?_ | refine X_cond_t rfl ?_ | refine X_cond_f rfl ?_) | (refine Y_id ?_; first | refine Y_then ?_ | refine Y_block_normal ?_ | refine Y_m ?_))
    all_goals first
      | exact Y_again (i + 1, (A2, c2)) fun _ _ hf hs => ⟨by show i + 1 ≤ 6; omega, by show 6 - (i + 1) < 6 - i; omega, hf.sub (by (repeat' (first | exact trivial | refine And.intro rfl ?_)); done), hs.imp fun h hs => by show stars [own encB A2 (i + 1) c2 (ftL.take (i + 1)), _] h; rw [hsn]; exact stars_only [5, 5] rfl h hs⟩
      | (exfalso; omega)
      | (rename_i h9; exact absurd rfl h9)
      | skip
    
  · obtain rfl : i = 6 := by omega
    rw [ft_all]
    repeat' (first | (refine XL_id ?_; first | refine XL_nil ?_ | (refine XG_load ?_; first | refine XL_loadW tt_ok 0 rfl rfl rfl rfl rfl rfl ?_ | refine XL_load tt_ok 0 rfl rfl rfl rfl rfl rfl ?_) | (refine XG_idx ?_; refine XL_idxl tt_ok rfl rfl rfl rfl rfl (by omega) (by omega) rfl ?_) | (refine XG_build ?_; (refine XL_build tt_ok rfl rfl rfl rfl rfl rfl rfl ?_; refine XL_aggN (by repeat' (first | exact .nil | apply NL.cons)) ?_)) | (refine XG_call ?_; first | (refine XL_callK [] conf_spec rfl rfl (fun _ => rfl) (fun _ _ _ => trivial) (fun u L hv => ?_); obtain ⟨bt, bp, b1, b2, rfl, rfl⟩ := hv) | refine XL_fn (kf cf_in128 k_f1) rfl rfl (fun g hg hL => stars_only [1, 1, 1, 1] rfl g hL) ?_ | refine XL_fn (kf cf_in128 k_f2) rfl rfl (fun g hg hL => stars_only [1, 1, 1, 1] rfl g hL) ?_ | refine XL_fn (kf cf_in64 k_f3) rfl rfl (fun g hg hL => stars_only [0, 0, 0, 0] rfl g hL) ?_ | refine XL_fn kz rfl rfl (fun _ _ _ => trivial) ?_) | (refine XG_alloc ?_; (refine XL_alloc tt_ok rfl rfl (fun _ => rfl) (fun b => ?_); refine XL_nB (by repeat' (first | exact .nil | apply NL.cons)) ?_)) | (refine XG_store ?_; first | (refine XL_storeW tt_ok 0 rfl rfl rfl rfl rfl rfl rfl ?_; refine XL_nK 0 rfl (by repeat' (first | exact .nil | apply NL.cons)) ?_) | (refine XL_store tt_ok 0 rfl rfl rfl rfl rfl rfl rfl rfl ?_; refine XL_nK 0 rfl (by repeat' (first | exact .nil | apply NL.cons)) ?_) | (refine XL_store tt_ok 2 rfl rfl rfl rfl rfl rfl rfl rfl ?_; refine XL_nK 2 rfl (by repeat' (first | exact .nil | apply NL.cons)) ?_)) | (refine XL_op tt_ok rfl rfl ?_; try (first | refine XL_dec_t (by omega) ?_ | refine XL_dec_f (by omega) ?_))) | (refine X_id ?_; first | refine X_block (id := 2) (hold ?_) | refine X_seq ?_ | (refine X_regionN (by repeat' (first | exact .nil | apply NL.cons)) ?_) | refine X_exit ?_ | refine X_cond_f rfl ?_) | (refine Y_id ?_; first | refine Y_then ?_ | refine Y_then_exit ?_ | refine Y_block_hit ?_))
    all_goals first
      | (exfalso; omega)
      | (rename_i h9; exact absurd rfl h9)
      | skip
    intro _
    refine X_loopD [1, 7, 8, 9, 10, 12, 14] (fun (i : Nat) => [(15, .int .i64 i)]) (fun i => [own encB A 6 c [true, false, false, false, false, true]]) (fun i => i ≤ 4) (fun i => 4 - i) 0 rfl (Nat.zero_le _) (by (repeat' (first | exact trivial | refine And.intro rfl ?_)); done) (fun h hs => by first | exact stars_only [9] rfl h hs | exact stars_only [4] rfl h hs | exact stars_only [5] rfl h hs | exact stars_only [6] rfl h hs | exact stars_only [8] rfl h hs | exact stars_only [10] rfl h hs | exact stars_only [11] rfl h hs) ?_
    intro i hi
    by_cases hlt : i < 4
    · have h4 : i = 0 ∨ i = 1 ∨ i = 2 ∨ i = 3 := by omega
      rcases h4 with rfl | rfl | rfl | rfl
      all_goals repeat' (first | (refine XL_id ?_; first | refine XL_nil ?_ | (refine XG_build ?_; (refine XL_build tt_ok rfl rfl rfl rfl rfl rfl rfl ?_; refine XL_aggN (by repeat' (first | exact .nil | apply NL.cons)) ?_)) | (refine XG_call ?_; first | (refine XL_callK [] conf_spec rfl rfl (fun _ => rfl) (fun _ _ _ => trivial) (fun u L hv => ?_); obtain ⟨bt, bp, b1, b2, rfl, rfl⟩ := hv) | refine XL_fn (kf cf_in64 k_n0) rfl rfl (fun g hg hL => stars_only [0, 0, 0, 0] rfl g hL) ?_ | refine XL_fn (kf cf_in64 k_n1) rfl rfl (fun g hg hL => stars_only [0, 0, 0, 0] rfl g hL) ?_ | refine XL_fn (kf cf_in64 k_n2) rfl rfl (fun g hg hL => stars_only [0, 0, 0, 0] rfl g hL) ?_ | refine XL_fn (kf cf_in64 k_n3) rfl rfl (fun g hg hL => stars_only [0, 0, 0, 0] rfl g hL) ?_) | (refine XG_alloc ?_; (refine XL_alloc tt_ok rfl rfl (fun _ => rfl) (fun b => ?_); refine XL_nB (by repeat' (first | exact .nil | apply NL.cons)) ?_)) | (refine XG_store ?_; first | (refine XL_storeW tt_ok 0 rfl rfl rfl rfl rfl rfl rfl ?_; refine XL_nK 0 rfl (by repeat' (first | exact .nil | apply NL.cons)) ?_) | (refine XL_store tt_ok 0 rfl rfl rfl rfl rfl rfl rfl rfl ?_; refine XL_nK 0 rfl (by repeat' (first | exact .nil | apply NL.cons)) ?_)) | (refine XL_op tt_ok rfl rfl ?_; try (first | refine XL_int (wrap_i64 (by omega) (by omega)) ?_ | refine XL_dec_t (by omega) ?_ | refine XL_dec_f (by omega) ?_))) | (refine XD_id ?_; first | (refine XD_thaw thaw ?_; refine XD_nil ?_) | (refine XD_id ?_; (first | (refine XD_uL rfl ?_; refine XD_s rfl rfl rfl (XV_loadW tt_ok rfl (blk_at 0 rfl hM) rfl rfl rfl) rfl ?_) | (refine XD_u rfl rfl ?_; refine XD_s rfl rfl rfl (XV_op tt_ok rfl) rfl ?_)); try (refine XD_dec_f (by omega) ?_)) | refine XD_m rfl rfl ?_) | (refine X_id ?_; first | (refine X_drawS (id := 29) [1, 0, 2, 3, 4, 5, 6, 7] (fun | 0 => .m | 2 => .m | _ => .s) 8 (by (repeat apply Split.blk); apply Split.keep; repeat' (exact Split.nil)) mixed (by decide +kernel) ?_; intro G hFG hM thaw; show XD _ _ _ _ _ _ [1, 0, 2, 3, 4, 5, 6, 7] _ _ _) | refine X_seq ?_ | (refine X_regionN (by repeat' (first | exact .nil | apply NL.cons)) ?_) | refine X_skip ?_ | refine X_block ?_ | refine X_cond_t rfl ?_ | refine X_cond_f rfl ?_) | (refine Y_id ?_; first | refine Y_then ?_ | refine Y_block_normal ?_ | refine Y_m ?_))
      all_goals first
        | exact Y_again 1 fun _ _ hf hs => ⟨by decide, by decide, hf.sub (by (repeat' (first | exact trivial | refine And.intro rfl ?_)); done), hs.imp fun h hs => stars_only [4] rfl h hs⟩
        | exact Y_again 2 fun _ _ hf hs => ⟨by decide, by decide, hf.sub (by (repeat' (first | exact trivial | refine And.intro rfl ?_)); done), hs.imp fun h hs => stars_only [4] rfl h hs⟩
        | exact Y_again 3 fun _ _ hf hs => ⟨by decide, by decide, hf.sub (by (repeat' (first | exact trivial | refine And.intro rfl ?_)); done), hs.imp fun h hs => stars_only [4] rfl h hs⟩
        | exact Y_again 4 fun _ _ hf hs => ⟨by decide, by decide, hf.sub (by (repeat' (first | exact trivial | refine And.intro rfl ?_)); done), hs.imp fun h hs => stars_only [4] rfl h hs⟩
        | (exfalso; omega)
        | (rename_i h9; exact absurd rfl h9)
        | skip
      
    · obtain rfl : i = 4 := by omega
      repeat' (first | (refine XL_id ?_; first | refine XL_nil ?_ | refine XL_guard_yes rfl rfl rfl ?_ | (refine XG_load ?_; refine XL_elo tt_ok 0 rfl rfl rfl (by omega) (by omega) rfl rfl rfl rfl ?_) | (refine XG_idx ?_; refine XL_idxo tt_ok 0 rfl rfl rfl rfl rfl rfl (by omega) (by omega) rfl ?_) | (refine XL_op tt_ok rfl rfl ?_; try (first | refine XL_dec_t (by omega) ?_ | refine XL_dec_f (by omega) ?_))) | (refine X_id ?_; first | refine X_seq ?_ | (refine X_regionN (by repeat' (first | exact .nil | apply NL.cons)) ?_) | refine X_ret ?_ | refine X_exit ?_ | refine X_cond_f rfl ?_) | (refine Y_id ?_; first | refine Y_then ?_ | refine Y_then_exit ?_ | refine Y_block_hit ?_))
      all_goals first
        | exact Y_fn1 rfl rfl rfl
        | (exfalso; omega)
        | (rename_i h9; exact absurd rfl h9)
        | skip
      
end Go.Proofs.Ytalkcemelegohaa
