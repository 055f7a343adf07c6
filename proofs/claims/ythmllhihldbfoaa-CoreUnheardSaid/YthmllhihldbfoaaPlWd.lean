/- Most: the program's (printed by genm.py). -/
import Derived.Test.YthmllhihldbfoaaPlWc
set_option linter.unusedVariables false
namespace Go.Proofs.Ythmllhihldbfoaa.Pl
open Go.RowKit Go.Cof

theorem mx_le {x y K : Int} (h1 : x ≤ K) (h2 : y ≤ K) : mx x y ≤ K := by unfold mx; split <;> assumption
theorem mx_ge {x y : Int} (h1 : 0 ≤ x) : 0 ≤ mx x y := by unfold mx; split <;> omega
theorem mx_zero {x : Int} (h : 0 ≤ x) : mx x 0 = x := if_neg (by omega)
set_option maxHeartbeats 4000000 in
theorem most_walk (x : Cs) (s : Sh) (hx : x.In) (hc : CostP x) (hs : ShP s) (pg al fr : Int) (hn : Nums x.ms x.st x.fa x.di s.im s.no s.li s.us pg al fr) :
    FnC Try.prog 56 [csV x, shV s] (fun _ => True) (.tuple #[uV (s.im * x.ms + mxL (bhL x.ms x.st x.fa x.di s.no pg al fr)), iV 0]) := by
  have hb := bounds_spec x s pg al fr hn hs.us hs.li
  have has := asked_spec x s hx hc hs
  have h4 := hs.im
  have h8 := hs.no
  obtain ⟨n1, n2, n3, n4, n5, n6, n7, n8, n9, n10, n11⟩ := hn
  have hfr : 0 ≤ fr ∧ fr ≤ 537001984 := by omega
  have hpg : 0 ≤ pg ∧ pg ≤ 196608 := by omega
  have hm : 0 ≤ x.ms ∧ x.ms ≤ 65536 := by omega
  have b7 : mx (113 * x.ms) (64 * pg) ≤ 6000000000 := mx_le (by omega) (by omega)
  obtain ⟨M1, e1⟩ : ∃ v, mx 0 (17 * x.ms) = v := ⟨_, rfl⟩
  have g1 : 0 ≤ M1 := by rw [← e1]; exact mx_ge (Int.le_refl 0)
  have l1 : M1 ≤ 6000000000 := by rw [← e1]; exact mx_le (by decide) (by omega)
  obtain ⟨M2, e2⟩ : ∃ v, mx M1 (al + x.ms) = v := ⟨_, rfl⟩
  have g2 : 0 ≤ M2 := by rw [← e2]; exact mx_ge g1
  have l2 : M2 ≤ 6000000000 := by rw [← e2]; exact mx_le l1 (by omega)
  obtain ⟨M3, e3⟩ : ∃ v, mx M2 (x.ms + 16 * s.no * x.ms + al) = v := ⟨_, rfl⟩
  have g3 : 0 ≤ M3 := by rw [← e3]; exact mx_ge g2
  have l3 : M3 ≤ 6000000000 := by rw [← e3]; exact mx_le l2 (by omega)
  obtain ⟨M4, e4⟩ : ∃ v, mx M3 (113 * x.ms) = v := ⟨_, rfl⟩
  have g4 : 0 ≤ M4 := by rw [← e4]; exact mx_ge g3
  have l4 : M4 ≤ 6000000000 := by rw [← e4]; exact mx_le l3 (by omega)
  obtain ⟨M5, e5⟩ : ∃ v, mx M4 (64 * pg) = v := ⟨_, rfl⟩
  have g5 : 0 ≤ M5 := by rw [← e5]; exact mx_ge g4
  have l5 : M5 ≤ 6000000000 := by rw [← e5]; exact mx_le l4 (by omega)
  obtain ⟨M6, e6⟩ : ∃ v, mx M5 (64 * (x.st + x.ms) + x.ms) = v := ⟨_, rfl⟩
  have g6 : 0 ≤ M6 := by rw [← e6]; exact mx_ge g5
  have l6 : M6 ≤ 6000000000 := by rw [← e6]; exact mx_le l5 (by omega)
  obtain ⟨M7, e7⟩ : ∃ v, mx M6 (mx (113 * x.ms) (64 * pg)) = v := ⟨_, rfl⟩
  have g7 : 0 ≤ M7 := by rw [← e7]; exact mx_ge g6
  have l7 : M7 ≤ 6000000000 := by rw [← e7]; exact mx_le l6 b7
  obtain ⟨M8, e8⟩ : ∃ v, mx M7 (26 * x.ms + x.fa + fr + x.di) = v := ⟨_, rfl⟩
  have g8 : 0 ≤ M8 := by rw [← e8]; exact mx_ge g7
  have l8 : M8 ≤ 6000000000 := by rw [← e8]; exact mx_le l7 (by omega)
  obtain ⟨M9, e9⟩ : ∃ v, mx M8 (64 * x.ms + 2 * x.fa + 2 * fr + x.di) = v := ⟨_, rfl⟩
  have g9 : 0 ≤ M9 := by rw [← e9]; exact mx_ge g8
  have l9 : M9 ≤ 6000000000 := by rw [← e9]; exact mx_le l8 (by omega)
  obtain ⟨M10, e10⟩ : ∃ v, mx M9 (0) = v := ⟨_, rfl⟩
  have g10 : 0 ≤ M10 := by rw [← e10]; exact mx_ge g9
  have l10 : M10 ≤ 6000000000 := by rw [← e10]; exact mx_le l9 (by omega)
  have hMx : mxL (bhL x.ms x.st x.fa x.di s.no pg al fr) = M9 := by
    show mx (mx (mx (mx (mx (mx (mx (mx (mx 0 (17 * x.ms)) (al + x.ms)) (x.ms + 16 * s.no * x.ms + al)) (113 * x.ms)) (64 * pg)) (64 * (x.st + x.ms) + x.ms)) (mx (113 * x.ms) (64 * pg))) (26 * x.ms + x.fa + fr + x.di)) (64 * x.ms + 2 * x.fa + 2 * fr + x.di) = M9
    rw [e1, e2, e3, e4, e5, e6, e7, e8, e9]
  have hM : M10 = M9 := by rw [← e10]; exact mx_zero g9
  rw [hMx, ← hM]
  clear hMx hM
  refine Ctr.intro Try.func56 rfl rfl (by decide +kernel) fun F hpre => ?_
  repeat' (first | (refine XL_id ?_; first | refine XL_nil ?_ | refine XL_arrIx tt_ok rfl rfl rfl rfl rfl (by decide) (by decide) rfl rfl ?_ | (refine XG_load ?_; first | refine XL_loadW tt_ok 0 rfl rfl rfl rfl rfl rfl ?_ | refine XL_loadW tt_ok 1 rfl rfl rfl rfl rfl rfl ?_ | refine XL_load tt_ok 8 rfl rfl rfl rfl rfl rfl ?_ | refine XL_load tt_ok 9 rfl rfl rfl rfl rfl rfl ?_) | (refine XG_box ?_; (refine XL_box rfl (fun _ => rfl) (fun _ => ?_); refine XL_nB (by repeat' (first | exact .nil | apply NL.cons)) ?_)) | (refine XG_call ?_; first | (refine XL_op tt_ok rfl rfl ?_; refine XL_int e1 ?_) | (refine XL_op tt_ok rfl rfl ?_; refine XL_int e2 ?_) | (refine XL_op tt_ok rfl rfl ?_; refine XL_int e3 ?_) | (refine XL_op tt_ok rfl rfl ?_; refine XL_int e4 ?_) | (refine XL_op tt_ok rfl rfl ?_; refine XL_int e5 ?_) | (refine XL_op tt_ok rfl rfl ?_; refine XL_int e6 ?_) | (refine XL_op tt_ok rfl rfl ?_; refine XL_int e7 ?_) | (refine XL_op tt_ok rfl rfl ?_; refine XL_int e8 ?_) | (refine XL_op tt_ok rfl rfl ?_; refine XL_int e9 ?_) | (refine XL_op tt_ok rfl rfl ?_; refine XL_int e10 ?_) | (refine XL_op tt_ok rfl rfl ?_) | refine XL_fnV clo3_spec rfl rfl rfl rfl (fun _ _ _ => trivial) ?_ | refine XL_fnV (clo4_spec x.ms _ hm) rfl rfl rfl rfl (fun g hg hL => blk_at 5 rfl hL) ?_ | refine XL_fnV (clo5_spec al x.ms _ _ ⟨hm, n7⟩) rfl rfl rfl rfl (fun g hg hL => ⟨blk_at 3 rfl hL, blk_at 5 rfl hL⟩) ?_ | refine XL_fnV (clo6_spec x.ms al s _ _ _ ⟨hm, n7, h8, n10⟩) rfl rfl rfl rfl (fun g hg hL => ⟨blk_at 5 rfl hL, blk_at 6 rfl hL, blk_at 3 rfl hL⟩) ?_ | refine XL_fnV (clo1_spec x.ms _ hm) rfl rfl rfl rfl (fun g hg hL => blk_at 5 rfl hL) ?_ | refine XL_fnV (clo2_spec pg _ hpg) rfl rfl rfl rfl (fun g hg hL => blk_at 4 rfl hL) ?_ | refine XL_fnV (clo7_spec x _ _ hc) rfl rfl rfl rfl (fun g hg hL => ⟨blk_at 7 rfl hL, blk_at 5 rfl hL⟩) ?_ | refine XL_fnV (clo8_spec x.ms pg _ _ _ _ hm hpg) rfl rfl rfl rfl (fun g hg hL => ⟨blk_at 5 rfl hL, blk_at 4 rfl hL, blk_at 1 rfl hL, blk_at 0 rfl hL⟩) ?_ | refine XL_fnV (clo9_spec fr x _ _ _ ⟨hc, hfr⟩) rfl rfl rfl rfl (fun g hg hL => ⟨blk_at 5 rfl hL, blk_at 7 rfl hL, blk_at 2 rfl hL⟩) ?_ | refine XL_fnV (clo10_spec fr x _ _ _ ⟨hc, hfr⟩) rfl rfl rfl rfl (fun g hg hL => ⟨blk_at 5 rfl hL, blk_at 7 rfl hL, blk_at 2 rfl hL⟩) ?_ | refine XL_fn has rfl rfl (fun _ _ _ => trivial) ?_ | (refine XL_callK [] hb rfl rfl (fun _ => rfl) (fun _ _ _ => trivial) (fun u L hv => ?_); obtain ⟨y, rfl, rfl⟩ := hv)) | (refine XL_op tt_ok rfl rfl ?_; try (first | (refine XL_int (Eq.trans (wrap_i64 (by omega) (by omega)) (by simp only [Int.reduceAdd, Int.reduceSub, Int.reduceMul, Int.reduceNeg]; rfl)) ?_) | refine XL_int (wrap_u64 (by omega) (by omega)) ?_ | refine XL_dec_t (by omega) ?_ | refine XL_dec_f (by omega) ?_))) | (refine X_id ?_; first | (refine X_regionEN (id := 0) [0, 1] rfl (by repeat' (exact .nil)) ?_) | (refine X_regionEN (id := 1) [2, 3] rfl (by repeat' (first | exact .nil | apply NL.cons)) ?_) | (refine X_regionEN (id := 2) [2, 3, 6] rfl (by repeat' (first | exact .nil | apply NL.cons)) ?_) | (refine X_regionEN (id := 4) [2, 3] rfl (by repeat' (first | exact .nil | apply NL.cons)) ?_) | (refine X_regionEN (id := 5) [2, 3, 7] rfl (by repeat' (first | exact .nil | apply NL.cons)) ?_) | (refine X_regionEN (id := 6) [2, 3, 7, 18, 19] rfl (by repeat' (first | exact .nil | apply NL.cons)) ?_) | (refine X_regionEN (id := 7) [2, 3, 7, 18, 19] rfl (by repeat' (first | exact .nil | apply NL.cons)) ?_) | (refine X_regionEN (id := 8) [2, 3, 7, 9, 18, 19] rfl (by repeat' (first | exact .nil | apply NL.cons)) ?_) | (refine X_regionEN (id := 9) [2, 3, 7, 18, 19] rfl (by repeat' (first | exact .nil | apply NL.cons)) ?_) | (refine X_regionEN (id := 10) [2, 3, 7] rfl (by repeat' (first | exact .nil | apply NL.cons)) ?_) | refine X_unroll 11 ?_ | refine X_seq ?_ | refine X_skip ?_ | refine X_ret ?_ | refine X_exit ?_ | refine X_block ?_ | refine X_cond_t rfl ?_ | refine X_cond_f rfl ?_) | (refine Y_id ?_; first | refine Y_unroll ?_ | refine Y_then ?_ | refine Y_then_exit ?_ | refine Y_block_hit ?_ | refine Y_block_normal ?_))
  all_goals first
    | exact Y_fn2 rfl rfl rfl rfl
    | (exfalso; omega)
    | skip
  
theorem most_spec (x : Cs) (s : Sh) (hx : x.In) (hc : CostP x) (hs : ShP s) : FnC Try.prog 56 [csV x, shV s] (fun _ => True) (.tuple #[uV (mostF x s), iV 0]) :=
  most_walk x s hx hc hs _ _ _ (nums hc hs)
end Go.Proofs.Ythmllhihldbfoaa.Pl
