/- Most: the program's. -/
import Derived.Test.YthmllhihldbfoaaPlWb
set_option linter.unusedVariables false
namespace Go.Proofs.Ythmllhihldbfoaa.Pl
open Go.RowKit Go.Cof

set_option maxHeartbeats 4000000 in
theorem asked_spec (x : Cs) (s : Sh) (hx : x.In) (hc : CostP x) (hs : ShP s) : FnC Try.prog 64 [csV x, shV s] (fun _ => True) (iV 0) := by
  have hck := ccheck_spec x hx
  rw [costE_ok hc] at hck
  obtain ⟨im, us, li, no⟩ := s
  obtain ⟨h1, h2, h3, h4⟩ := hs
  dsimp only at h1 h2 h3 h4
  show FnC Try.prog 64 [csV x, .agg #[iV im, iV us, iV li, iV no]] (fun _ => True) (iV 0)
  refine Ctr.intro Try.func64 rfl rfl (by decide +kernel) fun F hpre => ?_
  rcases h1 with rfl | rfl | rfl | rfl
  all_goals (
    repeat' (first | (refine XL_id ?_; first | refine XL_nil ?_ | refine XL_guard_yes rfl rfl rfl ?_ | (refine XG_load ?_; first | refine XL_loadW tt_ok 1 rfl rfl rfl rfl rfl rfl ?_ | refine XL_load tt_ok 0 rfl rfl rfl rfl rfl rfl ?_) | (refine XG_box ?_; (refine XL_box rfl (fun _ => rfl) (fun _ => ?_); refine XL_nB (by repeat' (first | exact .nil | apply NL.cons)) ?_)) | (refine XG_call ?_; first | refine XL_fn hck rfl rfl (fun _ _ _ => trivial) ?_ | (refine XL_fn (cwithin_spec _ _ _) rfl rfl (fun _ _ _ => trivial) ?_; refine XL_dec_t (by omega) ?_)) | (refine XL_op tt_ok rfl rfl ?_; try (first | (refine XL_int (Eq.trans (wrap_i64 (by omega) (by omega)) (by simp only [Int.reduceAdd, Int.reduceSub, Int.reduceMul, Int.reduceNeg]; rfl)) ?_) | refine XL_dec_t (by omega) ?_ | refine XL_dec_f (by omega) ?_))) | (refine XD_id ?_; first | (refine XD_thaw thaw ?_; refine XD_nil ?_) | refine XD_no rfl rfl rfl rfl rfl rfl ?_ | (refine XD_id ?_; (first | (refine XD_gL rfl ?_; refine XD_sy rfl rfl rfl rfl rfl (XV_load tt_ok rfl (blk_at 0 rfl hM) rfl rfl rfl) rfl ?_) | (refine XD_u rfl rfl ?_; refine XD_s rfl rfl rfl (XV_op tt_ok rfl) rfl ?_) | (refine XD_g rfl rfl ?_; refine XD_sy rfl rfl rfl rfl rfl (XV_op tt_ok rfl) rfl ?_)); try (first | refine XD_dec_t (by decide +kernel) ?_ | refine XD_dec_f (by decide +kernel) ?_))) | (refine X_id ?_; first | refine X_unroll 4 ?_ | (refine X_drawS (id := 8) [0, 1, 2, 3, 4, 5, 6, 7, 8] (fun _ => .s) 8 (by repeat' (first | exact Split.nil | apply Split.blk)) mixed (by decide +kernel) ?_; intro G hFG hM thaw; show XD _ _ _ _ _ _ [0, 1, 2, 3, 4, 5, 6, 7, 8] _ _ _) | refine X_seq ?_ | (refine X_regionN (by repeat' (first | exact .nil | apply NL.cons)) ?_) | refine X_skip ?_ | refine X_ret ?_ | refine X_exit ?_ | refine X_block ?_ | refine X_cond_t rfl ?_ | refine X_cond_f rfl ?_) | (refine Y_id ?_; first | refine Y_unroll ?_ | refine Y_then ?_ | refine Y_then_exit ?_ | refine Y_block_hit ?_ | refine Y_block_normal ?_)))
  all_goals first
    | exact Y_fn1 rfl rfl rfl
    | (exfalso; omega)
    | skip
  
structure Cap where
  c : Nat
  s : Nat
  m : Nat
  p : Nat
  a : Nat
  f : Nat
  g : Nat
  h : Nat
abbrev fnV (k : Nat) (l : List Value) : Value := .func (.func k) #[] l.toArray
abbrev bsV (y : Cap) : Value := .agg #[.func (.func 73) #[] #[], .func (.func 74) #[] #[ptr y.m], .func (.func 75) #[] #[ptr y.a, ptr y.m], .func (.func 76) #[] #[ptr y.m, ptr y.s, ptr y.a], .func (.func 71) #[] #[ptr y.m], .func (.func 72) #[] #[ptr y.p],
  .func (.func 77) #[] #[ptr y.c, ptr y.m], .func (.func 78) #[] #[ptr y.g, ptr y.h], .func (.func 79) #[] #[ptr y.m, ptr y.c, ptr y.f], .func (.func 80) #[] #[ptr y.m, ptr y.c, ptr y.f], .func (.func 73) #[] #[]]
abbrev bsL (x : Cs) (s : Sh) (pg al fr : Int) (y : Cap) : List HProp := [blk y.h [.func (.func 72) #[] #[ptr y.p]] 130, blk y.g [.func (.func 71) #[] #[ptr y.m]] 130, blk y.f [uV fr] 22, blk y.a [uV al] 22, blk y.p [uV pg] 22, blk y.m [uV x.ms] 22, blk y.s (shL s) 122, blk y.c (csL x) 24]
set_option maxHeartbeats 4000000 in
theorem bounds_spec (x : Cs) (s : Sh) (pg al fr : Int) (hn : Nums x.ms x.st x.fa x.di s.im s.no s.li s.us pg al fr) (h1 : 2 ≤ s.us ∧ s.us ≤ 4096) (h2 : 1 ≤ s.li ∧ s.li ≤ 5120) : Ctr Try.prog 65 [csV x, shV s] (fun _ => True) [] (fun v L => ∃ y : Cap, v = bsV y ∧ L = bsL x s pg al fr y) := by
  obtain ⟨n1, n2, n3, n4, n5, n6, n7, n8, n9, n10, n11⟩ := hn
  have hr1 : x.st + 2 * x.ms = pg := n5.symm
  have hr2 : s.li * pg = al := n6.symm
  have hr3 : (2 * s.us + 1) * x.st + x.di = fr := n8.symm
  refine Ctr.intro Try.func65 rfl rfl (by decide +kernel) fun F hpre => ?_
  repeat' (first | (refine XL_id ?_; first | refine XL_nil ?_ | (refine XG_load ?_; first | refine XL_load tt_ok 0 rfl rfl rfl rfl rfl rfl ?_ | refine XL_load tt_ok 1 rfl rfl rfl rfl rfl rfl ?_ | refine XL_load tt_ok 2 rfl rfl rfl rfl rfl rfl ?_ | refine XL_load tt_ok 3 rfl rfl rfl rfl rfl rfl ?_ | refine XL_load tt_ok 4 rfl rfl rfl rfl rfl rfl ?_ | refine XL_load tt_ok 5 rfl rfl rfl rfl rfl rfl ?_) | (refine XG_box ?_; (refine XL_box rfl (fun _ => rfl) (fun _ => ?_); refine XL_nB (by repeat' (first | exact .nil | apply NL.cons)) ?_)) | (refine XG_build ?_; (refine XL_buildA tt_ok rfl rfl rfl rfl rfl rfl rfl ?_; refine XL_aggN (by repeat' (first | exact .nil | apply NL.cons)) ?_)) | (refine XG_alloc ?_; (refine XL_alloc tt_ok rfl rfl (fun _ => rfl) (fun b => ?_); refine XL_nB (by repeat' (first | exact .nil | apply NL.cons)) ?_)) | (refine XG_store ?_; first | (refine XL_storeW tt_ok 6 rfl rfl rfl rfl rfl rfl rfl ?_; refine XL_nK 6 rfl (by repeat' (first | exact .nil | apply NL.cons)) ?_) | (refine XL_store tt_ok 0 rfl rfl rfl rfl rfl rfl rfl rfl ?_; refine XL_nK 0 rfl (by repeat' (first | exact .nil | apply NL.cons)) ?_)) | (refine XL_op tt_ok rfl rfl ?_; refine XL_int (Eq.trans (wrap_u64 (by omega) (by omega)) hr1) ?_) | (refine XL_op tt_ok rfl rfl ?_; refine XL_int (Eq.trans (wrap_u64 (by omega) (by omega)) hr2) ?_) | (refine XL_op tt_ok rfl rfl ?_; refine XL_int (Eq.trans (wrap_u64 (by omega) (by omega)) hr3) ?_) | (refine XL_op tt_ok rfl rfl ?_; try (refine XL_int (wrap_u64 (by omega) (by omega)) ?_))) | (refine X_id ?_; first | refine X_seq ?_ | (refine X_regionN (by repeat' (first | exact .nil | apply NL.cons)) ?_) | refine X_ret ?_) | (refine Y_id ?_; refine Y_then ?_))
  all_goals first
    | exact Y_res1 rfl (.cell tt_ok 6 rfl rfl rfl rfl rfl) (fun h hs => stars_only [0, 0, 0, 0, 0, 0, 1, 1] rfl h hs) ⟨⟨_, _, _, _, _, _, _, _⟩, rfl, rfl⟩
    | skip
  
end Go.Proofs.Ythmllhihldbfoaa.Pl
