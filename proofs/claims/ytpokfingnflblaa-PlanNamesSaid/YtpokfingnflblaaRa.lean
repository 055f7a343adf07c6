/- Most: the reference's (printed by genr.py). -/
import Derived.Test.YtpokfingnflblaaWd
set_option linter.unusedVariables false
namespace Go.Proofs.Ytpokfingnflblaa
open Go.RowKit Go.Cof

theorem mxL_snoc (l : List Int) (a : Int) : mxL (l ++ [a]) = mx (mxL l) a := by unfold mxL; rw [List.foldl_append]; rfl
theorem mxL_ge (l : List Int) : 0 ≤ mxL l := by
  unfold mxL
  suffices ∀ (l : List Int) (a : Int), 0 ≤ a → 0 ≤ l.foldl mx a from this l 0 (Int.le_refl _)
  intro l
  induction l with
  | nil => exact fun a h => h
  | cons b l ih => exact fun a h => ih _ (mx_ge h)
def rM (E : Int) (l : List Int) (i : Nat) : Int := if i = 0 then 0 else E + mxL (l.take i)
theorem rM_succ {E : Int} {l : List Int} (hE : 0 ≤ E) (hl : ∀ k, 0 ≤ l.getD k 0) (i : Nat) : mx (rM E l i) (E + l.getD i 0) = rM E l (i + 1) := by
  have hq := hl i
  have e1 : mxL (l.take (i + 1)) = mx (mxL (l.take i)) (l.getD i 0) := by
    by_cases h : i < l.length
    · rw [List.take_succ_eq_append_getElem h, mxL_snoc, List.getD_eq_getElem?_getD, List.getElem?_eq_getElem h]
      rfl
    · rw [List.take_of_length_le (by omega), List.take_of_length_le (by omega), List.getD_eq_getElem?_getD, List.getElem?_eq_none (by omega)]
      exact (mx_zero (mxL_ge l)).symm
  have hm := mxL_ge (l.take i)
  unfold rM
  rw [if_neg (show ¬ i + 1 = 0 by omega), e1]
  by_cases h : i = 0
  · subst h
    rw [if_pos rfl]
    show mx 0 (E + l.getD 0 0) = E + mx 0 (l.getD 0 0)
    unfold mx
    split <;> split <;> omega
  · rw [if_neg h]
    unfold mx
    split <;> split <;> omega
theorem bh_rng {x : Cs} {s : Sh} {pg al fr : Int} (hn : Nums x.ms x.st x.fa x.di s.im s.no s.li s.us pg al fr) (k : Nat) : 0 ≤ (bhL x.ms x.st x.fa x.di s.no pg al fr).getD k 0 ∧ (bhL x.ms x.st x.fa x.di s.no pg al fr).getD k 0 ≤ 6000000000 := by
  obtain ⟨n1, n2, n3, n4, n5, n6, n7, n8, n9, n10, n11⟩ := hn
  have b7 : mx (113 * x.ms) (64 * pg) ≤ 6000000000 := mx_le (by omega) (by omega)
  have c7 : 0 ≤ mx (113 * x.ms) (64 * pg) := mx_ge (by omega)
  rw [List.getD_eq_getElem?_getD]
  cases h : (bhL x.ms x.st x.fa x.di s.no pg al fr)[k]? with
  | none => exact ⟨Int.le_refl _, by decide⟩
  | some v =>
    have hm := List.mem_of_getElem? h
    unfold bhL at hm
    show 0 ≤ v ∧ v ≤ 6000000000
    simp only [List.mem_cons, List.not_mem_nil, or_false] at hm
    rcases hm with rfl | rfl | rfl | rfl | rfl | rfl | rfl | rfl | rfl | rfl
    · omega
    · omega
    · omega
    · omega
    · omega
    · omega
    · omega
    · exact ⟨c7, b7⟩
    · omega
    · omega
theorem rmay_spec (s : Sh) (hs : ShP s) : FnC Try.prog 85 [shV s] (fun _ => True) (.bool true) := by
  obtain ⟨h1, h2, h3, h4⟩ := hs
  refine Ctr.intro Try.func85 rfl rfl (by decide +kernel) fun F hpre => ?_
  repeat' (first | (refine XL_id ?_; first | refine XL_nil ?_ | refine XL_guard_yes rfl rfl rfl ?_ | refine XL_guard_no rfl rfl rfl rfl rfl ?_ | (refine XG_load ?_; refine XL_load tt_ok 0 rfl rfl rfl rfl rfl rfl ?_) | (refine XG_box ?_; (refine XL_box rfl (fun _ => rfl) (fun _ => ?_); refine XL_nB (by repeat' (first | exact .nil | apply NL.cons)) ?_)) | (refine XG_call ?_; (refine XL_fn (rwithin_spec _ _ _) rfl rfl (fun _ _ _ => trivial) ?_; refine XL_dec_t (by omega) ?_)) | (refine XL_op tt_ok rfl rfl ?_; try (first | refine XL_dec_t (by omega) ?_ | refine XL_dec (fun _ => ?_) (fun _ => ?_)))) | (refine X_id ?_; first | refine X_seq ?_ | (refine X_regionN (by repeat' (first | exact .nil | apply NL.cons)) ?_) | refine X_ret ?_) | (refine Y_id ?_; refine Y_then ?_))
  all_goals first
    | exact Y_fn1 rfl rfl rfl
    | (exfalso; omega)
    | skip
  
set_option maxHeartbeats 4000000 in
theorem rb1_spec {x : Cs} {s : Sh} {pg al fr : Int} (hn : Nums x.ms x.st x.fa x.di s.im s.no s.li s.us pg al fr) (h1 : 2 ≤ s.us ∧ s.us ≤ 4096) (h2 : 1 ≤ s.li ∧ s.li ≤ 5120) (h3 : 1 ≤ s.no ∧ s.no ≤ 4096) : FnC Try.prog 86 [csV x, shV s, .int .u8 1] (fun _ => True) (uV (17 * x.ms)) := by
  obtain ⟨n1, n2, n3, n4, n5, n6, n7, n8, n9, n10, n11⟩ := hn
  have hr1 : x.st + 2 * x.ms = pg := n5.symm
  have hr2 : s.li * pg = al := n6.symm
  have hr3 : (2 * s.us + 1) * x.st + x.di = fr := n8.symm
  refine Ctr.intro Try.func86 rfl rfl (by decide +kernel) fun F hpre => ?_
  repeat' (first | (refine XL_id ?_; first | refine XL_nil ?_ | (refine XG_load ?_; first | refine XL_load tt_ok 0 rfl rfl rfl rfl rfl rfl ?_ | refine XL_load tt_ok 1 rfl rfl rfl rfl rfl rfl ?_) | (refine XG_box ?_; (refine XL_box rfl (fun _ => rfl) (fun _ => ?_); refine XL_nB (by repeat' (first | exact .nil | apply NL.cons)) ?_)) | (refine XL_op tt_ok rfl rfl ?_; refine XL_int (Eq.trans (wrap_u64 (by omega) (by omega)) hr3) ?_) | (refine XL_op tt_ok rfl rfl ?_; try (first | refine XL_int (wrap_u64 (by omega) (by omega)) ?_ | refine XL_dec_t (by omega) ?_))) | (refine XD_id ?_; first | (refine XD_thaw thaw ?_; refine XD_nil ?_) | (refine XD_id ?_; (first | (refine XD_uL rfl ?_; first | refine XD_s rfl rfl rfl (XV_load tt_ok rfl (blk_at 0 rfl hM) rfl rfl rfl) rfl ?_ | refine XD_s rfl rfl rfl (XV_load tt_ok rfl (blk_at 1 rfl hM) rfl rfl rfl) rfl ?_) | (refine XD_u rfl rfl ?_; refine XD_s rfl rfl rfl (XV_op tt_ok rfl) rfl ?_)); try (refine XD_int (wrap_u64 (by omega) (by omega)) ?_))) | (refine X_id ?_; first | (refine X_drawS (id := 1) [0, 1, 2, 3, 4, 5] (fun _ => .s) 8 (by repeat' (first | exact Split.nil | apply Split.blk)) mixed (by decide +kernel) ?_; intro G hFG hM thaw; show XD _ _ _ _ _ _ [0, 1, 2, 3, 4, 5] _ _ _) | (refine X_drawS (id := 2) [0, 1, 2, 3, 4, 5, 6, 7] (fun _ => .s) 8 (by repeat' (first | exact Split.nil | apply Split.blk)) mixed (by decide +kernel) ?_; intro G hFG hM thaw; show XD _ _ _ _ _ _ [0, 1, 2, 3, 4, 5, 6, 7] _ _ _) | refine X_seq ?_ | (refine X_regionN (by repeat' (first | exact .nil | apply NL.cons)) ?_) | refine X_ret ?_ | refine X_block ?_ | refine X_cond_t rfl ?_) | (refine Y_id ?_; first | refine Y_then ?_ | refine Y_then_ret ?_ | refine Y_block_ret ?_))
  all_goals first
    | exact Y_fn1 rfl rfl rfl
    | (exfalso; omega)
    | skip
  
set_option maxHeartbeats 4000000 in
theorem rb2_spec {x : Cs} {s : Sh} {pg al fr : Int} (hn : Nums x.ms x.st x.fa x.di s.im s.no s.li s.us pg al fr) (h1 : 2 ≤ s.us ∧ s.us ≤ 4096) (h2 : 1 ≤ s.li ∧ s.li ≤ 5120) (h3 : 1 ≤ s.no ∧ s.no ≤ 4096) : FnC Try.prog 86 [csV x, shV s, .int .u8 2] (fun _ => True) (uV (al + x.ms)) := by
  obtain ⟨n1, n2, n3, n4, n5, n6, n7, n8, n9, n10, n11⟩ := hn
  have hr1 : x.st + 2 * x.ms = pg := n5.symm
  have hr2 : s.li * pg = al := n6.symm
  have hr3 : (2 * s.us + 1) * x.st + x.di = fr := n8.symm
  refine Ctr.intro Try.func86 rfl rfl (by decide +kernel) fun F hpre => ?_
  repeat' (first | (refine XL_id ?_; first | refine XL_nil ?_ | (refine XG_load ?_; first | refine XL_load tt_ok 0 rfl rfl rfl rfl rfl rfl ?_ | refine XL_load tt_ok 1 rfl rfl rfl rfl rfl rfl ?_) | (refine XG_box ?_; (refine XL_box rfl (fun _ => rfl) (fun _ => ?_); refine XL_nB (by repeat' (first | exact .nil | apply NL.cons)) ?_)) | (refine XL_op tt_ok rfl rfl ?_; refine XL_int (Eq.trans (wrap_u64 (by omega) (by omega)) hr1) ?_) | (refine XL_op tt_ok rfl rfl ?_; refine XL_int (Eq.trans (wrap_u64 (by omega) (by omega)) hr2) ?_) | (refine XL_op tt_ok rfl rfl ?_; refine XL_int (Eq.trans (wrap_u64 (by omega) (by omega)) hr3) ?_) | (refine XL_op tt_ok rfl rfl ?_; try (first | refine XL_int (wrap_u64 (by omega) (by omega)) ?_ | refine XL_dec_t (by omega) ?_ | refine XL_dec_f (by omega) ?_))) | (refine XD_id ?_; first | (refine XD_thaw thaw ?_; refine XD_nil ?_) | (refine XD_id ?_; (first | (refine XD_uL rfl ?_; first | refine XD_s rfl rfl rfl (XV_load tt_ok rfl (blk_at 0 rfl hM) rfl rfl rfl) rfl ?_ | refine XD_s rfl rfl rfl (XV_load tt_ok rfl (blk_at 1 rfl hM) rfl rfl rfl) rfl ?_) | (refine XD_u rfl rfl ?_; refine XD_s rfl rfl rfl (XV_op tt_ok rfl) rfl ?_)); try (refine XD_int (wrap_u64 (by omega) (by omega)) ?_))) | (refine X_id ?_; first | (refine X_drawS (id := 1) [0, 1, 2, 3, 4, 5] (fun _ => .s) 8 (by repeat' (first | exact Split.nil | apply Split.blk)) mixed (by decide +kernel) ?_; intro G hFG hM thaw; show XD _ _ _ _ _ _ [0, 1, 2, 3, 4, 5] _ _ _) | (refine X_drawS (id := 2) [0, 1, 2, 3, 4, 5, 6, 7] (fun _ => .s) 8 (by repeat' (first | exact Split.nil | apply Split.blk)) mixed (by decide +kernel) ?_; intro G hFG hM thaw; show XD _ _ _ _ _ _ [0, 1, 2, 3, 4, 5, 6, 7] _ _ _) | refine X_seq ?_ | (refine X_regionN (by repeat' (first | exact .nil | apply NL.cons)) ?_) | refine X_ret ?_ | refine X_block ?_ | refine X_cond_t rfl ?_ | refine X_cond_f rfl ?_) | (refine Y_id ?_; first | refine Y_then ?_ | refine Y_then_ret ?_ | refine Y_block_ret ?_))
  all_goals first
    | exact Y_fn1 rfl rfl rfl
    | (exfalso; omega)
    | skip
  
set_option maxHeartbeats 4000000 in
theorem rb3_spec {x : Cs} {s : Sh} {pg al fr : Int} (hn : Nums x.ms x.st x.fa x.di s.im s.no s.li s.us pg al fr) (h1 : 2 ≤ s.us ∧ s.us ≤ 4096) (h2 : 1 ≤ s.li ∧ s.li ≤ 5120) (h3 : 1 ≤ s.no ∧ s.no ≤ 4096) : FnC Try.prog 86 [csV x, shV s, .int .u8 3] (fun _ => True) (uV (x.ms + 16 * s.no * x.ms + al)) := by
  obtain ⟨n1, n2, n3, n4, n5, n6, n7, n8, n9, n10, n11⟩ := hn
  have hr1 : x.st + 2 * x.ms = pg := n5.symm
  have hr2 : s.li * pg = al := n6.symm
  have hr3 : (2 * s.us + 1) * x.st + x.di = fr := n8.symm
  refine Ctr.intro Try.func86 rfl rfl (by decide +kernel) fun F hpre => ?_
  repeat' (first | (refine XL_id ?_; first | refine XL_nil ?_ | (refine XG_load ?_; first | refine XL_load tt_ok 0 rfl rfl rfl rfl rfl rfl ?_ | refine XL_load tt_ok 1 rfl rfl rfl rfl rfl rfl ?_) | (refine XG_box ?_; (refine XL_box rfl (fun _ => rfl) (fun _ => ?_); refine XL_nB (by repeat' (first | exact .nil | apply NL.cons)) ?_)) | (refine XL_op tt_ok rfl rfl ?_; refine XL_int (Eq.trans (wrap_u64 (by omega) (by omega)) hr1) ?_) | (refine XL_op tt_ok rfl rfl ?_; refine XL_int (Eq.trans (wrap_u64 (by omega) (by omega)) hr2) ?_) | (refine XL_op tt_ok rfl rfl ?_; refine XL_int (Eq.trans (wrap_u64 (by omega) (by omega)) hr3) ?_) | (refine XL_op tt_ok rfl rfl ?_; try (first | refine XL_int (wrap_u64 (by omega) (by omega)) ?_ | refine XL_dec_t (by omega) ?_ | refine XL_dec_f (by omega) ?_))) | (refine XD_id ?_; first | (refine XD_thaw thaw ?_; refine XD_nil ?_) | (refine XD_id ?_; (first | (refine XD_uL rfl ?_; first | refine XD_s rfl rfl rfl (XV_load tt_ok rfl (blk_at 0 rfl hM) rfl rfl rfl) rfl ?_ | refine XD_s rfl rfl rfl (XV_load tt_ok rfl (blk_at 1 rfl hM) rfl rfl rfl) rfl ?_) | (refine XD_u rfl rfl ?_; refine XD_s rfl rfl rfl (XV_op tt_ok rfl) rfl ?_)); try (refine XD_int (wrap_u64 (by omega) (by omega)) ?_))) | (refine X_id ?_; first | (refine X_drawS (id := 1) [0, 1, 2, 3, 4, 5] (fun _ => .s) 8 (by repeat' (first | exact Split.nil | apply Split.blk)) mixed (by decide +kernel) ?_; intro G hFG hM thaw; show XD _ _ _ _ _ _ [0, 1, 2, 3, 4, 5] _ _ _) | (refine X_drawS (id := 2) [0, 1, 2, 3, 4, 5, 6, 7] (fun _ => .s) 8 (by repeat' (first | exact Split.nil | apply Split.blk)) mixed (by decide +kernel) ?_; intro G hFG hM thaw; show XD _ _ _ _ _ _ [0, 1, 2, 3, 4, 5, 6, 7] _ _ _) | refine X_seq ?_ | (refine X_regionN (by repeat' (first | exact .nil | apply NL.cons)) ?_) | refine X_ret ?_ | refine X_block ?_ | refine X_cond_t rfl ?_ | refine X_cond_f rfl ?_) | (refine Y_id ?_; first | refine Y_then ?_ | refine Y_then_ret ?_ | refine Y_block_ret ?_))
  all_goals first
    | exact Y_fn1 rfl rfl rfl
    | (exfalso; omega)
    | skip
  
set_option maxHeartbeats 4000000 in
theorem rb4_spec {x : Cs} {s : Sh} {pg al fr : Int} (hn : Nums x.ms x.st x.fa x.di s.im s.no s.li s.us pg al fr) (h1 : 2 ≤ s.us ∧ s.us ≤ 4096) (h2 : 1 ≤ s.li ∧ s.li ≤ 5120) (h3 : 1 ≤ s.no ∧ s.no ≤ 4096) : FnC Try.prog 86 [csV x, shV s, .int .u8 4] (fun _ => True) (uV (113 * x.ms)) := by
  obtain ⟨n1, n2, n3, n4, n5, n6, n7, n8, n9, n10, n11⟩ := hn
  have hr1 : x.st + 2 * x.ms = pg := n5.symm
  have hr2 : s.li * pg = al := n6.symm
  have hr3 : (2 * s.us + 1) * x.st + x.di = fr := n8.symm
  refine Ctr.intro Try.func86 rfl rfl (by decide +kernel) fun F hpre => ?_
  repeat' (first | (refine XL_id ?_; first | refine XL_nil ?_ | (refine XG_load ?_; first | refine XL_load tt_ok 0 rfl rfl rfl rfl rfl rfl ?_ | refine XL_load tt_ok 1 rfl rfl rfl rfl rfl rfl ?_) | (refine XG_box ?_; (refine XL_box rfl (fun _ => rfl) (fun _ => ?_); refine XL_nB (by repeat' (first | exact .nil | apply NL.cons)) ?_)) | (refine XL_op tt_ok rfl rfl ?_; refine XL_int (Eq.trans (wrap_u64 (by omega) (by omega)) hr3) ?_) | (refine XL_op tt_ok rfl rfl ?_; try (first | refine XL_int (wrap_u64 (by omega) (by omega)) ?_ | refine XL_dec_t (by omega) ?_ | refine XL_dec_f (by omega) ?_))) | (refine XD_id ?_; first | (refine XD_thaw thaw ?_; refine XD_nil ?_) | (refine XD_id ?_; (first | (refine XD_uL rfl ?_; first | refine XD_s rfl rfl rfl (XV_load tt_ok rfl (blk_at 0 rfl hM) rfl rfl rfl) rfl ?_ | refine XD_s rfl rfl rfl (XV_load tt_ok rfl (blk_at 1 rfl hM) rfl rfl rfl) rfl ?_) | (refine XD_u rfl rfl ?_; refine XD_s rfl rfl rfl (XV_op tt_ok rfl) rfl ?_)); try (refine XD_int (wrap_u64 (by omega) (by omega)) ?_))) | (refine X_id ?_; first | (refine X_drawS (id := 1) [0, 1, 2, 3, 4, 5] (fun _ => .s) 8 (by repeat' (first | exact Split.nil | apply Split.blk)) mixed (by decide +kernel) ?_; intro G hFG hM thaw; show XD _ _ _ _ _ _ [0, 1, 2, 3, 4, 5] _ _ _) | (refine X_drawS (id := 2) [0, 1, 2, 3, 4, 5, 6, 7] (fun _ => .s) 8 (by repeat' (first | exact Split.nil | apply Split.blk)) mixed (by decide +kernel) ?_; intro G hFG hM thaw; show XD _ _ _ _ _ _ [0, 1, 2, 3, 4, 5, 6, 7] _ _ _) | refine X_seq ?_ | (refine X_regionN (by repeat' (first | exact .nil | apply NL.cons)) ?_) | refine X_ret ?_ | refine X_block ?_ | refine X_cond_t rfl ?_ | refine X_cond_f rfl ?_) | (refine Y_id ?_; first | refine Y_then ?_ | refine Y_then_ret ?_ | refine Y_block_ret ?_))
  all_goals first
    | exact Y_fn1 rfl rfl rfl
    | (exfalso; omega)
    | skip
  
set_option maxHeartbeats 4000000 in
theorem rb5_spec {x : Cs} {s : Sh} {pg al fr : Int} (hn : Nums x.ms x.st x.fa x.di s.im s.no s.li s.us pg al fr) (h1 : 2 ≤ s.us ∧ s.us ≤ 4096) (h2 : 1 ≤ s.li ∧ s.li ≤ 5120) (h3 : 1 ≤ s.no ∧ s.no ≤ 4096) : FnC Try.prog 86 [csV x, shV s, .int .u8 5] (fun _ => True) (uV (64 * pg)) := by
  obtain ⟨n1, n2, n3, n4, n5, n6, n7, n8, n9, n10, n11⟩ := hn
  have hr1 : x.st + 2 * x.ms = pg := n5.symm
  have hr2 : s.li * pg = al := n6.symm
  have hr3 : (2 * s.us + 1) * x.st + x.di = fr := n8.symm
  refine Ctr.intro Try.func86 rfl rfl (by decide +kernel) fun F hpre => ?_
  repeat' (first | (refine XL_id ?_; first | refine XL_nil ?_ | (refine XG_load ?_; first | refine XL_load tt_ok 0 rfl rfl rfl rfl rfl rfl ?_ | refine XL_load tt_ok 1 rfl rfl rfl rfl rfl rfl ?_) | (refine XG_box ?_; (refine XL_box rfl (fun _ => rfl) (fun _ => ?_); refine XL_nB (by repeat' (first | exact .nil | apply NL.cons)) ?_)) | (refine XL_op tt_ok rfl rfl ?_; refine XL_int (Eq.trans (wrap_u64 (by omega) (by omega)) hr1) ?_) | (refine XL_op tt_ok rfl rfl ?_; refine XL_int (Eq.trans (wrap_u64 (by omega) (by omega)) hr3) ?_) | (refine XL_op tt_ok rfl rfl ?_; try (first | refine XL_int (wrap_u64 (by omega) (by omega)) ?_ | refine XL_dec_t (by omega) ?_ | refine XL_dec_f (by omega) ?_))) | (refine XD_id ?_; first | (refine XD_thaw thaw ?_; refine XD_nil ?_) | (refine XD_id ?_; (first | (refine XD_uL rfl ?_; first | refine XD_s rfl rfl rfl (XV_load tt_ok rfl (blk_at 0 rfl hM) rfl rfl rfl) rfl ?_ | refine XD_s rfl rfl rfl (XV_load tt_ok rfl (blk_at 1 rfl hM) rfl rfl rfl) rfl ?_) | (refine XD_u rfl rfl ?_; refine XD_s rfl rfl rfl (XV_op tt_ok rfl) rfl ?_)); try (refine XD_int (wrap_u64 (by omega) (by omega)) ?_))) | (refine X_id ?_; first | (refine X_drawS (id := 1) [0, 1, 2, 3, 4, 5] (fun _ => .s) 8 (by repeat' (first | exact Split.nil | apply Split.blk)) mixed (by decide +kernel) ?_; intro G hFG hM thaw; show XD _ _ _ _ _ _ [0, 1, 2, 3, 4, 5] _ _ _) | (refine X_drawS (id := 2) [0, 1, 2, 3, 4, 5, 6, 7] (fun _ => .s) 8 (by repeat' (first | exact Split.nil | apply Split.blk)) mixed (by decide +kernel) ?_; intro G hFG hM thaw; show XD _ _ _ _ _ _ [0, 1, 2, 3, 4, 5, 6, 7] _ _ _) | refine X_seq ?_ | (refine X_regionN (by repeat' (first | exact .nil | apply NL.cons)) ?_) | refine X_ret ?_ | refine X_block ?_ | refine X_cond_t rfl ?_ | refine X_cond_f rfl ?_) | (refine Y_id ?_; first | refine Y_then ?_ | refine Y_then_ret ?_ | refine Y_block_ret ?_))
  all_goals first
    | exact Y_fn1 rfl rfl rfl
    | (exfalso; omega)
    | skip
  
set_option maxHeartbeats 4000000 in
theorem rb6_spec {x : Cs} {s : Sh} {pg al fr : Int} (hn : Nums x.ms x.st x.fa x.di s.im s.no s.li s.us pg al fr) (h1 : 2 ≤ s.us ∧ s.us ≤ 4096) (h2 : 1 ≤ s.li ∧ s.li ≤ 5120) (h3 : 1 ≤ s.no ∧ s.no ≤ 4096) : FnC Try.prog 86 [csV x, shV s, .int .u8 6] (fun _ => True) (uV (64 * (x.st + x.ms) + x.ms)) := by
  obtain ⟨n1, n2, n3, n4, n5, n6, n7, n8, n9, n10, n11⟩ := hn
  have hr1 : x.st + 2 * x.ms = pg := n5.symm
  have hr2 : s.li * pg = al := n6.symm
  have hr3 : (2 * s.us + 1) * x.st + x.di = fr := n8.symm
  refine Ctr.intro Try.func86 rfl rfl (by decide +kernel) fun F hpre => ?_
  repeat' (first | (refine XL_id ?_; first | refine XL_nil ?_ | (refine XG_load ?_; first | refine XL_load tt_ok 0 rfl rfl rfl rfl rfl rfl ?_ | refine XL_load tt_ok 1 rfl rfl rfl rfl rfl rfl ?_) | (refine XG_box ?_; (refine XL_box rfl (fun _ => rfl) (fun _ => ?_); refine XL_nB (by repeat' (first | exact .nil | apply NL.cons)) ?_)) | (refine XL_op tt_ok rfl rfl ?_; refine XL_int (Eq.trans (wrap_u64 (by omega) (by omega)) hr3) ?_) | (refine XL_op tt_ok rfl rfl ?_; try (first | refine XL_int (wrap_u64 (by omega) (by omega)) ?_ | refine XL_dec_t (by omega) ?_ | refine XL_dec_f (by omega) ?_))) | (refine XD_id ?_; first | (refine XD_thaw thaw ?_; refine XD_nil ?_) | (refine XD_id ?_; (first | (refine XD_uL rfl ?_; first | refine XD_s rfl rfl rfl (XV_load tt_ok rfl (blk_at 0 rfl hM) rfl rfl rfl) rfl ?_ | refine XD_s rfl rfl rfl (XV_load tt_ok rfl (blk_at 1 rfl hM) rfl rfl rfl) rfl ?_) | (refine XD_u rfl rfl ?_; refine XD_s rfl rfl rfl (XV_op tt_ok rfl) rfl ?_)); try (refine XD_int (wrap_u64 (by omega) (by omega)) ?_))) | (refine X_id ?_; first | (refine X_drawS (id := 1) [0, 1, 2, 3, 4, 5] (fun _ => .s) 8 (by repeat' (first | exact Split.nil | apply Split.blk)) mixed (by decide +kernel) ?_; intro G hFG hM thaw; show XD _ _ _ _ _ _ [0, 1, 2, 3, 4, 5] _ _ _) | (refine X_drawS (id := 2) [0, 1, 2, 3, 4, 5, 6, 7] (fun _ => .s) 8 (by repeat' (first | exact Split.nil | apply Split.blk)) mixed (by decide +kernel) ?_; intro G hFG hM thaw; show XD _ _ _ _ _ _ [0, 1, 2, 3, 4, 5, 6, 7] _ _ _) | refine X_seq ?_ | (refine X_regionN (by repeat' (first | exact .nil | apply NL.cons)) ?_) | refine X_ret ?_ | refine X_block ?_ | refine X_cond_t rfl ?_ | refine X_cond_f rfl ?_) | (refine Y_id ?_; first | refine Y_then ?_ | refine Y_then_ret ?_ | refine Y_block_ret ?_))
  all_goals first
    | exact Y_fn1 rfl rfl rfl
    | (exfalso; omega)
    | skip
  
set_option maxHeartbeats 4000000 in
theorem rb7_spec {x : Cs} {s : Sh} {pg al fr : Int} (hn : Nums x.ms x.st x.fa x.di s.im s.no s.li s.us pg al fr) (h1 : 2 ≤ s.us ∧ s.us ≤ 4096) (h2 : 1 ≤ s.li ∧ s.li ≤ 5120) (h3 : 1 ≤ s.no ∧ s.no ≤ 4096) : FnC Try.prog 86 [csV x, shV s, .int .u8 7] (fun _ => True) (uV (mx (113 * x.ms) (64 * pg))) := by
  have hb4 := rb4_spec hn h1 h2 h3
  have hb5 := rb5_spec hn h1 h2 h3
  obtain ⟨n1, n2, n3, n4, n5, n6, n7, n8, n9, n10, n11⟩ := hn
  have hr1 : x.st + 2 * x.ms = pg := n5.symm
  have hr2 : s.li * pg = al := n6.symm
  have hr3 : (2 * s.us + 1) * x.st + x.di = fr := n8.symm
  refine Ctr.intro Try.func86 rfl rfl (by decide +kernel) fun F hpre => ?_
  repeat' (first | (refine XL_id ?_; first | refine XL_nil ?_ | (refine XG_load ?_; first | refine XL_load tt_ok 0 rfl rfl rfl rfl rfl rfl ?_ | refine XL_load tt_ok 1 rfl rfl rfl rfl rfl rfl ?_) | (refine XG_box ?_; (refine XL_box rfl (fun _ => rfl) (fun _ => ?_); refine XL_nB (by repeat' (first | exact .nil | apply NL.cons)) ?_)) | (refine XG_call ?_; first | refine XL_fn hb4 rfl rfl (fun _ _ _ => trivial) ?_ | refine XL_fn hb5 rfl rfl (fun _ _ _ => trivial) ?_) | (refine XL_op tt_ok rfl rfl ?_; refine XL_int (Eq.trans (wrap_u64 (by omega) (by omega)) hr3) ?_) | (refine XL_op tt_ok rfl rfl ?_; try (first | refine XL_int (wrap_u64 (by omega) (by omega)) ?_ | refine XL_dec_t (by omega) ?_ | refine XL_dec_f (by omega) ?_))) | (refine XD_id ?_; first | (refine XD_thaw thaw ?_; refine XD_nil ?_) | (refine XD_id ?_; (first | (refine XD_uL rfl ?_; first | refine XD_s rfl rfl rfl (XV_loadW tt_ok rfl (blk_at 0 rfl hM) rfl rfl rfl) rfl ?_ | refine XD_s rfl rfl rfl (XV_load tt_ok rfl (blk_at 0 rfl hM) rfl rfl rfl) rfl ?_ | refine XD_s rfl rfl rfl (XV_loadW tt_ok rfl (blk_at 1 rfl hM) rfl rfl rfl) rfl ?_ | refine XD_s rfl rfl rfl (XV_load tt_ok rfl (blk_at 1 rfl hM) rfl rfl rfl) rfl ?_) | (refine XD_u rfl rfl ?_; refine XD_s rfl rfl rfl (XV_op tt_ok rfl) rfl ?_)); try (refine XD_int (wrap_u64 (by omega) (by omega)) ?_)) | refine XD_m rfl rfl ?_) | (refine X_id ?_; first | (refine X_drawS (id := 1) [0, 1, 2, 3, 4, 5] (fun _ => .s) 8 (by repeat' (first | exact Split.nil | apply Split.blk)) mixed (by decide +kernel) ?_; intro G hFG hM thaw; show XD _ _ _ _ _ _ [0, 1, 2, 3, 4, 5] _ _ _) | (refine X_drawS (id := 2) [0, 1, 2, 3, 4, 5, 6, 7] (fun _ => .s) 8 (by repeat' (first | exact Split.nil | apply Split.blk)) mixed (by decide +kernel) ?_; intro G hFG hM thaw; show XD _ _ _ _ _ _ [0, 1, 2, 3, 4, 5, 6, 7] _ _ _) | (refine X_drawS (id := 18) [0, 1, 3, 4, 2, 5, 6, 7] (fun | 2 => .m | 5 => .m | _ => .s) 8 (by repeat' (first | exact Split.nil | apply Split.blk)) mixed (by decide +kernel) ?_; intro G hFG hM thaw; show XD _ _ _ _ _ _ [0, 1, 3, 4, 2, 5, 6, 7] _ _ _) | refine X_seq ?_ | (refine X_regionN (by repeat' (first | exact .nil | apply NL.cons)) ?_) | refine X_ret ?_ | refine X_block ?_ | refine X_cond_t rfl ?_ | refine X_cond_f rfl ?_) | (refine Y_id ?_; first | refine Y_then ?_ | refine Y_then_ret ?_ | refine Y_block_ret ?_ | refine Y_m ?_))
  all_goals first
    | exact Y_fn1 rfl rfl rfl
    | (exfalso; omega)
    | skip
  
set_option maxHeartbeats 4000000 in
theorem rb8_spec {x : Cs} {s : Sh} {pg al fr : Int} (hn : Nums x.ms x.st x.fa x.di s.im s.no s.li s.us pg al fr) (h1 : 2 ≤ s.us ∧ s.us ≤ 4096) (h2 : 1 ≤ s.li ∧ s.li ≤ 5120) (h3 : 1 ≤ s.no ∧ s.no ≤ 4096) : FnC Try.prog 86 [csV x, shV s, .int .u8 8] (fun _ => True) (uV (26 * x.ms + x.fa + fr + x.di)) := by
  obtain ⟨n1, n2, n3, n4, n5, n6, n7, n8, n9, n10, n11⟩ := hn
  have hr1 : x.st + 2 * x.ms = pg := n5.symm
  have hr2 : s.li * pg = al := n6.symm
  have hr3 : (2 * s.us + 1) * x.st + x.di = fr := n8.symm
  refine Ctr.intro Try.func86 rfl rfl (by decide +kernel) fun F hpre => ?_
  repeat' (first | (refine XL_id ?_; first | refine XL_nil ?_ | (refine XG_load ?_; first | refine XL_load tt_ok 0 rfl rfl rfl rfl rfl rfl ?_ | refine XL_load tt_ok 1 rfl rfl rfl rfl rfl rfl ?_) | (refine XG_box ?_; (refine XL_box rfl (fun _ => rfl) (fun _ => ?_); refine XL_nB (by repeat' (first | exact .nil | apply NL.cons)) ?_)) | (refine XL_op tt_ok rfl rfl ?_; refine XL_int (Eq.trans (wrap_u64 (by omega) (by omega)) hr3) ?_) | (refine XL_op tt_ok rfl rfl ?_; try (first | refine XL_int (wrap_u64 (by omega) (by omega)) ?_ | refine XL_dec_t (by omega) ?_ | refine XL_dec_f (by omega) ?_))) | (refine XD_id ?_; first | (refine XD_thaw thaw ?_; refine XD_nil ?_) | (refine XD_id ?_; (first | (refine XD_uL rfl ?_; first | refine XD_s rfl rfl rfl (XV_load tt_ok rfl (blk_at 0 rfl hM) rfl rfl rfl) rfl ?_ | refine XD_s rfl rfl rfl (XV_load tt_ok rfl (blk_at 1 rfl hM) rfl rfl rfl) rfl ?_) | (refine XD_u rfl rfl ?_; refine XD_s rfl rfl rfl (XV_op tt_ok rfl) rfl ?_)); try (refine XD_int (wrap_u64 (by omega) (by omega)) ?_))) | (refine X_id ?_; first | (refine X_drawS (id := 1) [0, 1, 2, 3, 4, 5] (fun _ => .s) 8 (by repeat' (first | exact Split.nil | apply Split.blk)) mixed (by decide +kernel) ?_; intro G hFG hM thaw; show XD _ _ _ _ _ _ [0, 1, 2, 3, 4, 5] _ _ _) | (refine X_drawS (id := 2) [0, 1, 2, 3, 4, 5, 6, 7] (fun _ => .s) 8 (by repeat' (first | exact Split.nil | apply Split.blk)) mixed (by decide +kernel) ?_; intro G hFG hM thaw; show XD _ _ _ _ _ _ [0, 1, 2, 3, 4, 5, 6, 7] _ _ _) | refine X_seq ?_ | (refine X_regionN (by repeat' (first | exact .nil | apply NL.cons)) ?_) | refine X_ret ?_ | refine X_block ?_ | refine X_cond_t rfl ?_ | refine X_cond_f rfl ?_) | (refine Y_id ?_; first | refine Y_then ?_ | refine Y_then_ret ?_ | refine Y_block_ret ?_))
  all_goals first
    | exact Y_fn1 rfl rfl rfl
    | (exfalso; omega)
    | skip
  
set_option maxHeartbeats 4000000 in
theorem rb9_spec {x : Cs} {s : Sh} {pg al fr : Int} (hn : Nums x.ms x.st x.fa x.di s.im s.no s.li s.us pg al fr) (h1 : 2 ≤ s.us ∧ s.us ≤ 4096) (h2 : 1 ≤ s.li ∧ s.li ≤ 5120) (h3 : 1 ≤ s.no ∧ s.no ≤ 4096) : FnC Try.prog 86 [csV x, shV s, .int .u8 9] (fun _ => True) (uV (64 * x.ms + 2 * x.fa + 2 * fr + x.di)) := by
  obtain ⟨n1, n2, n3, n4, n5, n6, n7, n8, n9, n10, n11⟩ := hn
  have hr1 : x.st + 2 * x.ms = pg := n5.symm
  have hr2 : s.li * pg = al := n6.symm
  have hr3 : (2 * s.us + 1) * x.st + x.di = fr := n8.symm
  refine Ctr.intro Try.func86 rfl rfl (by decide +kernel) fun F hpre => ?_
  repeat' (first | (refine XL_id ?_; first | refine XL_nil ?_ | (refine XG_load ?_; first | refine XL_load tt_ok 0 rfl rfl rfl rfl rfl rfl ?_ | refine XL_load tt_ok 1 rfl rfl rfl rfl rfl rfl ?_) | (refine XG_box ?_; (refine XL_box rfl (fun _ => rfl) (fun _ => ?_); refine XL_nB (by repeat' (first | exact .nil | apply NL.cons)) ?_)) | (refine XL_op tt_ok rfl rfl ?_; refine XL_int (Eq.trans (wrap_u64 (by omega) (by omega)) hr3) ?_) | (refine XL_op tt_ok rfl rfl ?_; try (first | refine XL_int (wrap_u64 (by omega) (by omega)) ?_ | refine XL_dec_t (by omega) ?_ | refine XL_dec_f (by omega) ?_))) | (refine XD_id ?_; first | (refine XD_thaw thaw ?_; refine XD_nil ?_) | (refine XD_id ?_; (first | (refine XD_uL rfl ?_; first | refine XD_s rfl rfl rfl (XV_load tt_ok rfl (blk_at 0 rfl hM) rfl rfl rfl) rfl ?_ | refine XD_s rfl rfl rfl (XV_load tt_ok rfl (blk_at 1 rfl hM) rfl rfl rfl) rfl ?_) | (refine XD_u rfl rfl ?_; refine XD_s rfl rfl rfl (XV_op tt_ok rfl) rfl ?_)); try (refine XD_int (wrap_u64 (by omega) (by omega)) ?_))) | (refine X_id ?_; first | (refine X_drawS (id := 1) [0, 1, 2, 3, 4, 5] (fun _ => .s) 8 (by repeat' (first | exact Split.nil | apply Split.blk)) mixed (by decide +kernel) ?_; intro G hFG hM thaw; show XD _ _ _ _ _ _ [0, 1, 2, 3, 4, 5] _ _ _) | (refine X_drawS (id := 2) [0, 1, 2, 3, 4, 5, 6, 7] (fun _ => .s) 8 (by repeat' (first | exact Split.nil | apply Split.blk)) mixed (by decide +kernel) ?_; intro G hFG hM thaw; show XD _ _ _ _ _ _ [0, 1, 2, 3, 4, 5, 6, 7] _ _ _) | refine X_seq ?_ | (refine X_regionN (by repeat' (first | exact .nil | apply NL.cons)) ?_) | refine X_ret ?_ | refine X_block ?_ | refine X_cond_t rfl ?_ | refine X_cond_f rfl ?_) | (refine Y_id ?_; first | refine Y_then ?_ | refine Y_then_ret ?_ | refine Y_block_ret ?_))
  all_goals first
    | exact Y_fn1 rfl rfl rfl
    | (exfalso; omega)
    | skip
  
set_option maxHeartbeats 4000000 in
theorem rb0_spec {x : Cs} {s : Sh} {pg al fr : Int} (hn : Nums x.ms x.st x.fa x.di s.im s.no s.li s.us pg al fr) (h1 : 2 ≤ s.us ∧ s.us ≤ 4096) (h2 : 1 ≤ s.li ∧ s.li ≤ 5120) (h3 : 1 ≤ s.no ∧ s.no ≤ 4096) (k : Int) (hk : k = 0 ∨ 10 ≤ k) (hk2 : k < 256) : FnC Try.prog 86 [csV x, shV s, .int .u8 k] (fun _ => True) (uV (0)) := by
  obtain ⟨n1, n2, n3, n4, n5, n6, n7, n8, n9, n10, n11⟩ := hn
  have hr1 : x.st + 2 * x.ms = pg := n5.symm
  have hr2 : s.li * pg = al := n6.symm
  have hr3 : (2 * s.us + 1) * x.st + x.di = fr := n8.symm
  refine Ctr.intro Try.func86 rfl rfl (by decide +kernel) fun F hpre => ?_
  repeat' (first | (refine XL_id ?_; first | refine XL_nil ?_ | (refine XG_load ?_; first | refine XL_load tt_ok 0 rfl rfl rfl rfl rfl rfl ?_ | refine XL_load tt_ok 1 rfl rfl rfl rfl rfl rfl ?_) | (refine XG_box ?_; (refine XL_box rfl (fun _ => rfl) (fun _ => ?_); refine XL_nB (by repeat' (first | exact .nil | apply NL.cons)) ?_)) | (refine XL_op tt_ok rfl rfl ?_; refine XL_int (Eq.trans (wrap_u64 (by omega) (by omega)) hr3) ?_) | (refine XL_op tt_ok rfl rfl ?_; try (first | refine XL_int (wrap_u64 (by omega) (by omega)) ?_ | refine XL_dec_f (by omega) ?_))) | (refine XD_id ?_; first | (refine XD_thaw thaw ?_; refine XD_nil ?_) | (refine XD_id ?_; (first | (refine XD_uL rfl ?_; first | refine XD_s rfl rfl rfl (XV_load tt_ok rfl (blk_at 0 rfl hM) rfl rfl rfl) rfl ?_ | refine XD_s rfl rfl rfl (XV_load tt_ok rfl (blk_at 1 rfl hM) rfl rfl rfl) rfl ?_) | (refine XD_u rfl rfl ?_; refine XD_s rfl rfl rfl (XV_op tt_ok rfl) rfl ?_)); try (refine XD_int (wrap_u64 (by omega) (by omega)) ?_))) | (refine X_id ?_; first | (refine X_drawS (id := 1) [0, 1, 2, 3, 4, 5] (fun _ => .s) 8 (by repeat' (first | exact Split.nil | apply Split.blk)) mixed (by decide +kernel) ?_; intro G hFG hM thaw; show XD _ _ _ _ _ _ [0, 1, 2, 3, 4, 5] _ _ _) | (refine X_drawS (id := 2) [0, 1, 2, 3, 4, 5, 6, 7] (fun _ => .s) 8 (by repeat' (first | exact Split.nil | apply Split.blk)) mixed (by decide +kernel) ?_; intro G hFG hM thaw; show XD _ _ _ _ _ _ [0, 1, 2, 3, 4, 5, 6, 7] _ _ _) | refine X_seq ?_ | (refine X_regionN (by repeat' (first | exact .nil | apply NL.cons)) ?_) | refine X_skip ?_ | refine X_ret ?_ | refine X_block ?_ | refine X_cond_f rfl ?_) | (refine Y_id ?_; first | refine Y_then ?_ | refine Y_block_normal ?_))
  all_goals first
    | exact Y_fn1 rfl rfl rfl
    | (exfalso; omega)
    | skip
  
theorem rbehind_spec {x : Cs} {s : Sh} {pg al fr : Int} (hn : Nums x.ms x.st x.fa x.di s.im s.no s.li s.us pg al fr) (h1 : 2 ≤ s.us ∧ s.us ≤ 4096) (h2 : 1 ≤ s.li ∧ s.li ≤ 5120) (h3 : 1 ≤ s.no ∧ s.no ≤ 4096) (k : Nat) (hk : k < 256) : FnC Try.prog 86 [csV x, shV s, .int .u8 k] (fun _ => True) (uV ((bhL x.ms x.st x.fa x.di s.no pg al fr).getD k 0)) := by
  match k, hk with
  | 0, _ => exact rb0_spec hn h1 h2 h3 0 (by decide) (by decide)
  | 1, _ => exact rb1_spec hn h1 h2 h3
  | 2, _ => exact rb2_spec hn h1 h2 h3
  | 3, _ => exact rb3_spec hn h1 h2 h3
  | 4, _ => exact rb4_spec hn h1 h2 h3
  | 5, _ => exact rb5_spec hn h1 h2 h3
  | 6, _ => exact rb6_spec hn h1 h2 h3
  | 7, _ => exact rb7_spec hn h1 h2 h3
  | 8, _ => exact rb8_spec hn h1 h2 h3
  | 9, _ => exact rb9_spec hn h1 h2 h3
  | k + 10, hk => exact rb0_spec hn h1 h2 h3 ((k + 10 : Nat) : Int) (by omega) (by omega)
theorem rworst_spec {x : Cs} {s : Sh} {pg al fr : Int} (hn : Nums x.ms x.st x.fa x.di s.im s.no s.li s.us pg al fr) (h1 : 2 ≤ s.us ∧ s.us ≤ 4096) (h2 : 1 ≤ s.li ∧ s.li ≤ 5120) (h3 : 1 ≤ s.no ∧ s.no ≤ 4096) (hc : CostP x) (hs : ShP s) (k : Nat) (hk : k < 256) : FnC Try.prog 83 [csV x, shV s, .int .u8 k] (fun _ => True) (.tuple #[uV (s.im * x.ms + (bhL x.ms x.st x.fa x.di s.no pg al fr).getD k 0), iV 0]) := by
  have hck := rcheck_spec x
  rw [costE_ok hc] at hck
  have hmay := rmay_spec s hs
  have hbh := rbehind_spec hn h1 h2 h3 k hk
  have hrg := bh_rng hn k
  have him := hn.him
  have h4 := hs.im
  obtain ⟨b, hb⟩ : ∃ b, (bhL x.ms x.st x.fa x.di s.no pg al fr).getD k 0 = b := ⟨_, rfl⟩
  rw [hb] at hbh hrg ⊢
  refine Ctr.intro Try.func83 rfl rfl (by decide +kernel) fun F hpre => ?_
  repeat' (first | (refine XL_id ?_; first | refine XL_nil ?_ | (refine XG_load ?_; first | refine XL_loadW tt_ok 0 rfl rfl rfl rfl rfl rfl ?_ | refine XL_loadW tt_ok 1 rfl rfl rfl rfl rfl rfl ?_) | (refine XG_box ?_; (refine XL_box rfl (fun _ => rfl) (fun _ => ?_); refine XL_nB (by repeat' (first | exact .nil | apply NL.cons)) ?_)) | (refine XG_call ?_; first | refine XL_fn hck rfl rfl (fun _ _ _ => trivial) ?_ | refine XL_fn hmay rfl rfl (fun _ _ _ => trivial) ?_ | refine XL_fn hbh rfl rfl (fun _ _ _ => trivial) ?_) | (refine XL_op tt_ok rfl rfl ?_; try (refine XL_dec_f (by omega) ?_))) | (refine XD_id ?_; first | (refine XD_thaw thaw ?_; refine XD_nil ?_) | (refine XD_id ?_; (first | (refine XD_uL rfl ?_; first | refine XD_s rfl rfl rfl (XV_loadW tt_ok rfl (blk_at 0 rfl hM) rfl rfl rfl) rfl ?_ | refine XD_s rfl rfl rfl (XV_load tt_ok rfl (blk_at 0 rfl hM) rfl rfl rfl) rfl ?_ | refine XD_s rfl rfl rfl (XV_loadW tt_ok rfl (blk_at 1 rfl hM) rfl rfl rfl) rfl ?_ | refine XD_s rfl rfl rfl (XV_load tt_ok rfl (blk_at 1 rfl hM) rfl rfl rfl) rfl ?_) | (refine XD_u rfl rfl ?_; refine XD_s rfl rfl rfl (XV_op tt_ok rfl) rfl ?_)); try (refine XD_int (wrap_u64 (by omega) (by omega)) ?_)) | refine XD_m rfl rfl ?_) | (refine X_id ?_; first | (refine X_drawS (id := 5) [0, 1, 2, 3, 4, 5, 6, 7, 8, 9, 10, 11, 12] (fun | 9 => .m | _ => .s) 8 (by repeat' (first | exact Split.nil | apply Split.blk)) mixed (by decide +kernel) ?_; intro G hFG hM thaw; show XD _ _ _ _ _ _ [0, 1, 2, 3, 4, 5, 6, 7, 8, 9, 10, 11, 12] _ _ _) | refine X_seq ?_ | (refine X_regionN (by repeat' (first | exact .nil | apply NL.cons)) ?_) | refine X_skip ?_ | refine X_ret ?_ | refine X_cond_f rfl ?_) | (refine Y_id ?_; first | refine Y_then ?_ | refine Y_m ?_))
  all_goals first
    | exact Y_fn2 rfl rfl rfl rfl
    | (exfalso; omega)
    | skip
  
theorem rmost_walk {x : Cs} {s : Sh} {pg al fr : Int} (hn : Nums x.ms x.st x.fa x.di s.im s.no s.li s.us pg al fr) (h1 : 2 ≤ s.us ∧ s.us ≤ 4096) (h2 : 1 ≤ s.li ∧ s.li ≤ 5120) (h3 : 1 ≤ s.no ∧ s.no ≤ 4096) (hc : CostP x) (hs : ShP s) : FnC Try.prog 65 [csV x, shV s] (fun _ => True) (.tuple #[uV (s.im * x.ms + mxL (bhL x.ms x.st x.fa x.di s.no pg al fr)), iV 0]) := by
  have hrg := bh_rng hn
  have him := hn.him
  have hwk := rworst_spec hn h1 h2 h3 hc hs
  obtain ⟨l, hl⟩ : ∃ l, bhL x.ms x.st x.fa x.di s.no pg al fr = l := ⟨_, rfl⟩
  have hlen : l.length = 10 := by rw [← hl]; rfl
  rw [hl] at hrg hwk ⊢
  obtain ⟨E, hE⟩ : ∃ E, s.im * x.ms = E := ⟨_, rfl⟩
  rw [hE] at him hwk ⊢
  have hfin : rM E l 256 = E + mxL l := by unfold rM; rw [if_neg (by decide), List.take_of_length_le (by omega)]
  rw [← hfin]
  refine Ctr.intro Try.func65 rfl rfl (by decide +kernel) fun F hpre => ?_
  repeat' (first | (refine XL_id ?_; first | refine XL_nil ?_ | (refine XG_box ?_; (refine XL_box rfl (fun _ => rfl) (fun _ => ?_); refine XL_nB (by repeat' (first | exact .nil | apply NL.cons)) ?_)) | (refine XL_op tt_ok rfl rfl ?_)) | (refine X_id ?_; first | refine X_cutD (c := .block 0 _) [] (fun (_ : Unit) => [(6, uV (rM E l 256))]) (fun _ => []) (fun _ => True) rfl (X_block (hold ?_)) (fun _ _ => ?_) | refine X_seq ?_ | (refine X_regionN (by repeat' (first | exact .nil | apply NL.cons)) ?_) | refine X_ret ?_) | (refine Y_id ?_; refine Y_then ?_))
  · intro _
    refine X_loopD [2, 3] (fun (i : Nat) => [(7, .int .i64 i), (6, uV (rM E l i))]) (fun i => [_, _]) (fun i => i ≤ 256) (fun i => 256 - i) 0 rfl (Nat.zero_le _) (by (repeat' (first | exact trivial | refine And.intro rfl ?_)); done) (fun h hs => hs) ?_
    intro i hi
    have hi : i ≤ 256 := hi
    by_cases hlt : i < 256
    · have hw := hwk i hlt
      have hst := rM_succ him.1 (fun k => (hrg k).1) i
      repeat' (first | (refine XL_id ?_; first | refine XL_nil ?_ | (refine XG_load ?_; first | refine XL_loadW tt_ok 0 rfl rfl rfl rfl rfl rfl ?_ | refine XL_loadW tt_ok 1 rfl rfl rfl rfl rfl rfl ?_) | (refine XG_call ?_; first | (refine XL_op tt_ok rfl rfl ?_; refine XL_int hst ?_) | refine XL_fn hw rfl rfl (fun _ _ _ => trivial) ?_) | (refine XL_op tt_ok rfl rfl ?_; try (first | refine XL_int (wrap_i64 (by omega) (by omega)) ?_ | refine XL_int (wrap_u8 (by omega) (by omega)) ?_ | refine XL_dec_t (by omega) ?_ | refine XL_dec_f (by omega) ?_))) | (refine X_id ?_; first | refine X_seq ?_ | (refine X_regionN (by repeat' (first | exact .nil | apply NL.cons)) ?_) | refine X_skip ?_ | refine X_block ?_ | refine X_cond_t rfl ?_ | refine X_cond_f rfl ?_) | (refine Y_id ?_; first | refine Y_then ?_ | refine Y_block_normal ?_))
      all_goals first
        | exact Y_again (i + 1) fun _ _ hf hs => ⟨by show i + 1 ≤ 256; omega, by show 256 - (i + 1) < 256 - i; omega, hf.sub (by (repeat' (first | exact trivial | refine And.intro rfl ?_)); done), hs⟩
        | (exfalso; omega)
        | skip
      
    · obtain rfl : i = 256 := by omega
      repeat' (first | (refine XL_id ?_; first | refine XL_nil ?_ | (refine XL_op tt_ok rfl rfl ?_; try (refine XL_dec_f (by omega) ?_))) | (refine X_id ?_; first | refine X_seq ?_ | (refine X_regionN (by repeat' (first | exact .nil | apply NL.cons)) ?_) | refine X_exit ?_ | refine X_cond_f rfl ?_) | (refine Y_id ?_; first | refine Y_then ?_ | refine Y_then_exit ?_ | refine Y_block_hit ?_))
      all_goals first
        | exact Y_again () fun _ _ hf hs => ⟨trivial, hf.sub (by (repeat' (first | exact trivial | refine And.intro rfl ?_)); done), hs.imp fun _ _ => trivial⟩
        | (exfalso; omega)
        | skip
      
  all_goals first
    | exact Y_fn2 rfl rfl rfl rfl
    | (exfalso; omega)
    | skip
  
end Go.Proofs.Ytpokfingnflblaa
