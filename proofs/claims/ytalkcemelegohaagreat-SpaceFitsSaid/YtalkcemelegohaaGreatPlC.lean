/- Slots, Base, Owner: the program's. Owner: the program's. Most: the reference's (printed by genr.py). The colours of a part: the reference. The quotas of a part, its code and shape: the reference's. Turns and slices: the reference's. Check: the reference's (printed by genre.py). May, there, Shape, Owner: the reference's (printed by genf.py). Total, Limit, Base, Slots: the reference's. -/
import Derived.Test.YtalkcemelegohaaGreatPlB
import Derived.Test.YtalkcemelegohaaGreatPlA
set_option linter.unusedVariables false
set_option maxRecDepth 100000
namespace Go.Proofs.YtalkcemelegohaaGreat.Pl
open Go.RowKit Go.Cof Gx

def smF (l : List Pd) : Nat → Int
  | 0 => 0
  | n + 1 => smF l n + (Cof.get l (n : Int)).k
theorem smF_rng {l : List Pd} : ∀ {n : Nat}, (∀ i, i < n → 1 ≤ (Cof.get l (i : Int)).k ∧ (Cof.get l (i : Int)).k ≤ 1024) → 0 ≤ smF l n ∧ smF l n ≤ 1024 * n
  | 0, _ => ⟨Int.le_refl _, Int.le_refl _⟩
  | n + 1, h => by
    have h1 := smF_rng (fun i hi => h i (by omega) : ∀ i, i < n → 1 ≤ (Cof.get l (i : Int)).k ∧ (Cof.get l (i : Int)).k ≤ 1024)
    have h2 := h n (by omega)
    unfold smF
    omega
theorem MayF.k {d : Cd} (h : MayF d) (i : Nat) (hi : i < d.ps.length) : 1 ≤ (Cof.get d.ps (i : Int)).k ∧ (Cof.get d.ps (i : Int)).k ≤ 1024 := (h.part i hi).2.1.k
def basE (d : Cd) (p : Int) : Int := if thE d p = 0 then smF d.ps p.toNat else 0
def sltE (d : Cd) : Int × Int := if MayP d then (smF d.ps d.ps.length, 0) else (0, 5)
end Go.Proofs.YtalkcemelegohaaGreat.Pl
set_option linter.unusedVariables false
set_option maxRecDepth 100000
namespace Go.Proofs.YtalkcemelegohaaGreat.Pl
open Go.RowKit Go.Cof Gx

def qO (v : Int) (x : Pd) : Bool := decide (v ∈ x.xs)
def ownE (d : Cd) (v : Int) : Int × Bool × Int :=
  if MayP d then if 0 ≤ v ∧ v < d.co then if firstQ (qO v) d.ps < d.ps.length then ((firstQ (qO v) d.ps : Int), true, 0) else (0, false, 0) else (0, false, 2) else (0, false, 5)
end Go.Proofs.YtalkcemelegohaaGreat.Pl
set_option linter.unusedVariables false
set_option maxRecDepth 100000
namespace Go.Proofs.YtalkcemelegohaaGreat.Pl
open Go.RowKit Go.Cof Gx

theorem mxL_snoc (l : List Int) (a : Int) : mxL (l ++ [a]) = mx (mxL l) a := by unfold mxL; rw [List.foldl_append]; rfl
theorem mxL_ge (l : List Int) : 0 ≤ mxL l := by
  unfold mxL
  suffices ∀ (l : List Int) (a : Int), 0 ≤ a → 0 ≤ l.foldl mx a from this l 0 (Int.le_refl _)
  intro l
  induction l with
  | nil => exact fun a h => h
  | cons b l ih => exact fun a h => ih _ (mx_ge h)
def rM (E : Int) (l : List Int) (i : Nat) : Int := if i = 0 then 0 else E + mxL (l.take i)
theorem rM_succ {E : Int} {l : List Int} (hE : 0 ≤ E) (hl : ∀ k, 0 ≤ l.getD k 0) (i : Nat) : mx (rM E l i) (E + l.getD i 0) = rM E l (i + 1) := by
  have hq := hl i
  have e1 : mxL (l.take (i + 1)) = mx (mxL (l.take i)) (l.getD i 0) := by
    by_cases h : i < l.length
    · rw [List.take_succ_eq_append_getElem h, mxL_snoc, List.getD_eq_getElem?_getD, List.getElem?_eq_getElem h]
      rfl
    · rw [List.take_of_length_le (by omega), List.take_of_length_le (by omega), List.getD_eq_getElem?_getD, List.getElem?_eq_none (by omega)]
      exact (mx_zero (mxL_ge l)).symm
  have hm := mxL_ge (l.take i)
  unfold rM
  rw [if_neg (show ¬ i + 1 = 0 by omega), e1]
  by_cases h : i = 0
  · subst h
    rw [if_pos rfl]
    show mx 0 (E + l.getD 0 0) = E + mx 0 (l.getD 0 0)
    unfold mx
    split <;> split <;> omega
  · rw [if_neg h]
    unfold mx
    split <;> split <;> omega
theorem bh_rng {x : Cs} {s : Sh} {pg al fr : Int} (hn : Nums x.ms x.st x.fa x.di s.im s.no s.li s.us pg al fr) (k : Nat) : 0 ≤ (bhL x.ms x.st x.fa x.di s.no pg al fr).getD k 0 ∧ (bhL x.ms x.st x.fa x.di s.no pg al fr).getD k 0 ≤ 6000000000 := by
  obtain ⟨n1, n2, n3, n4, n5, n6, n7, n8, n9, n10, n11⟩ := hn
  have b7 : mx (113 * x.ms) (64 * pg) ≤ 6000000000 := mx_le (by omega) (by omega)
  have c7 : 0 ≤ mx (113 * x.ms) (64 * pg) := mx_ge (by omega)
  rw [List.getD_eq_getElem?_getD]
  cases h : (bhL x.ms x.st x.fa x.di s.no pg al fr)[k]? with
  | none => exact ⟨Int.le_refl _, by decide⟩
  | some v =>
    have hm := List.mem_of_getElem? h
    unfold bhL at hm
    show 0 ≤ v ∧ v ≤ 6000000000
    simp only [List.mem_cons, List.not_mem_nil, or_false] at hm
    rcases hm with rfl | rfl | rfl | rfl | rfl | rfl | rfl | rfl | rfl | rfl
    · omega
    · omega
    · omega
    · omega
    · omega
    · omega
    · omega
    · exact ⟨c7, b7⟩
    · omega
    · omega
theorem rmay_spec (s : Sh) (hs : ShP s) : FnC Tryz.prog 98 [shV s] (fun _ => True) (.bool true) := by
  obtain ⟨h1, h2, h3, h4⟩ := hs
  refine Ctr.intro Tryz.func98 rfl rfl (by decide +kernel) fun F hpre => ?_
  repeat' (first | (refine XL_id ?_; first | refine XL_nil ?_ | refine XL_guard_yes rfl rfl rfl ?_ | refine XL_guard_no rfl rfl rfl rfl rfl ?_ | (refine XG_load ?_; refine XL_load tt_ok 0 rfl rfl rfl rfl rfl rfl ?_) | (refine XG_box ?_; (refine XL_box rfl (fun _ => rfl) (fun _ => ?_); refine XL_nB (by repeat' (first | exact .nil | apply NL.cons)) ?_)) | (refine XG_call ?_; (refine XL_fn (rwithin_spec _ _ _) rfl rfl (fun _ _ _ => trivial) ?_; refine XL_dec_t (by omega) ?_)) | (refine XL_op tt_ok rfl rfl ?_; try (first | refine XL_dec_t (by omega) ?_ | refine XL_dec (fun _ => ?_) (fun _ => ?_)))) | (refine X_id ?_; first | refine X_seq ?_ | (refine X_regionN (by repeat' (first | exact .nil | apply NL.cons)) ?_) | refine X_ret ?_) | (refine Y_id ?_; refine Y_then ?_))
  all_goals first
    | exact Y_fn1 rfl rfl rfl
    | (exfalso; omega)
    | skip
  
set_option maxHeartbeats 4000000 in
theorem rb1_spec {x : Cs} {s : Sh} {pg al fr : Int} (hn : Nums x.ms x.st x.fa x.di s.im s.no s.li s.us pg al fr) (h1 : 2 ≤ s.us ∧ s.us ≤ 4096) (h2 : 1 ≤ s.li ∧ s.li ≤ 5120) (h3 : 1 ≤ s.no ∧ s.no ≤ 4096) : FnC Tryz.prog 99 [csV x, shV s, .int .u8 1] (fun _ => True) (uV (17 * x.ms)) := by
  obtain ⟨n1, n2, n3, n4, n5, n6, n7, n8, n9, n10, n11⟩ := hn
  have hr1 : x.st + 2 * x.ms = pg := n5.symm
  have hr2 : s.li * pg = al := n6.symm
  have hr3 : (2 * s.us + 1) * x.st + x.di = fr := n8.symm
  refine Ctr.intro Tryz.func99 rfl rfl (by decide +kernel) fun F hpre => ?_
  repeat' (first | (refine XL_id ?_; first | refine XL_nil ?_ | (refine XG_load ?_; first | refine XL_load tt_ok 0 rfl rfl rfl rfl rfl rfl ?_ | refine XL_load tt_ok 1 rfl rfl rfl rfl rfl rfl ?_) | (refine XG_box ?_; (refine XL_box rfl (fun _ => rfl) (fun _ => ?_); refine XL_nB (by repeat' (first | exact .nil | apply NL.cons)) ?_)) | (refine XL_op tt_ok rfl rfl ?_; refine XL_int (Eq.trans (wrap_u64 (by omega) (by omega)) hr3) ?_) | (refine XL_op tt_ok rfl rfl ?_; try (first | refine XL_int (wrap_u64 (by omega) (by omega)) ?_ | refine XL_dec_t (by omega) ?_))) | (refine XD_id ?_; first | (refine XD_thaw thaw ?_; refine XD_nil ?_) | (refine XD_id ?_; (first | (refine XD_uL rfl ?_; first | refine XD_s rfl rfl rfl (XV_load tt_ok rfl (blk_at 0 rfl hM) rfl rfl rfl) rfl ?_ | refine XD_s rfl rfl rfl (XV_load tt_ok rfl (blk_at 1 rfl hM) rfl rfl rfl) rfl ?_) | (refine XD_u rfl rfl ?_; refine XD_s rfl rfl rfl (XV_op tt_ok rfl) rfl ?_)); try (refine XD_int (wrap_u64 (by omega) (by omega)) ?_))) | (refine X_id ?_; first | (refine X_drawS (id := 1) [0, 1, 2, 3, 4, 5] (fun _ => .s) 8 (by repeat' (first | exact Split.nil | apply Split.blk)) mixed (by decide +kernel) ?_; intro G hFG hM thaw; show XD _ _ _ _ _ _ [0, 1, 2, 3, 4, 5] _ _ _) | (refine X_drawS (id := 2) [0, 1, 2, 3, 4, 5, 6, 7] (fun _ => .s) 8 (by repeat' (first | exact Split.nil | apply Split.blk)) mixed (by decide +kernel) ?_; intro G hFG hM thaw; show XD _ _ _ _ _ _ [0, 1, 2, 3, 4, 5, 6, 7] _ _ _) | refine X_seq ?_ | (refine X_regionN (by repeat' (first | exact .nil | apply NL.cons)) ?_) | refine X_ret ?_ | refine X_block ?_ | refine X_cond_t rfl ?_) | (refine Y_id ?_; first | refine Y_then ?_ | refine Y_then_ret ?_ | refine Y_block_ret ?_))
  all_goals first
    | exact Y_fn1 rfl rfl rfl
    | (exfalso; omega)
    | skip
  
set_option maxHeartbeats 4000000 in
theorem rb2_spec {x : Cs} {s : Sh} {pg al fr : Int} (hn : Nums x.ms x.st x.fa x.di s.im s.no s.li s.us pg al fr) (h1 : 2 ≤ s.us ∧ s.us ≤ 4096) (h2 : 1 ≤ s.li ∧ s.li ≤ 5120) (h3 : 1 ≤ s.no ∧ s.no ≤ 4096) : FnC Tryz.prog 99 [csV x, shV s, .int .u8 2] (fun _ => True) (uV (al + x.ms)) := by
  obtain ⟨n1, n2, n3, n4, n5, n6, n7, n8, n9, n10, n11⟩ := hn
  have hr1 : x.st + 2 * x.ms = pg := n5.symm
  have hr2 : s.li * pg = al := n6.symm
  have hr3 : (2 * s.us + 1) * x.st + x.di = fr := n8.symm
  refine Ctr.intro Tryz.func99 rfl rfl (by decide +kernel) fun F hpre => ?_
  repeat' (first | (refine XL_id ?_; first | refine XL_nil ?_ | (refine XG_load ?_; first | refine XL_load tt_ok 0 rfl rfl rfl rfl rfl rfl ?_ | refine XL_load tt_ok 1 rfl rfl rfl rfl rfl rfl ?_) | (refine XG_box ?_; (refine XL_box rfl (fun _ => rfl) (fun _ => ?_); refine XL_nB (by repeat' (first | exact .nil | apply NL.cons)) ?_)) | (refine XL_op tt_ok rfl rfl ?_; refine XL_int (Eq.trans (wrap_u64 (by omega) (by omega)) hr1) ?_) | (refine XL_op tt_ok rfl rfl ?_; refine XL_int (Eq.trans (wrap_u64 (by omega) (by omega)) hr2) ?_) | (refine XL_op tt_ok rfl rfl ?_; refine XL_int (Eq.trans (wrap_u64 (by omega) (by omega)) hr3) ?_) | (refine XL_op tt_ok rfl rfl ?_; try (first | refine XL_int (wrap_u64 (by omega) (by omega)) ?_ | refine XL_dec_t (by omega) ?_ | refine XL_dec_f (by omega) ?_))) | (refine XD_id ?_; first | (refine XD_thaw thaw ?_; refine XD_nil ?_) | (refine XD_id ?_; (first | (refine XD_uL rfl ?_; first | refine XD_s rfl rfl rfl (XV_load tt_ok rfl (blk_at 0 rfl hM) rfl rfl rfl) rfl ?_ | refine XD_s rfl rfl rfl (XV_load tt_ok rfl (blk_at 1 rfl hM) rfl rfl rfl) rfl ?_) | (refine XD_u rfl rfl ?_; refine XD_s rfl rfl rfl (XV_op tt_ok rfl) rfl ?_)); try (refine XD_int (wrap_u64 (by omega) (by omega)) ?_))) | (refine X_id ?_; first | (refine X_drawS (id := 1) [0, 1, 2, 3, 4, 5] (fun _ => .s) 8 (by repeat' (first | exact Split.nil | apply Split.blk)) mixed (by decide +kernel) ?_; intro G hFG hM thaw; show XD _ _ _ _ _ _ [0, 1, 2, 3, 4, 5] _ _ _) | (refine X_drawS (id := 2) [0, 1, 2, 3, 4, 5, 6, 7] (fun _ => .s) 8 (by repeat' (first | exact Split.nil | apply Split.blk)) mixed (by decide +kernel) ?_; intro G hFG hM thaw; show XD _ _ _ _ _ _ [0, 1, 2, 3, 4, 5, 6, 7] _ _ _) | refine X_seq ?_ | (refine X_regionN (by repeat' (first | exact .nil | apply NL.cons)) ?_) | refine X_ret ?_ | refine X_block ?_ | refine X_cond_t rfl ?_ | refine X_cond_f rfl ?_) | (refine Y_id ?_; first | refine Y_then ?_ | refine Y_then_ret ?_ | refine Y_block_ret ?_))
  all_goals first
    | exact Y_fn1 rfl rfl rfl
    | (exfalso; omega)
    | skip
  
set_option maxHeartbeats 4000000 in
theorem rb3_spec {x : Cs} {s : Sh} {pg al fr : Int} (hn : Nums x.ms x.st x.fa x.di s.im s.no s.li s.us pg al fr) (h1 : 2 ≤ s.us ∧ s.us ≤ 4096) (h2 : 1 ≤ s.li ∧ s.li ≤ 5120) (h3 : 1 ≤ s.no ∧ s.no ≤ 4096) : FnC Tryz.prog 99 [csV x, shV s, .int .u8 3] (fun _ => True) (uV (x.ms + 16 * s.no * x.ms + al)) := by
  obtain ⟨n1, n2, n3, n4, n5, n6, n7, n8, n9, n10, n11⟩ := hn
  have hr1 : x.st + 2 * x.ms = pg := n5.symm
  have hr2 : s.li * pg = al := n6.symm
  have hr3 : (2 * s.us + 1) * x.st + x.di = fr := n8.symm
  refine Ctr.intro Tryz.func99 rfl rfl (by decide +kernel) fun F hpre => ?_
  repeat' (first | (refine XL_id ?_; first | refine XL_nil ?_ | (refine XG_load ?_; first | refine XL_load tt_ok 0 rfl rfl rfl rfl rfl rfl ?_ | refine XL_load tt_ok 1 rfl rfl rfl rfl rfl rfl ?_) | (refine XG_box ?_; (refine XL_box rfl (fun _ => rfl) (fun _ => ?_); refine XL_nB (by repeat' (first | exact .nil | apply NL.cons)) ?_)) | (refine XL_op tt_ok rfl rfl ?_; refine XL_int (Eq.trans (wrap_u64 (by omega) (by omega)) hr1) ?_) | (refine XL_op tt_ok rfl rfl ?_; refine XL_int (Eq.trans (wrap_u64 (by omega) (by omega)) hr2) ?_) | (refine XL_op tt_ok rfl rfl ?_; refine XL_int (Eq.trans (wrap_u64 (by omega) (by omega)) hr3) ?_) | (refine XL_op tt_ok rfl rfl ?_; try (first | refine XL_int (wrap_u64 (by omega) (by omega)) ?_ | refine XL_dec_t (by omega) ?_ | refine XL_dec_f (by omega) ?_))) | (refine XD_id ?_; first | (refine XD_thaw thaw ?_; refine XD_nil ?_) | (refine XD_id ?_; (first | (refine XD_uL rfl ?_; first | refine XD_s rfl rfl rfl (XV_load tt_ok rfl (blk_at 0 rfl hM) rfl rfl rfl) rfl ?_ | refine XD_s rfl rfl rfl (XV_load tt_ok rfl (blk_at 1 rfl hM) rfl rfl rfl) rfl ?_) | (refine XD_u rfl rfl ?_; refine XD_s rfl rfl rfl (XV_op tt_ok rfl) rfl ?_)); try (refine XD_int (wrap_u64 (by omega) (by omega)) ?_))) | (refine X_id ?_; first | (refine X_drawS (id := 1) [0, 1, 2, 3, 4, 5] (fun _ => .s) 8 (by repeat' (first | exact Split.nil | apply Split.blk)) mixed (by decide +kernel) ?_; intro G hFG hM thaw; show XD _ _ _ _ _ _ [0, 1, 2, 3, 4, 5] _ _ _) | (refine X_drawS (id := 2) [0, 1, 2, 3, 4, 5, 6, 7] (fun _ => .s) 8 (by repeat' (first | exact Split.nil | apply Split.blk)) mixed (by decide +kernel) ?_; intro G hFG hM thaw; show XD _ _ _ _ _ _ [0, 1, 2, 3, 4, 5, 6, 7] _ _ _) | refine X_seq ?_ | (refine X_regionN (by repeat' (first | exact .nil | apply NL.cons)) ?_) | refine X_ret ?_ | refine X_block ?_ | refine X_cond_t rfl ?_ | refine X_cond_f rfl ?_) | (refine Y_id ?_; first | refine Y_then ?_ | refine Y_then_ret ?_ | refine Y_block_ret ?_))
  all_goals first
    | exact Y_fn1 rfl rfl rfl
    | (exfalso; omega)
    | skip
  
set_option maxHeartbeats 4000000 in
theorem rb4_spec {x : Cs} {s : Sh} {pg al fr : Int} (hn : Nums x.ms x.st x.fa x.di s.im s.no s.li s.us pg al fr) (h1 : 2 ≤ s.us ∧ s.us ≤ 4096) (h2 : 1 ≤ s.li ∧ s.li ≤ 5120) (h3 : 1 ≤ s.no ∧ s.no ≤ 4096) : FnC Tryz.prog 99 [csV x, shV s, .int .u8 4] (fun _ => True) (uV (113 * x.ms)) := by
  obtain ⟨n1, n2, n3, n4, n5, n6, n7, n8, n9, n10, n11⟩ := hn
  have hr1 : x.st + 2 * x.ms = pg := n5.symm
  have hr2 : s.li * pg = al := n6.symm
  have hr3 : (2 * s.us + 1) * x.st + x.di = fr := n8.symm
  refine Ctr.intro Tryz.func99 rfl rfl (by decide +kernel) fun F hpre => ?_
  repeat' (first | (refine XL_id ?_; first | refine XL_nil ?_ | (refine XG_load ?_; first | refine XL_load tt_ok 0 rfl rfl rfl rfl rfl rfl ?_ | refine XL_load tt_ok 1 rfl rfl rfl rfl rfl rfl ?_) | (refine XG_box ?_; (refine XL_box rfl (fun _ => rfl) (fun _ => ?_); refine XL_nB (by repeat' (first | exact .nil | apply NL.cons)) ?_)) | (refine XL_op tt_ok rfl rfl ?_; refine XL_int (Eq.trans (wrap_u64 (by omega) (by omega)) hr3) ?_) | (refine XL_op tt_ok rfl rfl ?_; try (first | refine XL_int (wrap_u64 (by omega) (by omega)) ?_ | refine XL_dec_t (by omega) ?_ | refine XL_dec_f (by omega) ?_))) | (refine XD_id ?_; first | (refine XD_thaw thaw ?_; refine XD_nil ?_) | (refine XD_id ?_; (first | (refine XD_uL rfl ?_; first | refine XD_s rfl rfl rfl (XV_load tt_ok rfl (blk_at 0 rfl hM) rfl rfl rfl) rfl ?_ | refine XD_s rfl rfl rfl (XV_load tt_ok rfl (blk_at 1 rfl hM) rfl rfl rfl) rfl ?_) | (refine XD_u rfl rfl ?_; refine XD_s rfl rfl rfl (XV_op tt_ok rfl) rfl ?_)); try (refine XD_int (wrap_u64 (by omega) (by omega)) ?_))) | (refine X_id ?_; first | (refine X_drawS (id := 1) [0, 1, 2, 3, 4, 5] (fun _ => .s) 8 (by repeat' (first | exact Split.nil | apply Split.blk)) mixed (by decide +kernel) ?_; intro G hFG hM thaw; show XD _ _ _ _ _ _ [0, 1, 2, 3, 4, 5] _ _ _) | (refine X_drawS (id := 2) [0, 1, 2, 3, 4, 5, 6, 7] (fun _ => .s) 8 (by repeat' (first | exact Split.nil | apply Split.blk)) mixed (by decide +kernel) ?_; intro G hFG hM thaw; show XD _ _ _ _ _ _ [0, 1, 2, 3, 4, 5, 6, 7] _ _ _) | refine X_seq ?_ | (refine X_regionN (by repeat' (first | exact .nil | apply NL.cons)) ?_) | refine X_ret ?_ | refine X_block ?_ | refine X_cond_t rfl ?_ | refine X_cond_f rfl ?_) | (refine Y_id ?_; first | refine Y_then ?_ | refine Y_then_ret ?_ | refine Y_block_ret ?_))
  all_goals first
    | exact Y_fn1 rfl rfl rfl
    | (exfalso; omega)
    | skip
  
set_option maxHeartbeats 4000000 in
theorem rb5_spec {x : Cs} {s : Sh} {pg al fr : Int} (hn : Nums x.ms x.st x.fa x.di s.im s.no s.li s.us pg al fr) (h1 : 2 ≤ s.us ∧ s.us ≤ 4096) (h2 : 1 ≤ s.li ∧ s.li ≤ 5120) (h3 : 1 ≤ s.no ∧ s.no ≤ 4096) : FnC Tryz.prog 99 [csV x, shV s, .int .u8 5] (fun _ => True) (uV (64 * pg)) := by
  obtain ⟨n1, n2, n3, n4, n5, n6, n7, n8, n9, n10, n11⟩ := hn
  have hr1 : x.st + 2 * x.ms = pg := n5.symm
  have hr2 : s.li * pg = al := n6.symm
  have hr3 : (2 * s.us + 1) * x.st + x.di = fr := n8.symm
  refine Ctr.intro Tryz.func99 rfl rfl (by decide +kernel) fun F hpre => ?_
  repeat' (first | (refine XL_id ?_; first | refine XL_nil ?_ | (refine XG_load ?_; first | refine XL_load tt_ok 0 rfl rfl rfl rfl rfl rfl ?_ | refine XL_load tt_ok 1 rfl rfl rfl rfl rfl rfl ?_) | (refine XG_box ?_; (refine XL_box rfl (fun _ => rfl) (fun _ => ?_); refine XL_nB (by repeat' (first | exact .nil | apply NL.cons)) ?_)) | (refine XL_op tt_ok rfl rfl ?_; refine XL_int (Eq.trans (wrap_u64 (by omega) (by omega)) hr1) ?_) | (refine XL_op tt_ok rfl rfl ?_; refine XL_int (Eq.trans (wrap_u64 (by omega) (by omega)) hr3) ?_) | (refine XL_op tt_ok rfl rfl ?_; try (first | refine XL_int (wrap_u64 (by omega) (by omega)) ?_ | refine XL_dec_t (by omega) ?_ | refine XL_dec_f (by omega) ?_))) | (refine XD_id ?_; first | (refine XD_thaw thaw ?_; refine XD_nil ?_) | (refine XD_id ?_; (first | (refine XD_uL rfl ?_; first | refine XD_s rfl rfl rfl (XV_load tt_ok rfl (blk_at 0 rfl hM) rfl rfl rfl) rfl ?_ | refine XD_s rfl rfl rfl (XV_load tt_ok rfl (blk_at 1 rfl hM) rfl rfl rfl) rfl ?_) | (refine XD_u rfl rfl ?_; refine XD_s rfl rfl rfl (XV_op tt_ok rfl) rfl ?_)); try (refine XD_int (wrap_u64 (by omega) (by omega)) ?_))) | (refine X_id ?_; first | (refine X_drawS (id := 1) [0, 1, 2, 3, 4, 5] (fun _ => .s) 8 (by repeat' (first | exact Split.nil | apply Split.blk)) mixed (by decide +kernel) ?_; intro G hFG hM thaw; show XD _ _ _ _ _ _ [0, 1, 2, 3, 4, 5] _ _ _) | (refine X_drawS (id := 2) [0, 1, 2, 3, 4, 5, 6, 7] (fun _ => .s) 8 (by repeat' (first | exact Split.nil | apply Split.blk)) mixed (by decide +kernel) ?_; intro G hFG hM thaw; show XD _ _ _ _ _ _ [0, 1, 2, 3, 4, 5, 6, 7] _ _ _) | refine X_seq ?_ | (refine X_regionN (by repeat' (first | exact .nil | apply NL.cons)) ?_) | refine X_ret ?_ | refine X_block ?_ | refine X_cond_t rfl ?_ | refine X_cond_f rfl ?_) | (refine Y_id ?_; first | refine Y_then ?_ | refine Y_then_ret ?_ | refine Y_block_ret ?_))
  all_goals first
    | exact Y_fn1 rfl rfl rfl
    | (exfalso; omega)
    | skip
  
set_option maxHeartbeats 4000000 in
theorem rb6_spec {x : Cs} {s : Sh} {pg al fr : Int} (hn : Nums x.ms x.st x.fa x.di s.im s.no s.li s.us pg al fr) (h1 : 2 ≤ s.us ∧ s.us ≤ 4096) (h2 : 1 ≤ s.li ∧ s.li ≤ 5120) (h3 : 1 ≤ s.no ∧ s.no ≤ 4096) : FnC Tryz.prog 99 [csV x, shV s, .int .u8 6] (fun _ => True) (uV (64 * (x.st + x.ms) + x.ms)) := by
  obtain ⟨n1, n2, n3, n4, n5, n6, n7, n8, n9, n10, n11⟩ := hn
  have hr1 : x.st + 2 * x.ms = pg := n5.symm
  have hr2 : s.li * pg = al := n6.symm
  have hr3 : (2 * s.us + 1) * x.st + x.di = fr := n8.symm
  refine Ctr.intro Tryz.func99 rfl rfl (by decide +kernel) fun F hpre => ?_
  repeat' (first | (refine XL_id ?_; first | refine XL_nil ?_ | (refine XG_load ?_; first | refine XL_load tt_ok 0 rfl rfl rfl rfl rfl rfl ?_ | refine XL_load tt_ok 1 rfl rfl rfl rfl rfl rfl ?_) | (refine XG_box ?_; (refine XL_box rfl (fun _ => rfl) (fun _ => ?_); refine XL_nB (by repeat' (first | exact .nil | apply NL.cons)) ?_)) | (refine XL_op tt_ok rfl rfl ?_; refine XL_int (Eq.trans (wrap_u64 (by omega) (by omega)) hr3) ?_) | (refine XL_op tt_ok rfl rfl ?_; try (first | refine XL_int (wrap_u64 (by omega) (by omega)) ?_ | refine XL_dec_t (by omega) ?_ | refine XL_dec_f (by omega) ?_))) | (refine XD_id ?_; first | (refine XD_thaw thaw ?_; refine XD_nil ?_) | (refine XD_id ?_; (first | (refine XD_uL rfl ?_; first | refine XD_s rfl rfl rfl (XV_load tt_ok rfl (blk_at 0 rfl hM) rfl rfl rfl) rfl ?_ | refine XD_s rfl rfl rfl (XV_load tt_ok rfl (blk_at 1 rfl hM) rfl rfl rfl) rfl ?_) | (refine XD_u rfl rfl ?_; refine XD_s rfl rfl rfl (XV_op tt_ok rfl) rfl ?_)); try (refine XD_int (wrap_u64 (by omega) (by omega)) ?_))) | (refine X_id ?_; first | (refine X_drawS (id := 1) [0, 1, 2, 3, 4, 5] (fun _ => .s) 8 (by repeat' (first | exact Split.nil | apply Split.blk)) mixed (by decide +kernel) ?_; intro G hFG hM thaw; show XD _ _ _ _ _ _ [0, 1, 2, 3, 4, 5] _ _ _) | (refine X_drawS (id := 2) [0, 1, 2, 3, 4, 5, 6, 7] (fun _ => .s) 8 (by repeat' (first | exact Split.nil | apply Split.blk)) mixed (by decide +kernel) ?_; intro G hFG hM thaw; show XD _ _ _ _ _ _ [0, 1, 2, 3, 4, 5, 6, 7] _ _ _) | refine X_seq ?_ | (refine X_regionN (by repeat' (first | exact .nil | apply NL.cons)) ?_) | refine X_ret ?_ | refine X_block ?_ | refine X_cond_t rfl ?_ | refine X_cond_f rfl ?_) | (refine Y_id ?_; first | refine Y_then ?_ | refine Y_then_ret ?_ | refine Y_block_ret ?_))
  all_goals first
    | exact Y_fn1 rfl rfl rfl
    | (exfalso; omega)
    | skip
  
set_option maxHeartbeats 4000000 in
theorem rb7_spec {x : Cs} {s : Sh} {pg al fr : Int} (hn : Nums x.ms x.st x.fa x.di s.im s.no s.li s.us pg al fr) (h1 : 2 ≤ s.us ∧ s.us ≤ 4096) (h2 : 1 ≤ s.li ∧ s.li ≤ 5120) (h3 : 1 ≤ s.no ∧ s.no ≤ 4096) : FnC Tryz.prog 99 [csV x, shV s, .int .u8 7] (fun _ => True) (uV (mx (113 * x.ms) (64 * pg))) := by
  have hb4 := rb4_spec hn h1 h2 h3
  have hb5 := rb5_spec hn h1 h2 h3
  obtain ⟨n1, n2, n3, n4, n5, n6, n7, n8, n9, n10, n11⟩ := hn
  have hr1 : x.st + 2 * x.ms = pg := n5.symm
  have hr2 : s.li * pg = al := n6.symm
  have hr3 : (2 * s.us + 1) * x.st + x.di = fr := n8.symm
  refine Ctr.intro Tryz.func99 rfl rfl (by decide +kernel) fun F hpre => ?_
  repeat' (first | (refine XL_id ?_; first | refine XL_nil ?_ | (refine XG_load ?_; first | refine XL_load tt_ok 0 rfl rfl rfl rfl rfl rfl ?_ | refine XL_load tt_ok 1 rfl rfl rfl rfl rfl rfl ?_) | (refine XG_box ?_; (refine XL_box rfl (fun _ => rfl) (fun _ => ?_); refine XL_nB (by repeat' (first | exact .nil | apply NL.cons)) ?_)) | (refine XG_call ?_; first | refine XL_fn hb4 rfl rfl (fun _ _ _ => trivial) ?_ | refine XL_fn hb5 rfl rfl (fun _ _ _ => trivial) ?_) | (refine XL_op tt_ok rfl rfl ?_; refine XL_int (Eq.trans (wrap_u64 (by omega) (by omega)) hr3) ?_) | (refine XL_op tt_ok rfl rfl ?_; try (first | refine XL_int (wrap_u64 (by omega) (by omega)) ?_ | refine XL_dec_t (by omega) ?_ | refine XL_dec_f (by omega) ?_))) | (refine XD_id ?_; first | (refine XD_thaw thaw ?_; refine XD_nil ?_) | (refine XD_id ?_; (first | (refine XD_uL rfl ?_; first | refine XD_s rfl rfl rfl (XV_loadW tt_ok rfl (blk_at 0 rfl hM) rfl rfl rfl) rfl ?_ | refine XD_s rfl rfl rfl (XV_load tt_ok rfl (blk_at 0 rfl hM) rfl rfl rfl) rfl ?_ | refine XD_s rfl rfl rfl (XV_loadW tt_ok rfl (blk_at 1 rfl hM) rfl rfl rfl) rfl ?_ | refine XD_s rfl rfl rfl (XV_load tt_ok rfl (blk_at 1 rfl hM) rfl rfl rfl) rfl ?_) | (refine XD_u rfl rfl ?_; refine XD_s rfl rfl rfl (XV_op tt_ok rfl) rfl ?_)); try (refine XD_int (wrap_u64 (by omega) (by omega)) ?_)) | refine XD_m rfl rfl ?_) | (refine X_id ?_; first | (refine X_drawS (id := 1) [0, 1, 2, 3, 4, 5] (fun _ => .s) 8 (by repeat' (first | exact Split.nil | apply Split.blk)) mixed (by decide +kernel) ?_; intro G hFG hM thaw; show XD _ _ _ _ _ _ [0, 1, 2, 3, 4, 5] _ _ _) | (refine X_drawS (id := 2) [0, 1, 2, 3, 4, 5, 6, 7] (fun _ => .s) 8 (by repeat' (first | exact Split.nil | apply Split.blk)) mixed (by decide +kernel) ?_; intro G hFG hM thaw; show XD _ _ _ _ _ _ [0, 1, 2, 3, 4, 5, 6, 7] _ _ _) | (refine X_drawS (id := 18) [0, 1, 3, 4, 2, 5, 6, 7] (fun | 2 => .m | 5 => .m | _ => .s) 8 (by repeat' (first | exact Split.nil | apply Split.blk)) mixed (by decide +kernel) ?_; intro G hFG hM thaw; show XD _ _ _ _ _ _ [0, 1, 3, 4, 2, 5, 6, 7] _ _ _) | refine X_seq ?_ | (refine X_regionN (by repeat' (first | exact .nil | apply NL.cons)) ?_) | refine X_ret ?_ | refine X_block ?_ | refine X_cond_t rfl ?_ | refine X_cond_f rfl ?_) | (refine Y_id ?_; first | refine Y_then ?_ | refine Y_then_ret ?_ | refine Y_block_ret ?_ | refine Y_m ?_))
  all_goals first
    | exact Y_fn1 rfl rfl rfl
    | (exfalso; omega)
    | skip
  
set_option maxHeartbeats 4000000 in
theorem rb8_spec {x : Cs} {s : Sh} {pg al fr : Int} (hn : Nums x.ms x.st x.fa x.di s.im s.no s.li s.us pg al fr) (h1 : 2 ≤ s.us ∧ s.us ≤ 4096) (h2 : 1 ≤ s.li ∧ s.li ≤ 5120) (h3 : 1 ≤ s.no ∧ s.no ≤ 4096) : FnC Tryz.prog 99 [csV x, shV s, .int .u8 8] (fun _ => True) (uV (26 * x.ms + x.fa + fr + x.di)) := by
  obtain ⟨n1, n2, n3, n4, n5, n6, n7, n8, n9, n10, n11⟩ := hn
  have hr1 : x.st + 2 * x.ms = pg := n5.symm
  have hr2 : s.li * pg = al := n6.symm
  have hr3 : (2 * s.us + 1) * x.st + x.di = fr := n8.symm
  refine Ctr.intro Tryz.func99 rfl rfl (by decide +kernel) fun F hpre => ?_
  repeat' (first | (refine XL_id ?_; first | refine XL_nil ?_ | (refine XG_load ?_; first | refine XL_load tt_ok 0 rfl rfl rfl rfl rfl rfl ?_ | refine XL_load tt_ok 1 rfl rfl rfl rfl rfl rfl ?_) | (refine XG_box ?_; (refine XL_box rfl (fun _ => rfl) (fun _ => ?_); refine XL_nB (by repeat' (first | exact .nil | apply NL.cons)) ?_)) | (refine XL_op tt_ok rfl rfl ?_; refine XL_int (Eq.trans (wrap_u64 (by omega) (by omega)) hr3) ?_) | (refine XL_op tt_ok rfl rfl ?_; try (first | refine XL_int (wrap_u64 (by omega) (by omega)) ?_ | refine XL_dec_t (by omega) ?_ | refine XL_dec_f (by omega) ?_))) | (refine XD_id ?_; first | (refine XD_thaw thaw ?_; refine XD_nil ?_) | (refine XD_id ?_; (first | (refine XD_uL rfl ?_; first | refine XD_s rfl rfl rfl (XV_load tt_ok rfl (blk_at 0 rfl hM) rfl rfl rfl) rfl ?_ | refine XD_s rfl rfl rfl (XV_load tt_ok rfl (blk_at 1 rfl hM) rfl rfl rfl) rfl ?_) | (refine XD_u rfl rfl ?_; refine XD_s rfl rfl rfl (XV_op tt_ok rfl) rfl ?_)); try (refine XD_int (wrap_u64 (by omega) (by omega)) ?_))) | (refine X_id ?_; first | (refine X_drawS (id := 1) [0, 1, 2, 3, 4, 5] (fun _ => .s) 8 (by repeat' (first | exact Split.nil | apply Split.blk)) mixed (by decide +kernel) ?_; intro G hFG hM thaw; show XD _ _ _ _ _ _ [0, 1, 2, 3, 4, 5] _ _ _) | (refine X_drawS (id := 2) [0, 1, 2, 3, 4, 5, 6, 7] (fun _ => .s) 8 (by repeat' (first | exact Split.nil | apply Split.blk)) mixed (by decide +kernel) ?_; intro G hFG hM thaw; show XD _ _ _ _ _ _ [0, 1, 2, 3, 4, 5, 6, 7] _ _ _) | refine X_seq ?_ | (refine X_regionN (by repeat' (first | exact .nil | apply NL.cons)) ?_) | refine X_ret ?_ | refine X_block ?_ | refine X_cond_t rfl ?_ | refine X_cond_f rfl ?_) | (refine Y_id ?_; first | refine Y_then ?_ | refine Y_then_ret ?_ | refine Y_block_ret ?_))
  all_goals first
    | exact Y_fn1 rfl rfl rfl
    | (exfalso; omega)
    | skip
  
set_option maxHeartbeats 4000000 in
theorem rb9_spec {x : Cs} {s : Sh} {pg al fr : Int} (hn : Nums x.ms x.st x.fa x.di s.im s.no s.li s.us pg al fr) (h1 : 2 ≤ s.us ∧ s.us ≤ 4096) (h2 : 1 ≤ s.li ∧ s.li ≤ 5120) (h3 : 1 ≤ s.no ∧ s.no ≤ 4096) : FnC Tryz.prog 99 [csV x, shV s, .int .u8 9] (fun _ => True) (uV (64 * x.ms + 2 * x.fa + 2 * fr + x.di)) := by
  obtain ⟨n1, n2, n3, n4, n5, n6, n7, n8, n9, n10, n11⟩ := hn
  have hr1 : x.st + 2 * x.ms = pg := n5.symm
  have hr2 : s.li * pg = al := n6.symm
  have hr3 : (2 * s.us + 1) * x.st + x.di = fr := n8.symm
  refine Ctr.intro Tryz.func99 rfl rfl (by decide +kernel) fun F hpre => ?_
  repeat' (first | (refine XL_id ?_; first | refine XL_nil ?_ | (refine XG_load ?_; first | refine XL_load tt_ok 0 rfl rfl rfl rfl rfl rfl ?_ | refine XL_load tt_ok 1 rfl rfl rfl rfl rfl rfl ?_) | (refine XG_box ?_; (refine XL_box rfl (fun _ => rfl) (fun _ => ?_); refine XL_nB (by repeat' (first | exact .nil | apply NL.cons)) ?_)) | (refine XL_op tt_ok rfl rfl ?_; refine XL_int (Eq.trans (wrap_u64 (by omega) (by omega)) hr3) ?_) | (refine XL_op tt_ok rfl rfl ?_; try (first | refine XL_int (wrap_u64 (by omega) (by omega)) ?_ | refine XL_dec_t (by omega) ?_ | refine XL_dec_f (by omega) ?_))) | (refine XD_id ?_; first | (refine XD_thaw thaw ?_; refine XD_nil ?_) | (refine XD_id ?_; (first | (refine XD_uL rfl ?_; first | refine XD_s rfl rfl rfl (XV_load tt_ok rfl (blk_at 0 rfl hM) rfl rfl rfl) rfl ?_ | refine XD_s rfl rfl rfl (XV_load tt_ok rfl (blk_at 1 rfl hM) rfl rfl rfl) rfl ?_) | (refine XD_u rfl rfl ?_; refine XD_s rfl rfl rfl (XV_op tt_ok rfl) rfl ?_)); try (refine XD_int (wrap_u64 (by omega) (by omega)) ?_))) | (refine X_id ?_; first | (refine X_drawS (id := 1) [0, 1, 2, 3, 4, 5] (fun _ => .s) 8 (by repeat' (first | exact Split.nil | apply Split.blk)) mixed (by decide +kernel) ?_; intro G hFG hM thaw; show XD _ _ _ _ _ _ [0, 1, 2, 3, 4, 5] _ _ _) | (refine X_drawS (id := 2) [0, 1, 2, 3, 4, 5, 6, 7] (fun _ => .s) 8 (by repeat' (first | exact Split.nil | apply Split.blk)) mixed (by decide +kernel) ?_; intro G hFG hM thaw; show XD _ _ _ _ _ _ [0, 1, 2, 3, 4, 5, 6, 7] _ _ _) | refine X_seq ?_ | (refine X_regionN (by repeat' (first | exact .nil | apply NL.cons)) ?_) | refine X_ret ?_ | refine X_block ?_ | refine X_cond_t rfl ?_ | refine X_cond_f rfl ?_) | (refine Y_id ?_; first | refine Y_then ?_ | refine Y_then_ret ?_ | refine Y_block_ret ?_))
  all_goals first
    | exact Y_fn1 rfl rfl rfl
    | (exfalso; omega)
    | skip
  
set_option maxHeartbeats 4000000 in
theorem rb0_spec {x : Cs} {s : Sh} {pg al fr : Int} (hn : Nums x.ms x.st x.fa x.di s.im s.no s.li s.us pg al fr) (h1 : 2 ≤ s.us ∧ s.us ≤ 4096) (h2 : 1 ≤ s.li ∧ s.li ≤ 5120) (h3 : 1 ≤ s.no ∧ s.no ≤ 4096) (k : Int) (hk : k = 0 ∨ 10 ≤ k) (hk2 : k < 256) : FnC Tryz.prog 99 [csV x, shV s, .int .u8 k] (fun _ => True) (uV (0)) := by
  obtain ⟨n1, n2, n3, n4, n5, n6, n7, n8, n9, n10, n11⟩ := hn
  have hr1 : x.st + 2 * x.ms = pg := n5.symm
  have hr2 : s.li * pg = al := n6.symm
  have hr3 : (2 * s.us + 1) * x.st + x.di = fr := n8.symm
  refine Ctr.intro Tryz.func99 rfl rfl (by decide +kernel) fun F hpre => ?_
  repeat' (first | (refine XL_id ?_; first | refine XL_nil ?_ | (refine XG_load ?_; first | refine XL_load tt_ok 0 rfl rfl rfl rfl rfl rfl ?_ | refine XL_load tt_ok 1 rfl rfl rfl rfl rfl rfl ?_) | (refine XG_box ?_; (refine XL_box rfl (fun _ => rfl) (fun _ => ?_); refine XL_nB (by repeat' (first | exact .nil | apply NL.cons)) ?_)) | (refine XL_op tt_ok rfl rfl ?_; refine XL_int (Eq.trans (wrap_u64 (by omega) (by omega)) hr3) ?_) | (refine XL_op tt_ok rfl rfl ?_; try (first | refine XL_int (wrap_u64 (by omega) (by omega)) ?_ | refine XL_dec_f (by omega) ?_))) | (refine XD_id ?_; first | (refine XD_thaw thaw ?_; refine XD_nil ?_) | (refine XD_id ?_; (first | (refine XD_uL rfl ?_; first | refine XD_s rfl rfl rfl (XV_load tt_ok rfl (blk_at 0 rfl hM) rfl rfl rfl) rfl ?_ | refine XD_s rfl rfl rfl (XV_load tt_ok rfl (blk_at 1 rfl hM) rfl rfl rfl) rfl ?_) | (refine XD_u rfl rfl ?_; refine XD_s rfl rfl rfl (XV_op tt_ok rfl) rfl ?_)); try (refine XD_int (wrap_u64 (by omega) (by omega)) ?_))) | (refine X_id ?_; first | (refine X_drawS (id := 1) [0, 1, 2, 3, 4, 5] (fun _ => .s) 8 (by repeat' (first | exact Split.nil | apply Split.blk)) mixed (by decide +kernel) ?_; intro G hFG hM thaw; show XD _ _ _ _ _ _ [0, 1, 2, 3, 4, 5] _ _ _) | (refine X_drawS (id := 2) [0, 1, 2, 3, 4, 5, 6, 7] (fun _ => .s) 8 (by repeat' (first | exact Split.nil | apply Split.blk)) mixed (by decide +kernel) ?_; intro G hFG hM thaw; show XD _ _ _ _ _ _ [0, 1, 2, 3, 4, 5, 6, 7] _ _ _) | refine X_seq ?_ | (refine X_regionN (by repeat' (first | exact .nil | apply NL.cons)) ?_) | refine X_skip ?_ | refine X_ret ?_ | refine X_block ?_ | refine X_cond_f rfl ?_) | (refine Y_id ?_; first | refine Y_then ?_ | refine Y_block_normal ?_))
  all_goals first
    | exact Y_fn1 rfl rfl rfl
    | (exfalso; omega)
    | skip
  
theorem rbehind_spec {x : Cs} {s : Sh} {pg al fr : Int} (hn : Nums x.ms x.st x.fa x.di s.im s.no s.li s.us pg al fr) (h1 : 2 ≤ s.us ∧ s.us ≤ 4096) (h2 : 1 ≤ s.li ∧ s.li ≤ 5120) (h3 : 1 ≤ s.no ∧ s.no ≤ 4096) (k : Nat) (hk : k < 256) : FnC Tryz.prog 99 [csV x, shV s, .int .u8 k] (fun _ => True) (uV ((bhL x.ms x.st x.fa x.di s.no pg al fr).getD k 0)) := by
  match k, hk with
  | 0, _ => exact rb0_spec hn h1 h2 h3 0 (by decide) (by decide)
  | 1, _ => exact rb1_spec hn h1 h2 h3
  | 2, _ => exact rb2_spec hn h1 h2 h3
  | 3, _ => exact rb3_spec hn h1 h2 h3
  | 4, _ => exact rb4_spec hn h1 h2 h3
  | 5, _ => exact rb5_spec hn h1 h2 h3
  | 6, _ => exact rb6_spec hn h1 h2 h3
  | 7, _ => exact rb7_spec hn h1 h2 h3
  | 8, _ => exact rb8_spec hn h1 h2 h3
  | 9, _ => exact rb9_spec hn h1 h2 h3
  | k + 10, hk => exact rb0_spec hn h1 h2 h3 ((k + 10 : Nat) : Int) (by omega) (by omega)
theorem rworst_spec {x : Cs} {s : Sh} {pg al fr : Int} (hn : Nums x.ms x.st x.fa x.di s.im s.no s.li s.us pg al fr) (h1 : 2 ≤ s.us ∧ s.us ≤ 4096) (h2 : 1 ≤ s.li ∧ s.li ≤ 5120) (h3 : 1 ≤ s.no ∧ s.no ≤ 4096) (hc : CostP x) (hs : ShP s) (k : Nat) (hk : k < 256) : FnC Tryz.prog 87 [csV x, shV s, .int .u8 k] (fun _ => True) (.tuple #[uV (s.im * x.ms + (bhL x.ms x.st x.fa x.di s.no pg al fr).getD k 0), iV 0]) := by
  have hck := rcheck_spec x
  rw [costE_ok hc] at hck
  have hmay := rmay_spec s hs
  have hbh := rbehind_spec hn h1 h2 h3 k hk
  have hrg := bh_rng hn k
  have him := hn.him
  have h4 := hs.im
  obtain ⟨b, hb⟩ : ∃ b, (bhL x.ms x.st x.fa x.di s.no pg al fr).getD k 0 = b := ⟨_, rfl⟩
  rw [hb] at hbh hrg ⊢
  refine Ctr.intro Tryz.func87 rfl rfl (by decide +kernel) fun F hpre => ?_
  repeat' (first | (refine XL_id ?_; first | refine XL_nil ?_ | (refine XG_load ?_; first | refine XL_loadW tt_ok 0 rfl rfl rfl rfl rfl rfl ?_ | refine XL_loadW tt_ok 1 rfl rfl rfl rfl rfl rfl ?_) | (refine XG_box ?_; (refine XL_box rfl (fun _ => rfl) (fun _ => ?_); refine XL_nB (by repeat' (first | exact .nil | apply NL.cons)) ?_)) | (refine XG_call ?_; first | refine XL_fn hck rfl rfl (fun _ _ _ => trivial) ?_ | refine XL_fn hmay rfl rfl (fun _ _ _ => trivial) ?_ | refine XL_fn hbh rfl rfl (fun _ _ _ => trivial) ?_) | (refine XL_op tt_ok rfl rfl ?_; try (refine XL_dec_f (by omega) ?_))) | (refine XD_id ?_; first | (refine XD_thaw thaw ?_; refine XD_nil ?_) | (refine XD_id ?_; (first | (refine XD_uL rfl ?_; first | refine XD_s rfl rfl rfl (XV_loadW tt_ok rfl (blk_at 0 rfl hM) rfl rfl rfl) rfl ?_ | refine XD_s rfl rfl rfl (XV_load tt_ok rfl (blk_at 0 rfl hM) rfl rfl rfl) rfl ?_ | refine XD_s rfl rfl rfl (XV_loadW tt_ok rfl (blk_at 1 rfl hM) rfl rfl rfl) rfl ?_ | refine XD_s rfl rfl rfl (XV_load tt_ok rfl (blk_at 1 rfl hM) rfl rfl rfl) rfl ?_) | (refine XD_u rfl rfl ?_; refine XD_s rfl rfl rfl (XV_op tt_ok rfl) rfl ?_)); try (refine XD_int (wrap_u64 (by omega) (by omega)) ?_)) | refine XD_m rfl rfl ?_) | (refine X_id ?_; first | (refine X_drawS (id := 5) [0, 1, 2, 3, 4, 5, 6, 7, 8, 9, 10, 11, 12] (fun | 9 => .m | _ => .s) 8 (by repeat' (first | exact Split.nil | apply Split.blk)) mixed (by decide +kernel) ?_; intro G hFG hM thaw; show XD _ _ _ _ _ _ [0, 1, 2, 3, 4, 5, 6, 7, 8, 9, 10, 11, 12] _ _ _) | refine X_seq ?_ | (refine X_regionN (by repeat' (first | exact .nil | apply NL.cons)) ?_) | refine X_skip ?_ | refine X_ret ?_ | refine X_cond_f rfl ?_) | (refine Y_id ?_; first | refine Y_then ?_ | refine Y_m ?_))
  all_goals first
    | exact Y_fn2 rfl rfl rfl rfl
    | (exfalso; omega)
    | skip
  
theorem rmost_walk {x : Cs} {s : Sh} {pg al fr : Int} (hn : Nums x.ms x.st x.fa x.di s.im s.no s.li s.us pg al fr) (h1 : 2 ≤ s.us ∧ s.us ≤ 4096) (h2 : 1 ≤ s.li ∧ s.li ≤ 5120) (h3 : 1 ≤ s.no ∧ s.no ≤ 4096) (hc : CostP x) (hs : ShP s) : FnC Tryz.prog 70 [csV x, shV s] (fun _ => True) (.tuple #[uV (s.im * x.ms + mxL (bhL x.ms x.st x.fa x.di s.no pg al fr)), iV 0]) := by
  have hrg := bh_rng hn
  have him := hn.him
  have hwk := rworst_spec hn h1 h2 h3 hc hs
  obtain ⟨l, hl⟩ : ∃ l, bhL x.ms x.st x.fa x.di s.no pg al fr = l := ⟨_, rfl⟩
  have hlen : l.length = 10 := by rw [← hl]; rfl
  rw [hl] at hrg hwk ⊢
  obtain ⟨E, hE⟩ : ∃ E, s.im * x.ms = E := ⟨_, rfl⟩
  rw [hE] at him hwk ⊢
  have hfin : rM E l 256 = E + mxL l := by unfold rM; rw [if_neg (by decide), List.take_of_length_le (by omega)]
  rw [← hfin]
  refine Ctr.intro Tryz.func70 rfl rfl (by decide +kernel) fun F hpre => ?_
  repeat' (first | (refine XL_id ?_; first | refine XL_nil ?_ | (refine XG_box ?_; (refine XL_box rfl (fun _ => rfl) (fun _ => ?_); refine XL_nB (by repeat' (first | exact .nil | apply NL.cons)) ?_)) | (refine XL_op tt_ok rfl rfl ?_)) | (refine X_id ?_; first | refine X_cutD (c := .block 0 _) [] (fun (_ : Unit) => [(6, uV (rM E l 256))]) (fun _ => []) (fun _ => True) rfl (X_block (hold ?_)) (fun _ _ => ?_) | refine X_seq ?_ | (refine X_regionN (by repeat' (first | exact .nil | apply NL.cons)) ?_) | refine X_ret ?_) | (refine Y_id ?_; refine Y_then ?_))
  · intro _
    refine X_loopD [2, 3] (fun (i : Nat) => [(7, .int .i64 i), (6, uV (rM E l i))]) (fun i => [_, _]) (fun i => i ≤ 256) (fun i => 256 - i) 0 rfl (Nat.zero_le _) (by (repeat' (first | exact trivial | refine And.intro rfl ?_)); done) (fun h hs => hs) ?_
    intro i hi
    have hi : i ≤ 256 := hi
    by_cases hlt : i < 256
    · have hw := hwk i hlt
      have hst := rM_succ him.1 (fun k => (hrg k).1) i
      repeat' (first | (refine XL_id ?_; first | refine XL_nil ?_ | (refine XG_load ?_; first | refine XL_loadW tt_ok 0 rfl rfl rfl rfl rfl rfl ?_ | refine XL_loadW tt_ok 1 rfl rfl rfl rfl rfl rfl ?_) | (refine XG_call ?_; first | (refine XL_op tt_ok rfl rfl ?_; refine XL_int hst ?_) | refine XL_fn hw rfl rfl (fun _ _ _ => trivial) ?_) | (refine XL_op tt_ok rfl rfl ?_; try (first | refine XL_int (wrap_i64 (by omega) (by omega)) ?_ | refine XL_int (wrap_u8 (by omega) (by omega)) ?_ | refine XL_dec_t (by omega) ?_ | refine XL_dec_f (by omega) ?_))) | (refine X_id ?_; first | refine X_seq ?_ | (refine X_regionN (by repeat' (first | exact .nil | apply NL.cons)) ?_) | refine X_skip ?_ | refine X_block ?_ | refine X_cond_t rfl ?_ | refine X_cond_f rfl ?_) | (refine Y_id ?_; first | refine Y_then ?_ | refine Y_block_normal ?_))
      all_goals first
        | exact Y_again (i + 1) fun _ _ hf hs => ⟨by show i + 1 ≤ 256; omega, by show 256 - (i + 1) < 256 - i; omega, hf.sub (by (repeat' (first | exact trivial | refine And.intro rfl ?_)); done), hs⟩
        | (exfalso; omega)
        | skip
      
    · obtain rfl : i = 256 := by omega
      repeat' (first | (refine XL_id ?_; first | refine XL_nil ?_ | (refine XL_op tt_ok rfl rfl ?_; try (refine XL_dec_f (by omega) ?_))) | (refine X_id ?_; first | refine X_seq ?_ | (refine X_regionN (by repeat' (first | exact .nil | apply NL.cons)) ?_) | refine X_exit ?_ | refine X_cond_f rfl ?_) | (refine Y_id ?_; first | refine Y_then ?_ | refine Y_then_exit ?_ | refine Y_block_hit ?_))
      all_goals first
        | exact Y_again () fun _ _ hf hs => ⟨trivial, hf.sub (by (repeat' (first | exact trivial | refine And.intro rfl ?_)); done), hs.imp fun _ _ => trivial⟩
        | (exfalso; omega)
        | skip
      
  all_goals first
    | exact Y_fn2 rfl rfl rfl rfl
    | (exfalso; omega)
    | skip
  
end Go.Proofs.YtalkcemelegohaaGreat.Pl
set_option linter.unusedVariables false
set_option maxRecDepth 100000
namespace Go.Proofs.YtalkcemelegohaaGreat.Pl
open Go.RowKit Go.Cof Gx

theorem has_spec (A : Option Addr) (m c : Nat) (xs : List Int) (v : Int) (hm : m ≤ 9223372036854775807) : FnC Tryz.prog 88 [.slice A m c, iV v] (fun h => rdS encN h A m xs) (.bool (decide (v ∈ xs))) := by
  refine Ctr.intro Tryz.func88 rfl rfl (by decide +kernel) fun F hpre => ?_
  have hpre : rdS encN F.heap A m xs := hpre
  have hl := hpre.1
  repeat' (first | (refine XL_id ?_; first | refine XL_nil ?_ | (refine XL_op tt_ok rfl rfl ?_)) | (refine X_id ?_; first | refine X_cutD (c := .block 0 _) [] (fun (_ : Unit) => []) (fun _ => []) (fun _ => v ∉ xs) rfl (X_block (hold ?_)) (fun _ hj => ?_) | refine X_seq ?_ | (refine X_regionN (by repeat' (exact .nil)) ?_) | refine X_ret ?_) | (refine Y_id ?_; refine Y_then ?_))
  · intro _
    refine X_loopD [0, 1] (fun (i : Nat) => [(5, .int .i64 i)]) (fun i => []) (fun i => i ≤ m ∧ v ∉ xs.take i) (fun i => m - i) 0 rfl ⟨Nat.zero_le _, by simp⟩ (by (repeat' (first | exact trivial | refine And.intro rfl ?_)); done) (fun h hs => hs) ?_
    intro i hi
    obtain ⟨hi, hnot⟩ := hi
    by_cases hlt : i < m
    · have hmem : Cof.get xs (i : Int) ∈ xs := get_mem' (by omega) (by omega)
      have htk : xs.take (i + 1) = xs.take i ++ [Cof.get xs (i : Int)] := by
        rw [List.take_succ_eq_append_getElem (by omega)]
        congr 2
        rw [get_nat, List.getD_eq_getElem?_getD, List.getElem?_eq_getElem (by omega)]
        rfl
      by_cases hin : Cof.get xs (i : Int) = v
      all_goals (
        repeat' (first | (refine XL_id ?_; first | refine XL_nil ?_ | (refine XG_load ?_; refine XL_el tt_ok rfl (by assumption) rfl (by omega) (by omega) rfl rfl rfl rfl ?_) | (refine XG_idx ?_; refine XL_idx tt_ok rfl rfl rfl rfl rfl (by assumption) (by omega) (by omega) rfl ?_) | (refine XL_op tt_ok rfl rfl ?_; try (first | refine XL_int (wrap_i64 (by omega) (by omega)) ?_ | refine XL_dec_t (by omega) ?_ | refine XL_dec_f (by omega) ?_))) | (refine X_id ?_; first | refine X_seq ?_ | (refine X_regionN (by repeat' (exact .nil)) ?_) | refine X_skip ?_ | refine X_ret ?_ | refine X_block ?_ | refine X_cond_t rfl ?_ | refine X_cond_f rfl ?_) | (refine Y_id ?_; first | refine Y_then ?_ | refine Y_then_ret ?_ | refine Y_block_normal ?_ | refine Y_block_ret ?_)))
      all_goals first
        | exact Y_fn1 rfl rfl (bool_t (by rw [← hin]; exact hmem))
        | exact Y_again (i + 1) fun _ _ hf hs => ⟨⟨hlt, by rw [htk]; intro hh; rcases List.mem_append.1 hh with hh | hh; exact hnot hh; exact hin (List.mem_singleton.1 hh).symm⟩, by show m - (i + 1) < m - i; omega, hf.sub (by (repeat' (first | exact trivial | refine And.intro rfl ?_)); done), hs⟩
        | skip
      
    · repeat' (first | (refine XL_id ?_; first | refine XL_nil ?_ | (refine XL_op tt_ok rfl rfl ?_; try (refine XL_dec_f (by omega) ?_))) | (refine X_id ?_; first | refine X_seq ?_ | (refine X_regionN (by repeat' (exact .nil)) ?_) | refine X_exit ?_ | refine X_cond_f rfl ?_) | (refine Y_id ?_; first | refine Y_then ?_ | refine Y_then_exit ?_ | refine Y_block_hit ?_))
      all_goals first
        | exact Y_again () fun _ _ hf hs => ⟨by rwa [List.take_of_length_le (by omega)] at hnot, hf.sub (by (repeat' (exact trivial)); done), hs⟩
        | (exfalso; omega)
        | skip
      
  all_goals first
    | exact Y_fn1 rfl rfl (bool_f hj)
    | skip
  
set_option maxHeartbeats 8000000 in
theorem rcolours_spec (d : Cd) (y : Ly) (hf : y.Fit) (p : Nat) (hp : p < y.pm) : FnC Tryz.prog 71 [cfV d y, iV p] (fun h => CfR h d y) (.bool (decide (¬ ColP d p))) := by
  refine Ctr.intro Tryz.func71 rfl rfl (by decide +kernel) fun F hpre => ?_
  have hpre : CfR F.heap d y := hpre
  have r1 := hpre.ps
  have hdat := get_dat hpre hp
  have r2 := hpre.xs _ (get_memN hpre hp)
  have hcap := hf.cap
  have hxf := hf.x _ (get_memN hpre hp)
  have hml := r2.1
  have hml2 : (Cof.get y.ps (p : Int)).m = (Cof.get d.ps (p : Int)).xs.length := by rw [hml, hdat]
  repeat' (first | (refine XL_id ?_; first | refine XL_nil ?_ | (refine XG_box ?_; (refine XL_box rfl (fun _ => rfl) (fun bx => ?_); refine XL_nB (by repeat' (first | exact .nil | apply NL.cons)) ?_)) | (refine XG_load ?_; first | refine XL_load tt_ok 0 rfl rfl rfl rfl rfl rfl ?_ | refine XL_el tt_ok rfl (by assumption) rfl (by omega) (by omega) rfl rfl rfl rfl ?_) | (refine XG_idx ?_; refine XL_idx tt_ok rfl rfl rfl rfl rfl (by assumption) (by omega) (by omega) rfl ?_) | (refine XL_op tt_ok rfl rfl ?_; try (refine XL_dec (fun _ => ?_) (fun _ => ?_)))) | (refine X_id ?_; first | refine X_cutD (c := .block 0 _) [] (fun (_ : Unit) => []) (fun _ => [blk bx (cfL d y) 28]) (fun _ => ∀ j, j < (Cof.get y.ps (p : Int)).m → Good d p j) rfl (X_block (hold ?_)) (fun _ hj => ?_) | refine X_seq ?_ | (refine X_regionN (by repeat' (first | exact .nil | apply NL.cons)) ?_) | refine X_skip ?_ | refine X_ret ?_ | refine X_cond_t rfl ?_ | refine X_cond_f rfl ?_) | (refine Y_id ?_; first | refine Y_then ?_ | refine Y_then_ret ?_))
  · exact Y_fn1 rfl rfl (bool_t (fun h => by have := h.1; omega))
  · intro _
    refine X_loopD [1, 2, 5] (fun (i : Nat) => [(6, .int .i64 i)]) (fun i => [blk bx (cfL d y) 28]) (fun i => i ≤ (Cof.get y.ps (p : Int)).m ∧ ∀ j, j < i → Good d p j) (fun i => (Cof.get y.ps (p : Int)).m - i) 0 rfl ⟨Nat.zero_le _, fun j hj => by omega⟩ (by (repeat' (first | exact trivial | refine And.intro rfl ?_)); done) (fun h hs => hs) ?_
    intro i hi
    obtain ⟨hi, hgd⟩ := hi
    by_cases hlt : i < (Cof.get y.ps (p : Int)).m
    · obtain ⟨v, hv⟩ : ∃ v, Cof.get (Cof.get y.ps (p : Int)).d.xs (i : Int) = v := ⟨_, rfl⟩
      have hv2 : Cof.get (Cof.get d.ps (p : Int)).xs (i : Int) = v := by rw [← hdat]; exact hv
      have hv3 : ∀ z, Cof.get (Cof.get d.ps (p : Int)).xs z = Cof.get (Cof.get y.ps (p : Int)).d.xs z := fun z => by rw [hdat]
      have hi1 : 0 < i → ((i - 1 : Nat) : Int) = (i : Int) - 1 := fun h => by omega
      repeat' (first | (refine XL_id ?_; first | refine XL_nil ?_ | (refine XL_op tt_ok rfl rfl ?_; try (first | refine XL_int (wrap_i64 (by omega) (by omega)) ?_ | refine XL_dec_t (by omega) ?_))) | (refine XD_id ?_; first | (refine XD_thaw thaw ?_; refine XD_nil ?_) | refine XD_no rfl rfl rfl rfl rfl rfl ?_ | refine XD_nou rfl rfl rfl rfl rfl ?_ | (refine XD_id ?_; (first | (refine XD_uL rfl ?_; refine XD_s rfl rfl rfl (XV_el tt_ok rfl (rdS.le (by assumption) hFG) rfl (by omega) (by omega) rfl rfl rfl) rfl ?_) | (refine XD_uI rfl ?_; refine XD_s rfl rfl rfl (XV_idx tt_ok rfl rfl rfl rfl rfl (rdS.le (by assumption) hFG) (by omega) (by omega)) rfl ?_) | (refine XD_gL rfl ?_; first | refine XD_sy rfl rfl rfl rfl rfl (XV_load tt_ok rfl (blk_at 0 rfl hM) rfl rfl rfl) rfl ?_ | refine XD_sy rfl rfl rfl rfl rfl (XV_el tt_ok rfl (rdS.le (by assumption) hFG) rfl (by omega) (by omega) rfl rfl rfl) rfl ?_) | (refine XD_gI rfl ?_; refine XD_sy rfl rfl rfl rfl rfl (XV_idx tt_ok rfl rfl rfl rfl rfl (rdS.le (by assumption) hFG) (by omega) (by omega)) rfl ?_) | (refine XD_u rfl rfl ?_; refine XD_s rfl rfl rfl (XV_op tt_ok rfl) rfl ?_) | (refine XD_g rfl rfl ?_; refine XD_sy rfl rfl rfl rfl rfl (XV_op tt_ok rfl) rfl ?_)); try (first | refine XD_int (wrap_i64 (by omega) (by omega)) ?_ | refine XD_dec (fun _ => ?_) (fun _ => ?_)))) | (refine X_id ?_; first | refine X_cutQ (c := .block 2 _) [1, 2, 5, 6] (fun (_ : Unit) => []) (fun _ => [blk bx (cfL d y) 28]) (fun _ => Good d p i) rfl (X_block (hold ?_)) (fun _ hg => ?_) | (refine X_drawS (id := 7) [0, 1, 2, 3, 4, 5, 6, 7, 8, 9, 10, 11, 12, 13, 14, 15, 16, 17, 18, 19, 20, 21, 22, 23, 24, 25, 26, 27, 28, 29] (fun _ => .s) 8 (by repeat' (first | exact Split.nil | apply Split.blk)) mixed (by decide +kernel) ?_; intro G hFG hM thaw; show XD _ _ _ _ _ _ [0, 1, 2, 3, 4, 5, 6, 7, 8, 9, 10, 11, 12, 13, 14, 15, 16, 17, 18, 19, 20, 21, 22, 23, 24, 25, 26, 27, 28, 29] _ _ _) | refine X_seq ?_ | (refine X_regionN (by repeat' (first | exact .nil | apply NL.cons)) ?_) | refine X_skip ?_ | refine X_ret ?_ | refine X_block ?_ | refine X_cond_t rfl ?_ | refine X_cond_f rfl ?_) | (refine Y_id ?_; first | refine Y_then ?_ | refine Y_then_ret ?_ | refine Y_block_normal ?_ | refine Y_block_ret ?_))
      all_goals first
        | (exfalso; omega)
        | exact Y_fn1 rfl rfl (bool_t (fun h => by have g := (h.2 i (by omega)).1; rw [hv3] at g; omega))
        | exact Y_fn1 rfl rfl (bool_t (fun h => by have g := (h.2 i (by omega)).2.1; rw [hv3] at g; omega))
        | exact Y_fn1 rfl rfl (bool_t (fun h => by have g := (h.2 i (by omega)).2.2.1 (by omega); rw [hi1 (by omega), hv3, hv3] at g; omega))
        | exact Y_again (i + 1) fun _ _ hf hs => ⟨⟨hlt, fun j hj => by by_cases hj2 : j < i; exact hgd j hj2; obtain rfl : j = i := (by omega); exact hg⟩, by show (Cof.get y.ps (p : Int)).m - (i + 1) < (Cof.get y.ps (p : Int)).m - i; omega, hf.sub (by (repeat' (first | exact trivial | refine And.intro rfl ?_)); done), hs⟩
        | skip
      all_goals (
        intro _
        refine X_loopD [1, 2, 5, 6] (fun (k : Nat) => [(7, .int .i64 k)]) (fun _ => [blk bx (cfL d y) 28]) (fun k => k ≤ p ∧ ∀ j, j < k → v ∉ (Cof.get d.ps (j : Int)).xs) (fun k => p - k) 0 rfl ⟨Nat.zero_le _, fun j hj => by omega⟩ (by (repeat' (first | exact trivial | refine And.intro rfl ?_)); done) (fun h hs => hs) ?_
        intro k hk
        obtain ⟨hk, hnot⟩ := hk
        by_cases hkp : k < p
        · have hkm : k < y.pm := by omega
          have rk := hpre.xs _ (get_memN hpre hkm)
          have hkd := get_dat hpre hkm
          have hkf := hf.x _ (get_memN hpre hkm)
          have hct := has_spec (Cof.get y.ps (k : Int)).A (Cof.get y.ps (k : Int)).m (Cof.get y.ps (k : Int)).c (Cof.get y.ps (k : Int)).d.xs (Cof.get (Cof.get y.ps (p : Int)).d.xs (i : Int)) (by omega)
          rw [hkd] at hct
          have rk2 : rdS encN F.heap (Cof.get y.ps (k : Int)).A (Cof.get y.ps (k : Int)).m (Cof.get d.ps (k : Int)).xs := by rw [← hkd]; exact rk
          clear rk
          by_cases hin : Cof.get (Cof.get y.ps (p : Int)).d.xs (i : Int) ∈ (Cof.get d.ps (k : Int)).xs
          · rw [decide_eq_true hin] at hct
            repeat' (first | (refine XL_id ?_; first | refine XL_nil ?_ | (refine XG_call ?_; refine XL_fn hct rfl rfl (fun g hg hL => (rk2.le hFG).le hg) ?_) | (refine XL_op tt_ok rfl rfl ?_; try (refine XL_dec_t (by omega) ?_))) | (refine XD_id ?_; first | (refine XD_thaw thaw ?_; refine XD_nil ?_) | (refine XD_id ?_; (first | (refine XD_uL rfl ?_; first | refine XD_s rfl rfl rfl (XV_load tt_ok rfl (blk_at 0 rfl hM) rfl rfl rfl) rfl ?_ | refine XD_s rfl rfl rfl (XV_el tt_ok rfl (rdS.le (by assumption) hFG) rfl (by omega) (by omega) rfl rfl rfl) rfl ?_) | (refine XD_uI rfl ?_; refine XD_s rfl rfl rfl (XV_idx tt_ok rfl rfl rfl rfl rfl (rdS.le (by assumption) hFG) (by omega) (by omega)) rfl ?_) | (refine XD_u rfl rfl ?_; refine XD_s rfl rfl rfl (XV_op tt_ok rfl) rfl ?_))) | refine XD_m rfl rfl ?_) | (refine X_id ?_; first | (refine X_drawS (id := 12) [0, 1, 2, 3, 4, 5, 6, 7, 8, 9, 10] (fun | 10 => .m | _ => .s) 8 (by repeat' (first | exact Split.nil | apply Split.blk)) mixed (by decide +kernel) ?_; intro G hFG hM thaw; show XD _ _ _ _ _ _ [0, 1, 2, 3, 4, 5, 6, 7, 8, 9, 10] _ _ _) | refine X_seq ?_ | (refine X_regionN (by repeat' (first | exact .nil | apply NL.cons)) ?_) | refine X_skip ?_ | refine X_ret ?_ | refine X_block ?_ | refine X_cond_t rfl ?_) | (refine Y_id ?_; first | refine Y_then ?_ | refine Y_then_ret ?_ | refine Y_block_ret ?_ | refine Y_m ?_))
            all_goals first
              | exact Y_fn1 rfl rfl (bool_t (fun h => (h.2 i (by omega)).2.2.2 k hkp (by rw [hv2, ← hv]; exact hin)))
              | skip
            
          · rw [decide_eq_false hin] at hct
            repeat' (first | (refine XL_id ?_; first | refine XL_nil ?_ | (refine XG_call ?_; refine XL_fn hct rfl rfl (fun g hg hL => (rk2.le hFG).le hg) ?_) | (refine XL_op tt_ok rfl rfl ?_; try (first | refine XL_int (wrap_i64 (by omega) (by omega)) ?_ | refine XL_dec_t (by omega) ?_))) | (refine XD_id ?_; first | (refine XD_thaw thaw ?_; refine XD_nil ?_) | (refine XD_id ?_; (first | (refine XD_uL rfl ?_; first | refine XD_s rfl rfl rfl (XV_load tt_ok rfl (blk_at 0 rfl hM) rfl rfl rfl) rfl ?_ | refine XD_s rfl rfl rfl (XV_el tt_ok rfl (rdS.le (by assumption) hFG) rfl (by omega) (by omega) rfl rfl rfl) rfl ?_) | (refine XD_uI rfl ?_; refine XD_s rfl rfl rfl (XV_idx tt_ok rfl rfl rfl rfl rfl (rdS.le (by assumption) hFG) (by omega) (by omega)) rfl ?_) | (refine XD_u rfl rfl ?_; refine XD_s rfl rfl rfl (XV_op tt_ok rfl) rfl ?_))) | refine XD_m rfl rfl ?_) | (refine X_id ?_; first | (refine X_drawS (id := 12) [0, 1, 2, 3, 4, 5, 6, 7, 8, 9, 10] (fun | 10 => .m | _ => .s) 8 (by repeat' (first | exact Split.nil | apply Split.blk)) mixed (by decide +kernel) ?_; intro G hFG hM thaw; show XD _ _ _ _ _ _ [0, 1, 2, 3, 4, 5, 6, 7, 8, 9, 10] _ _ _) | refine X_seq ?_ | (refine X_regionN (by repeat' (first | exact .nil | apply NL.cons)) ?_) | refine X_skip ?_ | refine X_block ?_ | refine X_cond_t rfl ?_ | refine X_cond_f rfl ?_) | (refine Y_id ?_; first | refine Y_then ?_ | refine Y_block_normal ?_ | refine Y_m ?_))
            all_goals first
              | exact Y_again (k + 1) fun _ _ hf hs => ⟨⟨hkp, fun j hj => by by_cases hj2 : j < k; exact hnot j hj2; obtain rfl : j = k := (by omega); rw [← hv]; exact hin⟩, by show p - (k + 1) < p - k; omega, hf.sub (by (repeat' (first | exact trivial | refine And.intro rfl ?_)); done), hs⟩
              | skip
            
        · repeat' (first | (refine XL_id ?_; first | refine XL_nil ?_ | (refine XL_op tt_ok rfl rfl ?_; try (refine XL_dec_f (by omega) ?_))) | (refine X_id ?_; first | refine X_seq ?_ | (refine X_regionN (by repeat' (first | exact .nil | apply NL.cons)) ?_) | refine X_exit ?_ | refine X_cond_f rfl ?_) | (refine Y_id ?_; first | refine Y_then ?_ | refine Y_then_exit ?_ | refine Y_block_hit ?_))
          all_goals first
            | exact Y_again () fun _ _ hf hs => ⟨Good.mk hv2 (by rw [← hv]; assumption) (by rw [← hv]; assumption) (fun h0 => by rw [hi1 h0, hv3, ← hv]; omega) (fun j hj => hnot j (by omega)), hf.sub (by (repeat' (first | exact trivial | refine And.intro rfl ?_)); done), hs⟩
            | (exfalso; omega)
            | skip
          )
      
    · repeat' (first | (refine XL_id ?_; first | refine XL_nil ?_ | (refine XL_op tt_ok rfl rfl ?_; try (refine XL_dec_f (by omega) ?_))) | (refine X_id ?_; first | refine X_seq ?_ | (refine X_regionN (by repeat' (first | exact .nil | apply NL.cons)) ?_) | refine X_exit ?_ | refine X_cond_f rfl ?_) | (refine Y_id ?_; first | refine Y_then ?_ | refine Y_then_exit ?_ | refine Y_block_hit ?_))
      all_goals first
        | exact Y_again () fun _ _ hf hs => ⟨fun j hj => hgd j (by omega), hf.sub (by (repeat' (exact trivial)); done), hs⟩
        | (exfalso; omega)
        | skip
      
  all_goals first
    | exact Y_fn1 rfl rfl (bool_f (fun h => h ⟨by omega, fun j hj2 => hj j (by omega)⟩))
    | skip
  
end Go.Proofs.YtalkcemelegohaaGreat.Pl
set_option linter.unusedVariables false
set_option maxRecDepth 100000
namespace Go.Proofs.YtalkcemelegohaaGreat.Pl
open Go.RowKit Go.Cof Gx

set_option maxHeartbeats 16000000 in
theorem rquotas_spec (d : Cd) (y : Ly) (hd : d.In) (hf : y.Fit) (hl : d.ps.length = y.pm) (p : Nat) (hp : p < y.pm) (hp8 : p < 8) (hc : ColP d p) : FnC Tryz.prog 72 [cfV d y, iV p] (fun h => CfR h d y) (.bool (decide (¬ QuoP d p))) := by
  have hmc := rmachine_spec d y hd hl
  have hsr := slF_rng d (p + 1)
  refine Ctr.intro Tryz.func72 rfl rfl (by decide +kernel) fun F hpre => ?_
  have hpre : CfR F.heap d y := hpre
  have r1 := hpre.ps
  have hdat := get_dat hpre hp
  have hcap := hf.cap
  have hml : (Cof.get y.ps (p : Int)).m = (Cof.get d.ps (p : Int)).xs.length := by rw [(hpre.xs _ (get_memN hpre hp)).1, hdat]
  repeat' (first | (refine XL_id ?_; first | refine XL_nil ?_ | refine XL_guard_yes rfl rfl rfl ?_ | refine XL_guard_no rfl rfl rfl rfl rfl ?_ | (refine XG_box ?_; (refine XL_box rfl (fun _ => rfl) (fun bx => ?_); refine XL_nB (by repeat' (first | exact .nil | apply NL.cons)) ?_)) | (refine XG_load ?_; first | refine XL_load tt_ok 0 rfl rfl rfl rfl rfl rfl ?_ | refine XL_elW tt_ok rfl (by assumption) rfl (by omega) (by omega) rfl rfl rfl rfl ?_) | (refine XG_idx ?_; refine XL_idx tt_ok rfl rfl rfl rfl rfl (by assumption) (by omega) (by omega) rfl ?_) | (refine XG_call ?_; (refine XL_fn (qwithin_spec _ _ _) rfl rfl (fun _ _ _ => trivial) ?_; refine XL_dec (fun _ => ?_) (fun _ => ?_))) | (refine XG_alloc ?_; (refine XL_alloc tt_ok rfl rfl (fun _ => rfl) (fun b => ?_); refine XL_nB (by repeat' (first | exact .nil | apply NL.cons)) ?_)) | (refine XG_store ?_; (refine XL_storeW tt_ok 0 rfl rfl rfl rfl rfl rfl rfl ?_; refine XL_nK 0 rfl (by repeat' (first | exact .nil | apply NL.cons)) ?_)) | (refine XL_op tt_ok rfl rfl ?_)) | (refine X_id ?_; first | refine X_cutD (c := .block 0 _) [2, 5] (fun (_ : Unit) => [(6, iV (slF d (p + 1)))]) (fun _ => [blk b (ptL (Cof.get y.ps (p : Int))) 39, blk bx (cfL d y) 28]) (fun _ => True) rfl (X_block (hold ?_)) (fun _ _ => hold ?_) | refine X_seq ?_ | (refine X_regionN (by repeat' (first | exact .nil | apply NL.cons)) ?_) | refine X_skip ?_ | refine X_ret ?_ | refine X_cond_t rfl ?_ | refine X_cond_f rfl ?_) | (refine Y_id ?_; first | refine Y_then ?_ | refine Y_then_ret ?_))
  all_goals first
    | exact Y_fn1 rfl rfl (bool_t (fun h => by have a := QuoP.nine hdat h; omega))
    | skip
  · intro _
    refine X_loopD [1, 2, 5] (fun (k : Nat) => [(7, .int .i64 k), (6, iV (slF d k))]) (fun _ => [blk b (ptL (Cof.get y.ps (p : Int))) 39, blk bx (cfL d y) 28]) (fun k => k ≤ p + 1) (fun k => p + 1 - k) 0 rfl (Nat.zero_le _) (by (repeat' (first | exact trivial | refine And.intro rfl ?_)); done) (fun h hs => hs) ?_
    intro k hk
    have hk : k ≤ p + 1 := hk
    have hks := slF_rng d k
    by_cases hkp : k < p + 1
    · have hkm : k < y.pm := by omega
      have hkd := get_dat hpre hkm
      by_cases hin : 1 ≤ (Cof.get y.ps (k : Int)).d.k ∧ (Cof.get y.ps (k : Int)).d.k ≤ 1024
      · obtain ⟨S1, hS1⟩ : ∃ S1, slF d (k + 1) = S1 := ⟨_, rfl⟩
        have hst : slF d k + (Cof.get y.ps (k : Int)).d.k = S1 := by rw [hkd] at hin ⊢; rw [← hS1]; exact slF_t hin
        repeat' (first | (refine XL_id ?_; first | refine XL_nil ?_ | (refine XG_load ?_; first | refine XL_load tt_ok 1 rfl rfl rfl rfl rfl rfl ?_ | refine XL_elf tt_ok rfl (by assumption) rfl (by omega) (by omega) rfl rfl rfl rfl ?_) | (refine XG_idx ?_; refine XL_idx tt_ok rfl rfl rfl rfl rfl (by assumption) (by omega) (by omega) rfl ?_) | (refine XG_call ?_; (refine XL_fn (qwithin_spec _ _ _) rfl rfl (fun _ _ _ => trivial) ?_; refine XL_dec_t (by omega) ?_)) | (refine XL_op tt_ok rfl rfl ?_; refine XL_int (Eq.trans (wrap_i64 (by omega) (by omega)) hst) ?_) | (refine XL_op tt_ok rfl rfl ?_; try (first | refine XL_int (wrap_i64 (by omega) (by omega)) ?_ | refine XL_dec_t (by omega) ?_))) | (refine X_id ?_; first | refine X_seq ?_ | (refine X_regionN (by repeat' (first | exact .nil | apply NL.cons)) ?_) | refine X_skip ?_ | refine X_block ?_ | refine X_cond_t rfl ?_) | (refine Y_id ?_; first | refine Y_then ?_ | refine Y_block_normal ?_))
        all_goals first
          | (subst hS1; exact Y_again (k + 1) fun _ _ hf hs => ⟨hkp, by show p + 1 - (k + 1) < p + 1 - k; omega, hf.sub (by (repeat' (first | exact trivial | refine And.intro rfl ?_)); done), hs⟩)
          | (exfalso; omega)
          | skip
        
      · have hst : slF d k = slF d (k + 1) := by rw [hkd] at hin; exact slF_f hin
        repeat' (first | (refine XL_id ?_; first | refine XL_nil ?_ | (refine XG_load ?_; first | refine XL_load tt_ok 1 rfl rfl rfl rfl rfl rfl ?_ | refine XL_elf tt_ok rfl (by assumption) rfl (by omega) (by omega) rfl rfl rfl rfl ?_) | (refine XG_idx ?_; refine XL_idx tt_ok rfl rfl rfl rfl rfl (by assumption) (by omega) (by omega) rfl ?_) | (refine XG_call ?_; (refine XL_fn (qwithin_spec _ _ _) rfl rfl (fun _ _ _ => trivial) ?_; refine XL_dec_f (by omega) ?_)) | (refine XL_op tt_ok rfl rfl ?_; try (first | refine XL_int (wrap_i64 (by omega) (by omega)) ?_ | refine XL_dec_t (by omega) ?_))) | (refine X_id ?_; first | refine X_seq ?_ | (refine X_regionN (by repeat' (first | exact .nil | apply NL.cons)) ?_) | refine X_skip ?_ | refine X_block ?_ | refine X_cond_t rfl ?_ | refine X_cond_f rfl ?_) | (refine Y_id ?_; first | refine Y_then ?_ | refine Y_block_normal ?_))
        all_goals first
          | (rw [hst]; exact Y_again (k + 1) fun _ _ hf hs => ⟨hkp, by show p + 1 - (k + 1) < p + 1 - k; omega, hf.sub (by (repeat' (first | exact trivial | refine And.intro rfl ?_)); done), hs⟩)
          | (exfalso; omega)
          | skip
        
    · obtain rfl : k = p + 1 := by omega
      repeat' (first | (refine XL_id ?_; first | refine XL_nil ?_ | (refine XL_op tt_ok rfl rfl ?_; try (refine XL_dec_f (by omega) ?_))) | (refine X_id ?_; first | refine X_seq ?_ | (refine X_regionN (by repeat' (first | exact .nil | apply NL.cons)) ?_) | refine X_exit ?_ | refine X_cond_f rfl ?_) | (refine Y_id ?_; first | refine Y_then ?_ | refine Y_then_exit ?_ | refine Y_block_hit ?_))
      all_goals first
        | exact Y_again () fun _ _ hf hs => ⟨trivial, hf.sub (by (repeat' (first | exact trivial | refine And.intro rfl ?_)); done), hs⟩
        | (exfalso; omega)
        | skip
      
  · intro _
    refine Y_then ?_
    by_cases hm : MachP d
    · have hr1 : 0 ≤ d.fr.tdiv d.co ∧ d.fr.tdiv d.co ≤ 4096 := eaF_rng hm
      have hr2 : 0 ≤ ((Cof.get y.ps (p : Int)).m : Int) * d.fr.tdiv d.co ∧ ((Cof.get y.ps (p : Int)).m : Int) * d.fr.tdiv d.co ≤ 65536 := by rw [hml]; exact toF_rng hm hc
      have hco := hm.co
      have hne : d.co ≠ 0 := by omega
      have him := imF_rng (Cof.get y.ps (p : Int)).d.o
      have hbig : QuoP d p → imF (Cof.get y.ps (p : Int)).d.o ≤ d.fr.tdiv d.co ∧ imF (Cof.get y.ps (p : Int)).d.o + (Cof.get y.ps (p : Int)).d.u + (Cof.get y.ps (p : Int)).d.t + (Cof.get y.ps (p : Int)).d.s + (Cof.get y.ps (p : Int)).d.r + (Cof.get y.ps (p : Int)).d.d ≤ ((Cof.get y.ps (p : Int)).m : Int) * d.fr.tdiv d.co := fun h => by rw [hml]; exact QuoP.big hdat hm h
      have hof : Nine (Cof.get y.ps (p : Int)).d → slF d (p + 1) ≤ 1024 → (imF (Cof.get y.ps (p : Int)).d.o ≤ d.fr.tdiv d.co ∧ imF (Cof.get y.ps (p : Int)).d.o + (Cof.get y.ps (p : Int)).d.u + (Cof.get y.ps (p : Int)).d.t + (Cof.get y.ps (p : Int)).d.s + (Cof.get y.ps (p : Int)).d.r + (Cof.get y.ps (p : Int)).d.d ≤ ((Cof.get y.ps (p : Int)).m : Int) * d.fr.tdiv d.co) → QuoP d p := fun a b c => QuoP.of hdat a b (fun _ => by rw [hml] at c; exact c)
      have hsh := @shl_im (Cof.get y.ps (p : Int)).d.o (by omega)
      obtain ⟨I, hI⟩ : ∃ I, imF (Cof.get y.ps (p : Int)).d.o = I := ⟨_, rfl⟩
      rw [hI] at him hsh hbig hof
      have hmc2 : FnC Tryz.prog 46 [cfV d y] (fun _ => True) (.bool false) := by rwa [decide_eq_false (fun h => h hm)] at hmc
      repeat' (first | (refine XL_id ?_; first | refine XL_nil ?_ | (refine XG_load ?_; refine XL_load tt_ok 0 rfl rfl rfl rfl rfl rfl ?_) | (refine XG_call ?_; refine XL_fn hmc2 rfl rfl (fun _ _ _ => trivial) ?_) | (refine XL_op tt_ok (opV_shl rfl rfl (by omega)) rfl ?_; refine XL_int hsh ?_) | (refine XL_op tt_ok rfl rfl ?_; try (refine XL_dec (fun _ => ?_) (fun _ => ?_)))) | (refine XD_id ?_; first | (refine XD_thaw thaw ?_; refine XD_nil ?_) | refine XD_no rfl rfl rfl rfl rfl rfl ?_ | (refine XD_id ?_; (first | (refine XD_uL rfl ?_; refine XD_s rfl rfl rfl (XV_loadW tt_ok rfl (blk_at 1 rfl hM) rfl rfl rfl) rfl ?_) | (refine XD_gL rfl ?_; first | refine XD_sy rfl rfl rfl rfl rfl (XV_load tt_ok rfl (blk_at 0 rfl hM) rfl rfl rfl) rfl ?_ | refine XD_sy rfl rfl rfl rfl rfl (XV_load tt_ok rfl (blk_at 1 rfl hM) rfl rfl rfl) rfl ?_) | (refine XD_u rfl rfl ?_; refine XD_s rfl rfl rfl (XV_op tt_ok rfl) rfl ?_) | (refine XD_g rfl rfl ?_; first | refine XD_sy rfl rfl rfl rfl rfl (XV_op tt_ok rfl) rfl ?_ | refine XD_sy rfl rfl rfl rfl rfl (XV_op tt_ok (opV_quo rfl rfl hne)) rfl ?_)); try (first | refine XD_int (wrap_i64 (by omega) (by omega)) ?_ | refine XD_dec (fun _ => ?_) (fun _ => ?_))) | refine XD_m rfl rfl ?_) | (refine X_id ?_; first | (refine X_drawS (id := 13) [0, 1, 2, 3, 4, 5, 6, 7, 8, 9, 10, 11, 12, 13, 14, 15, 16, 17, 18, 19, 20, 21, 22, 23, 24, 25, 26, 27, 28, 29, 30, 31, 32, 33, 34, 35, 36, 37, 38, 39, 40] (fun | 1 => .m | _ => .s) 8 (by repeat' (first | exact Split.nil | apply Split.blk)) mixed (by decide +kernel) ?_; intro G hFG hM thaw; show XD _ _ _ _ _ _ [0, 1, 2, 3, 4, 5, 6, 7, 8, 9, 10, 11, 12, 13, 14, 15, 16, 17, 18, 19, 20, 21, 22, 23, 24, 25, 26, 27, 28, 29, 30, 31, 32, 33, 34, 35, 36, 37, 38, 39, 40] _ _ _) | refine X_seq ?_ | (refine X_regionN (by repeat' (first | exact .nil | apply NL.cons)) ?_) | refine X_skip ?_ | refine X_ret ?_ | refine X_cond_t rfl ?_ | refine X_cond_f rfl ?_) | (refine Y_id ?_; first | refine Y_then ?_ | refine Y_then_ret ?_ | refine Y_m ?_))
      all_goals first
        | exact Y_fn1 rfl rfl (bool_f (fun hh => hh (hof ((Nine.iff _).2 (by omega)) (by omega) (by omega))))
        | exact Y_fn1 rfl rfl (bool_t (fun h => by have a := hbig h; omega))
        | exact Y_fn1 rfl rfl (bool_t (fun h => by have a := h.2.1; omega))
        | skip
      
    · have hmc2 : FnC Tryz.prog 46 [cfV d y] (fun _ => True) (.bool true) := by rwa [decide_eq_true hm] at hmc
      have hsh := @shl_im (Cof.get y.ps (p : Int)).d.o (by omega)
      repeat' (first | (refine XL_id ?_; first | refine XL_nil ?_ | (refine XG_load ?_; refine XL_load tt_ok 0 rfl rfl rfl rfl rfl rfl ?_) | (refine XG_call ?_; refine XL_fn hmc2 rfl rfl (fun _ _ _ => trivial) ?_) | (refine XL_op tt_ok (opV_shl rfl rfl (by omega)) rfl ?_; refine XL_int hsh ?_) | (refine XL_op tt_ok rfl rfl ?_; try (refine XL_dec (fun _ => ?_) (fun _ => ?_)))) | (refine XD_id ?_; first | (refine XD_thaw thaw ?_; refine XD_nil ?_) | refine XD_no rfl rfl rfl rfl rfl rfl ?_ | refine XD_nou rfl rfl rfl rfl rfl ?_ | (refine XD_id ?_; (first | (refine XD_uL rfl ?_; refine XD_s rfl rfl rfl (XV_loadW tt_ok rfl (blk_at 1 rfl hM) rfl rfl rfl) rfl ?_) | (refine XD_u rfl rfl ?_; refine XD_s rfl rfl rfl (XV_op tt_ok rfl) rfl ?_))) | refine XD_m rfl rfl ?_) | (refine X_id ?_; first | (refine X_drawS (id := 13) [0, 1, 2, 3, 4, 5, 6, 7, 8, 9, 10, 11, 12, 13, 14, 15, 16, 17, 18, 19, 20, 21, 22, 23, 24, 25, 26, 27, 28, 29, 30, 31, 32, 33, 34, 35, 36, 37, 38, 39, 40] (fun | 1 => .m | _ => .s) 8 (by repeat' (first | exact Split.nil | apply Split.blk)) mixed (by decide +kernel) ?_; intro G hFG hM thaw; show XD _ _ _ _ _ _ [0, 1, 2, 3, 4, 5, 6, 7, 8, 9, 10, 11, 12, 13, 14, 15, 16, 17, 18, 19, 20, 21, 22, 23, 24, 25, 26, 27, 28, 29, 30, 31, 32, 33, 34, 35, 36, 37, 38, 39, 40] _ _ _) | refine X_seq ?_ | (refine X_regionN (by repeat' (first | exact .nil | apply NL.cons)) ?_) | refine X_skip ?_ | refine X_ret ?_ | refine X_cond_t rfl ?_ | refine X_cond_f rfl ?_) | (refine Y_id ?_; first | refine Y_then ?_ | refine Y_then_ret ?_ | refine Y_m ?_))
      all_goals first
        | exact Y_fn1 rfl rfl (bool_f (fun hh => hh (QuoP.of hdat ((Nine.iff _).2 (by omega)) (by omega) (fun h => absurd h hm))))
        | exact Y_fn1 rfl rfl (bool_t (fun h => by have a := h.2.1; omega))
        | skip
      
theorem rpart_spec (d : Cd) (y : Ly) (hd : d.In) (hf : y.Fit) (hl : d.ps.length = y.pm) (p : Nat) (hp : p < y.pm) (hp8 : p < 8) : FnC Tryz.prog 50 [cfV d y, iV p] (fun h => CfR h d y) (iV (partE d p)) := by
  have h1 := rcolours_spec d y hf p hp
  have h2 := fun hc => rquotas_spec d y hd hf hl p hp hp8 hc
  unfold partE
  by_cases hc : ColP d p
  · rw [if_pos hc]
    rw [decide_eq_false (fun h => h hc)] at h1
    have h2 := h2 hc
    by_cases hq : QuoP d p
    · rw [if_pos hq]
      rw [decide_eq_false (fun h => h hq)] at h2
      refine Ctr.intro Tryz.func50 rfl rfl (by decide +kernel) fun F hpre => ?_
      repeat' (first | (refine XL_id ?_; first | refine XL_nil ?_ | (refine XG_load ?_; refine XL_loadW tt_ok 0 rfl rfl rfl rfl rfl rfl ?_) | (refine XG_box ?_; (refine XL_box rfl (fun _ => rfl) (fun _ => ?_); refine XL_nB (by repeat' (first | exact .nil | apply NL.cons)) ?_)) | (refine XG_call ?_; first | refine XL_fn h1 rfl rfl (fun g hg hL => CfR.le hpre hg) ?_ | refine XL_fn h2 rfl rfl (fun g hg hL => CfR.le hpre hg) ?_) | (refine XL_op tt_ok rfl rfl ?_)) | (refine X_id ?_; first | refine X_seq ?_ | (refine X_regionN (by repeat' (first | exact .nil | apply NL.cons)) ?_) | refine X_skip ?_ | refine X_ret ?_ | refine X_cond_f rfl ?_) | (refine Y_id ?_; refine Y_then ?_))
      all_goals exact Y_fn1 rfl rfl rfl
    · rw [if_neg hq]
      rw [decide_eq_true hq] at h2
      refine Ctr.intro Tryz.func50 rfl rfl (by decide +kernel) fun F hpre => ?_
      repeat' (first | (refine XL_id ?_; first | refine XL_nil ?_ | (refine XG_load ?_; refine XL_loadW tt_ok 0 rfl rfl rfl rfl rfl rfl ?_) | (refine XG_box ?_; (refine XL_box rfl (fun _ => rfl) (fun _ => ?_); refine XL_nB (by repeat' (first | exact .nil | apply NL.cons)) ?_)) | (refine XG_call ?_; first | refine XL_fn h1 rfl rfl (fun g hg hL => CfR.le hpre hg) ?_ | refine XL_fn h2 rfl rfl (fun g hg hL => CfR.le hpre hg) ?_) | (refine XL_op tt_ok rfl rfl ?_)) | (refine X_id ?_; first | refine X_seq ?_ | (refine X_regionN (by repeat' (first | exact .nil | apply NL.cons)) ?_) | refine X_skip ?_ | refine X_ret ?_ | refine X_cond_t rfl ?_ | refine X_cond_f rfl ?_) | (refine Y_id ?_; first | refine Y_then ?_ | refine Y_then_ret ?_))
      all_goals exact Y_fn1 rfl rfl rfl
  · rw [if_neg hc]
    rw [decide_eq_true hc] at h1
    refine Ctr.intro Tryz.func50 rfl rfl (by decide +kernel) fun F hpre => ?_
    repeat' (first | (refine XL_id ?_; first | refine XL_nil ?_ | (refine XG_load ?_; refine XL_loadW tt_ok 0 rfl rfl rfl rfl rfl rfl ?_) | (refine XG_box ?_; (refine XL_box rfl (fun _ => rfl) (fun _ => ?_); refine XL_nB (by repeat' (first | exact .nil | apply NL.cons)) ?_)) | (refine XG_call ?_; refine XL_fn h1 rfl rfl (fun g hg hL => CfR.le hpre hg) ?_) | (refine XL_op tt_ok rfl rfl ?_)) | (refine X_id ?_; first | refine X_seq ?_ | (refine X_regionN (by repeat' (first | exact .nil | apply NL.cons)) ?_) | refine X_ret ?_ | refine X_cond_t rfl ?_) | (refine Y_id ?_; first | refine Y_then ?_ | refine Y_then_ret ?_))
    all_goals exact Y_fn1 rfl rfl rfl
set_option maxHeartbeats 4000000 in
theorem rshape_spec (d : Cd) (y : Ly) (p : Nat) (hp : p < y.pm) (hn : Nine (Cof.get d.ps (p : Int))) : FnC Tryz.prog 17 [cfV d y, iV p] (fun h => CfR h d y) (shV (shF (Cof.get d.ps (p : Int)))) := by
  refine Ctr.intro Tryz.func17 rfl rfl (by decide +kernel) fun F hpre => ?_
  have hpre : CfR F.heap d y := hpre
  have r1 := hpre.ps
  have hdat := get_dat hpre hp
  rw [← hdat] at hn ⊢
  obtain ⟨h1, h2, h3, h4, h5, h6, h7⟩ := hn
  have hsh := @shl_im (Cof.get y.ps (p : Int)).d.o (by omega)
  repeat' (first | (refine XL_id ?_; first | refine XL_nil ?_ | (refine XG_load ?_; first | refine XL_load tt_ok 1 rfl rfl rfl rfl rfl rfl ?_ | refine XL_elW tt_ok rfl (by assumption) rfl (by omega) (by omega) rfl rfl rfl rfl ?_) | (refine XG_idx ?_; refine XL_idx tt_ok rfl rfl rfl rfl rfl (by assumption) (by omega) (by omega) rfl ?_) | (refine XG_box ?_; (refine XL_box rfl (fun _ => rfl) (fun _ => ?_); refine XL_nB (by repeat' (first | exact .nil | apply NL.cons)) ?_)) | (refine XG_alloc ?_; (refine XL_alloc tt_ok rfl rfl (fun _ => rfl) (fun b => ?_); refine XL_nB (by repeat' (first | exact .nil | apply NL.cons)) ?_)) | (refine XG_store ?_; first | (refine XL_storeW tt_ok 0 rfl rfl rfl rfl rfl rfl rfl ?_; refine XL_nK 0 rfl (by repeat' (first | exact .nil | apply NL.cons)) ?_) | (refine XL_storeW tt_ok 1 rfl rfl rfl rfl rfl rfl rfl ?_; refine XL_nK 1 rfl (by repeat' (first | exact .nil | apply NL.cons)) ?_)) | (refine XL_op tt_ok rfl rfl ?_)) | (refine XD_id ?_; first | refine XD_nil ?_ | (refine XD_id ?_; (first | (refine XD_uL rfl ?_; refine XD_s rfl rfl rfl (XV_load tt_ok rfl (blk_at 0 rfl hM) rfl rfl rfl) rfl ?_) | (refine XD_u rfl rfl ?_; first | refine XD_s rfl rfl rfl (XV_op tt_ok rfl) rfl ?_ | refine XD_s rfl rfl rfl (XV_build tt_ok rfl rfl rfl rfl rfl rfl) rfl ?_ | refine XD_s rfl rfl rfl (XV_op tt_ok (opV_shl rfl rfl (by omega))) rfl ?_)); try (refine XD_int (wrap_i64 (by omega) (by omega)) ?_)) | (refine XD_thaw thaw ?_; refine XD_l rfl rfl ?_)) | (refine X_id ?_; first | (refine X_drawS (id := 2) [0, 1, 2, 3, 4, 5, 6, 7, 8, 9, 10, 11, 12, 13, 14, 15, 16, 17, 18] (fun | 18 => .l | _ => .s) 8 (by repeat' (first | exact Split.nil | apply Split.blk)) mixed (by decide +kernel) ?_; intro G hFG hM thaw; show XD _ _ _ _ _ _ [0, 1, 2, 3, 4, 5, 6, 7, 8, 9, 10, 11, 12, 13, 14, 15, 16, 17, 18] _ _ _) | refine X_seq ?_ | (refine X_regionN (by repeat' (first | exact .nil | apply NL.cons)) ?_) | refine X_ret ?_) | (refine Y_id ?_; first | refine Y_then ?_ | refine Y_l ?_))
  all_goals first
    | exact Y_res1 rfl (.cell tt_ok 1 rfl rfl rfl rfl rfl) (L' := []) (fun _ _ => trivial) ⟨congrArg (fun z => Value.agg #[iV z, iV (Cof.get y.ps (p : Int)).d.u, iV (liF (Cof.get y.ps (p : Int)).d), iV (Cof.get y.ps (p : Int)).d.t]) hsh, rfl⟩
    | skip
  
end Go.Proofs.YtalkcemelegohaaGreat.Pl
set_option linter.unusedVariables false
set_option maxRecDepth 100000
namespace Go.Proofs.YtalkcemelegohaaGreat.Pl
open Go.RowKit Go.Cof Gx

set_option maxHeartbeats 4000000 in
theorem rturns_spec (d : Cd) (y : Ly) (hf : y.Fit) (hl : d.ps.length = y.pm) : FnC Tryz.prog 49 [cfV d y] (fun h => CfR h d y) (.bool (decide (¬ TurP d))) := by
  have hcap := hf.cap
  have htf := hf.t
  refine Ctr.intro Tryz.func49 rfl rfl (by decide +kernel) fun F hpre => ?_
  have hpre : CfR F.heap d y := hpre
  have rt := hpre.tn
  have htl := rt.1
  repeat' (first | (refine XL_id ?_; first | refine XL_nil ?_ | refine XL_guard_yes rfl rfl rfl ?_ | refine XL_guard_no rfl rfl rfl rfl rfl ?_ | (refine XG_box ?_; (refine XL_box rfl (fun _ => rfl) (fun bx => ?_); refine XL_nB (by repeat' (first | exact .nil | apply NL.cons)) ?_)) | (refine XG_load ?_; refine XL_load tt_ok 0 rfl rfl rfl rfl rfl rfl ?_) | (refine XL_op tt_ok rfl rfl ?_; try (refine XL_dec (fun _ => ?_) (fun _ => ?_)))) | (refine X_id ?_; first | refine X_cutD (c := .block 0 _) [] (fun (_ : Unit) => []) (fun _ => [blk bx (cfL d y) 28]) (fun _ => ∀ v, v ∈ d.tn → 0 ≤ v ∧ v < (d.ps.length : Int)) rfl (X_block (hold ?_)) (fun _ hj => ?_) | refine X_seq ?_ | (refine X_regionN (by repeat' (first | exact .nil | apply NL.cons)) ?_) | refine X_skip ?_ | refine X_ret ?_ | refine X_cond_t rfl ?_ | refine X_cond_f rfl ?_) | (refine Y_id ?_; first | refine Y_then ?_ | refine Y_then_ret ?_))
  all_goals first
    | exact Y_fn1 rfl rfl (bool_t (fun h => by have a := h.1; omega))
    | exact Y_fn1 rfl rfl (bool_f (fun h => h ⟨by omega, hj⟩))
    | skip
  · intro _
    refine X_loopD [1] (fun (i : Nat) => [(3, .int .i64 i)]) (fun i => [blk bx (cfL d y) 28]) (fun i => i ≤ y.tm ∧ ∀ j : Nat, j < i → 0 ≤ Cof.get d.tn (j : Int) ∧ Cof.get d.tn (j : Int) < (d.ps.length : Int)) (fun i => y.tm - i) 0 rfl ⟨Nat.zero_le _, fun j hj => by omega⟩ (by (repeat' (first | exact trivial | refine And.intro rfl ?_)); done) (fun h hs => hs) ?_
    intro i hi
    obtain ⟨hi, hx⟩ := hi
    by_cases hlt : i < y.tm
    · have hmem : Cof.get d.tn (i : Int) ∈ d.tn := get_mem' (by omega) (by omega)
      repeat' (first | (refine XL_id ?_; first | refine XL_nil ?_ | (refine XG_load ?_; refine XL_load tt_ok 0 rfl rfl rfl rfl rfl rfl ?_) | (refine XL_op tt_ok rfl rfl ?_; try (first | refine XL_int (wrap_i64 (by omega) (by omega)) ?_ | refine XL_dec_t (by omega) ?_))) | (refine XD_id ?_; first | (refine XD_thaw thaw ?_; refine XD_nil ?_) | refine XD_no rfl rfl rfl rfl rfl rfl ?_ | (refine XD_id ?_; (first | (refine XD_uL rfl ?_; first | refine XD_s rfl rfl rfl (XV_load tt_ok rfl (blk_at 0 rfl hM) rfl rfl rfl) rfl ?_ | refine XD_s rfl rfl rfl (XV_el tt_ok rfl (rdS.le (by assumption) hFG) rfl (by omega) (by omega) rfl rfl rfl) rfl ?_) | (refine XD_uI rfl ?_; refine XD_s rfl rfl rfl (XV_idx tt_ok rfl rfl rfl rfl rfl (rdS.le (by assumption) hFG) (by omega) (by omega)) rfl ?_) | (refine XD_gL rfl ?_; first | refine XD_sy rfl rfl rfl rfl rfl (XV_load tt_ok rfl (blk_at 0 rfl hM) rfl rfl rfl) rfl ?_ | refine XD_sy rfl rfl rfl rfl rfl (XV_el tt_ok rfl (rdS.le (by assumption) hFG) rfl (by omega) (by omega) rfl rfl rfl) rfl ?_) | (refine XD_gI rfl ?_; refine XD_sy rfl rfl rfl rfl rfl (XV_idx tt_ok rfl rfl rfl rfl rfl (rdS.le (by assumption) hFG) (by omega) (by omega)) rfl ?_) | (refine XD_u rfl rfl ?_; refine XD_s rfl rfl rfl (XV_op tt_ok rfl) rfl ?_) | (refine XD_g rfl rfl ?_; refine XD_sy rfl rfl rfl rfl rfl (XV_op tt_ok rfl) rfl ?_)); try (refine XD_dec (fun _ => ?_) (fun _ => ?_)))) | (refine X_id ?_; first | (refine X_drawS (id := 6) [0, 1, 2, 3, 4, 5, 6, 7, 8, 9, 10, 11, 12, 13, 14, 15, 16] (fun _ => .s) 8 (by repeat' (first | exact Split.nil | apply Split.blk)) mixed (by decide +kernel) ?_; intro G hFG hM thaw; show XD _ _ _ _ _ _ [0, 1, 2, 3, 4, 5, 6, 7, 8, 9, 10, 11, 12, 13, 14, 15, 16] _ _ _) | refine X_seq ?_ | (refine X_regionN (by repeat' (first | exact .nil | apply NL.cons)) ?_) | refine X_skip ?_ | refine X_ret ?_ | refine X_block ?_ | refine X_cond_t rfl ?_ | refine X_cond_f rfl ?_) | (refine Y_id ?_; first | refine Y_then ?_ | refine Y_then_ret ?_ | refine Y_block_normal ?_ | refine Y_block_ret ?_))
      all_goals first
        | exact Y_fn1 rfl rfl (bool_t (fun h => by have a := h.2 _ hmem; omega))
        | exact Y_again (i + 1) fun _ _ hf hs => ⟨⟨hlt, fun j hj => by by_cases hj2 : j < i; exact hx j hj2; obtain rfl : j = i := (by omega); omega⟩, by show y.tm - (i + 1) < y.tm - i; omega, hf.sub (by (repeat' (first | exact trivial | refine And.intro rfl ?_)); done), hs⟩
        | (exfalso; omega)
        | skip
      
    · repeat' (first | (refine XL_id ?_; first | refine XL_nil ?_ | (refine XG_load ?_; refine XL_load tt_ok 0 rfl rfl rfl rfl rfl rfl ?_) | (refine XL_op tt_ok rfl rfl ?_; try (refine XL_dec_f (by omega) ?_))) | (refine X_id ?_; first | refine X_seq ?_ | (refine X_regionN (by repeat' (first | exact .nil | apply NL.cons)) ?_) | refine X_exit ?_ | refine X_cond_f rfl ?_) | (refine Y_id ?_; first | refine Y_then ?_ | refine Y_then_exit ?_ | refine Y_block_hit ?_))
      all_goals first
        | exact Y_again () fun _ _ hf hs => ⟨fun v hv => by
            obtain ⟨j, hj, rfl⟩ := List.getElem_of_mem hv
            have := hx j (by omega)
            rwa [get_nat, List.getD_eq_getElem?_getD, List.getElem?_eq_getElem hj] at this, hf.sub (by (repeat' (exact trivial)); done), hs⟩
        | (exfalso; omega)
        | skip
      
theorem rmost_spec (x : Cs) (s : Sh) (hc : CostP x) (hs : ShP s) : FnC Tryz.prog 70 [csV x, shV s] (fun _ => True) (.tuple #[uV (mostF x s), iV 0]) :=
  rmost_walk (nums hc hs) hs.us hs.li hs.no hc hs
set_option maxHeartbeats 16000000 in
theorem rslices_spec (d : Cd) (y : Ly) (hd : d.In) (hf : y.Fit) (hl : d.ps.length = y.pm) : FnC Tryz.prog 48 [cfV d y] (fun h => CfR h d y) (.bool (decide (¬ SliP d))) := by
  have hmc := rmachine_spec d y hd hl
  have hcc := rcheck_spec d.cs
  by_cases hb : MachP d ∧ CostP d.cs
  · obtain ⟨hm, hc⟩ := hb
    rw [decide_eq_false (fun h => h hm)] at hmc
    rw [costE_ok hc] at hcc
    have hlw := lw_rng hm
    have htl := hm.tl
    have hps := hm.ps
    have hsw := rswitch_spec d.cs (d.ls * d.lw) d.tl hc hlw (by omega)
    obtain ⟨W, hW⟩ : ∃ W, (d.ls * d.lw + d.tl) * d.cs.st = W := ⟨_, rfl⟩
    rw [hW] at hsw
    have hWd : swF d = W := hW
    refine Ctr.intro Tryz.func48 rfl rfl (by decide +kernel) fun F hpre => ?_
    have hpre : CfR F.heap d y := hpre
    repeat' (first | (refine XL_id ?_; first | refine XL_nil ?_ | refine XL_guard_yes rfl rfl rfl ?_ | refine XL_guard_no rfl rfl rfl rfl rfl ?_ | (refine XG_box ?_; (refine XL_box rfl (fun _ => rfl) (fun bx => ?_); refine XL_nB (by repeat' (first | exact .nil | apply NL.cons)) ?_)) | (refine XG_load ?_; first | refine XL_loadW tt_ok 0 rfl rfl rfl rfl rfl rfl ?_ | refine XL_load tt_ok 0 rfl rfl rfl rfl rfl rfl ?_) | (refine XG_call ?_; first | refine XL_fn hmc rfl rfl (fun _ _ _ => trivial) ?_ | refine XL_fn hcc rfl rfl (fun _ _ _ => trivial) ?_ | refine XL_fn hsw rfl rfl (fun _ _ _ => trivial) ?_) | (refine XL_op tt_ok rfl rfl ?_; try (first | refine XL_int (wrap_i64 (by omega) (by omega)) ?_ | refine XL_dec_f (by omega) ?_ | refine XL_dec (fun _ => ?_) (fun _ => ?_)))) | (refine X_id ?_; first | refine X_cutD (c := .block 0 _) [] (fun (_ : Unit) => []) (fun _ => [blk bx (cfL d y) 28]) (fun _ => ∀ p, p < d.ps.length → partE d p = 0 → mostF d.cs (shF (Cof.get d.ps (p : Int))) ≤ d.sl) rfl (X_block (hold ?_)) (fun _ hj => ?_) | refine X_seq ?_ | (refine X_regionN (by repeat' (first | exact .nil | apply NL.cons)) ?_) | refine X_skip ?_ | refine X_ret ?_ | refine X_cond_t rfl ?_ | refine X_cond_f rfl ?_) | (refine Y_id ?_; first | refine Y_then ?_ | refine Y_then_ret ?_))
    all_goals first
      | exact Y_fn1 rfl rfl (bool_t (fun h => by have a := h.1; omega))
      | exact Y_fn1 rfl rfl (bool_t (fun h => by have a := h.2.1; omega))
      | exact Y_fn1 rfl rfl (bool_t (fun h => by have a := h.2.2.1; omega))
      | exact Y_fn1 rfl rfl (bool_t (fun h => by have a := (h.2.2.2 hm hc).1; rw [hWd] at a; omega))
      | exact Y_fn1 rfl rfl (bool_f (fun hh => hh ⟨by omega, by omega, by omega, fun _ _ => ⟨by rw [hWd]; omega, hj⟩⟩))
      | skip
    · intro _
      refine X_loopD [1] (fun (i : Nat) => [(5, .int .i64 i)]) (fun i => [blk bx (cfL d y) 28]) (fun i => i ≤ y.pm ∧ ∀ p, p < i → partE d p = 0 → mostF d.cs (shF (Cof.get d.ps (p : Int))) ≤ d.sl) (fun i => y.pm - i) 0 rfl ⟨Nat.zero_le _, fun j hj => by omega⟩ (by (repeat' (first | exact trivial | refine And.intro rfl ?_)); done) (fun h hs => hs) ?_
      intro i hi
      obtain ⟨hi, hx⟩ := hi
      by_cases hlt : i < y.pm
      · have hpt := rpart_spec d y hd hf hl i hlt (by omega)
        by_cases hz : partE d i = 0
        · rw [hz] at hpt
          have hnn : Nine (Cof.get d.ps (i : Int)) := (partE_zero hz).2.1
          have hsh := rshape_spec d y i hlt hnn
          have hmo := rmost_spec d.cs (shF (Cof.get d.ps (i : Int))) hc (shF_ok hnn)
          obtain ⟨M, hMo⟩ : ∃ M, mostF d.cs (shF (Cof.get d.ps (i : Int))) = M := ⟨_, rfl⟩
          rw [hMo] at hmo
          repeat' (first | (refine XL_id ?_; first | refine XL_nil ?_ | (refine XG_load ?_; first | refine XL_loadW tt_ok 0 rfl rfl rfl rfl rfl rfl ?_ | refine XL_load tt_ok 0 rfl rfl rfl rfl rfl rfl ?_) | (refine XG_call ?_; first | (refine XL_op tt_ok rfl rfl ?_) | refine XL_fn hpt rfl rfl (fun g hg hL => CfR.le hpre hg) ?_ | refine XL_fn hsh rfl rfl (fun g hg hL => (CfR.le hpre hFG).le hg) ?_ | refine XL_fn hmo rfl rfl (fun _ _ _ => trivial) ?_) | (refine XL_op tt_ok rfl rfl ?_; try (first | refine XL_int (wrap_i64 (by omega) (by omega)) ?_ | refine XL_dec_t (by omega) ?_ | refine XL_dec (fun _ => ?_) (fun _ => ?_)))) | (refine XD_id ?_; first | (refine XD_thaw thaw ?_; refine XD_nil ?_) | (refine XD_id ?_; (first | (refine XD_uL rfl ?_; first | refine XD_s rfl rfl rfl (XV_loadW tt_ok rfl (blk_at 0 rfl hM) rfl rfl rfl) rfl ?_ | refine XD_s rfl rfl rfl (XV_load tt_ok rfl (blk_at 0 rfl hM) rfl rfl rfl) rfl ?_) | (refine XD_u rfl rfl ?_; refine XD_s rfl rfl rfl (XV_op tt_ok rfl) rfl ?_))) | refine XD_m rfl rfl ?_) | (refine X_id ?_; first | (refine X_drawS (id := 12) [0, 1, 2, 3, 4, 5, 6, 7, 8, 9, 10] (fun | 4 => .m | 5 => .m | _ => .s) 8 (by repeat' (first | exact Split.nil | apply Split.blk)) mixed (by decide +kernel) ?_; intro G hFG hM thaw; show XD _ _ _ _ _ _ [0, 1, 2, 3, 4, 5, 6, 7, 8, 9, 10] _ _ _) | refine X_seq ?_ | (refine X_regionN (by repeat' (first | exact .nil | apply NL.cons)) ?_) | refine X_skip ?_ | refine X_ret ?_ | refine X_block ?_ | refine X_cond_t rfl ?_ | refine X_cond_f rfl ?_) | (refine Y_id ?_; first | refine Y_then ?_ | refine Y_then_ret ?_ | refine Y_block_normal ?_ | refine Y_block_ret ?_ | refine Y_m ?_))
          all_goals first
            | exact Y_fn1 rfl rfl (bool_t (fun h => by have a := (h.2.2.2 hm hc).2 i (by omega) hz; rw [hMo] at a; omega))
            | exact Y_again (i + 1) fun _ _ hf hs => ⟨⟨hlt, fun p hp hz2 => by by_cases hp2 : p < i; exact hx p hp2 hz2; obtain rfl : p = i := (by omega); rw [hMo]; omega⟩, by show y.pm - (i + 1) < y.pm - i; omega, hf.sub (by (repeat' (first | exact trivial | refine And.intro rfl ?_)); done), hs⟩
            | skip
          
        · repeat' (first | (refine XL_id ?_; first | refine XL_nil ?_ | (refine XG_load ?_; first | refine XL_loadW tt_ok 0 rfl rfl rfl rfl rfl rfl ?_ | refine XL_load tt_ok 0 rfl rfl rfl rfl rfl rfl ?_) | (refine XG_call ?_; first | (refine XL_op tt_ok rfl rfl ?_) | refine XL_fn hpt rfl rfl (fun g hg hL => CfR.le hpre hg) ?_) | (refine XL_op tt_ok rfl rfl ?_; try (first | refine XL_int (wrap_i64 (by omega) (by omega)) ?_ | refine XL_dec_t (by omega) ?_ | refine XL_dec_f (by omega) ?_))) | (refine X_id ?_; first | refine X_seq ?_ | (refine X_regionN (by repeat' (first | exact .nil | apply NL.cons)) ?_) | refine X_skip ?_ | refine X_block ?_ | refine X_cond_t rfl ?_ | refine X_cond_f rfl ?_) | (refine Y_id ?_; first | refine Y_then ?_ | refine Y_block_normal ?_))
          all_goals first
            | exact Y_again (i + 1) fun _ _ hf hs => ⟨⟨hlt, fun p hp hz2 => by by_cases hp2 : p < i; exact hx p hp2 hz2; obtain rfl : p = i := (by omega); exact absurd hz2 hz⟩, by show y.pm - (i + 1) < y.pm - i; omega, hf.sub (by (repeat' (first | exact trivial | refine And.intro rfl ?_)); done), hs⟩
            | skip
          
      · repeat' (first | (refine XL_id ?_; first | refine XL_nil ?_ | (refine XG_load ?_; refine XL_load tt_ok 0 rfl rfl rfl rfl rfl rfl ?_) | (refine XL_op tt_ok rfl rfl ?_; try (refine XL_dec_f (by omega) ?_))) | (refine X_id ?_; first | refine X_seq ?_ | (refine X_regionN (by repeat' (first | exact .nil | apply NL.cons)) ?_) | refine X_exit ?_ | refine X_cond_f rfl ?_) | (refine Y_id ?_; first | refine Y_then ?_ | refine Y_then_exit ?_ | refine Y_block_hit ?_))
        all_goals first
          | exact Y_again () fun _ _ hf hs => ⟨fun p hp hz => hx p (by omega) hz, hf.sub (by (repeat' (exact trivial)); done), hs⟩
          | (exfalso; omega)
          | skip
        
  · by_cases hm : MachP d
    · rw [decide_eq_false (fun h => h hm)] at hmc
      rw [costE_no (fun h => hb ⟨hm, h⟩)] at hcc
      refine Ctr.intro Tryz.func48 rfl rfl (by decide +kernel) fun F hpre => ?_
      repeat' (first | (refine XL_id ?_; first | refine XL_nil ?_ | refine XL_guard_yes rfl rfl rfl ?_ | refine XL_guard_no rfl rfl rfl rfl rfl ?_ | (refine XG_load ?_; first | refine XL_loadW tt_ok 0 rfl rfl rfl rfl rfl rfl ?_ | refine XL_load tt_ok 0 rfl rfl rfl rfl rfl rfl ?_) | (refine XG_box ?_; (refine XL_box rfl (fun _ => rfl) (fun _ => ?_); refine XL_nB (by repeat' (first | exact .nil | apply NL.cons)) ?_)) | (refine XG_call ?_; first | refine XL_fn hmc rfl rfl (fun _ _ _ => trivial) ?_ | refine XL_fn hcc rfl rfl (fun _ _ _ => trivial) ?_) | (refine XL_op tt_ok rfl rfl ?_; try (first | refine XL_dec_t (by omega) ?_ | refine XL_dec (fun _ => ?_) (fun _ => ?_)))) | (refine X_id ?_; first | refine X_seq ?_ | (refine X_regionN (by repeat' (first | exact .nil | apply NL.cons)) ?_) | refine X_skip ?_ | refine X_ret ?_ | refine X_cond_t rfl ?_ | refine X_cond_f rfl ?_) | (refine Y_id ?_; first | refine Y_then ?_ | refine Y_then_ret ?_))
      all_goals first
        | exact Y_fn1 rfl rfl (bool_t (fun h => by have a := h.1; omega))
        | exact Y_fn1 rfl rfl (bool_t (fun h => by have a := h.2.1; omega))
        | exact Y_fn1 rfl rfl (bool_t (fun h => by have a := h.2.2.1; omega))
        | exact Y_fn1 rfl rfl (bool_f (fun hh => hh ⟨by omega, by omega, by omega, fun a b => absurd ⟨a, b⟩ hb⟩))
        | skip
      
    · rw [decide_eq_true hm] at hmc
      refine Ctr.intro Tryz.func48 rfl rfl (by decide +kernel) fun F hpre => ?_
      repeat' (first | (refine XL_id ?_; first | refine XL_nil ?_ | refine XL_guard_yes rfl rfl rfl ?_ | refine XL_guard_no rfl rfl rfl rfl rfl ?_ | (refine XG_load ?_; first | refine XL_loadW tt_ok 0 rfl rfl rfl rfl rfl rfl ?_ | refine XL_load tt_ok 0 rfl rfl rfl rfl rfl rfl ?_) | (refine XG_box ?_; (refine XL_box rfl (fun _ => rfl) (fun _ => ?_); refine XL_nB (by repeat' (first | exact .nil | apply NL.cons)) ?_)) | (refine XG_call ?_; refine XL_fn hmc rfl rfl (fun _ _ _ => trivial) ?_) | (refine XL_op tt_ok rfl rfl ?_; try (refine XL_dec (fun _ => ?_) (fun _ => ?_)))) | (refine X_id ?_; first | refine X_seq ?_ | (refine X_regionN (by repeat' (first | exact .nil | apply NL.cons)) ?_) | refine X_skip ?_ | refine X_ret ?_ | refine X_cond_t rfl ?_ | refine X_cond_f rfl ?_) | (refine Y_id ?_; first | refine Y_then ?_ | refine Y_then_ret ?_))
      all_goals first
        | exact Y_fn1 rfl rfl (bool_t (fun h => by have a := h.1; omega))
        | exact Y_fn1 rfl rfl (bool_t (fun h => by have a := h.2.1; omega))
        | exact Y_fn1 rfl rfl (bool_t (fun h => by have a := h.2.2.1; omega))
        | exact Y_fn1 rfl rfl (bool_f (fun hh => hh ⟨by omega, by omega, by omega, fun a b => absurd ⟨a, b⟩ hb⟩))
        | skip
      
end Go.Proofs.YtalkcemelegohaaGreat.Pl
set_option linter.unusedVariables false
set_option maxRecDepth 100000
namespace Go.Proofs.YtalkcemelegohaaGreat.Pl
open Go.RowKit Go.Cof Gx

theorem nt_not {P : Prop} [Decidable P] (e a : Int) (l : List Fl) : nt (decide P) e a l = if decide (¬ P) then l ++ [⟨e, a⟩] else l := by
  unfold nt
  by_cases h : P <;> simp [h]
set_option maxHeartbeats 8000000 in
theorem rcheckC_spec (d : Cd) (y : Ly) (hd : d.In) (hf : y.Fit) (hl : d.ps.length = y.pm) : Ctr Tryz.prog 41 [cfV d y] (fun h => CfR h d y) [] (fun v L => ∃ A c, v = .slice A (chkF d).length c ∧ L = [own encFl A (chkF d).length c (chkF d)]) := by
  have hmc := rmachine_spec d y hd hl
  have hcc := rcheck_spec d.cs
  have hsl := rslices_spec d y hd hf hl
  have htu := rturns_spec d y hf hl
  have hcap := hf.cap
  have hce : decide (¬ costE d.cs = 0) = decide (¬ CostP d.cs) := by
    by_cases h : CostP d.cs
    · rw [costE_ok h, decide_eq_false (p := ¬ CostP d.cs) (fun hh => hh h)]; rfl
    · rw [costE_no h, decide_eq_true (p := ¬ CostP d.cs) h]; rfl
  obtain ⟨b1, hb1⟩ : ∃ b, decide (¬ MachP d) = b := ⟨_, rfl⟩
  obtain ⟨b2, hb2⟩ : ∃ b, decide (¬ CostP d.cs) = b := ⟨_, rfl⟩
  obtain ⟨b3, hb3⟩ : ∃ b, decide (¬ SliP d) = b := ⟨_, rfl⟩
  obtain ⟨b4, hb4⟩ : ∃ b, decide (¬ TurP d) = b := ⟨_, rfl⟩
  obtain ⟨l1, hl1⟩ : ∃ l, (if b1 then [] ++ [(⟨114, 0⟩ : Fl)] else []) = l := ⟨_, rfl⟩
  obtain ⟨l2, hl2⟩ : ∃ l, (if b2 then l1 ++ [(⟨100, 1⟩ : Fl)] else l1) = l := ⟨_, rfl⟩
  obtain ⟨l3, hl3⟩ : ∃ l, (if b3 then l2 ++ [(⟨113, 2⟩ : Fl)] else l2) = l := ⟨_, rfl⟩
  obtain ⟨l4, hl4⟩ : ∃ l, (if b4 then l3 ++ [(⟨112, 3⟩ : Fl)] else l3) = l := ⟨_, rfl⟩
  have hp0 : partsF d 0 = l4 := by unfold partsF; rw [nt_not, nt_not, nt_not, nt_not, hb1, hb2, hb3, hb4, hl1, hl2, hl3, hl4]
  rw [hb1] at hmc
  rw [hb2] at hce
  rw [hb3] at hsl
  rw [hb4] at htu
  have hlen := partsF_len d 0
  rw [hp0] at hlen
  have hn1 : l1.length ≤ 1 := by rw [← hl1]; cases b1 <;> simp
  have hn2 : l2.length ≤ 2 := by rw [← hl2]; cases b2 <;> simp <;> omega
  have hn3 : l3.length ≤ 3 := by rw [← hl3]; cases b3 <;> simp <;> omega
  clear hb1 hb2 hb3 hb4
  obtain ⟨m8, hm8⟩ : ∃ m8 : Nat, m8 = min d.ps.length 8 := ⟨_, rfl⟩
  have hck : chkF d = partsF d m8 := by unfold chkF; rw [hm8]
  refine Ctr.intro Tryz.func41 rfl rfl (by decide +kernel) fun F hpre => ?_
  have hpre : CfR F.heap d y := hpre
  refine X_mem (fun _ hs => stars_new (own_nil encFl _) hs) ?_
  repeat' (first | (refine XL_id ?_; first | refine XL_nil ?_ | (refine XG_box ?_; (refine XL_box rfl (fun _ => rfl) (fun bx => ?_); refine XL_nB (by repeat' (first | exact .nil | apply NL.cons)) ?_)) | (refine XG_load ?_; refine XL_loadW tt_ok 0 rfl rfl rfl rfl rfl rfl ?_) | (refine XG_call ?_; refine XL_fn hmc rfl rfl (fun _ _ _ => trivial) ?_) | (refine XL_op tt_ok rfl rfl ?_)) | (refine X_id ?_; first | refine X_cutD (c := .cond (.tmp 7) _ _) [1] (fun (x : Option Addr × Nat) => [(3, .slice x.1 l1.length x.2)]) (fun x => [blk bx (cfL d y) 28, own encFl x.1 l1.length x.2 l1]) (fun _ => True) rfl (hold ?_) (fun x _ => hold ?_) | refine X_seq ?_ | (refine X_regionN (by repeat' (first | exact .nil | apply NL.cons)) ?_)) | (refine Y_id ?_; refine Y_then ?_))
  · intro _
    cases b1 with
    | true =>
      replace hl1 := (if_pos rfl).symm.trans hl1
      subst hl1
      repeat' (first | (refine XL_id ?_; first | refine XL_nil ?_ | (refine XG_build ?_; (refine XL_build tt_ok rfl rfl rfl rfl rfl rfl rfl ?_; refine XL_aggN (by repeat' (first | exact .nil | apply NL.cons)) ?_)) | (refine XG_call ?_; (refine XL_app1 (E := encFl) tt_ok 2 0 (⟨114, 0⟩) rfl rfl rfl rfl rfl rfl rfl rfl rfl rfl rfl (by show (_ : Nat) * 16 ≤ _; omega) (by omega) (fun _ _ => rfl) (fun A2 c2 => ?_))) | (refine XG_lit ?_; (refine XL_lit tt_ok rfl rfl rfl rfl rfl rfl rfl rfl rfl (fun _ => rfl) (fun b => ?_); refine XL_nB (by repeat' (first | exact .nil | apply NL.cons)) ?_)) | (refine XL_op tt_ok rfl rfl ?_)) | (refine X_id ?_; first | (refine X_regionN (by repeat' (first | exact .nil | apply NL.cons)) ?_) | refine X_cond_t rfl ?_))
      all_goals first
        | (exact Y_again (_, _) fun _ _ hf hs => ⟨trivial, hf.sub (by (repeat' (first | exact trivial | refine And.intro rfl ?_)); done), hs.imp fun h hs => stars_only [1, 1] rfl h hs⟩)
        | skip
      
    | false =>
      replace hl1 := (if_neg Bool.false_ne_true).symm.trans hl1
      subst hl1
      repeat' ((refine X_id ?_; first | refine X_skip ?_ | refine X_cond_f rfl ?_))
      all_goals first
        | exact Y_again (_, _) fun _ _ hf hs => ⟨trivial, hf.sub (by (repeat' (first | exact trivial | refine And.intro rfl ?_)); done), hs⟩
        | skip
      
  intro _
  refine Y_then ?_
  repeat' (first | (refine XL_id ?_; first | refine XL_nil ?_ | (refine XG_load ?_; refine XL_load tt_ok 0 rfl rfl rfl rfl rfl rfl ?_) | (refine XG_call ?_; refine XL_fn hcc rfl rfl (fun _ _ _ => trivial) ?_) | (refine XL_op tt_ok rfl rfl ?_; refine XL_boolE hce ?_) | (refine XL_op tt_ok rfl rfl ?_)) | (refine X_id ?_; first | refine X_cutD (c := .cond (.tmp 15) _ _) [1] (fun (x : Option Addr × Nat) => [(3, .slice x.1 l2.length x.2)]) (fun x => [blk bx (cfL d y) 28, own encFl x.1 l2.length x.2 l2]) (fun _ => True) rfl (hold ?_) (fun x _ => hold ?_) | refine X_seq ?_ | (refine X_regionN (by repeat' (first | exact .nil | apply NL.cons)) ?_)) | (refine Y_id ?_; refine Y_then ?_))
  · intro _
    cases b2 with
    | true =>
      replace hl2 := (if_pos rfl).symm.trans hl2
      have hq : l1.length + 1 = l2.length := by rw [← hl2]; simp
      repeat' (first | (refine XL_id ?_; first | refine XL_nil ?_ | (refine XG_build ?_; (refine XL_build tt_ok rfl rfl rfl rfl rfl rfl rfl ?_; refine XL_aggN (by repeat' (first | exact .nil | apply NL.cons)) ?_)) | (refine XG_call ?_; (refine XL_app1 (E := encFl) tt_ok 2 0 (⟨100, 1⟩) rfl rfl rfl rfl rfl rfl rfl rfl rfl rfl rfl (by show (_ : Nat) * 16 ≤ _; omega) (by omega) (fun _ _ => rfl) (fun A2 c2 => ?_))) | (refine XG_lit ?_; (refine XL_lit tt_ok rfl rfl rfl rfl rfl rfl rfl rfl rfl (fun _ => rfl) (fun b => ?_); refine XL_nB (by repeat' (first | exact .nil | apply NL.cons)) ?_)) | (refine XL_op tt_ok rfl rfl ?_)) | (refine X_id ?_; first | (refine X_regionN (by repeat' (first | exact .nil | apply NL.cons)) ?_) | refine X_cond_t rfl ?_))
      all_goals first
        | (rw [hl2, hq]; exact Y_again (_, _) fun _ _ hf hs => ⟨trivial, hf.sub (by (repeat' (first | exact trivial | refine And.intro rfl ?_)); done), hs.imp fun h hs => stars_only [1, 1] rfl h hs⟩)
        | skip
      
    | false =>
      replace hl2 := (if_neg Bool.false_ne_true).symm.trans hl2
      subst hl2
      repeat' ((refine X_id ?_; first | refine X_skip ?_ | refine X_cond_f rfl ?_))
      all_goals first
        | exact Y_again (_, _) fun _ _ hf hs => ⟨trivial, hf.sub (by (repeat' (first | exact trivial | refine And.intro rfl ?_)); done), hs⟩
        | skip
      
  intro _
  refine Y_then ?_
  repeat' (first | (refine XL_id ?_; first | refine XL_nil ?_ | (refine XG_load ?_; refine XL_loadW tt_ok 0 rfl rfl rfl rfl rfl rfl ?_) | (refine XG_call ?_; refine XL_fn hsl rfl rfl (fun g hg hL => CfR.le hpre hg) ?_)) | (refine X_id ?_; first | refine X_cutD (c := .cond (.tmp 21) _ _) [1] (fun (x : Option Addr × Nat) => [(3, .slice x.1 l3.length x.2)]) (fun x => [blk bx (cfL d y) 28, own encFl x.1 l3.length x.2 l3]) (fun _ => True) rfl (hold ?_) (fun x _ => hold ?_) | refine X_seq ?_ | (refine X_regionN (by repeat' (first | exact .nil | apply NL.cons)) ?_)) | (refine Y_id ?_; refine Y_then ?_))
  · intro _
    cases b3 with
    | true =>
      replace hl3 := (if_pos rfl).symm.trans hl3
      have hq : l2.length + 1 = l3.length := by rw [← hl3]; simp
      repeat' (first | (refine XL_id ?_; first | refine XL_nil ?_ | (refine XG_build ?_; (refine XL_build tt_ok rfl rfl rfl rfl rfl rfl rfl ?_; refine XL_aggN (by repeat' (first | exact .nil | apply NL.cons)) ?_)) | (refine XG_call ?_; (refine XL_app1 (E := encFl) tt_ok 2 0 (⟨113, 2⟩) rfl rfl rfl rfl rfl rfl rfl rfl rfl rfl rfl (by show (_ : Nat) * 16 ≤ _; omega) (by omega) (fun _ _ => rfl) (fun A2 c2 => ?_))) | (refine XG_lit ?_; (refine XL_lit tt_ok rfl rfl rfl rfl rfl rfl rfl rfl rfl (fun _ => rfl) (fun b => ?_); refine XL_nB (by repeat' (first | exact .nil | apply NL.cons)) ?_)) | (refine XL_op tt_ok rfl rfl ?_)) | (refine X_id ?_; first | (refine X_regionN (by repeat' (first | exact .nil | apply NL.cons)) ?_) | refine X_cond_t rfl ?_))
      all_goals first
        | (rw [hl3, hq]; exact Y_again (_, _) fun _ _ hf hs => ⟨trivial, hf.sub (by (repeat' (first | exact trivial | refine And.intro rfl ?_)); done), hs.imp fun h hs => stars_only [1, 1] rfl h hs⟩)
        | skip
      
    | false =>
      replace hl3 := (if_neg Bool.false_ne_true).symm.trans hl3
      subst hl3
      repeat' ((refine X_id ?_; first | refine X_skip ?_ | refine X_cond_f rfl ?_))
      all_goals first
        | exact Y_again (_, _) fun _ _ hf hs => ⟨trivial, hf.sub (by (repeat' (first | exact trivial | refine And.intro rfl ?_)); done), hs⟩
        | skip
      
  intro _
  refine Y_then ?_
  repeat' (first | (refine XL_id ?_; first | refine XL_nil ?_ | (refine XG_load ?_; refine XL_loadW tt_ok 0 rfl rfl rfl rfl rfl rfl ?_) | (refine XG_call ?_; refine XL_fn htu rfl rfl (fun g hg hL => CfR.le hpre hg) ?_)) | (refine X_id ?_; first | refine X_cutD (c := .cond (.tmp 27) _ _) [1] (fun (x : Option Addr × Nat) => [(3, .slice x.1 l4.length x.2)]) (fun x => [blk bx (cfL d y) 28, own encFl x.1 l4.length x.2 l4]) (fun _ => True) rfl (hold ?_) (fun x _ => hold ?_) | refine X_seq ?_ | (refine X_regionN (by repeat' (first | exact .nil | apply NL.cons)) ?_)) | (refine Y_id ?_; refine Y_then ?_))
  · intro _
    cases b4 with
    | true =>
      replace hl4 := (if_pos rfl).symm.trans hl4
      have hq : l3.length + 1 = l4.length := by rw [← hl4]; simp
      repeat' (first | (refine XL_id ?_; first | refine XL_nil ?_ | (refine XG_build ?_; (refine XL_build tt_ok rfl rfl rfl rfl rfl rfl rfl ?_; refine XL_aggN (by repeat' (first | exact .nil | apply NL.cons)) ?_)) | (refine XG_call ?_; (refine XL_app1 (E := encFl) tt_ok 2 0 (⟨112, 3⟩) rfl rfl rfl rfl rfl rfl rfl rfl rfl rfl rfl (by show (_ : Nat) * 16 ≤ _; omega) (by omega) (fun _ _ => rfl) (fun A2 c2 => ?_))) | (refine XG_lit ?_; (refine XL_lit tt_ok rfl rfl rfl rfl rfl rfl rfl rfl rfl (fun _ => rfl) (fun b => ?_); refine XL_nB (by repeat' (first | exact .nil | apply NL.cons)) ?_)) | (refine XL_op tt_ok rfl rfl ?_)) | (refine X_id ?_; first | (refine X_regionN (by repeat' (first | exact .nil | apply NL.cons)) ?_) | refine X_cond_t rfl ?_))
      all_goals first
        | (rw [hl4, hq]; exact Y_again (_, _) fun _ _ hf hs => ⟨trivial, hf.sub (by (repeat' (first | exact trivial | refine And.intro rfl ?_)); done), hs.imp fun h hs => stars_only [1, 1] rfl h hs⟩)
        | skip
      
    | false =>
      replace hl4 := (if_neg Bool.false_ne_true).symm.trans hl4
      subst hl4
      repeat' ((refine X_id ?_; first | refine X_skip ?_ | refine X_cond_f rfl ?_))
      all_goals first
        | exact Y_again (_, _) fun _ _ hf hs => ⟨trivial, hf.sub (by (repeat' (first | exact trivial | refine And.intro rfl ?_)); done), hs⟩
        | skip
      
  intro _
  refine Y_then ?_
  repeat' (first | (refine XL_id ?_; first | refine XL_nil ?_ | (refine XL_op tt_ok rfl rfl ?_)) | (refine X_id ?_; first | refine X_cutD (c := .block 0 _) [] (fun (x : Option Addr × Nat) => [(3, .slice x.1 (chkF d).length x.2)]) (fun x => [own encFl x.1 (chkF d).length x.2 (chkF d)]) (fun _ => True) rfl (X_block (hold ?_)) (fun x _ => hold ?_) | refine X_seq ?_ | (refine X_regionN (by repeat' (first | exact .nil | apply NL.cons)) ?_)) | (refine Y_id ?_; refine Y_then ?_))
  · intro _
    refine X_loopD2 [1] (fun (i : Nat) (x : Option Addr × Nat) => [(4, .int .i64 i), (3, .slice x.1 (partsF d i).length x.2)]) (fun i x => [blk bx (cfL d y) 28, own encFl x.1 (partsF d i).length x.2 (partsF d i)]) (fun i _ => i ≤ m8) (fun i _ => m8 - i) 0 x rfl (Nat.zero_le _) (by rw [hp0]; exact (by (repeat' (first | exact trivial | refine And.intro rfl ?_)); done)) (fun h hs => by rw [hp0]; exact hs) ?_
    intro i x hi
    have hi : i ≤ m8 := hi
    have hln := partsF_len d i
    by_cases hlt : i < m8
    · have hpt := rpart_spec d y hd hf hl i (by omega) (by omega)
      by_cases hz : partE d i = 0
      · have hst : partsF d i = partsF d (i + 1) := by
          show _ = nt _ _ _ _
          unfold nt
          rw [if_pos (decide_eq_true hz)]
        repeat' (first | (refine XL_id ?_; first | refine XL_nil ?_ | refine XL_guard_yes rfl rfl rfl ?_ | (refine XG_load ?_; first | refine XL_loadW tt_ok 0 rfl rfl rfl rfl rfl rfl ?_ | refine XL_load tt_ok 0 rfl rfl rfl rfl rfl rfl ?_) | (refine XG_call ?_; first | (refine XL_op tt_ok rfl rfl ?_) | refine XL_fn hpt rfl rfl (fun g hg hL => CfR.le hpre hg) ?_) | (refine XL_op tt_ok rfl rfl ?_; try (first | refine XL_int (wrap_i64 (by omega) (by omega)) ?_ | refine XL_dec_t (by omega) ?_ | refine XL_dec_f (by omega) ?_))) | (refine X_id ?_; first | refine X_seq ?_ | (refine X_regionN (by repeat' (first | exact .nil | apply NL.cons)) ?_) | refine X_skip ?_ | refine X_block ?_ | refine X_cond_t rfl ?_ | refine X_cond_f rfl ?_) | (refine Y_id ?_; first | refine Y_then ?_ | refine Y_block_normal ?_))
        all_goals first
          | (rw [hst]; exact Y_again (i + 1, x) fun _ _ hf hs => ⟨hlt, by show m8 - (i + 1) < m8 - i; omega, hf.sub (by (repeat' (first | exact trivial | refine And.intro rfl ?_)); done), hs⟩)
          | (exfalso; omega)
          | skip
        
      · have hst : partsF d i ++ [(⟨partE d i, 4 + i⟩ : Fl)] = partsF d (i + 1) := by
          show _ = nt _ _ _ _
          unfold nt
          rw [decide_eq_false hz]
          rfl
        have hst2 : (partsF d i).length + 1 = (partsF d (i + 1)).length := by rw [← hst]; simp
        repeat' (first | (refine XL_id ?_; first | refine XL_nil ?_ | refine XL_guard_yes rfl rfl rfl ?_ | (refine XG_load ?_; first | refine XL_loadW tt_ok 0 rfl rfl rfl rfl rfl rfl ?_ | refine XL_load tt_ok 0 rfl rfl rfl rfl rfl rfl ?_) | (refine XG_build ?_; (refine XL_build tt_ok rfl rfl rfl rfl rfl rfl rfl ?_; refine XL_aggN (by repeat' (first | exact .nil | apply NL.cons)) ?_)) | (refine XG_call ?_; first | (refine XL_op tt_ok rfl rfl ?_) | refine XL_fn hpt rfl rfl (fun g hg hL => CfR.le hpre hg) ?_ | (refine XL_app1 (E := encFl) tt_ok 2 0 (⟨partE d i, 4 + i⟩) rfl rfl rfl rfl rfl rfl rfl rfl rfl rfl rfl (by show (_ : Nat) * 16 ≤ _; omega) (by omega) (fun _ _ => rfl) (fun A2 c2 => ?_))) | (refine XG_lit ?_; (refine XL_lit tt_ok rfl rfl rfl rfl rfl rfl rfl rfl rfl (fun _ => rfl) (fun b => ?_); refine XL_nB (by repeat' (first | exact .nil | apply NL.cons)) ?_)) | (refine XL_op tt_ok rfl rfl ?_; try (first | refine XL_int (wrap_i64 (by omega) (by omega)) ?_ | refine XL_dec_t (by omega) ?_))) | (refine X_id ?_; first | refine X_seq ?_ | (refine X_regionN (by repeat' (first | exact .nil | apply NL.cons)) ?_) | refine X_skip ?_ | refine X_block ?_ | refine X_cond_t rfl ?_) | (refine Y_id ?_; first | refine Y_then ?_ | refine Y_block_normal ?_))
        all_goals first
          | (rw [hst, hst2]; exact Y_again (i + 1, (_, _)) fun _ _ hf hs => ⟨hlt, by show m8 - (i + 1) < m8 - i; omega, hf.sub (by (repeat' (first | exact trivial | refine And.intro rfl ?_)); done), hs.imp fun h hs => stars_only [1, 1] rfl h hs⟩)
          | (exfalso; omega)
          | skip
        
    · obtain rfl : i = m8 := by omega
      repeat' (first | (refine XL_id ?_; first | refine XL_nil ?_ | refine XL_guard_yes rfl rfl rfl ?_ | refine XL_guard_no rfl rfl rfl rfl rfl ?_ | (refine XG_load ?_; refine XL_load tt_ok 0 rfl rfl rfl rfl rfl rfl ?_) | (refine XL_op tt_ok rfl rfl ?_; try (first | refine XL_dec_f (by omega) ?_ | refine XL_dec (fun _ => ?_) (fun _ => ?_)))) | (refine X_id ?_; first | refine X_seq ?_ | (refine X_regionN (by repeat' (first | exact .nil | apply NL.cons)) ?_) | refine X_exit ?_ | refine X_cond_f rfl ?_) | (refine Y_id ?_; first | refine Y_then ?_ | refine Y_then_exit ?_ | refine Y_block_hit ?_))
      all_goals first
        | (rw [hck]; exact Y_again x fun _ _ hf hs => ⟨trivial, hf.sub (by (repeat' (first | exact trivial | refine And.intro rfl ?_)); done), hs.imp fun h hs => stars_only [1] rfl h hs⟩)
        | (exfalso; omega)
        | skip
      
  · intro _
    refine Y_then ?_
    obtain ⟨A, c⟩ := x
    dsimp only
    repeat' (first | (refine XL_id ?_; first | refine XL_nil ?_ | (refine XL_op tt_ok rfl rfl ?_)) | (refine X_id ?_; first | refine X_seq ?_ | (refine X_regionN (by repeat' (first | exact .nil | apply NL.cons)) ?_) | refine X_ret ?_) | (refine Y_id ?_; refine Y_then ?_))
    all_goals first
      | exact Y_ret1 rfl rfl (fun h hs => hs) ⟨_, _, rfl, rfl⟩
      | skip
    
end Go.Proofs.YtalkcemelegohaaGreat.Pl
set_option linter.unusedVariables false
set_option maxRecDepth 100000
namespace Go.Proofs.YtalkcemelegohaaGreat.Pl
open Go.RowKit Go.Cof Gx

theorem rmay2_spec (d : Cd) (y : Ly) (hd : d.In) (hf : y.Fit) (hl : d.ps.length = y.pm) : FnC Tryz.prog 30 [cfV d y] (fun h => CfR h d y) (.bool (decide (MayP d))) := by
  have hck := rcheckC_spec d y hd hf hl
  refine Ctr.intro Tryz.func30 rfl rfl (by decide +kernel) fun F hpre => ?_
  repeat' (first | (refine XL_id ?_; first | refine XL_nil ?_ | (refine XG_load ?_; refine XL_loadW tt_ok 0 rfl rfl rfl rfl rfl rfl ?_) | (refine XG_box ?_; (refine XL_box rfl (fun _ => rfl) (fun _ => ?_); refine XL_nB (by repeat' (first | exact .nil | apply NL.cons)) ?_)) | (refine XG_call ?_; first | (refine XL_op tt_ok rfl rfl ?_) | (refine XL_callK [] hck rfl rfl (fun _ => rfl) (fun g hg hL => CfR.le hpre hg) (fun u L hv => ?_); obtain ⟨A1, c1, rfl, rfl⟩ := hv)) | (refine XL_op tt_ok rfl rfl ?_; try (refine XL_dec (fun _ => ?_) (fun _ => ?_)))) | (refine X_id ?_; first | refine X_seq ?_ | (refine X_regionN (by repeat' (first | exact .nil | apply NL.cons)) ?_) | refine X_ret ?_) | (refine Y_id ?_; refine Y_then ?_))
  all_goals first
    | exact Y_fn1 rfl rfl (bool_t (List.length_eq_zero_iff.1 (by omega)))
    | exact Y_fn1 rfl rfl (bool_f (fun h => by have a := List.length_eq_zero_iff.2 (show chkF d = [] from h); omega))
    | skip
  
theorem rthere_spec (d : Cd) (y : Ly) (hd : d.In) (hf : y.Fit) (hl : d.ps.length = y.pm) (p : Int) : FnC Tryz.prog 16 [cfV d y, iV p] (fun h => CfR h d y) (iV (thE d p)) := by
  have hma := rmay2_spec d y hd hf hl
  have hcap := hf.cap
  unfold thE
  by_cases h : MayP d
  · rw [if_pos h]
    rw [decide_eq_true h] at hma
    by_cases h2 : 0 ≤ p ∧ p < (d.ps.length : Int)
    · rw [if_pos h2]
      refine Ctr.intro Tryz.func16 rfl rfl (by decide +kernel) fun F hpre => ?_
      repeat' (first | (refine XL_id ?_; first | refine XL_nil ?_ | refine XL_guard_yes rfl rfl rfl ?_ | (refine XG_load ?_; first | refine XL_loadW tt_ok 0 rfl rfl rfl rfl rfl rfl ?_ | refine XL_load tt_ok 0 rfl rfl rfl rfl rfl rfl ?_) | (refine XG_box ?_; (refine XL_box rfl (fun _ => rfl) (fun _ => ?_); refine XL_nB (by repeat' (first | exact .nil | apply NL.cons)) ?_)) | (refine XG_call ?_; first | (refine XL_op tt_ok rfl rfl ?_) | refine XL_fn hma rfl rfl (fun g hg hL => CfR.le hpre hg) ?_) | (refine XL_op tt_ok rfl rfl ?_; try (refine XL_dec_f (by omega) ?_))) | (refine X_id ?_; first | refine X_seq ?_ | (refine X_regionN (by repeat' (first | exact .nil | apply NL.cons)) ?_) | refine X_skip ?_ | refine X_ret ?_ | refine X_cond_f rfl ?_) | (refine Y_id ?_; refine Y_then ?_))
      all_goals first
        | exact Y_fn1 rfl rfl rfl
        | (exfalso; omega)
        | skip
      
    · rw [if_neg h2]
      refine Ctr.intro Tryz.func16 rfl rfl (by decide +kernel) fun F hpre => ?_
      repeat' (first | (refine XL_id ?_; first | refine XL_nil ?_ | refine XL_guard_yes rfl rfl rfl ?_ | refine XL_guard_no rfl rfl rfl rfl rfl ?_ | (refine XG_load ?_; first | refine XL_loadW tt_ok 0 rfl rfl rfl rfl rfl rfl ?_ | refine XL_load tt_ok 0 rfl rfl rfl rfl rfl rfl ?_) | (refine XG_box ?_; (refine XL_box rfl (fun _ => rfl) (fun _ => ?_); refine XL_nB (by repeat' (first | exact .nil | apply NL.cons)) ?_)) | (refine XG_call ?_; first | (refine XL_op tt_ok rfl rfl ?_) | refine XL_fn hma rfl rfl (fun g hg hL => CfR.le hpre hg) ?_) | (refine XL_op tt_ok rfl rfl ?_; try (first | refine XL_dec_t (by omega) ?_ | refine XL_dec (fun _ => ?_) (fun _ => ?_)))) | (refine X_id ?_; first | refine X_seq ?_ | (refine X_regionN (by repeat' (first | exact .nil | apply NL.cons)) ?_) | refine X_skip ?_ | refine X_ret ?_ | refine X_cond_t rfl ?_ | refine X_cond_f rfl ?_) | (refine Y_id ?_; first | refine Y_then ?_ | refine Y_then_ret ?_))
      all_goals first
        | exact Y_fn1 rfl rfl rfl
        | (exfalso; omega)
        | skip
      
  · rw [if_neg h]
    rw [decide_eq_false h] at hma
    refine Ctr.intro Tryz.func16 rfl rfl (by decide +kernel) fun F hpre => ?_
    repeat' (first | (refine XL_id ?_; first | refine XL_nil ?_ | (refine XG_load ?_; refine XL_loadW tt_ok 0 rfl rfl rfl rfl rfl rfl ?_) | (refine XG_box ?_; (refine XL_box rfl (fun _ => rfl) (fun _ => ?_); refine XL_nB (by repeat' (first | exact .nil | apply NL.cons)) ?_)) | (refine XG_call ?_; refine XL_fn hma rfl rfl (fun g hg hL => CfR.le hpre hg) ?_) | (refine XL_op tt_ok rfl rfl ?_)) | (refine X_id ?_; first | refine X_seq ?_ | (refine X_regionN (by repeat' (first | exact .nil | apply NL.cons)) ?_) | refine X_ret ?_ | refine X_cond_t rfl ?_) | (refine Y_id ?_; first | refine Y_then ?_ | refine Y_then_ret ?_))
    all_goals first
      | exact Y_fn1 rfl rfl rfl
      | skip
    
end Go.Proofs.YtalkcemelegohaaGreat.Pl
set_option linter.unusedVariables false
set_option maxRecDepth 100000
namespace Go.Proofs.YtalkcemelegohaaGreat.Pl
open Go.RowKit Go.Cof Gx

theorem rLimit_spec (d : Cd) (y : Ly) (hd : d.In) (hf : y.Fit) (hl : d.ps.length = y.pm) (p : Int) : FnC Tryz.prog 8 [cfV d y, iV p] (fun h => CfR h d y) (.tuple #[iV (shpE d p).li, iV (thE d p)]) := by
  have hth := rthere_spec d y hd hf hl p
  unfold shpE
  by_cases h : thE d p = 0
  · obtain ⟨hm, n, rfl, hn⟩ := thE_zero h
    rw [if_pos h]
    rw [h] at hth ⊢
    have hsh := rshape_spec d y n (by omega) (hm.part n hn).2.1
    obtain ⟨S, hS⟩ : ∃ S, shF (Cof.get d.ps (n : Int)) = S := ⟨_, rfl⟩
    rw [hS] at hsh ⊢
    refine Ctr.intro Tryz.func8 rfl rfl (by decide +kernel) fun F hpre => ?_
    repeat' (first | (refine XL_id ?_; first | refine XL_nil ?_ | (refine XG_load ?_; refine XL_loadW tt_ok 0 rfl rfl rfl rfl rfl rfl ?_) | (refine XG_box ?_; (refine XL_box rfl (fun _ => rfl) (fun _ => ?_); refine XL_nB (by repeat' (first | exact .nil | apply NL.cons)) ?_)) | (refine XG_call ?_; first | refine XL_fn hth rfl rfl (fun g hg hL => CfR.le hpre hg) ?_ | refine XL_fn hsh rfl rfl (fun g hg hL => CfR.le hpre hg) ?_) | (refine XL_op tt_ok rfl rfl ?_; try (refine XL_dec_f (by omega) ?_))) | (refine X_id ?_; first | refine X_seq ?_ | (refine X_regionN (by repeat' (first | exact .nil | apply NL.cons)) ?_) | refine X_skip ?_ | refine X_ret ?_ | refine X_cond_f rfl ?_) | (refine Y_id ?_; refine Y_then ?_))
    all_goals first
      | exact Y_fn2 rfl rfl rfl rfl
      | (exfalso; omega)
      | skip
    
  · rw [if_neg h]
    obtain ⟨E, hE⟩ : ∃ E, thE d p = E := ⟨_, rfl⟩
    rw [hE] at h hth ⊢
    refine Ctr.intro Tryz.func8 rfl rfl (by decide +kernel) fun F hpre => ?_
    repeat' (first | (refine XL_id ?_; first | refine XL_nil ?_ | (refine XG_load ?_; refine XL_loadW tt_ok 0 rfl rfl rfl rfl rfl rfl ?_) | (refine XG_box ?_; (refine XL_box rfl (fun _ => rfl) (fun _ => ?_); refine XL_nB (by repeat' (first | exact .nil | apply NL.cons)) ?_)) | (refine XG_call ?_; refine XL_fn hth rfl rfl (fun g hg hL => CfR.le hpre hg) ?_) | (refine XL_op tt_ok rfl rfl ?_; try (refine XL_dec_t (by omega) ?_))) | (refine X_id ?_; first | refine X_seq ?_ | (refine X_regionN (by repeat' (first | exact .nil | apply NL.cons)) ?_) | refine X_ret ?_ | refine X_cond_t rfl ?_) | (refine Y_id ?_; first | refine Y_then ?_ | refine Y_then_ret ?_))
    all_goals first
      | exact Y_fn2 rfl rfl rfl rfl
      | (exfalso; omega)
      | skip
    
end Go.Proofs.YtalkcemelegohaaGreat.Pl
