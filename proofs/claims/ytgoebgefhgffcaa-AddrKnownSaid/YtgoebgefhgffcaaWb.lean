/- Walks: a row of at most one span is sorted; works. -/
import Derived.Test.YtgoebgefhgffcaaWa
set_option linter.unusedVariables false
namespace Go.Proofs.Ytgoebgefhgffcaa
open Go.RowKit Go.Cof

structure Sp where
  p : Int
  n : Int
  deriving DecidableEq, Inhabited
def encSp : Enc Sp := ⟨fun x => [iV x.p, iV x.n], 2, fun _ => rfl, by decide, fun x u hu => by simp at hu; rcases hu with rfl | rfl <;> rfl⟩
abbrev spV (x : Sp) : Value := .agg #[iV x.p, iV x.n]
abbrev fnV (f : FuncId) (ca : Array Value) : Value := .func (.func f) #[] ca
theorem len_small (m : Nat) (hm : m ≤ 1) : FnC Try.prog 40 [uV m] (fun _ => True) (iV m) := by
  have h64 : FnC Try.prog 50 [uV m] (fun _ => True) (iV m) := by
    have h : m = 0 ∨ m = 1 := by omega
    refine Ctr.intro Try.func50 rfl rfl (by decide +kernel) fun F hpre => ?_
    rcases h with rfl | rfl
    · repeat' (first | (refine XL_id ?_; first | refine XL_nil ?_ | refine XL_strIx (b := 0) (v := 0) tt_ok rfl rfl rfl rfl (by decide) (by decide +kernel) (by decide) rfl ?_ | (refine XL_op tt_ok rfl rfl ?_; try (first | refine XL_int (wrap_i64 (by omega) (by omega)) ?_ | refine XL_int (wrap_u8 (by omega) (by omega)) ?_ | refine XL_dec_f (by omega) ?_))) | (refine X_id ?_; first | refine X_seq ?_ | (refine X_regionN (by repeat' (exact .nil)) ?_) | refine X_skip ?_ | refine X_ret ?_ | refine X_cond_f rfl ?_) | (refine Y_id ?_; refine Y_then ?_))
      all_goals first
        | exact Y_fn1 rfl rfl rfl
        | (exfalso; omega)
        | skip
      
    · repeat' (first | (refine XL_id ?_; first | refine XL_nil ?_ | refine XL_strIx (b := 1) (v := 1) tt_ok rfl rfl rfl rfl (by decide) (by decide +kernel) (by decide) rfl ?_ | (refine XL_op tt_ok rfl rfl ?_; try (first | refine XL_int (wrap_i64 (by omega) (by omega)) ?_ | refine XL_int (wrap_u8 (by omega) (by omega)) ?_ | refine XL_dec_f (by omega) ?_))) | (refine X_id ?_; first | refine X_seq ?_ | (refine X_regionN (by repeat' (exact .nil)) ?_) | refine X_skip ?_ | refine X_ret ?_ | refine X_cond_f rfl ?_) | (refine Y_id ?_; refine Y_then ?_))
      all_goals first
        | exact Y_fn1 rfl rfl rfl
        | (exfalso; omega)
        | skip
      
  refine Ctr.intro Try.func40 rfl rfl (by decide +kernel) fun F hpre => ?_
  repeat' (first | (refine XL_id ?_; first | refine XL_nil ?_ | (refine XG_call ?_; refine XL_fn h64 rfl rfl (fun _ _ _ => trivial) ?_) | (refine XL_op tt_ok rfl rfl ?_)) | (refine X_id ?_; first | refine X_seq ?_ | (refine X_regionN (by repeat' (exact .nil)) ?_) | refine X_skip ?_ | refine X_ret ?_ | refine X_cond_f rfl ?_) | (refine Y_id ?_; refine Y_then ?_))
  all_goals first
    | exact Y_fn1 rfl rfl rfl
    | skip
  
theorem insSort_small (A : Option Addr) (m c : Nat) (f : FuncId) (hm : m ≤ 1) : FnC Try.prog 41 [.slice A m c, iV 0, iV m, fnV f #[]] (fun _ => True) (.tuple #[]) := by
  refine Ctr.intro Try.func41 rfl rfl (by decide +kernel) fun F hpre => ?_
  repeat' (first | (refine XL_id ?_; first | refine XL_nil ?_ | (refine XL_op tt_ok rfl rfl ?_; try (first | refine XL_int (wrap_i64 (by omega) (by omega)) ?_ | refine XL_dec_f (by omega) ?_))) | (refine X_id ?_; first | refine X_unroll 1 ?_ | refine X_seq ?_ | (refine X_regionN (by repeat' (exact .nil)) ?_) | refine X_exit ?_ | refine X_block ?_ | refine X_cond_f rfl ?_) | (refine Y_id ?_; first | refine Y_then ?_ | refine Y_then_exit ?_ | refine Y_block_hit ?_))
  all_goals first
    | exact Y_end0 rfl (L' := []) (fun _ _ => trivial) ⟨rfl, rfl⟩
    | (exfalso; omega)
    | skip
  
theorem pdq_small (A : Option Addr) (m c : Nat) (k : Int) (f : FuncId) (hm : m ≤ 1) : FnC Try.prog 39 [.slice A m c, iV 0, iV m, iV k, fnV f #[]] (fun _ => True) (.tuple #[]) := by
  have h1 := insSort_small A m c f hm
  refine Ctr.intro Try.func39 rfl rfl (by decide +kernel) fun F hpre => ?_
  repeat' (first | (refine XL_id ?_; first | refine XL_nil ?_ | (refine XG_call ?_; refine XL_fn h1 rfl rfl (fun _ _ _ => trivial) ?_) | (refine XL_op tt_ok rfl rfl ?_; try (first | refine XL_int (wrap_i64 (by omega) (by omega)) ?_ | refine XL_dec_t (by omega) ?_))) | (refine X_id ?_; first | refine X_unroll 1 ?_ | refine X_seq ?_ | (refine X_regionN (by repeat' (exact .nil)) ?_) | refine X_ret ?_ | refine X_block ?_ | refine X_cond_t rfl ?_) | (refine Y_id ?_; first | refine Y_then ?_ | refine Y_then_ret ?_ | refine Y_block_ret ?_))
  all_goals first
    | exact Y_ret0 rfl (L' := []) (fun _ _ => trivial) ⟨rfl, rfl⟩
    | (exfalso; omega)
    | skip
  
theorem sort_small (A : Option Addr) (m c : Nat) (f : FuncId) (hm : m ≤ 1) : FnC Try.prog 36 [.slice A m c, fnV f #[]] (fun _ => True) (.tuple #[]) := by
  have h1 := len_small m hm
  have h2 := pdq_small A m c m f hm
  refine Ctr.intro Try.func36 rfl rfl (by decide +kernel) fun F hpre => ?_
  repeat' (first | (refine XL_id ?_; first | refine XL_nil ?_ | (refine XG_call ?_; first | (refine XL_op tt_ok rfl rfl ?_) | refine XL_fn h1 rfl rfl (fun _ _ _ => trivial) ?_ | refine XL_fn h2 rfl rfl (fun _ _ _ => trivial) ?_) | (refine XL_op tt_ok rfl rfl ?_; try (refine XL_int (wrap_u64 (by omega) (by omega)) ?_))) | (refine X_id ?_; first | refine X_seq ?_ | (refine X_regionN (by repeat' (exact .nil)) ?_)) | (refine Y_id ?_; refine Y_then ?_))
  all_goals first
    | exact Y_end0 rfl (L' := []) (fun _ _ => trivial) ⟨rfl, rfl⟩
    | (exfalso; omega)
    | skip
  
set_option maxRecDepth 100000 in
set_option maxHeartbeats 16000000 in
theorem tables_one (q : Nat) : FnC Try.prog 21 [.slice (some ⟨q, 0, none⟩) 1 1] (fun h => rdS encSp h (some ⟨q, 0, none⟩) 1 [⟨31, 2⟩]) (pr2 (iV 5) (iV 0)) := by
  have h1 := fun A c => sort_small A 1 c 37 (by decide)
  refine Ctr.intro Try.func21 rfl rfl (by decide +kernel) fun F hpre => ?_
  have r1 : rdS encSp F.heap (some ⟨q, 0, none⟩) 1 [⟨31, 2⟩] := hpre
  repeat' (first | (refine XL_id ?_; first | refine XL_nil ?_ | refine XL_guard_yes rfl rfl rfl ?_ | (refine XL_mem (fun h hs => stars_new (own_nil encSp _) hs) ?_; refine XL_app1 tt_ok 0 1 ⟨31, 2⟩ rfl rfl rfl rfl rfl rfl rfl rfl rfl rfl rfl (by show (_ : Nat) * 16 ≤ _; omega) (by omega) (fun _ _ => rfl) (fun A2 c2 => ?_)) | (refine XG_load ?_; first | refine XL_loadW tt_ok 0 rfl rfl rfl rfl rfl rfl ?_ | refine XL_load tt_ok 0 rfl rfl rfl rfl rfl rfl ?_ | refine XL_elW tt_ok rfl (by assumption) rfl (by omega) (by omega) rfl rfl rfl rfl ?_ | refine XL_eloW tt_ok 0 rfl rfl rfl (by omega) (by omega) rfl rfl rfl rfl ?_) | (refine XG_idx ?_; first | refine XL_idx tt_ok rfl rfl rfl rfl rfl (by assumption) (by omega) (by omega) rfl ?_ | refine XL_idxo tt_ok 0 rfl rfl rfl rfl rfl rfl (by omega) (by omega) rfl ?_) | (refine XG_call ?_; first | (refine XL_op tt_ok rfl rfl ?_) | refine XL_fn (h1 _ _) rfl rfl (fun _ _ _ => trivial) ?_) | (refine XG_alloc ?_; (refine XL_alloc tt_ok rfl rfl (fun _ => rfl) (fun b => ?_); refine XL_nB (by repeat' (first | exact .nil | apply NL.cons)) ?_)) | (refine XG_lit ?_; (refine XL_lit tt_ok rfl rfl rfl rfl rfl rfl rfl rfl rfl (fun _ => rfl) (fun b => ?_); refine XL_nB (by repeat' (first | exact .nil | apply NL.cons)) ?_)) | (refine XG_store ?_; (refine XL_storeW tt_ok 0 rfl rfl rfl rfl rfl rfl rfl ?_; refine XL_nK 0 rfl (by repeat' (first | exact .nil | apply NL.cons)) ?_)) | (refine XL_op tt_ok rfl rfl ?_; try (first | (refine XL_int (Eq.trans (wrap_i64 (by omega) (by omega)) (by simp only [Int.reduceAdd, Int.reduceSub, Int.reduceMul, Int.reduceNeg]; rfl)) ?_) | refine XL_dec_t (by omega) ?_ | refine XL_dec_f (by omega) ?_ | refine XL_dec_t (by decide +kernel) ?_ | refine XL_dec_f (by decide +kernel) ?_))) | (refine XD_id ?_; first | (refine XD_thaw thaw ?_; refine XD_nil ?_) | (refine XD_id ?_; (first | (refine XD_uL rfl ?_; refine XD_s rfl rfl rfl (XV_load tt_ok rfl (blk_at 0 rfl hM) rfl rfl rfl) rfl ?_) | (refine XD_u rfl rfl ?_; refine XD_s rfl rfl rfl (XV_op tt_ok rfl) rfl ?_)); try (refine XD_int (wrap_i64 (by omega) (by omega)) ?_))) | (refine X_id ?_; first | refine X_unroll 3 ?_ | (refine X_drawS (id := 21) [0, 1, 2, 3, 4, 5, 6, 7, 8, 9, 10, 11, 12, 13, 14, 15, 16, 17] (fun _ => .s) 8 (by repeat' (first | exact Split.nil | apply Split.blk | apply Split.keep)) mixed (by decide +kernel) ?_; intro G hFG hM thaw; show XD _ _ _ _ _ _ [0, 1, 2, 3, 4, 5, 6, 7, 8, 9, 10, 11, 12, 13, 14, 15, 16, 17] _ _ _) | refine X_seq ?_ | (refine X_regionN (by repeat' (first | exact .nil | apply NL.cons)) ?_) | refine X_skip ?_ | refine X_ret ?_ | refine X_exit ?_ | refine X_block ?_ | refine X_cond_t rfl ?_ | refine X_cond_f rfl ?_) | (refine Y_id ?_; first | refine Y_unroll ?_ | refine Y_then ?_ | refine Y_then_exit ?_ | refine Y_block_hit ?_ | refine Y_block_normal ?_))
  all_goals first
    | exact Y_fn2 rfl rfl rfl rfl
    | skip
  
theorem works_spec : FnC Try.prog 15 [] (fun _ => True) (.bool true) := by
  have h1 := split_spec 4660 (by decide)
  have h2 := join_spec 18 52
  have h3 := index_spec 1057 1
  have h4 := table_spec 1057 0
  have h6 := place_spec 3 7
  rw [show splitF 4660 = (18, 52, 0) from by decide] at h1
  rw [show joinF 18 52 = (4660, 0) from by decide] at h2
  rw [show indexF 1057 1 = (1, 0) from by decide] at h3
  rw [show tableF 1057 0 = (33, 0) from by decide] at h4
  rw [show placeF 3 7 = (775, 0) from by decide] at h6
  refine Ctr.intro Try.func15 rfl rfl (by decide +kernel) fun F hpre => ?_
  repeat' (first | (refine XL_id ?_; first | refine XL_nil ?_ | refine XL_guard_yes rfl rfl rfl ?_ | (refine XG_build ?_; (refine XL_build tt_ok rfl rfl rfl rfl rfl rfl rfl ?_; refine XL_aggN (by repeat' (first | exact .nil | apply NL.cons)) ?_)) | (refine XG_call ?_; first | refine XL_fn h1 rfl rfl (fun _ _ _ => trivial) ?_ | refine XL_fn h2 rfl rfl (fun _ _ _ => trivial) ?_ | refine XL_fn h3 rfl rfl (fun _ _ _ => trivial) ?_ | refine XL_fn h4 rfl rfl (fun _ _ _ => trivial) ?_ | refine XL_fn (tables_one _) rfl rfl (fun g hg hL => blk_rdS (blk_at 0 rfl hL) rfl rfl) ?_ | refine XL_fn h6 rfl rfl (fun _ _ _ => trivial) ?_) | (refine XG_lit ?_; (refine XL_lit tt_ok rfl rfl rfl rfl rfl rfl rfl rfl rfl (fun _ => rfl) (fun b => ?_); refine XL_nB (by repeat' (first | exact .nil | apply NL.cons)) ?_)) | (refine XL_op tt_ok rfl rfl ?_; try (first | refine XL_dec_t (by omega) ?_ | refine XL_dec_t (by decide +kernel) ?_))) | (refine X_id ?_; first | refine X_seq ?_ | (refine X_regionN (by repeat' (first | exact .nil | apply NL.cons)) ?_) | refine X_ret ?_) | (refine Y_id ?_; refine Y_then ?_))
  all_goals first
    | exact Y_fn1 rfl rfl rfl
    | skip
  
end Go.Proofs.Ytgoebgefhgffcaa
