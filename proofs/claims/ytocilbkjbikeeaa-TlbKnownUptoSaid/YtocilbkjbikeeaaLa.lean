/- Walks of the laws' helpers: kind, trans, same, done. -/
import Derived.Test.YtocilbkjbikeeaaRc
set_option linter.unusedVariables false
namespace Go.Proofs.Ytocilbkjbikeeaa
open Go.RowKit Go.Cof

theorem kind_spec (k n : Int) (h1 : -9223372036854775808 ≤ k) (h2 : k ≤ 9223372036854775807) (h3 : 0 < n) (h4 : n ≤ 4294967296) : FnC Try.prog 9 [.int .i64 k, .int .i64 n] (fun _ => True) (.int .i64 (k % n)) := by
  have e1 : (k.tmod n + n) % n = k % n := by
    rw [Int.add_emod_right, Int.tmod_def, Int.sub_emod, Int.mul_emod_right, Int.sub_zero, Int.emod_emod]
  have h6 := Int.lt_tmod_of_pos k h3
  have h7 := Int.tmod_lt_of_pos k h3
  refine Ctr.intro Try.func9 rfl rfl (by decide +kernel) fun F hpre => ?_
  repeat' (first | (refine XL_id ?_; first | refine XL_nil ?_ | refine XL_op tt_ok (opV_rem rfl rfl (by omega)) rfl ?_ | (refine XL_op tt_ok rfl rfl ?_; try (first | refine XL_int (wrap_i64 (by omega) (by omega)) ?_ | refine XL_int (rem_pos (by omega)) ?_))) | (refine X_id ?_; first | refine X_seq ?_ | (refine X_regionN (by repeat' (exact .nil)) ?_) | refine X_ret ?_) | (refine Y_id ?_; refine Y_then ?_))
  exact Y_fn1 rfl rfl (by rw [e1])
def trx (k : Int) : Tr := ⟨0, k, 10 + k, true, false, false⟩
theorem trans_spec (k : Int) (h : -1000 ≤ k ∧ k ≤ 1000) : FnC Try.prog 26 [.int .i64 k] (fun _ => True) (trV (trx k)) := by
  refine Ctr.intro Try.func26 rfl rfl (by decide +kernel) fun F hpre => ?_
  repeat' (first | (refine XL_id ?_; first | refine XL_nil ?_ | (refine XG_build ?_; (refine XL_build tt_ok rfl rfl rfl rfl rfl rfl rfl ?_; refine XL_aggN (by repeat' (first | exact .nil | apply NL.cons)) ?_)) | (refine XG_alloc ?_; (refine XL_alloc tt_ok rfl rfl (fun _ => rfl) (fun b => ?_); refine XL_nB (by repeat' (first | exact .nil | apply NL.cons)) ?_)) | (refine XG_store ?_; (refine XL_storeW tt_ok 0 rfl rfl rfl rfl rfl rfl rfl ?_; refine XL_nK 0 rfl (by repeat' (first | exact .nil | apply NL.cons)) ?_)) | (refine XL_op tt_ok rfl rfl ?_; try (refine XL_int (wrap_i64 (by omega) (by omega)) ?_))) | (refine X_id ?_; first | refine X_seq ?_ | (refine X_regionN (by repeat' (first | exact .nil | apply NL.cons)) ?_) | refine X_ret ?_) | (refine Y_id ?_; refine Y_then ?_))
  exact Y_res1 rfl (.cell tt_ok 0 rfl rfl rfl rfl rfl) (L' := []) (fun _ _ => trivial) ⟨rfl, rfl⟩
set_option maxHeartbeats 4000000 in
theorem same_spec (A B : Option Addr) (m c m' c' : Nat) (xs ys : List Tr) (hm : m ≤ 100000) (hm' : m' ≤ 100000) : FnC Try.prog 21 [.slice A m c, .slice B m' c'] (fun h => rdS encTr h A m xs ∧ rdS encTr h B m' ys) (.bool (decide (xs = ys))) := by
  refine Ctr.intro Try.func21 rfl rfl (by decide +kernel) fun F hpre => ?_
  have r1 : rdS encTr F.heap A m xs := hpre.1
  have r2 : rdS encTr F.heap B m' ys := hpre.2
  have hl1 := r1.1
  have hl2 := r2.1
  repeat' (first | (refine XL_id ?_; first | refine XL_nil ?_ | (refine XL_op tt_ok rfl rfl ?_; try (refine XL_dec (fun _ => ?_) (fun _ => ?_)))) | (refine X_id ?_; first | refine X_seq ?_ | (refine X_regionN (by repeat' (exact .nil)) ?_) | refine X_skip ?_ | refine X_ret ?_ | refine X_block ?_ | refine X_cond_t rfl ?_ | refine X_cond_f rfl ?_) | (refine Y_id ?_; first | refine Y_then ?_ | refine Y_then_ret ?_))
  · exact Y_fn1 rfl rfl (bool_f fun h => by rw [h] at hl1; omega)
  have hll : xs.length = ys.length := by omega
  refine X_loopD [0, 1] (fun (i : Nat) => [(5, .int .i64 i)]) (fun _ => []) (fun i => i ≤ m ∧ ∀ j : Nat, j < i → Cof.get xs j = Cof.get ys j) (fun i => m - i) 0 rfl ⟨Nat.zero_le _, fun j hj => by omega⟩ (by (repeat' (first | exact trivial | refine And.intro rfl ?_)); done) (fun _ h => h) ?_
  intro i hi
  obtain ⟨hi, hx⟩ := hi
  by_cases hlt : i < m
  · repeat' (first | (refine XL_id ?_; first | refine XL_nil ?_ | (refine XL_op tt_ok rfl rfl ?_; try (first | refine XL_int (wrap_i64 (by omega) (by omega)) ?_ | refine XL_dec_t (by omega) ?_))) | (refine XD_id ?_; first | (refine XD_thaw thaw ?_; refine XD_nil ?_) | (refine XD_id ?_; (first | (refine XD_uL rfl ?_; refine XD_s rfl rfl rfl (XV_elW tt_ok rfl (rdS.le (by assumption) hFG) rfl (by omega) (by omega) rfl rfl rfl) rfl ?_) | (refine XD_uI rfl ?_; refine XD_s rfl rfl rfl (XV_idx tt_ok rfl rfl rfl rfl rfl (rdS.le (by assumption) hFG) (by omega) (by omega)) rfl ?_) | (refine XD_u rfl rfl ?_; first | refine XD_s rfl rfl rfl (XV_op tt_ok rfl) rfl ?_ | refine XD_s rfl rfl rfl (XV_neq eqTr rfl rfl) rfl ?_)); try (refine XD_dec (fun _ => ?_) (fun _ => ?_)))) | (refine X_id ?_; first | (refine X_drawS (id := 6) [0, 1, 2, 3, 4, 5, 6, 7, 8] (fun _ => .s) 8 (by repeat' (exact Split.nil)) mixed (by decide +kernel) ?_; intro G hFG hM thaw; show XD _ _ _ _ _ _ [0, 1, 2, 3, 4, 5, 6, 7, 8] _ _ _) | refine X_seq ?_ | (refine X_regionN (by repeat' (exact .nil)) ?_) | refine X_skip ?_ | refine X_ret ?_ | refine X_block ?_ | refine X_cond_t rfl ?_ | refine X_cond_f rfl ?_) | (refine Y_id ?_; first | refine Y_then ?_ | refine Y_then_ret ?_ | refine Y_block_normal ?_ | refine Y_block_ret ?_))
    all_goals first
      | exact Y_fn1 rfl rfl (bool_f fun h => by rename_i hn; exact hn (by rw [h]))
      | exact Y_again (i + 1) fun _ _ hf hs => ⟨⟨by omega, fun j hj => by
          by_cases hj2 : j < i
          · exact hx j hj2
          · obtain rfl : j = i := by omega
            exact Decidable.of_not_not (by assumption)⟩, by omega, hf.sub (by (repeat' (first | exact trivial | refine And.intro rfl ?_)); done), hs.imp fun _ _ => trivial⟩
      | skip
    
  · repeat' (first | (refine XL_id ?_; first | refine XL_nil ?_ | (refine XL_op tt_ok rfl rfl ?_; try (refine XL_dec_f (by omega) ?_))) | (refine X_id ?_; first | refine X_seq ?_ | (refine X_regionN (by repeat' (exact .nil)) ?_) | refine X_ret ?_ | refine X_exit ?_ | refine X_cond_f rfl ?_) | (refine Y_id ?_; first | refine Y_then ?_ | refine Y_then_exit ?_ | refine Y_block_hit ?_))
    exact Y_fn1 rfl rfl (bool_t (get_ext hll fun j hj => hx j (by omega)))
structure Dd where
  k : Int
  x : Tr
  deriving Inhabited
def encDd : Enc Dd := ⟨fun y => [.int .i64 y.k, .int .i64 y.x.a, .int .i64 y.x.p, .int .i64 y.x.f, .bool y.x.r, .bool y.x.w, .bool y.x.d], 7, fun _ => rfl, by decide, fun x u hu => by simp at hu; rcases hu with rfl | rfl | rfl | rfl | rfl | rfl | rfl <;> rfl⟩
abbrev ddV (y : Dd) : Value := .agg #[.int .i64 y.k, .int .i64 y.x.a, .int .i64 y.x.p, .int .i64 y.x.f, .bool y.x.r, .bool y.x.w, .bool y.x.d]
structure Dd.In (y : Dd) : Prop where
  k : -9223372036854775808 ≤ y.k ∧ y.k ≤ 9223372036854775807
  a : -9223372036854775808 ≤ y.x.a ∧ y.x.a ≤ 9223372036854775807
  p : -9223372036854775808 ≤ y.x.p ∧ y.x.p ≤ 9223372036854775807
  f : -9223372036854775808 ≤ y.x.f ∧ y.x.f ≤ 9223372036854775807
def stepT (n : Int) (ys : List Tr) (y : Dd) : List Tr :=
  if y.k % 7 = 0 then (findT ys y.x.a y.x.p) else
  if y.k % 7 = 1 then (ys) else
  if y.k % 7 = 2 then (fillT n ys y.x) else
  if y.k % 7 = 3 then (markT ys y.x.a y.x.p) else
  if y.k % 7 = 4 then (dropT ys y.x.a y.x.p) else
  if y.k % 7 = 5 then (dallT ys y.x.a) else
  []
theorem stepT_0 {n : Int} {ys : List Tr} {y : Dd} (h : y.k % 7 = 0) : stepT n ys y = (findT ys y.x.a y.x.p) := by
  unfold stepT
  rw [h]
  rfl
theorem stepT_1 {n : Int} {ys : List Tr} {y : Dd} (h : y.k % 7 = 1) : stepT n ys y = (ys) := by
  unfold stepT
  rw [h]
  rfl
theorem stepT_2 {n : Int} {ys : List Tr} {y : Dd} (h : y.k % 7 = 2) : stepT n ys y = (fillT n ys y.x) := by
  unfold stepT
  rw [h]
  rfl
theorem stepT_3 {n : Int} {ys : List Tr} {y : Dd} (h : y.k % 7 = 3) : stepT n ys y = (markT ys y.x.a y.x.p) := by
  unfold stepT
  rw [h]
  rfl
theorem stepT_4 {n : Int} {ys : List Tr} {y : Dd} (h : y.k % 7 = 4) : stepT n ys y = (dropT ys y.x.a y.x.p) := by
  unfold stepT
  rw [h]
  rfl
theorem stepT_5 {n : Int} {ys : List Tr} {y : Dd} (h : y.k % 7 = 5) : stepT n ys y = (dallT ys y.x.a) := by
  unfold stepT
  rw [h]
  rfl
theorem stepT_6 {n : Int} {ys : List Tr} {y : Dd} (h : y.k % 7 = 6) : stepT n ys y = ([]) := by
  unfold stepT
  rw [h]
  rfl
theorem TOk.step {n : Int} {ys : List Tr} (h : TOk n ys) (y : Dd) : TOk n (stepT n ys y) := by
  unfold stepT
  split
  · exact h.findT _ _
  split
  · exact h
  split
  · exact h.fillT _
  split
  · exact h.markT _ _
  split
  · exact h.dropT _ _
  split
  · exact h.dallT _
  exact TOk.nil h.n1 h.n2
set_option maxRecDepth 100000 in
set_option maxHeartbeats 16000000 in
theorem done_spec (t r : Nat) (n : Int) (ys : List Tr) (y : Dd) (hy : y.In) (hok : TOk n ys) :
    Ctr Try.prog 24 [ptr t, ptr r, ddV y] (fun _ => True) [isTlb t n ys, isRef r n ys] (fun v L => v = .bool true ∧ L = [isTlb t n (stepT n ys y), isRef r n (stepT n ys y)]) := by
  have x1 := hy.k
  have hk8 : y.k % 7 = 0 ∨ y.k % 7 = 1 ∨ y.k % 7 = 2 ∨ y.k % 7 = 3 ∨ y.k % 7 = 4 ∨ y.k % 7 = 5 ∨ y.k % 7 = 6 := by omega
  have hkd := kind_spec y.k 7 x1.1 x1.2 (by decide) (by decide)
  refine Ctr.intro Try.func24 rfl rfl (by decide +kernel) fun F hpre => ?_
  rcases hk8 with hk | hk | hk | hk | hk | hk | hk
  · rw [stepT_0 hk]
    repeat' (first | (refine XL_id ?_; first | (refine XL_eq (a := (peekR ys y.x.a y.x.p).1) (b := (peekR ys y.x.a y.x.p).1) eqTr rfl rfl rfl ?_; refine XL_dec_t rfl ?_) | refine XL_nil ?_ | refine XL_guard_yes rfl rfl rfl ?_ | (refine XG_load ?_; first | refine XL_loadW tt_ok 0 rfl rfl rfl rfl rfl rfl ?_ | refine XL_loadW tt_ok 2 rfl rfl rfl rfl rfl rfl ?_ | refine XL_load tt_ok 2 rfl rfl rfl rfl rfl rfl ?_) | (refine XG_box ?_; (refine XL_box rfl (fun _ => rfl) (fun _ => ?_); refine XL_nB (by repeat' (first | exact .nil | apply NL.cons)) ?_)) | (refine XG_call ?_; first | refine XL_fn hkd rfl rfl (fun _ _ _ => trivial) ?_ | refine XL_callE [0] (find_is _ _ _ _ _) rfl rfl rfl (fun _ _ _ => trivial) ?_ | refine XL_callE [2] (rfind_is _ _ _ _ _) rfl rfl rfl (fun _ _ _ => trivial) ?_) | (refine XG_alloc ?_; (refine XL_alloc tt_ok rfl rfl (fun _ => rfl) (fun b => ?_); refine XL_nB (by repeat' (first | exact .nil | apply NL.cons)) ?_)) | (refine XG_store ?_; (refine XL_storeW tt_ok 0 rfl rfl rfl rfl rfl rfl rfl ?_; refine XL_nK 0 rfl (by repeat' (first | exact .nil | apply NL.cons)) ?_)) | (refine XL_op tt_ok rfl rfl ?_; refine XL_head (congrArg Value.bool (beq_self_eq_true ((peekR ys y.x.a y.x.p).2.1))) ?_) | (refine XL_op tt_ok rfl rfl ?_; try (refine XL_dec_t (by omega) ?_))) | (refine XD_id ?_; first | (refine XD_thaw thaw ?_; refine XD_nil ?_) | (refine XD_id ?_; (first | (refine XD_uL rfl ?_; refine XD_s rfl rfl rfl (XV_load tt_ok rfl (blk_at 0 rfl hM) rfl rfl rfl) rfl ?_) | (refine XD_u rfl rfl ?_; refine XD_s rfl rfl rfl (XV_op tt_ok rfl) rfl ?_)))) | (refine X_id ?_; first | (refine X_drawS (id := 1) [0, 1, 2, 3, 4, 5, 6, 7] (fun _ => .s) 8 (by repeat' (first | exact Split.nil | apply Split.blk | apply Split.keep)) mixed (by decide +kernel) ?_; intro G hFG hM thaw; show XD _ _ _ _ _ _ [0, 1, 2, 3, 4, 5, 6, 7] _ _ _) | refine X_seq ?_ | (refine X_regionN (by repeat' (first | exact .nil | apply NL.cons)) ?_) | refine X_ret ?_ | refine X_block ?_ | refine X_cond_t rfl ?_) | (refine Y_id ?_; first | refine Y_then ?_ | refine Y_then_ret ?_ | refine Y_block_ret ?_))
    all_goals first
      | exact Y_ret1 rfl rfl (stars_only [1, 0] rfl) ⟨rfl, rfl⟩
      | exact Y_ret1 rfl rfl (stars_only [0, 0] rfl) ⟨rfl, rfl⟩
      | exact Y_ret1 rfl rfl (stars_only [3, 2] rfl) ⟨rfl, rfl⟩
      | exact Y_ret1 rfl rfl (stars_only [3, 1] rfl) ⟨rfl, rfl⟩
      | exact Y_ret1 rfl rfl (stars_only [2, 1] rfl) ⟨rfl, rfl⟩
      | (exfalso; omega)
      | skip
    
  · rw [stepT_1 hk]
    repeat' (first | (refine XL_id ?_; first | (refine XL_eq (a := (peekR ys y.x.a y.x.p).1) (b := (peekR ys y.x.a y.x.p).1) eqTr rfl rfl rfl ?_; refine XL_dec_t rfl ?_) | refine XL_nil ?_ | refine XL_guard_yes rfl rfl rfl ?_ | (refine XG_load ?_; first | refine XL_loadW tt_ok 0 rfl rfl rfl rfl rfl rfl ?_ | refine XL_loadW tt_ok 2 rfl rfl rfl rfl rfl rfl ?_ | refine XL_load tt_ok 2 rfl rfl rfl rfl rfl rfl ?_) | (refine XG_box ?_; (refine XL_box rfl (fun _ => rfl) (fun _ => ?_); refine XL_nB (by repeat' (first | exact .nil | apply NL.cons)) ?_)) | (refine XG_call ?_; first | refine XL_fn hkd rfl rfl (fun _ _ _ => trivial) ?_ | refine XL_callE [0] (peek_is _ _ _ _ _) rfl rfl rfl (fun _ _ _ => trivial) ?_ | refine XL_callE [2] (rpeek_is _ _ _ _ _) rfl rfl rfl (fun _ _ _ => trivial) ?_) | (refine XG_alloc ?_; (refine XL_alloc tt_ok rfl rfl (fun _ => rfl) (fun b => ?_); refine XL_nB (by repeat' (first | exact .nil | apply NL.cons)) ?_)) | (refine XG_store ?_; (refine XL_storeW tt_ok 0 rfl rfl rfl rfl rfl rfl rfl ?_; refine XL_nK 0 rfl (by repeat' (first | exact .nil | apply NL.cons)) ?_)) | (refine XL_op tt_ok rfl rfl ?_; refine XL_head (congrArg Value.bool (beq_self_eq_true ((peekR ys y.x.a y.x.p).2.1))) ?_) | (refine XL_op tt_ok rfl rfl ?_; try (first | refine XL_dec_t (by omega) ?_ | refine XL_dec_f (by omega) ?_))) | (refine XD_id ?_; first | (refine XD_thaw thaw ?_; refine XD_nil ?_) | (refine XD_id ?_; (first | (refine XD_uL rfl ?_; refine XD_s rfl rfl rfl (XV_load tt_ok rfl (blk_at 0 rfl hM) rfl rfl rfl) rfl ?_) | (refine XD_u rfl rfl ?_; refine XD_s rfl rfl rfl (XV_op tt_ok rfl) rfl ?_)))) | (refine X_id ?_; first | (refine X_drawS (id := 1) [0, 1, 2, 3, 4, 5, 6, 7] (fun _ => .s) 8 (by repeat' (first | exact Split.nil | apply Split.blk | apply Split.keep)) mixed (by decide +kernel) ?_; intro G hFG hM thaw; show XD _ _ _ _ _ _ [0, 1, 2, 3, 4, 5, 6, 7] _ _ _) | refine X_seq ?_ | (refine X_regionN (by repeat' (first | exact .nil | apply NL.cons)) ?_) | refine X_ret ?_ | refine X_block ?_ | refine X_cond_t rfl ?_ | refine X_cond_f rfl ?_) | (refine Y_id ?_; first | refine Y_then ?_ | refine Y_then_ret ?_ | refine Y_block_ret ?_))
    all_goals first
      | exact Y_ret1 rfl rfl (stars_only [1, 0] rfl) ⟨rfl, rfl⟩
      | exact Y_ret1 rfl rfl (stars_only [0, 0] rfl) ⟨rfl, rfl⟩
      | exact Y_ret1 rfl rfl (stars_only [3, 2] rfl) ⟨rfl, rfl⟩
      | exact Y_ret1 rfl rfl (stars_only [3, 1] rfl) ⟨rfl, rfl⟩
      | exact Y_ret1 rfl rfl (stars_only [2, 1] rfl) ⟨rfl, rfl⟩
      | (exfalso; omega)
      | skip
    
  · rw [stepT_2 hk]
    repeat' (first | (refine XL_id ?_; first | refine XL_nil ?_ | (refine XG_load ?_; refine XL_load tt_ok 2 rfl rfl rfl rfl rfl rfl ?_) | (refine XG_box ?_; (refine XL_box rfl (fun _ => rfl) (fun _ => ?_); refine XL_nB (by repeat' (first | exact .nil | apply NL.cons)) ?_)) | (refine XG_call ?_; first | refine XL_fn hkd rfl rfl (fun _ _ _ => trivial) ?_ | refine XL_callE [0] (fill_is _ _ _ y.x) rfl rfl rfl (fun _ _ _ => trivial) ?_ | refine XL_callE [1] (rfill_is _ _ _ y.x) rfl rfl rfl (fun _ _ _ => trivial) ?_) | (refine XL_op tt_ok rfl rfl ?_; try (first | refine XL_dec_t (by omega) ?_ | refine XL_dec_f (by omega) ?_))) | (refine XD_id ?_; first | (refine XD_thaw thaw ?_; refine XD_nil ?_) | (refine XD_id ?_; (first | (refine XD_uL rfl ?_; refine XD_s rfl rfl rfl (XV_load tt_ok rfl (blk_at 0 rfl hM) rfl rfl rfl) rfl ?_) | (refine XD_u rfl rfl ?_; refine XD_s rfl rfl rfl (XV_op tt_ok rfl) rfl ?_)); try (refine XD_dec_t (by omega) ?_)) | refine XD_m rfl rfl ?_) | (refine X_id ?_; first | (refine X_drawS (id := 1) [0, 1, 2, 3, 4, 5, 6, 7] (fun _ => .s) 8 (by repeat' (first | exact Split.nil | apply Split.blk | apply Split.keep)) mixed (by decide +kernel) ?_; intro G hFG hM thaw; show XD _ _ _ _ _ _ [0, 1, 2, 3, 4, 5, 6, 7] _ _ _) | (refine X_drawS (id := 12) [0, 1, 2, 4, 5, 6, 3, 7, 8, 9] (fun | 3 => .m | 7 => .m | _ => .s) 8 (by repeat' (first | exact Split.nil | apply Split.blk | apply Split.keep)) mixed (by decide +kernel) ?_; intro G hFG hM thaw; show XD _ _ _ _ _ _ [0, 1, 2, 4, 5, 6, 3, 7, 8, 9] _ _ _) | refine X_seq ?_ | (refine X_regionN (by repeat' (first | exact .nil | apply NL.cons)) ?_) | refine X_ret ?_ | refine X_block ?_ | refine X_cond_t rfl ?_ | refine X_cond_f rfl ?_) | (refine Y_id ?_; first | refine Y_then ?_ | refine Y_then_ret ?_ | refine Y_block_ret ?_ | refine Y_m ?_))
    all_goals first
      | exact Y_ret1 rfl rfl (stars_only [1, 0] rfl) ⟨rfl, rfl⟩
      | exact Y_ret1 rfl rfl (stars_only [0, 0] rfl) ⟨rfl, rfl⟩
      | exact Y_ret1 rfl rfl (stars_only [3, 2] rfl) ⟨rfl, rfl⟩
      | exact Y_ret1 rfl rfl (stars_only [3, 1] rfl) ⟨rfl, rfl⟩
      | exact Y_ret1 rfl rfl (stars_only [2, 1] rfl) ⟨rfl, rfl⟩
      | (exfalso; omega)
      | skip
    
  · rw [stepT_3 hk]
    repeat' (first | (refine XL_id ?_; first | refine XL_nil ?_ | refine XL_guard_yes rfl rfl rfl ?_ | (refine XG_load ?_; refine XL_load tt_ok 2 rfl rfl rfl rfl rfl rfl ?_) | (refine XG_box ?_; (refine XL_box rfl (fun _ => rfl) (fun _ => ?_); refine XL_nB (by repeat' (first | exact .nil | apply NL.cons)) ?_)) | (refine XG_call ?_; first | refine XL_fn hkd rfl rfl (fun _ _ _ => trivial) ?_ | refine XL_callE [0] (mark_is _ _ _ _ _) rfl rfl rfl (fun _ _ _ => trivial) ?_ | refine XL_callE [1] (rmark_is _ _ _ _ _) rfl rfl rfl (fun _ _ _ => trivial) ?_) | (refine XL_op tt_ok rfl rfl ?_; refine XL_head (congrArg Value.bool (beq_self_eq_true (hasT ys y.x.a y.x.p))) ?_) | (refine XL_op tt_ok rfl rfl ?_; try (first | refine XL_dec_t (by omega) ?_ | refine XL_dec_f (by omega) ?_))) | (refine XD_id ?_; first | (refine XD_thaw thaw ?_; refine XD_nil ?_) | (refine XD_id ?_; (first | (refine XD_uL rfl ?_; refine XD_s rfl rfl rfl (XV_load tt_ok rfl (blk_at 0 rfl hM) rfl rfl rfl) rfl ?_) | (refine XD_u rfl rfl ?_; refine XD_s rfl rfl rfl (XV_op tt_ok rfl) rfl ?_)))) | (refine X_id ?_; first | (refine X_drawS (id := 1) [0, 1, 2, 3, 4, 5, 6, 7] (fun _ => .s) 8 (by repeat' (first | exact Split.nil | apply Split.blk | apply Split.keep)) mixed (by decide +kernel) ?_; intro G hFG hM thaw; show XD _ _ _ _ _ _ [0, 1, 2, 3, 4, 5, 6, 7] _ _ _) | refine X_seq ?_ | (refine X_regionN (by repeat' (first | exact .nil | apply NL.cons)) ?_) | refine X_ret ?_ | refine X_block ?_ | refine X_cond_t rfl ?_ | refine X_cond_f rfl ?_) | (refine Y_id ?_; first | refine Y_then ?_ | refine Y_then_ret ?_ | refine Y_block_ret ?_))
    all_goals first
      | exact Y_ret1 rfl rfl (stars_only [1, 0] rfl) ⟨rfl, rfl⟩
      | exact Y_ret1 rfl rfl (stars_only [0, 0] rfl) ⟨rfl, rfl⟩
      | exact Y_ret1 rfl rfl (stars_only [3, 2] rfl) ⟨rfl, rfl⟩
      | exact Y_ret1 rfl rfl (stars_only [3, 1] rfl) ⟨rfl, rfl⟩
      | exact Y_ret1 rfl rfl (stars_only [2, 1] rfl) ⟨rfl, rfl⟩
      | (exfalso; omega)
      | skip
    
  · rw [stepT_4 hk]
    repeat' (first | (refine XL_id ?_; first | refine XL_nil ?_ | refine XL_guard_yes rfl rfl rfl ?_ | (refine XG_load ?_; refine XL_load tt_ok 2 rfl rfl rfl rfl rfl rfl ?_) | (refine XG_box ?_; (refine XL_box rfl (fun _ => rfl) (fun _ => ?_); refine XL_nB (by repeat' (first | exact .nil | apply NL.cons)) ?_)) | (refine XG_call ?_; first | refine XL_fn hkd rfl rfl (fun _ _ _ => trivial) ?_ | refine XL_callE [0] (dropK_is _ _ _ _ _ hok.uniq) rfl rfl rfl (fun _ _ _ => trivial) ?_ | refine XL_callE [1] (rdrop_is _ _ _ _ _) rfl rfl rfl (fun _ _ _ => trivial) ?_) | (refine XL_op tt_ok rfl rfl ?_; refine XL_head (congrArg Value.bool (beq_self_eq_true (hasT ys y.x.a y.x.p))) ?_) | (refine XL_op tt_ok rfl rfl ?_; try (first | refine XL_dec_t (by omega) ?_ | refine XL_dec_f (by omega) ?_))) | (refine XD_id ?_; first | (refine XD_thaw thaw ?_; refine XD_nil ?_) | (refine XD_id ?_; (first | (refine XD_uL rfl ?_; refine XD_s rfl rfl rfl (XV_load tt_ok rfl (blk_at 0 rfl hM) rfl rfl rfl) rfl ?_) | (refine XD_u rfl rfl ?_; refine XD_s rfl rfl rfl (XV_op tt_ok rfl) rfl ?_)))) | (refine X_id ?_; first | (refine X_drawS (id := 1) [0, 1, 2, 3, 4, 5, 6, 7] (fun _ => .s) 8 (by repeat' (first | exact Split.nil | apply Split.blk | apply Split.keep)) mixed (by decide +kernel) ?_; intro G hFG hM thaw; show XD _ _ _ _ _ _ [0, 1, 2, 3, 4, 5, 6, 7] _ _ _) | refine X_seq ?_ | (refine X_regionN (by repeat' (first | exact .nil | apply NL.cons)) ?_) | refine X_ret ?_ | refine X_block ?_ | refine X_cond_t rfl ?_ | refine X_cond_f rfl ?_) | (refine Y_id ?_; first | refine Y_then ?_ | refine Y_then_ret ?_ | refine Y_block_ret ?_))
    all_goals first
      | exact Y_ret1 rfl rfl (stars_only [1, 0] rfl) ⟨rfl, rfl⟩
      | exact Y_ret1 rfl rfl (stars_only [0, 0] rfl) ⟨rfl, rfl⟩
      | exact Y_ret1 rfl rfl (stars_only [3, 2] rfl) ⟨rfl, rfl⟩
      | exact Y_ret1 rfl rfl (stars_only [3, 1] rfl) ⟨rfl, rfl⟩
      | exact Y_ret1 rfl rfl (stars_only [2, 1] rfl) ⟨rfl, rfl⟩
      | (exfalso; omega)
      | skip
    
  · rw [stepT_5 hk]
    repeat' (first | (refine XL_id ?_; first | refine XL_nil ?_ | refine XL_guard_yes rfl rfl rfl ?_ | (refine XG_load ?_; refine XL_load tt_ok 2 rfl rfl rfl rfl rfl rfl ?_) | (refine XG_box ?_; (refine XL_box rfl (fun _ => rfl) (fun _ => ?_); refine XL_nB (by repeat' (first | exact .nil | apply NL.cons)) ?_)) | (refine XG_call ?_; first | refine XL_fn hkd rfl rfl (fun _ _ _ => trivial) ?_ | refine XL_callE [0] (dropAll_is _ _ _ _) rfl rfl rfl (fun _ _ _ => trivial) ?_ | refine XL_callE [1] (rdropAll_is _ _ _ _) rfl rfl rfl (fun _ _ _ => trivial) ?_) | (refine XL_op tt_ok rfl rfl ?_; try (first | refine XL_dec_t (by omega) ?_ | refine XL_dec_f (by omega) ?_))) | (refine XD_id ?_; first | (refine XD_thaw thaw ?_; refine XD_nil ?_) | (refine XD_id ?_; (first | (refine XD_uL rfl ?_; refine XD_s rfl rfl rfl (XV_load tt_ok rfl (blk_at 0 rfl hM) rfl rfl rfl) rfl ?_) | (refine XD_u rfl rfl ?_; refine XD_s rfl rfl rfl (XV_op tt_ok rfl) rfl ?_)))) | (refine X_id ?_; first | (refine X_drawS (id := 1) [0, 1, 2, 3, 4, 5, 6, 7] (fun _ => .s) 8 (by repeat' (first | exact Split.nil | apply Split.blk | apply Split.keep)) mixed (by decide +kernel) ?_; intro G hFG hM thaw; show XD _ _ _ _ _ _ [0, 1, 2, 3, 4, 5, 6, 7] _ _ _) | refine X_seq ?_ | (refine X_regionN (by repeat' (first | exact .nil | apply NL.cons)) ?_) | refine X_ret ?_ | refine X_block ?_ | refine X_cond_t rfl ?_ | refine X_cond_f rfl ?_) | (refine Y_id ?_; first | refine Y_then ?_ | refine Y_then_ret ?_ | refine Y_block_ret ?_))
    all_goals first
      | exact Y_ret1 rfl rfl (stars_only [1, 0] rfl) ⟨rfl, rfl⟩
      | exact Y_ret1 rfl rfl (stars_only [0, 0] rfl) ⟨rfl, rfl⟩
      | exact Y_ret1 rfl rfl (stars_only [3, 2] rfl) ⟨rfl, rfl⟩
      | exact Y_ret1 rfl rfl (stars_only [3, 1] rfl) ⟨rfl, rfl⟩
      | exact Y_ret1 rfl rfl (stars_only [2, 1] rfl) ⟨rfl, rfl⟩
      | (exfalso; omega)
      | skip
    
  · rw [stepT_6 hk]
    repeat' (first | (refine XL_id ?_; first | refine XL_nil ?_ | refine XL_guard_yes rfl rfl rfl ?_ | (refine XG_load ?_; refine XL_load tt_ok 2 rfl rfl rfl rfl rfl rfl ?_) | (refine XG_box ?_; (refine XL_box rfl (fun _ => rfl) (fun _ => ?_); refine XL_nB (by repeat' (first | exact .nil | apply NL.cons)) ?_)) | (refine XG_call ?_; first | refine XL_fn hkd rfl rfl (fun _ _ _ => trivial) ?_ | refine XL_callE [0] (empty_is _ _ _) rfl rfl rfl (fun _ _ _ => trivial) ?_ | refine XL_callE [1] (rempty_is _ _ _) rfl rfl rfl (fun _ _ _ => trivial) ?_) | (refine XL_op tt_ok rfl rfl ?_; try (first | refine XL_dec_t (by omega) ?_ | refine XL_dec_f (by omega) ?_))) | (refine XD_id ?_; first | (refine XD_thaw thaw ?_; refine XD_nil ?_) | (refine XD_id ?_; (first | (refine XD_uL rfl ?_; refine XD_s rfl rfl rfl (XV_load tt_ok rfl (blk_at 0 rfl hM) rfl rfl rfl) rfl ?_) | (refine XD_u rfl rfl ?_; refine XD_s rfl rfl rfl (XV_op tt_ok rfl) rfl ?_)))) | (refine X_id ?_; first | (refine X_drawS (id := 1) [0, 1, 2, 3, 4, 5, 6, 7] (fun _ => .s) 8 (by repeat' (first | exact Split.nil | apply Split.blk | apply Split.keep)) mixed (by decide +kernel) ?_; intro G hFG hM thaw; show XD _ _ _ _ _ _ [0, 1, 2, 3, 4, 5, 6, 7] _ _ _) | refine X_seq ?_ | (refine X_regionN (by repeat' (first | exact .nil | apply NL.cons)) ?_) | refine X_skip ?_ | refine X_ret ?_ | refine X_block ?_ | refine X_cond_f rfl ?_) | (refine Y_id ?_; first | refine Y_then ?_ | refine Y_block_normal ?_))
    all_goals first
      | exact Y_ret1 rfl rfl (stars_only [1, 0] rfl) ⟨rfl, rfl⟩
      | exact Y_ret1 rfl rfl (stars_only [0, 0] rfl) ⟨rfl, rfl⟩
      | exact Y_ret1 rfl rfl (stars_only [3, 2] rfl) ⟨rfl, rfl⟩
      | exact Y_ret1 rfl rfl (stars_only [3, 1] rfl) ⟨rfl, rfl⟩
      | exact Y_ret1 rfl rfl (stars_only [2, 1] rfl) ⟨rfl, rfl⟩
      | (exfalso; omega)
      | skip
    
end Go.Proofs.Ytocilbkjbikeeaa
