/- The laws AddrSplits, AddrIndexes, AddrRuns, AddrPlaces, AddrBack, walked, over works. -/
import Derived.Test.YtgoebgefhgffcaaWb
set_option linter.unusedVariables false
namespace Go.Proofs.Ytgoebgefhgffcaa
open Go.RowKit Go.Cof

theorem addrSplits_walk (va p o : Int) (h : u64In va) : FnC Try.prog 3 [uV va, iV p, iV o] (fun _ => True) (.bool true) := by
  have h1 := split_spec va h
  have h2 := rsplit_spec va h
  have h3 := join_spec p o
  have h4 := rjoin_spec p o
  obtain ⟨⟨a, b, e⟩, hs⟩ : ∃ x, x = splitF va := ⟨_, rfl⟩
  obtain ⟨⟨c, f⟩, hj⟩ : ∃ x, x = joinF p o := ⟨_, rfl⟩
  rw [← hs] at h1 h2
  rw [← hj] at h3 h4
  dsimp only at h1 h2 h3 h4
  refine Ctr.intro Try.func3 rfl rfl (by decide +kernel) fun F hpre => ?_
  repeat' (first | (refine XL_id ?_; first | refine XL_nil ?_ | refine XL_guard_yes rfl rfl rfl ?_ | (refine XG_call ?_; first | refine XL_fn h1 rfl rfl (fun _ _ _ => trivial) ?_ | refine XL_fn h2 rfl rfl (fun _ _ _ => trivial) ?_ | refine XL_fn h3 rfl rfl (fun _ _ _ => trivial) ?_ | refine XL_fn h4 rfl rfl (fun _ _ _ => trivial) ?_ | refine XL_fn works_spec rfl rfl (fun _ _ _ => trivial) ?_) | (refine XL_op tt_ok rfl rfl ?_; try (refine XL_dec_t (by omega) ?_))) | (refine X_id ?_; first | refine X_seq ?_ | (refine X_regionN (by repeat' (exact .nil)) ?_) | refine X_ret ?_) | (refine Y_id ?_; refine Y_then ?_))
  all_goals first
    | exact Y_fn1 rfl rfl rfl
    | (exfalso; rename_i h9; exact absurd rfl h9)
    | (exfalso; omega)
    | skip
  
theorem addrIndexes_walk (p k : Int) : FnC Try.prog 4 [iV p, iV k] (fun _ => True) (.bool true) := by
  have h1 := index_spec p k
  have h2 := rindex_spec p k
  have h3 := table_spec p k
  have h4 := rtable_spec p k
  obtain ⟨⟨a, e⟩, hs⟩ : ∃ x, x = indexF p k := ⟨_, rfl⟩
  obtain ⟨⟨c, f⟩, hj⟩ : ∃ x, x = tableF p k := ⟨_, rfl⟩
  rw [← hs] at h1 h2
  rw [← hj] at h3 h4
  dsimp only at h1 h2 h3 h4
  refine Ctr.intro Try.func4 rfl rfl (by decide +kernel) fun F hpre => ?_
  repeat' (first | (refine XL_id ?_; first | refine XL_nil ?_ | refine XL_guard_yes rfl rfl rfl ?_ | (refine XG_call ?_; first | refine XL_fn h1 rfl rfl (fun _ _ _ => trivial) ?_ | refine XL_fn h2 rfl rfl (fun _ _ _ => trivial) ?_ | refine XL_fn h3 rfl rfl (fun _ _ _ => trivial) ?_ | refine XL_fn h4 rfl rfl (fun _ _ _ => trivial) ?_ | refine XL_fn works_spec rfl rfl (fun _ _ _ => trivial) ?_) | (refine XL_op tt_ok rfl rfl ?_; try (refine XL_dec_t (by omega) ?_))) | (refine X_id ?_; first | refine X_seq ?_ | (refine X_regionN (by repeat' (exact .nil)) ?_) | refine X_ret ?_) | (refine Y_id ?_; refine Y_then ?_))
  all_goals first
    | exact Y_fn1 rfl rfl rfl
    | (exfalso; rename_i h9; exact absurd rfl h9)
    | (exfalso; omega)
    | skip
  
theorem addrRuns_walk (va s : Int) (h : u64In va) (hs : i64In s) : FnC Try.prog 7 [uV va, iV s] (fun _ => True) (.bool true) := by
  have h1 := run_spec va s h hs
  have h2 := rrun_spec va s h hs
  obtain ⟨⟨a, b, e⟩, hr⟩ : ∃ x, x = runF va s := ⟨_, rfl⟩
  rw [← hr] at h1 h2
  dsimp only at h1 h2
  refine Ctr.intro Try.func7 rfl rfl (by decide +kernel) fun F hpre => ?_
  repeat' (first | (refine XL_id ?_; first | refine XL_nil ?_ | refine XL_guard_yes rfl rfl rfl ?_ | (refine XG_call ?_; first | refine XL_fn h1 rfl rfl (fun _ _ _ => trivial) ?_ | refine XL_fn h2 rfl rfl (fun _ _ _ => trivial) ?_ | refine XL_fn works_spec rfl rfl (fun _ _ _ => trivial) ?_) | (refine XL_op tt_ok rfl rfl ?_; try (refine XL_dec_t (by omega) ?_))) | (refine X_id ?_; first | refine X_seq ?_ | (refine X_regionN (by repeat' (exact .nil)) ?_) | refine X_ret ?_) | (refine Y_id ?_; refine Y_then ?_))
  all_goals first
    | exact Y_fn1 rfl rfl rfl
    | (exfalso; rename_i h9; exact absurd rfl h9)
    | (exfalso; omega)
    | skip
  
theorem addrPlaces_walk (fr o pa : Int) (h : u64In pa) : FnC Try.prog 8 [iV fr, iV o, uV pa] (fun _ => True) (.bool true) := by
  have h1 := place_spec fr o
  have h2 := rplace_spec fr o
  have h3 := frame_spec pa h
  have h4 := rframe_spec pa h
  have h5 := line_spec pa h
  have h6 := rline_spec pa h
  obtain ⟨⟨a, b⟩, g1⟩ : ∃ x, x = placeF fr o := ⟨_, rfl⟩
  obtain ⟨⟨c, d, e⟩, g2⟩ : ∃ x, x = frameF pa := ⟨_, rfl⟩
  obtain ⟨⟨f, i⟩, g3⟩ : ∃ x, x = lineF pa := ⟨_, rfl⟩
  rw [← g1] at h1 h2
  rw [← g2] at h3 h4
  rw [← g3] at h5 h6
  dsimp only at h1 h2 h3 h4 h5 h6
  refine Ctr.intro Try.func8 rfl rfl (by decide +kernel) fun F hpre => ?_
  repeat' (first | (refine XL_id ?_; first | refine XL_nil ?_ | refine XL_guard_yes rfl rfl rfl ?_ | (refine XG_call ?_; first | refine XL_fn h1 rfl rfl (fun _ _ _ => trivial) ?_ | refine XL_fn h2 rfl rfl (fun _ _ _ => trivial) ?_ | refine XL_fn h3 rfl rfl (fun _ _ _ => trivial) ?_ | refine XL_fn h4 rfl rfl (fun _ _ _ => trivial) ?_ | refine XL_fn h5 rfl rfl (fun _ _ _ => trivial) ?_ | refine XL_fn h6 rfl rfl (fun _ _ _ => trivial) ?_ | refine XL_fn works_spec rfl rfl (fun _ _ _ => trivial) ?_) | (refine XL_op tt_ok rfl rfl ?_; try (refine XL_dec_t (by omega) ?_))) | (refine X_id ?_; first | refine X_seq ?_ | (refine X_regionN (by repeat' (exact .nil)) ?_) | refine X_ret ?_) | (refine Y_id ?_; refine Y_then ?_))
  all_goals first
    | exact Y_fn1 rfl rfl rfl
    | (exfalso; rename_i h9; exact absurd rfl h9)
    | (exfalso; omega)
    | skip
  
theorem digits (p : Int) (h0 : 0 ≤ p) (h1 : p < 1048576) : p / 32768 % 32 = p / 32768 ∧ p / 32768 * 32 + p / 1024 % 32 = p / 1024 ∧ p / 1024 * 32 + p / 32 % 32 = p / 32 ∧ p / 32 * 32 + p % 32 = p ∧ p / 1048576 = 0 := by omega
theorem join_is {p o : Int} (h : 0 ≤ p ∧ p < 1048576 ∧ 0 ≤ o ∧ o < 256) : FnC Try.prog 13 [iV p, iV o] (fun _ => True) (pr2 (uV (p * 256 + o)) (iV 0)) := by
  have := join_spec p o
  unfold joinF at this
  rw [if_pos h] at this
  exact this
theorem join_no {p o : Int} (h : ¬ (0 ≤ p ∧ p < 1048576 ∧ 0 ≤ o ∧ o < 256)) : FnC Try.prog 13 [iV p, iV o] (fun _ => True) (pr2 (uV 0) (iV 2)) := by
  have := join_spec p o
  unfold joinF at this
  rw [if_neg h] at this
  exact this
theorem place_is {p o : Int} (h : 0 ≤ p ∧ p < 4096 ∧ 0 ≤ o ∧ o < 256) : FnC Try.prog 26 [iV p, iV o] (fun _ => True) (pr2 (uV (p * 256 + o)) (iV 0)) := by
  have := place_spec p o
  unfold placeF at this
  rw [if_pos h] at this
  exact this
theorem place_no {p o : Int} (h : ¬ (0 ≤ p ∧ p < 4096 ∧ 0 ≤ o ∧ o < 256)) : FnC Try.prog 26 [iV p, iV o] (fun _ => True) (pr2 (uV 0) (iV 2)) := by
  have := place_spec p o
  unfold placeF at this
  rw [if_neg h] at this
  exact this
theorem split_is {va : Int} (h0 : 0 ≤ va) (h : va < 268435456) : FnC Try.prog 11 [uV va] (fun _ => True) (tr3 (iV (va / 256)) (iV (va % 256)) (iV 0)) := by
  have := split_spec va ⟨h0, by omega⟩
  unfold splitF at this
  rw [if_pos h] at this
  exact this
theorem frame_is {va : Int} (h0 : 0 ≤ va) (h : va < 1048576) : FnC Try.prog 28 [uV va] (fun _ => True) (tr3 (iV (va / 256)) (iV (va % 256)) (iV 0)) := by
  have := frame_spec va ⟨h0, by omega⟩
  unfold frameF at this
  rw [if_pos h] at this
  exact this
theorem line_is {va : Int} (h0 : 0 ≤ va) (h : va < 1048576) : FnC Try.prog 30 [uV va] (fun _ => True) (pr2 (iV (va / 16)) (iV 0)) := by
  have := line_spec va ⟨h0, by omega⟩
  unfold lineF at this
  rw [if_pos h] at this
  exact this
theorem index_is {p : Int} (k d : Int) (hd : pow32 k = d) (h : lvl p k) : FnC Try.prog 16 [iV p, iV k] (fun _ => True) (pr2 (iV (p / d % 32)) (iV 0)) := by
  have := index_spec p k
  unfold indexF at this
  rw [if_pos h, hd] at this
  exact this
theorem table_is {p : Int} (k d : Int) (hd : pow32 (k + 1) = d) (h : lvl p k) : FnC Try.prog 18 [iV p, iV k] (fun _ => True) (pr2 (iV (p / d)) (iV 0)) := by
  have := table_spec p k
  unfold tableF at this
  rw [if_pos h, hd] at this
  exact this
set_option maxRecDepth 100000 in
set_option maxHeartbeats 16000000 in
theorem addrBack_walk (p fr o : Int) : FnC Try.prog 9 [iV p, iV fr, iV o] (fun _ => True) (.bool true) := by
  refine Ctr.intro Try.func9 rfl rfl (by decide +kernel) fun F hpre => ?_
  by_cases hj : 0 ≤ p ∧ p < 1048576 ∧ 0 ≤ o ∧ o < 256 <;> by_cases hq : 0 ≤ fr ∧ fr < 4096 ∧ 0 ≤ o ∧ o < 256
  · have h0 : lvl p 0 := ⟨by omega, by omega, by decide, by decide⟩
    have h1 : lvl p 1 := ⟨by omega, by omega, by decide, by decide⟩
    have h2 : lvl p 2 := ⟨by omega, by omega, by decide, by decide⟩
    have h3 : lvl p 3 := ⟨by omega, by omega, by decide, by decide⟩
    have hdg := digits p hj.1 hj.2.1
    repeat' (first | (refine XL_id ?_; first | refine XL_nil ?_ | refine XL_guard_yes rfl rfl rfl ?_ | (refine XG_call ?_; first | refine XL_fn works_spec rfl rfl (fun _ _ _ => trivial) ?_ | refine XL_fn (join_is hj) rfl rfl (fun _ _ _ => trivial) ?_ | refine XL_fn (split_is (va := p * 256 + o) (by omega) (by omega)) rfl rfl (fun _ _ _ => trivial) ?_ | refine XL_fn (index_is (p := p) 0 1 rfl h0) rfl rfl (fun _ _ _ => trivial) ?_ | refine XL_fn (index_is (p := p) 1 32 rfl h1) rfl rfl (fun _ _ _ => trivial) ?_ | refine XL_fn (index_is (p := p) 2 1024 rfl h2) rfl rfl (fun _ _ _ => trivial) ?_ | refine XL_fn (index_is (p := p) 3 32768 rfl h3) rfl rfl (fun _ _ _ => trivial) ?_ | refine XL_fn (table_is (p := p) 0 32 rfl h0) rfl rfl (fun _ _ _ => trivial) ?_ | refine XL_fn (table_is (p := p) 1 1024 rfl h1) rfl rfl (fun _ _ _ => trivial) ?_ | refine XL_fn (table_is (p := p) 2 32768 rfl h2) rfl rfl (fun _ _ _ => trivial) ?_ | refine XL_fn (table_is (p := p) 3 1048576 rfl h3) rfl rfl (fun _ _ _ => trivial) ?_ | refine XL_fn (place_is hq) rfl rfl (fun _ _ _ => trivial) ?_ | refine XL_fn (frame_is (va := fr * 256 + o) (by omega) (by omega)) rfl rfl (fun _ _ _ => trivial) ?_ | refine XL_fn (line_is (va := fr * 256 + o) (by omega) (by omega)) rfl rfl (fun _ _ _ => trivial) ?_ | refine XL_fn (line_is (va := fr * 256 + o - (fr * 256 + o) % 16) (by omega) (by omega)) rfl rfl (fun _ _ _ => trivial) ?_) | (refine XL_op tt_ok rfl rfl ?_; try (first | (refine XL_int (Eq.trans (wrap_i64 (by omega) (by omega)) (by simp only [Int.reduceAdd, Int.reduceSub, Int.reduceMul, Int.reduceNeg]; rfl)) ?_) | refine XL_int (shr8) ?_ | refine XL_int (wrap_i64 (by omega) (by omega)) ?_ | refine XL_int (wrap_u64 (by omega) (by omega)) ?_ | refine XL_int (quo_i64 (by omega) (by omega) (by omega)) ?_ | refine XL_int (rem_pos (by omega)) ?_ | refine XL_dec_t (by omega) ?_ | refine XL_dec_f (by omega) ?_))) | (refine X_id ?_; first | refine X_unroll 4 ?_ | refine X_seq ?_ | (refine X_regionN (by repeat' (exact .nil)) ?_) | refine X_skip ?_ | refine X_ret ?_ | refine X_exit ?_ | refine X_block ?_ | refine X_cond_t rfl ?_ | refine X_cond_f rfl ?_) | (refine Y_id ?_; first | refine Y_unroll ?_ | refine Y_then ?_ | refine Y_then_exit ?_ | refine Y_block_hit ?_ | refine Y_block_normal ?_))
    all_goals first
      | exact Y_fn1 rfl rfl rfl
      | (exfalso; rename_i h9; exact absurd rfl h9)
      | (exfalso; omega)
      | skip
    
  · have h0 : lvl p 0 := ⟨by omega, by omega, by decide, by decide⟩
    have h1 : lvl p 1 := ⟨by omega, by omega, by decide, by decide⟩
    have h2 : lvl p 2 := ⟨by omega, by omega, by decide, by decide⟩
    have h3 : lvl p 3 := ⟨by omega, by omega, by decide, by decide⟩
    have hdg := digits p hj.1 hj.2.1
    repeat' (first | (refine XL_id ?_; first | refine XL_nil ?_ | refine XL_guard_yes rfl rfl rfl ?_ | (refine XG_call ?_; first | refine XL_fn works_spec rfl rfl (fun _ _ _ => trivial) ?_ | refine XL_fn (join_is hj) rfl rfl (fun _ _ _ => trivial) ?_ | refine XL_fn (split_is (va := p * 256 + o) (by omega) (by omega)) rfl rfl (fun _ _ _ => trivial) ?_ | refine XL_fn (index_is (p := p) 0 1 rfl h0) rfl rfl (fun _ _ _ => trivial) ?_ | refine XL_fn (index_is (p := p) 1 32 rfl h1) rfl rfl (fun _ _ _ => trivial) ?_ | refine XL_fn (index_is (p := p) 2 1024 rfl h2) rfl rfl (fun _ _ _ => trivial) ?_ | refine XL_fn (index_is (p := p) 3 32768 rfl h3) rfl rfl (fun _ _ _ => trivial) ?_ | refine XL_fn (table_is (p := p) 0 32 rfl h0) rfl rfl (fun _ _ _ => trivial) ?_ | refine XL_fn (table_is (p := p) 1 1024 rfl h1) rfl rfl (fun _ _ _ => trivial) ?_ | refine XL_fn (table_is (p := p) 2 32768 rfl h2) rfl rfl (fun _ _ _ => trivial) ?_ | refine XL_fn (table_is (p := p) 3 1048576 rfl h3) rfl rfl (fun _ _ _ => trivial) ?_ | refine XL_fn (place_no hq) rfl rfl (fun _ _ _ => trivial) ?_) | (refine XL_op tt_ok rfl rfl ?_; try (first | (refine XL_int (Eq.trans (wrap_i64 (by omega) (by omega)) (by simp only [Int.reduceAdd, Int.reduceSub, Int.reduceMul, Int.reduceNeg]; rfl)) ?_) | refine XL_int (shr8) ?_ | refine XL_int (wrap_i64 (by omega) (by omega)) ?_ | refine XL_dec_t (by omega) ?_ | refine XL_dec_f (by omega) ?_))) | (refine X_id ?_; first | refine X_unroll 4 ?_ | refine X_seq ?_ | (refine X_regionN (by repeat' (exact .nil)) ?_) | refine X_skip ?_ | refine X_ret ?_ | refine X_exit ?_ | refine X_block ?_ | refine X_cond_t rfl ?_ | refine X_cond_f rfl ?_) | (refine Y_id ?_; first | refine Y_unroll ?_ | refine Y_then ?_ | refine Y_then_ret ?_ | refine Y_then_exit ?_ | refine Y_block_hit ?_ | refine Y_block_normal ?_))
    all_goals first
      | exact Y_fn1 rfl rfl rfl
      | (exfalso; rename_i h9; exact absurd rfl h9)
      | (exfalso; omega)
      | skip
    
  · repeat' (first | (refine XL_id ?_; first | refine XL_nil ?_ | refine XL_guard_yes rfl rfl rfl ?_ | (refine XG_call ?_; first | refine XL_fn works_spec rfl rfl (fun _ _ _ => trivial) ?_ | refine XL_fn (join_no hj) rfl rfl (fun _ _ _ => trivial) ?_ | refine XL_fn (place_is hq) rfl rfl (fun _ _ _ => trivial) ?_ | refine XL_fn (frame_is (va := fr * 256 + o) (by omega) (by omega)) rfl rfl (fun _ _ _ => trivial) ?_ | refine XL_fn (line_is (va := fr * 256 + o) (by omega) (by omega)) rfl rfl (fun _ _ _ => trivial) ?_ | refine XL_fn (line_is (va := fr * 256 + o - (fr * 256 + o) % 16) (by omega) (by omega)) rfl rfl (fun _ _ _ => trivial) ?_) | (refine XL_op tt_ok rfl rfl ?_; try (first | refine XL_int (shr8) ?_ | refine XL_int (wrap_i64 (by omega) (by omega)) ?_ | refine XL_int (wrap_u64 (by omega) (by omega)) ?_ | refine XL_int (quo_i64 (by omega) (by omega) (by omega)) ?_ | refine XL_int (rem_pos (by omega)) ?_ | refine XL_dec_t (by omega) ?_ | refine XL_dec_f (by omega) ?_))) | (refine X_id ?_; first | refine X_seq ?_ | (refine X_regionN (by repeat' (exact .nil)) ?_) | refine X_skip ?_ | refine X_ret ?_ | refine X_cond_f rfl ?_) | (refine Y_id ?_; refine Y_then ?_))
    all_goals first
      | exact Y_fn1 rfl rfl rfl
      | (exfalso; rename_i h9; exact absurd rfl h9)
      | (exfalso; omega)
      | skip
    
  · repeat' (first | (refine XL_id ?_; first | refine XL_nil ?_ | (refine XG_call ?_; first | refine XL_fn works_spec rfl rfl (fun _ _ _ => trivial) ?_ | refine XL_fn (join_no hj) rfl rfl (fun _ _ _ => trivial) ?_ | refine XL_fn (place_no hq) rfl rfl (fun _ _ _ => trivial) ?_) | (refine XL_op tt_ok rfl rfl ?_; try (first | refine XL_dec_t (by omega) ?_ | refine XL_dec_f (by omega) ?_))) | (refine X_id ?_; first | refine X_seq ?_ | (refine X_regionN (by repeat' (exact .nil)) ?_) | refine X_skip ?_ | refine X_ret ?_ | refine X_cond_t rfl ?_ | refine X_cond_f rfl ?_) | (refine Y_id ?_; first | refine Y_then ?_ | refine Y_then_ret ?_))
    all_goals first
      | exact Y_fn1 rfl rfl rfl
      | (exfalso; rename_i h9; exact absurd rfl h9)
      | (exfalso; omega)
      | skip
    
end Go.Proofs.Ytgoebgefhgffcaa
