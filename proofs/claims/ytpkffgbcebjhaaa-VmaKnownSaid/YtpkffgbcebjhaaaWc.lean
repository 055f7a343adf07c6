/- Walk of the program's Check. -/
import Derived.Test.YtpkffgbcebjhaaaWb
set_option linter.unusedVariables false
namespace Go.Proofs.Ytpkffgbcebjhaaa
open Go.RowKit Go.Cof

theorem okAt_rg {l : List Rg} {i : Nat} (h : okAt l i = true) : (Cof.get l (i : Int)).Ok := by
  simp only [okAt, Bool.and_eq_true, pgs, prm, decide_eq_true_eq] at h
  obtain ⟨⟨⟨h1, h2, h3, h4⟩, h5⟩, _⟩ := h
  exact ⟨h1, h3, by omega, h5⟩
theorem checkE_few {l : List Rg} (h : 1024 < l.length) : checkE l = 3 := by unfold checkE; rw [if_pos h]
theorem checkE_bad {l : List Rg} {i : Nat} (h : ¬ 1024 < l.length) (hi : i < l.length) (hb : okAt l i = false) : checkE l = 2 := by
  unfold checkE
  rw [if_neg h, if_neg]
  intro ha
  have := List.all_eq_true.1 ha i (List.mem_range.2 hi)
  rw [hb] at this
  cases this
theorem checkE_ok {l : List Rg} (h : ¬ 1024 < l.length) (ha : ∀ i : Nat, i < l.length → okAt l i = true) : checkE l = 0 := by
  unfold checkE
  rw [if_neg h, if_pos (List.all_eq_true.2 fun i hi => ha i (List.mem_range.1 hi))]
theorem okAt_bad {l : List Rg} {i : Nat} (h0 : 0 < i) (h : (Cof.get l i).p < (Cof.get l ((i : Int) - 1)).end ∨ (Cof.get l ((i : Int) - 1)).end = (Cof.get l i).p ∧ (Cof.get l ((i : Int) - 1)).m = (Cof.get l i).m) : okAt l i = false := by
  have e1 : decide (i = 0) = false := decide_eq_false (by omega)
  have e2 : follows (Cof.get l ((i : Int) - 1)) (Cof.get l i) = false := by unfold follows; rw [decide_eq_true h]; rfl
  simp [okAt, e1, e2]
theorem okAt_good {l : List Rg} {i : Nat} (hp : pgs (Cof.get l i).p (Cof.get l i).n = true) (hq : prm (Cof.get l i).m = true) (h : i = 0 ∨ ¬ ((Cof.get l i).p < (Cof.get l ((i : Int) - 1)).end ∨ (Cof.get l ((i : Int) - 1)).end = (Cof.get l i).p ∧ (Cof.get l ((i : Int) - 1)).m = (Cof.get l i).m)) : okAt l i = true := by
  unfold okAt
  rw [hp, hq]
  rcases h with h | h
  · rw [decide_eq_true h]; rfl
  · have e2 : follows (Cof.get l ((i : Int) - 1)) (Cof.get l i) = true := by unfold follows; rw [decide_eq_false h]; rfl
    rw [e2]; simp
theorem upto_succ {p : Nat → Prop} {i : Nat} (h : ∀ j, j < i → p j) (hi : p i) : ∀ j, j < i + 1 → p j := fun j hj => by
  by_cases hj2 : j < i
  · exact h j hj2
  · obtain rfl : j = i := by omega
    exact hi
set_option maxHeartbeats 4000000 in
theorem check_spec (A : Option Addr) (m c : Nat) (l : List Rg) (hm : m ≤ 9223372036854775807) (hl : ∀ r ∈ l, r.In) : FnC Try.prog 12 [.slice A m c] (fun h => rdS encRg h A m l) (.int .i64 (checkE l)) := by
  refine Ctr.intro Try.func12 rfl rfl (by decide +kernel) fun F hpre => ?_
  have r1 : rdS encRg F.heap A m l := hpre
  have hlen := r1.1
  by_cases hf : 1024 < m
  · repeat' (first | (refine XL_id ?_; first | refine XL_nil ?_ | (refine XG_call ?_; (refine XL_op tt_ok rfl rfl ?_)) | (refine XL_op tt_ok rfl rfl ?_; try (refine XL_dec_t (by omega) ?_))) | (refine X_id ?_; first | refine X_seq ?_ | refine X_region ?_ | refine X_ret ?_ | refine X_cond_t rfl ?_) | (refine Y_id ?_; first | refine Y_then ?_ | refine Y_then_ret ?_))
    all_goals (try (exfalso; omega))
    exact Y_fn1 rfl rfl (by rw [checkE_few (by omega)])
  repeat' (first | (refine XL_id ?_; first | refine XL_nil ?_ | (refine XG_call ?_; (refine XL_op tt_ok rfl rfl ?_)) | (refine XL_op tt_ok rfl rfl ?_; try (refine XL_dec_f (by omega) ?_))) | (refine X_id ?_; first | refine X_seq ?_ | refine X_region ?_ | refine X_skip ?_ | refine X_block ?_ | refine X_cond_f rfl ?_) | (refine Y_id ?_; refine Y_then ?_))
  all_goals (try (exfalso; omega))
  refine X_loop (ι := Nat) (fun i => [(0, .slice A m c), (8, .slice A m c), (9, .int .i64 m), (10, .int .i64 i)]) (fun _ => []) (fun i => i ≤ m ∧ ∀ j : Nat, j < i → okAt l j = true) (fun i => m - i) 0 ⟨Nat.zero_le _, fun j hj => by omega⟩ (by (repeat' (first | exact trivial | refine And.intro rfl ?_)); done) (fun _ h => h) ?_
  intro i hi
  obtain ⟨hi, hx⟩ := hi
  by_cases hlt : i < m
  · have hin := hl _ (get_mem (l := l) (i := (i : Int)) (by omega) (by omega))
    have k1 := hin.p; have k2 := hin.n; have k3 := hin.m
    have kp : 0 < i → (Cof.get l ((i : Int) - 1)).Ok := fun h0 => by
      have := okAt_rg (hx (i - 1) (by omega))
      rwa [show ((i - 1 : Nat) : Int) = (i : Int) - 1 from by omega] at this
    cases hp : pgs (Cof.get l i).p (Cof.get l i).n with
    | false =>
      have hs := pages_spec (Cof.get l i).p (Cof.get l i).n (by omega) (by omega)
      rw [hp] at hs
      repeat' (first | (refine XL_id ?_; first | refine XL_nil ?_ | refine XL_guard_no rfl rfl rfl rfl rfl ?_ | (refine XG_alloc ?_; refine XL_alloc tt_ok rfl rfl (fun _ => rfl) (fun b => ?_)) | (refine XG_load ?_; first | refine XL_load tt_ok 0 rfl rfl rfl rfl rfl rfl ?_ | refine XL_elW tt_ok rfl (by assumption) rfl (by omega) (by omega) rfl rfl rfl rfl ?_) | (refine XG_idx ?_; refine XL_idx tt_ok rfl rfl rfl rfl rfl (by assumption) (by omega) (by omega) rfl ?_) | (refine XG_store ?_; refine XL_store tt_ok 0 rfl rfl rfl rfl rfl rfl rfl rfl ?_) | (refine XG_call ?_; refine XL_fn hs rfl rfl (fun _ _ _ => trivial) ?_) | (refine XL_op tt_ok rfl rfl ?_; try (refine XL_dec_t (by omega) ?_))) | (refine X_id ?_; first | refine X_seq ?_ | refine X_region ?_ | refine X_skip ?_ | refine X_ret ?_ | refine X_block ?_ | refine X_cond_t rfl ?_) | (refine Y_id ?_; first | refine Y_then ?_ | refine Y_then_ret ?_ | refine Y_block_ret ?_))
      exact Y_fn1 rfl rfl (by rw [checkE_bad (i := i) (by omega) (by omega) (by simp [okAt, hp])])
    | true =>
      have hs := pages_spec (Cof.get l i).p (Cof.get l i).n (by omega) (by omega)
      rw [hp] at hs
      cases hq : prm (Cof.get l i).m with
      | false =>
        have hs2 := perms_spec (Cof.get l i).m
        rw [hq] at hs2
        repeat' (first | (refine XL_id ?_; first | refine XL_nil ?_ | refine XL_guard_yes rfl rfl rfl ?_ | (refine XG_alloc ?_; refine XL_alloc tt_ok rfl rfl (fun _ => rfl) (fun b => ?_)) | (refine XG_load ?_; first | refine XL_load tt_ok 0 rfl rfl rfl rfl rfl rfl ?_ | refine XL_elW tt_ok rfl (by assumption) rfl (by omega) (by omega) rfl rfl rfl rfl ?_) | (refine XG_idx ?_; refine XL_idx tt_ok rfl rfl rfl rfl rfl (by assumption) (by omega) (by omega) rfl ?_) | (refine XG_store ?_; refine XL_store tt_ok 0 rfl rfl rfl rfl rfl rfl rfl rfl ?_) | (refine XG_call ?_; first | refine XL_fn hs rfl rfl (fun _ _ _ => trivial) ?_ | refine XL_fn hs2 rfl rfl (fun _ _ _ => trivial) ?_) | (refine XL_op tt_ok rfl rfl ?_; try (refine XL_dec_t (by omega) ?_))) | (refine X_id ?_; first | refine X_seq ?_ | refine X_region ?_ | refine X_skip ?_ | refine X_ret ?_ | refine X_block ?_ | refine X_cond_t rfl ?_) | (refine Y_id ?_; first | refine Y_then ?_ | refine Y_then_ret ?_ | refine Y_block_ret ?_))
        exact Y_fn1 rfl rfl (by rw [checkE_bad (i := i) (by omega) (by omega) (by simp [okAt, hq])])
      | true =>
        have hs2 := perms_spec (Cof.get l i).m
        rw [hq] at hs2
        repeat' (first | (refine XL_id ?_; first | refine XL_nil ?_ | refine XL_guard_yes rfl rfl rfl ?_ | (refine XG_alloc ?_; refine XL_alloc tt_ok rfl rfl (fun _ => rfl) (fun b => ?_)) | (refine XG_load ?_; first | refine XL_load tt_ok 0 rfl rfl rfl rfl rfl rfl ?_ | refine XL_elW tt_ok rfl (by assumption) rfl (by omega) (by omega) rfl rfl rfl rfl ?_) | (refine XG_idx ?_; refine XL_idx tt_ok rfl rfl rfl rfl rfl (by assumption) (by omega) (by omega) rfl ?_) | (refine XG_store ?_; refine XL_store tt_ok 0 rfl rfl rfl rfl rfl rfl rfl rfl ?_) | (refine XG_call ?_; first | refine XL_fn hs rfl rfl (fun _ _ _ => trivial) ?_ | refine XL_fn hs2 rfl rfl (fun _ _ _ => trivial) ?_ | (refine XL_fn (end_spec (Cof.get l ((i : Int) - 1)) (by have := (kp (by omega)).p; have := (kp (by omega)).n; omega) (by have := (kp (by omega)).e; omega)) rfl rfl (fun _ _ _ => trivial) ?_)) | (refine XL_op tt_ok rfl rfl ?_; try (first | refine XL_int (wrap_i64 (by omega) (by omega)) ?_ | refine XL_dec_t (by omega) ?_))) | (refine XD_id ?_; first | (refine XD_thaw thaw ?_; refine XD_nil ?_) | refine XD_no rfl rfl rfl rfl rfl rfl ?_ | refine XD_nou rfl rfl rfl rfl rfl ?_ | (refine XD_id ?_; (first | (refine XD_gL rfl ?_; first | refine XD_sy rfl rfl rfl rfl rfl (XV_load tt_ok rfl (blk_at 0 rfl hM) rfl rfl rfl) rfl ?_ | refine XD_sy rfl rfl rfl rfl rfl (XV_elW tt_ok rfl (rdS.le (by assumption) hFG) rfl (by omega) (by omega) rfl rfl rfl) rfl ?_ | refine XD_sy rfl rfl rfl rfl rfl (XV_elf tt_ok rfl (rdS.le (by assumption) hFG) rfl (by omega) (by omega) rfl rfl rfl) rfl ?_) | (refine XD_gI rfl ?_; refine XD_sy rfl rfl rfl rfl rfl (XV_idx tt_ok rfl rfl rfl rfl rfl (rdS.le (by assumption) hFG) (by omega) (by omega)) rfl ?_) | (refine XD_u rfl rfl ?_; refine XD_s rfl rfl rfl (XV_op tt_ok rfl) rfl ?_) | (refine XD_g rfl rfl ?_; refine XD_sy rfl rfl rfl rfl rfl (XV_op tt_ok rfl) rfl ?_)); try (first | refine XD_int (wrap_i64 (by omega) (by omega)) ?_ | refine XD_dec (fun _ => ?_) (fun _ => ?_))) | refine XD_m rfl rfl ?_) | (refine X_id ?_; first | (refine X_draw (id := 8) [0, 1, 2, 3, 4, 5, 6, 7, 9, 10, 8, 11, 12, 13, 14, 15, 16, 17, 19, 20, 18, 21, 22, 23, 24, 25, 26, 27, 28, 29, 30, 31, 32, 33, 34] (fun | 8 => .m | 18 => .m | _ => .s) (fun _ => false) 8 [0] rfl mixed (by decide +kernel) ?_; intro G hFG hM thaw; show XD _ _ _ _ _ _ [0, 1, 2, 3, 4, 5, 6, 7, 9, 10, 8, 11, 12, 13, 14, 15, 16, 17, 19, 20, 18, 21, 22, 23, 24, 25, 26, 27, 28, 29, 30, 31, 32, 33, 34] _ _ _) | refine X_seq ?_ | refine X_region ?_ | refine X_skip ?_ | refine X_ret ?_ | refine X_block ?_ | refine X_cond_t rfl ?_ | refine X_cond_f rfl ?_) | (refine Y_id ?_; first | refine Y_then ?_ | refine Y_then_ret ?_ | refine Y_block_normal ?_ | refine Y_block_ret ?_ | refine Y_m ?_))
        · exact Y_fn1 rfl rfl (by rw [checkE_bad (i := i) (by omega) (by omega) (okAt_bad (by omega) (.inl (by assumption)))])
        · exact Y_fn1 rfl rfl (by rw [checkE_bad (i := i) (by omega) (by omega) (okAt_bad (by omega) (.inr ⟨by assumption, by assumption⟩))])
        · exact Y_again (i + 1) fun _ _ hf hs => ⟨⟨by omega, upto_succ hx (okAt_good hp hq (.inr fun h => h.elim (by assumption) fun h => absurd h.2 (by assumption)))⟩, by omega, hf.sub (by (repeat' (first | exact trivial | refine And.intro rfl ?_)); done), hs.imp fun _ _ => trivial⟩
        · exact Y_again (i + 1) fun _ _ hf hs => ⟨⟨by omega, upto_succ hx (okAt_good hp hq (.inr fun h => h.elim (by assumption) fun h => absurd h.1 (by assumption)))⟩, by omega, hf.sub (by (repeat' (first | exact trivial | refine And.intro rfl ?_)); done), hs.imp fun _ _ => trivial⟩
        · exact Y_again (i + 1) fun _ _ hf hs => ⟨⟨by omega, upto_succ hx (okAt_good hp hq (.inl (by omega)))⟩, by omega, hf.sub (by (repeat' (first | exact trivial | refine And.intro rfl ?_)); done), hs.imp fun _ _ => trivial⟩
  · repeat' (first | (refine XL_id ?_; first | refine XL_nil ?_ | (refine XL_op tt_ok rfl rfl ?_; try (refine XL_dec_f (by omega) ?_))) | (refine X_id ?_; first | refine X_seq ?_ | refine X_region ?_ | refine X_ret ?_ | refine X_exit ?_ | refine X_cond_f rfl ?_) | (refine Y_id ?_; first | refine Y_then ?_ | refine Y_then_exit ?_ | refine Y_block_hit ?_))
    exact Y_fn1 rfl rfl (by rw [checkE_ok (by omega) (fun j hj => hx j (by omega))])
end Go.Proofs.Ytpkffgbcebjhaaa
