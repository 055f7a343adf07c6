/- Lists of faults, compared. -/
import Derived.Test.YtpokfingnflblaaWj
set_option linter.unusedVariables false
namespace Go.Proofs.Ytpokfingnflblaa
open Go.RowKit Go.Cof

theorem eqFl : EqE Try.prog Tt 37 encFl := EqE.ofT tt_ok [37] (by decide +kernel) (by kernel_rfl) 3 rfl fun a b => by
  show some (decide (a.e = b.e) && (decide (a.a = b.a) && true)) = _
  refine congrArg some ?_
  obtain ⟨a1, p1⟩ := a
  obtain ⟨a2, p2⟩ := b
  by_cases h1 : a1 = a2 <;> by_cases h2 : p1 = p2 <;> simp [h1, h2]
theorem same_spec (A B : Option Addr) (m c m' c' : Nat) (xs ys : List Fl) (hm : m ≤ 100000) (hm' : m' ≤ 100000) : FnC Try.prog 11 [.slice A m c, .slice B m' c'] (fun h => rdS encFl h A m xs ∧ rdS encFl h B m' ys) (.bool (decide (xs = ys))) := by
  refine Ctr.intro Try.func11 rfl rfl (by decide +kernel) fun F hpre => ?_
  have r1 : rdS encFl F.heap A m xs := hpre.1
  have r2 : rdS encFl F.heap B m' ys := hpre.2
  have hl1 := r1.1
  have hl2 := r2.1
  repeat' (first | (refine XL_id ?_; first | refine XL_nil ?_ | (refine XL_op tt_ok rfl rfl ?_; try (refine XL_dec (fun _ => ?_) (fun _ => ?_)))) | (refine X_id ?_; first | refine X_seq ?_ | (refine X_regionN (by repeat' (exact .nil)) ?_) | refine X_skip ?_ | refine X_ret ?_ | refine X_block ?_ | refine X_cond_t rfl ?_ | refine X_cond_f rfl ?_) | (refine Y_id ?_; first | refine Y_then ?_ | refine Y_then_ret ?_))
  · exact Y_fn1 rfl rfl (bool_f fun h => by rw [h] at hl1; omega)
  have hll : xs.length = ys.length := by omega
  refine X_loopD [0, 1] (fun (i : Nat) => [(5, .int .i64 i)]) (fun _ => []) (fun i => i ≤ m ∧ ∀ j : Nat, j < i → Cof.get xs j = Cof.get ys j) (fun i => m - i) 0 rfl ⟨Nat.zero_le _, fun j hj => by omega⟩ (by (repeat' (first | exact trivial | refine And.intro rfl ?_)); done) (fun _ h => h) ?_
  intro i hi
  obtain ⟨hi, hx⟩ := hi
  by_cases hlt : i < m
  · repeat' (first | (refine XL_id ?_; first | refine XL_nil ?_ | (refine XL_op tt_ok rfl rfl ?_; try (first | refine XL_int (wrap_i64 (by omega) (by omega)) ?_ | refine XL_dec_t (by omega) ?_))) | (refine XD_id ?_; first | (refine XD_thaw thaw ?_; refine XD_nil ?_) | (refine XD_id ?_; (first | (refine XD_uL rfl ?_; refine XD_s rfl rfl rfl (XV_elW tt_ok rfl (rdS.le (by assumption) hFG) rfl (by omega) (by omega) rfl rfl rfl) rfl ?_) | (refine XD_uI rfl ?_; refine XD_s rfl rfl rfl (XV_idx tt_ok rfl rfl rfl rfl rfl (rdS.le (by assumption) hFG) (by omega) (by omega)) rfl ?_) | (refine XD_u rfl rfl ?_; first | refine XD_s rfl rfl rfl (XV_op tt_ok rfl) rfl ?_ | refine XD_s rfl rfl rfl (XV_neq eqFl rfl rfl) rfl ?_)); try (refine XD_dec (fun _ => ?_) (fun _ => ?_)))) | (refine X_id ?_; first | (refine X_drawS (id := 6) [0, 1, 2, 3, 4, 5, 6, 7, 8] (fun _ => .s) 8 (by repeat' (exact Split.nil)) mixed (by decide +kernel) ?_; intro G hFG hM thaw; show XD _ _ _ _ _ _ [0, 1, 2, 3, 4, 5, 6, 7, 8] _ _ _) | refine X_seq ?_ | (refine X_regionN (by repeat' (exact .nil)) ?_) | refine X_skip ?_ | refine X_ret ?_ | refine X_block ?_ | refine X_cond_t rfl ?_ | refine X_cond_f rfl ?_) | (refine Y_id ?_; first | refine Y_then ?_ | refine Y_then_ret ?_ | refine Y_block_normal ?_ | refine Y_block_ret ?_))
    all_goals first
      | exact Y_fn1 rfl rfl (bool_f fun h => by rename_i hn; exact hn (by rw [h]))
      | exact Y_again (i + 1) fun _ _ hf hs => ⟨⟨by omega, fun j hj => by
          by_cases hj2 : j < i
          · exact hx j hj2
          · obtain rfl : j = i := by omega
            exact Decidable.of_not_not (by assumption)⟩, by omega, hf.sub (by (repeat' (first | exact trivial | refine And.intro rfl ?_)); done), hs.imp fun _ _ => trivial⟩
      | skip
    
  · repeat' (first | (refine XL_id ?_; first | refine XL_nil ?_ | (refine XL_op tt_ok rfl rfl ?_; try (refine XL_dec_f (by omega) ?_))) | (refine X_id ?_; first | refine X_seq ?_ | (refine X_regionN (by repeat' (exact .nil)) ?_) | refine X_ret ?_ | refine X_exit ?_ | refine X_cond_f rfl ?_) | (refine Y_id ?_; first | refine Y_then ?_ | refine Y_then_exit ?_ | refine Y_block_hit ?_))
    exact Y_fn1 rfl rfl (bool_t (get_ext hll fun j hj => hx j (by omega)))
end Go.Proofs.Ytpokfingnflblaa
