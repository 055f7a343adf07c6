/- Functions over slices of numbers: Index, Contains, Delete, EqInts, Within. -/
import Derived.Test.YtmegelkbipgjbaaTab
import Derived.Test.YtmegelkbipgjbaaSlZ
set_option linter.unusedVariables false
namespace Go.Proofs.Ytmegelkbipgjbaa
open Go.RowKit Go.Cof

abbrev encN : Enc Int := encI .i64
abbrev iV (x : Int) : Value := .int .i64 x
def qI (v x : Int) : Bool := decide (v = x)
theorem firstQ_mem (v : Int) (xs : List Int) : firstQ (qI v) xs < xs.length ↔ v ∈ xs := by
  have h1 := firstQ_le (qI v) xs
  have h2 := firstQ_none (q := qI v) (l := xs)
  constructor
  · intro h
    refine Decidable.byContradiction fun hn => ?_
    have := h2.2 (fun x hx => decide_eq_false fun e => hn (e ▸ hx))
    omega
  · intro h
    refine Decidable.byContradiction fun hn => ?_
    have h3 := h2.1 (by omega) v h
    simp [qI] at h3
set_option maxHeartbeats 4000000 in
theorem eqInts_spec (A B : Option Addr) (m c m' c' : Nat) (xs ys : List Int) (hm : m ≤ 9223372036854775807) (hm' : m' ≤ 9223372036854775807) : FnC Try.prog 19 [.slice A m c, .slice B m' c'] (fun h => rdS encN h A m xs ∧ rdS encN h B m' ys) (.bool (decide (xs = ys))) := by
  refine Ctr.intro Try.func19 rfl rfl (by decide +kernel) fun F hpre => ?_
  have r1 : rdS encN F.heap A m xs := hpre.1
  have r2 : rdS encN F.heap B m' ys := hpre.2
  have hl1 := r1.1
  have hl2 := r2.1
  repeat' (first | (refine XL_id ?_; first | refine XL_nil ?_ | (refine XL_op tt_ok rfl rfl ?_; try (refine XL_dec (fun _ => ?_) (fun _ => ?_)))) | (refine X_id ?_; first | refine X_seq ?_ | (refine X_regionN (by repeat' (exact .nil)) ?_) | refine X_skip ?_ | refine X_ret ?_ | refine X_block ?_ | refine X_cond_t rfl ?_ | refine X_cond_f rfl ?_) | (refine Y_id ?_; first | refine Y_then ?_ | refine Y_then_ret ?_))
  · exact Y_fn1 rfl rfl (bool_f fun h => by rw [h] at hl1; omega)
  have hll : xs.length = ys.length := by omega
  refine X_loopD [0, 1] (fun (i : Nat) => [(5, .int .i64 i)]) (fun _ => []) (fun i => i ≤ m ∧ ∀ j : Nat, j < i → Cof.get xs j = Cof.get ys j) (fun i => m - i) 0 rfl ⟨Nat.zero_le _, fun j hj => by omega⟩ (by (repeat' (first | exact trivial | refine And.intro rfl ?_)); done) (fun _ h => h) ?_
  intro i hi
  obtain ⟨hi, hx⟩ := hi
  by_cases hlt : i < m
  · repeat' (first | (refine XL_id ?_; first | refine XL_nil ?_ | (refine XL_op tt_ok rfl rfl ?_; try (first | refine XL_int (wrap_i64 (by omega) (by omega)) ?_ | refine XL_dec_t (by omega) ?_))) | (refine XD_id ?_; first | (refine XD_thaw thaw ?_; refine XD_nil ?_) | (refine XD_id ?_; (first | (refine XD_uL rfl ?_; refine XD_s rfl rfl rfl (XV_el tt_ok rfl (rdS.le (by assumption) hFG) rfl (by omega) (by omega) rfl rfl rfl) rfl ?_) | (refine XD_uI rfl ?_; refine XD_s rfl rfl rfl (XV_idx tt_ok rfl rfl rfl rfl rfl (rdS.le (by assumption) hFG) (by omega) (by omega)) rfl ?_) | (refine XD_u rfl rfl ?_; refine XD_s rfl rfl rfl (XV_op tt_ok rfl) rfl ?_)); try (refine XD_dec (fun _ => ?_) (fun _ => ?_)))) | (refine X_id ?_; first | (refine X_drawS (id := 6) [0, 1, 2, 3, 4, 5, 6, 7, 8] (fun _ => .s) 8 (by repeat' (exact Split.nil)) mixed (by decide +kernel) ?_; intro G hFG hM thaw; show XD _ _ _ _ _ _ [0, 1, 2, 3, 4, 5, 6, 7, 8] _ _ _) | refine X_seq ?_ | (refine X_regionN (by repeat' (exact .nil)) ?_) | refine X_skip ?_ | refine X_ret ?_ | refine X_block ?_ | refine X_cond_t rfl ?_ | refine X_cond_f rfl ?_) | (refine Y_id ?_; first | refine Y_then ?_ | refine Y_then_ret ?_ | refine Y_block_normal ?_ | refine Y_block_ret ?_))
    all_goals first
      | exact Y_fn1 rfl rfl (bool_f fun h => by rename_i hn; exact hn (by rw [h]))
      | exact Y_again (i + 1) fun _ _ hf hs => ⟨⟨by omega, fun j hj => by
          by_cases hj2 : j < i
          · exact hx j hj2
          · obtain rfl : j = i := by omega
            exact Decidable.of_not_not (by assumption)⟩, by omega, hf.sub (by (repeat' (first | exact trivial | refine And.intro rfl ?_)); done), hs.imp fun _ _ => trivial⟩
      | skip
    
  · repeat' (first | (refine XL_id ?_; first | refine XL_nil ?_ | (refine XL_op tt_ok rfl rfl ?_; try (refine XL_dec_f (by omega) ?_))) | (refine X_id ?_; first | refine X_seq ?_ | (refine X_regionN (by repeat' (exact .nil)) ?_) | refine X_ret ?_ | refine X_exit ?_ | refine X_cond_f rfl ?_) | (refine Y_id ?_; first | refine Y_then ?_ | refine Y_then_exit ?_ | refine Y_block_hit ?_))
    exact Y_fn1 rfl rfl (bool_t (get_ext hll fun j hj => hx j (by omega)))
end Go.Proofs.Ytmegelkbipgjbaa
