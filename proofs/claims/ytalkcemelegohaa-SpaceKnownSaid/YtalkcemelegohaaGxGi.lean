/- Functions over slices of numbers: Index, Contains, Delete, EqInts, Within. -/
import Derived.Test.YtalkcemelegohaaTab
import Derived.Test.YtalkcemelegohaaSlZ
set_option linter.unusedVariables false
set_option maxRecDepth 100000
namespace Go.Proofs.Ytalkcemelegohaa.Gx
open Go.RowKit Go.Cof

abbrev encN : Enc Int := encI .i64
abbrev iV (x : Int) : Value := .int .i64 x
def qI (v x : Int) : Bool := decide (v = x)
theorem firstQ_mem (v : Int) (xs : List Int) : firstQ (qI v) xs < xs.length ↔ v ∈ xs := by
  have h1 := firstQ_le (qI v) xs
  have h2 := firstQ_none (q := qI v) (l := xs)
  constructor
  · intro h
    refine Decidable.byContradiction fun hn => ?_
    have := h2.2 (fun x hx => decide_eq_false fun e => hn (e ▸ hx))
    omega
  · intro h
    refine Decidable.byContradiction fun hn => ?_
    have h3 := h2.1 (by omega) v h
    simp [qI] at h3
set_option maxHeartbeats 4000000 in
theorem indexI_spec (A : Option Addr) (m c : Nat) (xs : List Int) (v : Int) (hm : m ≤ 9223372036854775807) : FnC Try.prog 147 [.slice A m c, iV v] (fun h => rdS encN h A m xs) (iV (idxI (qI v) xs)) := by
  refine Ctr.intro Try.func147 rfl rfl (by decide +kernel) fun F hpre => ?_
  have r1 : rdS encN F.heap A m xs := hpre
  have hlen := r1.1
  have hfl := firstQ_le (qI v) xs
  repeat' (first | (refine XL_id ?_; first | refine XL_nil ?_ | (refine XL_op tt_ok rfl rfl ?_)) | (refine X_id ?_; first | refine X_seq ?_ | (refine X_regionN (by repeat' (exact .nil)) ?_) | refine X_block ?_) | (refine Y_id ?_; refine Y_then ?_))
  refine X_loopD [0, 1, 7] (fun (i : Nat) => [(8, .int .i64 i)]) (fun _ => []) (fun i => i ≤ m ∧ ∀ j : Nat, j < i → qI v (Cof.get xs j) = false) (fun i => m - i) 0 rfl ⟨Nat.zero_le _, fun j hj => by omega⟩ (by (repeat' (first | exact trivial | refine And.intro rfl ?_)); done) (fun _ h => h) ?_
  intro i hi
  obtain ⟨hi, hx⟩ := hi
  by_cases hlt : i < m
  · by_cases hqi : v = Cof.get xs i
    · have e := firstQ_eq (q := qI v) (i := i) (by omega) hx (fun _ => decide_eq_true hqi)
      repeat' (first | (refine XL_id ?_; first | refine XL_nil ?_ | (refine XG_load ?_; refine XL_el tt_ok rfl (by assumption) rfl (by omega) (by omega) rfl rfl rfl rfl ?_) | (refine XG_idx ?_; refine XL_idx tt_ok rfl rfl rfl rfl rfl (by assumption) (by omega) (by omega) rfl ?_) | (refine XL_op tt_ok rfl rfl ?_; try (refine XL_dec_t (by omega) ?_))) | (refine X_id ?_; first | refine X_seq ?_ | (refine X_regionN (by repeat' (exact .nil)) ?_) | refine X_skip ?_ | refine X_ret ?_ | refine X_block ?_ | refine X_cond_t rfl ?_) | (refine Y_id ?_; first | refine Y_then ?_ | refine Y_then_ret ?_ | refine Y_block_ret ?_))
      all_goals first
        | exact Y_fn1 rfl rfl (by unfold idxI; rw [e, if_pos (by omega)])
        | (exfalso; omega)
        | skip
      
    · repeat' (first | (refine XL_id ?_; first | refine XL_nil ?_ | (refine XG_load ?_; refine XL_el tt_ok rfl (by assumption) rfl (by omega) (by omega) rfl rfl rfl rfl ?_) | (refine XG_idx ?_; refine XL_idx tt_ok rfl rfl rfl rfl rfl (by assumption) (by omega) (by omega) rfl ?_) | (refine XL_op tt_ok rfl rfl ?_; try (first | refine XL_int (wrap_i64 (by omega) (by omega)) ?_ | refine XL_dec_t (by omega) ?_ | refine XL_dec_f (by omega) ?_))) | (refine X_id ?_; first | refine X_seq ?_ | (refine X_regionN (by repeat' (exact .nil)) ?_) | refine X_skip ?_ | refine X_block ?_ | refine X_cond_t rfl ?_ | refine X_cond_f rfl ?_) | (refine Y_id ?_; first | refine Y_then ?_ | refine Y_block_normal ?_))
      all_goals first
        | exact Y_again (i + 1) fun _ _ hf hs => ⟨⟨by omega, fun j hj => by
            by_cases hj2 : j < i
            · exact hx j hj2
            · obtain rfl : j = i := by omega
              exact decide_eq_false hqi⟩, by omega, hf.sub (by (repeat' (first | exact trivial | refine And.intro rfl ?_)); done), hs⟩
        | (exfalso; omega)
        | skip
      
  · obtain rfl : i = m := by omega
    have e := firstQ_eq (q := qI v) (l := xs) (i := i) (by omega) hx (fun _ => by omega)
    repeat' (first | (refine XL_id ?_; first | refine XL_nil ?_ | (refine XL_op tt_ok rfl rfl ?_; try (refine XL_dec_f (by omega) ?_))) | (refine X_id ?_; first | refine X_seq ?_ | (refine X_regionN (by repeat' (exact .nil)) ?_) | refine X_ret ?_ | refine X_exit ?_ | refine X_cond_f rfl ?_) | (refine Y_id ?_; first | refine Y_then ?_ | refine Y_then_exit ?_ | refine Y_block_hit ?_))
    exact Y_fn1 rfl rfl (by unfold idxI; rw [e, if_neg (by omega)])
theorem containsI_spec (A : Option Addr) (m c : Nat) (xs : List Int) (v : Int) (hm : m ≤ 9223372036854775807) : FnC Try.prog 134 [.slice A m c, iV v] (fun h => rdS encN h A m xs) (.bool (decide (v ∈ xs))) := by
  have hix := indexI_spec A m c xs v hm
  have hfm := firstQ_mem v xs
  have hb : decide (v ∈ xs) = decide (0 ≤ idxI (qI v) xs) := by
    unfold idxI
    by_cases h : v ∈ xs
    · rw [if_pos (hfm.2 h), decide_eq_true h, decide_eq_true (by omega)]
    · rw [if_neg (fun hh => h (hfm.1 hh)), decide_eq_false h]; rfl
  rw [hb]
  refine Ctr.intro Try.func134 rfl rfl (by decide +kernel) fun F hpre => ?_
  have r1 : rdS encN F.heap A m xs := hpre
  repeat' (first | (refine XL_id ?_; first | refine XL_nil ?_ | (refine XG_call ?_; refine XL_fn hix rfl rfl (fun g hg hL => r1.le hg) ?_) | (refine XL_op tt_ok rfl rfl ?_; try (refine XL_dec (fun _ => ?_) (fun _ => ?_)))) | (refine X_id ?_; first | refine X_seq ?_ | (refine X_regionN (by repeat' (exact .nil)) ?_) | refine X_ret ?_) | (refine Y_id ?_; refine Y_then ?_))
  all_goals first
    | exact Y_fn1 rfl rfl rfl
    | (refine Y_fn1 rfl rfl ?_; first | exact bool_t (by omega) | exact bool_f (by omega))
    | skip
  
theorem tmod_emod (k n : Int) (hn : 0 < n) : (k.tmod n < 0 → k.tmod n + n = k % n) ∧ (¬ k.tmod n < 0 → k.tmod n = k % n) := by
  have h6 := Int.lt_tmod_of_pos k hn
  have h7 := Int.tmod_lt_of_pos k hn
  have e1 : k.tmod n % n = k % n := by rw [Int.tmod_def, Int.sub_emod, Int.mul_emod_right, Int.sub_zero, Int.emod_emod]
  constructor
  · intro h
    rw [← e1, ← Int.add_emod_right, Int.emod_eq_of_lt (by omega) (by omega)]
  · intro h
    rw [← e1, Int.emod_eq_of_lt (by omega) (by omega)]
theorem within_spec (k n : Int) (h1 : -9223372036854775808 ≤ k) (h2 : k ≤ 9223372036854775807) (h3 : 0 < n) (h4 : n ≤ 4294967296) : FnC Try.prog 44 [iV k, iV n] (fun _ => True) (iV (k % n)) := by
  obtain ⟨e1, e2⟩ := tmod_emod k n h3
  have h6 := Int.lt_tmod_of_pos k h3
  have h7 := Int.tmod_lt_of_pos k h3
  obtain ⟨y, hyy⟩ : ∃ y, k.tmod n = y := ⟨_, rfl⟩
  rw [hyy] at e1 e2 h6 h7
  refine Ctr.intro Try.func44 rfl rfl (by decide +kernel) fun F hpre => ?_
  by_cases hy : y < 0
  · rw [← e1 hy]
    repeat' (first | (refine XL_id ?_; first | refine XL_nil ?_ | (refine XL_op tt_ok (opV_rem rfl rfl (by omega)) rfl ?_; refine XL_int hyy ?_) | (refine XL_op tt_ok rfl rfl ?_; try (first | refine XL_int (wrap_i64 (by omega) (by omega)) ?_ | refine XL_dec_t (by omega) ?_))) | (refine X_id ?_; first | refine X_seq ?_ | (refine X_regionN (by repeat' (exact .nil)) ?_) | refine X_ret ?_ | refine X_cond_t rfl ?_) | (refine Y_id ?_; refine Y_then ?_))
    all_goals first
      | exact Y_fn1 rfl rfl rfl
      | (exfalso; omega)
      | skip
    
  · rw [← e2 hy]
    repeat' (first | (refine XL_id ?_; first | refine XL_nil ?_ | (refine XL_op tt_ok (opV_rem rfl rfl (by omega)) rfl ?_; refine XL_int hyy ?_) | (refine XL_op tt_ok rfl rfl ?_; try (refine XL_dec_f (by omega) ?_))) | (refine X_id ?_; first | refine X_seq ?_ | (refine X_regionN (by repeat' (exact .nil)) ?_) | refine X_skip ?_ | refine X_ret ?_ | refine X_cond_f rfl ?_) | (refine Y_id ?_; refine Y_then ?_))
    all_goals first
      | exact Y_fn1 rfl rfl rfl
      | (exfalso; omega)
      | skip
    
end Go.Proofs.Ytalkcemelegohaa.Gx
