/- BinarySearch and Clone over []int. -/
import Derived.Test.YtkcpjgdmfjhlkaaGi
import Derived.Test.YtkcpjgdmfjhlkaaSlZ
set_option linter.unusedVariables false
namespace Go.Proofs.Ytkcpjgdmfjhlkaa
open Go.RowKit Go.Cof

/-- How many stand below v. -/
def rkI (v : Int) (xs : List Int) : Nat := firstQ (fun x => decide (v ≤ x)) xs
theorem rk_eq {xs : List Int} {v : Int} {i : Nat} (hi : i ≤ xs.length) (h1 : ∀ j : Nat, j < i → Cof.get xs (j : Int) < v) (h2 : i < xs.length → v ≤ Cof.get xs (i : Int)) : rkI v xs = i :=
  firstQ_eq hi (fun j hj => decide_eq_false (by have := h1 j hj; omega)) (fun h => decide_eq_true (h2 h))
theorem rk_le (v : Int) (xs : List Int) : rkI v xs ≤ xs.length := firstQ_le _ _
theorem rk_lt {v : Int} {xs : List Int} {j : Nat} (h : j < rkI v xs) : Cof.get xs (j : Int) < v := by
  have := firstQ_before (q := fun x => decide (v ≤ x)) (l := xs) (j := j) h
  have := of_decide_eq_false this
  omega
theorem rk_ge {v : Int} {xs : List Int} (h : rkI v xs < xs.length) : v ≤ Cof.get xs (rkI v xs : Int) := of_decide_eq_true (firstQ_lt (q := fun x => decide (v ≤ x)) h)
theorem pw_get {xs : List Int} (h : xs.Pairwise (· < ·)) {i j : Nat} (hij : i < j) (hj : j < xs.length) : Cof.get xs (i : Int) < Cof.get xs (j : Int) := by
  rw [get_getElem (by omega), get_getElem hj]
  exact List.pairwise_iff_getElem.1 h i j (by omega) hj hij
theorem rk_mem {xs : List Int} (h : xs.Pairwise (· < ·)) {v : Int} : (rkI v xs < xs.length ∧ Cof.get xs (rkI v xs : Int) = v) ↔ v ∈ xs := by
  constructor
  · rintro ⟨h1, h2⟩
    rw [← h2]; exact get_mem' (by omega) (by omega)
  · intro hm
    obtain ⟨k, hk, e⟩ := List.getElem_of_mem hm
    have e2 : Cof.get xs (k : Int) = v := by rw [get_getElem hk, e]
    have : rkI v xs = k := rk_eq (by omega) (fun j hj => by rw [← e2]; exact pw_get h hj hk) (fun _ => by omega)
    rw [this]; exact ⟨hk, e2⟩
theorem less_spec (a b : Int) : FnC Try.prog 36 [iV a, iV b] (fun _ => True) (.bool (decide (a < b))) := by
  have h1 : ∀ a : Int, FnC Try.prog 40 [iV a] (fun _ => True) (.bool false) := fun a => by
    refine Ctr.intro Try.func40 rfl rfl (by decide +kernel) fun F hpre => ?_
    repeat' (first | (refine XL_id ?_; first | refine XL_nil ?_ | (refine XL_op tt_ok rfl rfl ?_; try (refine XL_dec_f (by omega) ?_))) | (refine X_id ?_; first | refine X_seq ?_ | (refine X_regionN (by repeat' (exact .nil)) ?_) | refine X_ret ?_) | (refine Y_id ?_; refine Y_then ?_))
    all_goals first
      | exact Y_fn1 rfl rfl rfl
      | (exfalso; omega)
      | skip
    
  refine Ctr.intro Try.func36 rfl rfl (by decide +kernel) fun F hpre => ?_
  repeat' (first | (refine XL_id ?_; first | refine XL_nil ?_ | refine XL_guard_yes rfl rfl rfl ?_ | refine XL_guard_no rfl rfl rfl rfl rfl ?_ | (refine XG_call ?_; refine XL_fn (h1 _) rfl rfl (fun _ _ _ => trivial) ?_) | (refine XL_op tt_ok rfl rfl ?_; try (refine XL_dec (fun _ => ?_) (fun _ => ?_)))) | (refine X_id ?_; first | refine X_seq ?_ | (refine X_regionN (by repeat' (exact .nil)) ?_) | refine X_ret ?_) | (refine Y_id ?_; refine Y_then ?_))
  all_goals first
    | (refine Y_fn1 rfl rfl ?_; first | exact bool_t (by omega) | exact bool_f (by omega))
    | (exfalso; omega)
    | skip
  
theorem isNaN_spec (a : Int) : FnC Try.prog 37 [iV a] (fun _ => True) (.bool false) := by
  refine Ctr.intro Try.func37 rfl rfl (by decide +kernel) fun F hpre => ?_
  repeat' (first | (refine XL_id ?_; first | refine XL_nil ?_ | (refine XL_op tt_ok rfl rfl ?_; try (refine XL_dec_f (by omega) ?_))) | (refine X_id ?_; first | refine X_seq ?_ | (refine X_regionN (by repeat' (exact .nil)) ?_) | refine X_ret ?_) | (refine Y_id ?_; refine Y_then ?_))
  all_goals first
    | exact Y_fn1 rfl rfl rfl
    | (exfalso; omega)
    | skip
  
theorem shr1 {x : Int} (h0 : 0 ≤ x) (h1 : x < 9223372036854775808) : x / 2 ^ min (1 : Int).toNat 64 = x / 2 := rfl
set_option maxHeartbeats 4000000 in
theorem bsearch_spec (A : Option Addr) (m c : Nat) (xs : List Int) (v : Int) (hm : m ≤ 1000000) (hs : xs.Pairwise (· < ·)) :
    FnC Try.prog 31 [.slice A m c, iV v] (fun h => rdS encN h A m xs) (.tuple #[iV (rkI v xs), .bool (decide (v ∈ xs))]) := by
  refine Ctr.intro Try.func31 rfl rfl (by decide +kernel) fun F hpre => ?_
  have r1 : rdS encN F.heap A m xs := hpre
  have hl := r1.1
  repeat' (first | (refine XL_id ?_; first | refine XL_nil ?_ | (refine XL_op tt_ok rfl rfl ?_)) | (refine X_id ?_; first | refine X_block (id := 0) (hold ?_) | refine X_seq ?_ | (refine X_regionN (by repeat' (exact .nil)) ?_)) | (refine Y_id ?_; refine Y_then ?_))
  intro _
  refine X_loopD2 [0, 1, 6] (fun (i j : Nat) => [(7, .int .i64 i), (8, .int .i64 j)]) (fun _ _ => []) (fun i j => i ≤ j ∧ j ≤ m ∧ (∀ q : Nat, q < i → Cof.get xs (q : Int) < v) ∧ (∀ q : Nat, j ≤ q → q < m → v ≤ Cof.get xs (q : Int))) (fun i j => j - i) 0 m rfl ⟨Nat.zero_le _, Nat.le_refl _, fun q hq => by omega, fun q h1 h2 => by omega⟩ (by (repeat' (first | exact trivial | refine And.intro rfl ?_)); done) (fun h _ => trivial) ?_
  intro i j hij
  obtain ⟨h1, h2, h3, h4⟩ := hij
  by_cases hlt : i < j
  · obtain ⟨q, hq⟩ : ∃ q : Nat, ((i : Int) + j) / 2 = q := ⟨((i + j) / 2 : Nat), by omega⟩
    have hq1 : i ≤ q := by omega
    have hq2 : q < j := by omega
    have hlow : Cof.get xs (q : Int) < v → ∀ p : Nat, p < q + 1 → Cof.get xs (p : Int) < v := fun hb p hp => by
      by_cases e : p = q
      · subst e; exact hb
      · have := pw_get hs (i := p) (j := q) (by omega) (by omega)
        omega
    have hhi : ¬ Cof.get xs (q : Int) < v → ∀ p : Nat, q ≤ p → p < m → v ≤ Cof.get xs (p : Int) := fun hb p h5 h6 => by
      by_cases e : q = p
      · subst e; omega
      · have := pw_get hs (i := q) (j := p) (by omega) (by omega)
        omega
    by_cases hb : Cof.get xs (q : Int) < v
    · have hle := less_spec (Cof.get xs (q : Int)) v
      rw [decide_eq_true hb] at hle
      repeat' (first | (refine XL_id ?_; first | refine XL_nil ?_ | (refine XG_load ?_; refine XL_el tt_ok rfl (by assumption) rfl (by omega) (by omega) rfl rfl rfl rfl ?_) | (refine XG_idx ?_; refine XL_idx tt_ok rfl rfl rfl rfl rfl (by assumption) (by omega) (by omega) rfl ?_) | (refine XG_call ?_; refine XL_fn hle rfl rfl (fun _ _ _ => trivial) ?_) | (refine XL_op tt_ok (opV_shr rfl rfl (by decide)) rfl ?_; refine XL_int (show ((i : Int) + j) / 2 ^ min (1 : Int).toNat 64 = q from hq) ?_) | (refine XL_op tt_ok rfl rfl ?_; try (first | refine XL_int (wrap_i64 (by omega) (by omega)) ?_ | refine XL_int (wrap_u64 (by omega) (by omega)) ?_ | refine XL_dec_t (by omega) ?_))) | (refine X_id ?_; first | refine X_seq ?_ | (refine X_regionN (by repeat' (exact .nil)) ?_) | refine X_skip ?_ | refine X_block ?_ | refine X_cond_t rfl ?_) | (refine Y_id ?_; first | refine Y_then ?_ | refine Y_block_normal ?_))
      all_goals first
        | exact Y_again (q + 1, j) fun _ _ hf hs => ⟨⟨by show q + 1 ≤ j; omega, h2, hlow hb, h4⟩, by show j - (q + 1) < j - i; omega, hf.sub (by (repeat' (first | exact trivial | refine And.intro rfl ?_)); done), hs⟩
        | skip
      
    · have hle := less_spec (Cof.get xs (q : Int)) v
      rw [decide_eq_false hb] at hle
      repeat' (first | (refine XL_id ?_; first | refine XL_nil ?_ | (refine XG_load ?_; refine XL_el tt_ok rfl (by assumption) rfl (by omega) (by omega) rfl rfl rfl rfl ?_) | (refine XG_idx ?_; refine XL_idx tt_ok rfl rfl rfl rfl rfl (by assumption) (by omega) (by omega) rfl ?_) | (refine XG_call ?_; refine XL_fn hle rfl rfl (fun _ _ _ => trivial) ?_) | (refine XL_op tt_ok (opV_shr rfl rfl (by decide)) rfl ?_; refine XL_int (show ((i : Int) + j) / 2 ^ min (1 : Int).toNat 64 = q from hq) ?_) | (refine XL_op tt_ok rfl rfl ?_; try (first | refine XL_int (wrap_i64 (by omega) (by omega)) ?_ | refine XL_int (wrap_u64 (by omega) (by omega)) ?_ | refine XL_dec_t (by omega) ?_))) | (refine X_id ?_; first | refine X_seq ?_ | (refine X_regionN (by repeat' (exact .nil)) ?_) | refine X_skip ?_ | refine X_block ?_ | refine X_cond_t rfl ?_ | refine X_cond_f rfl ?_) | (refine Y_id ?_; first | refine Y_then ?_ | refine Y_block_normal ?_))
      all_goals first
        | exact Y_again (i, q) fun _ _ hf hs => ⟨⟨hq1, by show q ≤ m; omega, h3, hhi hb⟩, by show q - i < j - i; omega, hf.sub (by (repeat' (first | exact trivial | refine And.intro rfl ?_)); done), hs⟩
        | skip
      
  · obtain rfl : i = j := by omega
    have hr : rkI v xs = i := rk_eq (by omega) h3 (fun h => h4 i (Nat.le_refl _) (by omega))
    have hmem := rk_mem hs (v := v)
    rw [hr] at hmem ⊢
    repeat' (first | (refine XL_id ?_; first | refine XL_nil ?_ | refine XL_guard_yes rfl rfl rfl ?_ | refine XL_guard_no rfl rfl rfl rfl rfl ?_ | refine XL_guard_nou rfl rfl rfl rfl ?_ | (refine XG_load ?_; refine XL_el tt_ok rfl (by assumption) rfl (by omega) (by omega) rfl rfl rfl rfl ?_) | (refine XG_idx ?_; refine XL_idx tt_ok rfl rfl rfl rfl rfl (by assumption) (by omega) (by omega) rfl ?_) | (refine XG_call ?_; refine XL_fn (isNaN_spec _) rfl rfl (fun _ _ _ => trivial) ?_) | (refine XL_op tt_ok rfl rfl ?_; try (first | refine XL_dec_f (by omega) ?_ | refine XL_dec (fun _ => ?_) (fun _ => ?_)))) | (refine X_id ?_; first | refine X_seq ?_ | (refine X_regionN (by repeat' (exact .nil)) ?_) | refine X_ret ?_ | refine X_exit ?_ | refine X_cond_f rfl ?_) | (refine Y_id ?_; first | refine Y_then ?_ | refine Y_then_exit ?_ | refine Y_block_hit ?_))
    all_goals first
      | (rw [decide_eq_true (hmem.1 ⟨by omega, by omega⟩)]; exact Y_fn2 rfl rfl rfl rfl)
      | (rw [decide_eq_false (fun h => by have := hmem.2 h; omega)]; exact Y_fn2 rfl rfl rfl rfl)
      | (exfalso; omega)
      | skip
    
/-- A copy in memory of its own. -/
theorem cloneI_spec (A : Option Addr) (m c : Nat) (xs : List Int) (hm : m * 8 ≤ 140737488355328) : Ctr Try.prog 33 [.slice A m c] (fun h => rdS encN h A m xs) [] (fun v L => ∃ q : In Int, q.xs = xs ∧ q.m = m ∧ v = slV q ∧ L = [ownI encN q]) := by
  cases A with
  | none =>
    refine Ctr.intro Try.func33 rfl rfl (by decide +kernel) fun F hpre => ?_
    have r1 : rdS encN F.heap none m xs := hpre
    have hm0 : m = 0 := by
      apply Classical.byContradiction
      intro h
      have := r1.pos (by omega)
      cases this
    have hx0 : xs = [] := List.length_eq_zero_iff.1 (by have := r1.1; omega)
    subst hm0 hx0
    repeat' (first | (refine XL_id ?_; first | refine XL_nil ?_ | (refine XL_op tt_ok rfl rfl ?_)) | (refine X_id ?_; first | refine X_seq ?_ | (refine X_regionN (by repeat' (exact .nil)) ?_) | refine X_ret ?_ | refine X_cond_t rfl ?_) | (refine Y_id ?_; first | refine Y_then ?_ | refine Y_then_ret ?_))
    all_goals first
      | exact Y_ret1 rfl rfl (fun h hs => stars_new (own_nil encN _) (stars_only [] rfl h hs)) ⟨⟨none, 0, 0, []⟩, rfl, rfl, rfl, rfl⟩
      | skip
    
  | some a =>
    refine Ctr.intro Try.func33 rfl rfl (by decide +kernel) fun F hpre => ?_
    have r1 : rdS encN F.heap (some a) m xs := hpre
    repeat' (first | (refine XL_id ?_; first | refine XL_nil ?_ | (refine XL_conv 0 (own encN (some ⟨_, 0, none⟩) 0 0 []) rfl (fun h o => own_of_blk o rfl rfl (by decide)) ?_; refine XL_appF (E := encN) tt_ok 0 rfl rfl r1 rfl rfl rfl rfl rfl rfl rfl (by show (_ : Nat) * 8 ≤ _; omega) (by omega) (fun _ _ => rfl) (fun A2 c2 => ?_)) | (refine XG_lit ?_; (refine XL_lit tt_ok rfl rfl rfl rfl rfl rfl rfl rfl rfl (fun _ => rfl) (fun b => ?_); refine XL_nB (by repeat' (exact .nil)) ?_)) | (refine XL_op tt_ok rfl rfl ?_)) | (refine X_id ?_; first | refine X_seq ?_ | (refine X_regionN (by repeat' (exact .nil)) ?_) | refine X_skip ?_ | refine X_ret ?_ | refine X_cond_f rfl ?_) | (refine Y_id ?_; refine Y_then ?_))
    all_goals first
      | (rw [show 0 + m = m from Nat.zero_add m]; exact Y_ret1 rfl rfl (fun h hs => stars_only [0] rfl h hs) ⟨⟨A2, m, c2, xs⟩, rfl, rfl, rfl, rfl⟩)
      | skip
    
end Go.Proofs.Ytkcpjgdmfjhlkaa
