/- Walks of the program's first and Check. -/
import Derived.Test.YtpkffgbcebjhaaaWa
set_option linter.unusedVariables false
namespace Go.Proofs.Ytpkffgbcebjhaaa
open Go.RowKit Go.Cof

structure Rg.Ok (r : Rg) : Prop where
  p : 1 ≤ r.p
  n : 1 ≤ r.n
  e : r.p + r.n ≤ 1048576
  m : r.m = 0 ∨ r.m = 1 ∨ r.m = 3
theorem get_mem {α : Type} [Inhabited α] {l : List α} {i : Int} (h0 : 0 ≤ i) (h1 : i < l.length) : Cof.get l i ∈ l := List.mem_of_getElem? (Cof.get_some h0 h1)
def firstN (l : List Rg) (page : Int) : Nat := (l.takeWhile fun r => decide (r.end ≤ page)).length
theorem firstN_eq : ∀ {l : List Rg} {page : Int} {i : Nat}, i ≤ l.length → (∀ j : Nat, j < i → (Cof.get l j).end ≤ page) → (i < l.length → page < (Cof.get l i).end) → firstN l page = i
  | [], page, i, h, _, _ => by simp at h; subst h; rfl
  | r :: l, page, 0, _, _, h => by
    have := h (by simp)
    have e : (Cof.get (r :: l) ((0 : Nat) : Int)) = r := rfl
    rw [e] at this
    unfold firstN
    rw [List.takeWhile_cons, if_neg (by simpa using this)]
    rfl
  | r :: l, page, i + 1, h, h1, h2 => by
    have h3 := h1 0 (by omega)
    have e : (Cof.get (r :: l) ((0 : Nat) : Int)) = r := rfl
    rw [e] at h3
    have eg : ∀ j : Nat, Cof.get (r :: l) ((j + 1 : Nat) : Int) = Cof.get l (j : Int) := fun j => by
      unfold Cof.get
      rw [Int.toNat_natCast, Int.toNat_natCast]
      rfl
    have := firstN_eq (l := l) (page := page) (i := i) (by simp at h; omega) (fun j hj => by rw [← eg]; exact h1 (j + 1) (by omega)) (fun hi => by rw [← eg]; exact h2 (by simp; omega))
    unfold firstN at this ⊢
    rw [List.takeWhile_cons, if_pos (by simpa using h3), List.length_cons, this]
theorem first_spec (A : Option Addr) (m c : Nat) (l : List Rg) (page : Int) (hm : m ≤ 9223372036854775807) (hl : ∀ r ∈ l, r.Ok) : FnC Try.prog 47 [.slice A m c, .int .i64 page] (fun h => rdS encRg h A m l) (.int .i64 (firstN l page)) := by
  refine Ctr.intro Try.func47 rfl rfl (by decide +kernel) fun F hpre => ?_
  have r1 : rdS encRg F.heap A m l := hpre
  have hlen := r1.1
  repeat' (first | (refine XL_id ?_; first | refine XL_nil ?_ | (refine XL_op tt_ok rfl rfl ?_)) | (refine X_id ?_; first | refine X_seq ?_ | refine X_region ?_ | refine X_block ?_) | (refine Y_id ?_; refine Y_then ?_))
  refine X_loop (ι := Nat) (fun i => [(0, .slice A m c), (1, .int .i64 page), (5, .int .i64 i)]) (fun _ => []) (fun i => i ≤ m ∧ ∀ j : Nat, j < i → (Cof.get l j).end ≤ page) (fun i => m - i) 0 ⟨Nat.zero_le _, fun j hj => by omega⟩ (by (repeat' (first | exact trivial | refine And.intro rfl ?_)); done) (fun _ h => h) ?_
  intro i hi
  obtain ⟨hi, hx⟩ := hi
  by_cases hlt : i < m
  · have ok := hl _ (get_mem (l := l) (i := (i : Int)) (by omega) (by omega))
    have k1 := ok.p; have k2 := ok.n; have k3 := ok.e
    repeat' (first | (refine XL_id ?_; first | refine XL_nil ?_ | refine XL_guard_yes rfl rfl rfl ?_ | (refine XG_load ?_; refine XL_elW tt_ok rfl (by assumption) rfl (by omega) (by omega) rfl rfl rfl rfl ?_) | (refine XG_idx ?_; refine XL_idx tt_ok rfl rfl rfl rfl rfl (by assumption) (by omega) (by omega) rfl ?_) | (refine XG_call ?_; first | (refine XL_op tt_ok rfl rfl ?_) | refine XL_fn (end_spec (Cof.get l i) (by omega) (by omega)) rfl rfl (fun _ _ _ => trivial) ?_) | (refine XL_op tt_ok rfl rfl ?_; try (first | refine XL_int (wrap_i64 (by omega) (by omega)) ?_ | refine XL_dec_t (by omega) ?_ | refine XL_dec (fun _ => ?_) (fun _ => ?_)))) | (refine X_id ?_; first | refine X_seq ?_ | refine X_region ?_ | refine X_skip ?_ | refine X_ret ?_ | refine X_exit ?_ | refine X_block ?_ | refine X_cond_t rfl ?_ | refine X_cond_f rfl ?_) | (refine Y_id ?_; first | refine Y_then ?_ | refine Y_then_exit ?_ | refine Y_block_hit ?_ | refine Y_block_normal ?_))
    · exact Y_again (i + 1) fun _ _ hf hs => ⟨⟨by omega, fun j hj => by
        by_cases hj2 : j < i
        · exact hx j hj2
        · obtain rfl : j = i := by omega
          assumption⟩, by omega, hf.sub (by (repeat' (first | exact trivial | refine And.intro rfl ?_)); done), hs⟩
    · exact Y_fn1 rfl rfl (by rw [firstN_eq (i := i) (by omega) hx (fun _ => by omega)])
  · repeat' (first | (refine XL_id ?_; first | refine XL_nil ?_ | refine XL_guard_no rfl rfl rfl rfl rfl ?_ | (refine XG_call ?_; (refine XL_op tt_ok rfl rfl ?_)) | (refine XL_op tt_ok rfl rfl ?_; try (refine XL_dec_f (by omega) ?_))) | (refine X_id ?_; first | refine X_seq ?_ | refine X_region ?_ | refine X_ret ?_ | refine X_exit ?_ | refine X_cond_f rfl ?_) | (refine Y_id ?_; first | refine Y_then ?_ | refine Y_then_exit ?_ | refine Y_block_hit ?_))
    exact Y_fn1 rfl rfl (by rw [firstN_eq (i := i) (by omega) hx (fun _ => by omega)])
end Go.Proofs.Ytpkffgbcebjhaaa
