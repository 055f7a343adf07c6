/- Grow of nothing; Concat of two. -/
import Derived.Test.YtgbcagcaaegciaaGi
set_option linter.unusedVariables false
namespace Go.Proofs.Ytgbcagcaaegciaa
open Go.RowKit Go.Cof

theorem growI_spec (k : Nat) (hk : k ≤ 1000000) : Ctr Try.prog 37 [.slice none 0 0, iV k] (fun _ => True) [] (fun v L => ∃ A c, v = .slice A 0 c ∧ L = [own encN A 0 c []]) := by
  refine Ctr.intro Try.func37 rfl rfl (by decide +kernel) fun F hpre => ?_
  by_cases h0 : k = 0
  · subst h0
    repeat' (first | (refine XL_id ?_; first | refine XL_nil ?_ | (refine XL_op tt_ok rfl rfl ?_; try (first | refine XL_int (wrap_i64 (by omega) (by omega)) ?_ | refine XL_dec_f (by omega) ?_))) | (refine X_id ?_; first | refine X_seq ?_ | (refine X_regionN (by repeat' (exact .nil)) ?_) | refine X_skip ?_ | refine X_ret ?_ | refine X_cond_f rfl ?_) | (refine Y_id ?_; refine Y_then ?_))
    all_goals first
      | exact Y_ret1 rfl rfl (L' := [own encN none 0 0 []]) (fun h hs => stars_new (own_nil encN _) trivial) ⟨none, 0, rfl, rfl⟩
      | (exfalso; omega)
      | skip
    
  · repeat' (first | (refine XL_id ?_; first | refine XL_nil ?_ | (refine XL_mem (fun h hs => stars_new (own_nil encN _) hs) ?_; refine XL_appZ (0 : Int) (q := 0) (z := k) tt_ok 0 rfl rfl (by omega) (by omega) (by omega) (by omega) rfl rfl rfl rfl rfl rfl rfl rfl rfl (by show (_ : Nat) * 8 ≤ _; omega) (by omega) (fun _ _ => rfl) (fun b2 c2 => ?_)) | (refine XG_slice ?_; refine XL_slice0 tt_ok rfl rfl rfl (.hi (by omega) (by omega)) rfl rfl rfl rfl ?_) | (refine XL_op tt_ok rfl rfl ?_; try (first | refine XL_int (wrap_i64 (by omega) (by omega)) ?_ | refine XL_dec_t (by omega) ?_ | refine XL_dec_f (by omega) ?_))) | (refine X_id ?_; first | refine X_seq ?_ | (refine X_regionN (by repeat' (first | exact .nil | apply NL.cons)) ?_) | refine X_skip ?_ | refine X_ret ?_ | refine X_cond_t rfl ?_ | refine X_cond_f rfl ?_) | (refine Y_id ?_; refine Y_then ?_))
    all_goals first
      | exact Y_ret1 rfl rfl (stars_fin [0] rfl fun h hs => own_take (stars_own hs) 0 (Nat.zero_le _)) ⟨_, _, rfl, rfl⟩
      | (exfalso; omega)
      | skip
    
def encS2 : Enc (Option Addr × Nat × Nat) := ⟨fun x => [.slice x.1 x.2.1 x.2.2], 1, fun _ => rfl, by decide, fun x u hu => by simp at hu; subst hu; rfl⟩
set_option maxHeartbeats 4000000 in
/-- Two slices one behind the other, in new memory. -/
theorem concat2_spec (q : Nat) (A B : Option Addr) (m c m' c' : Nat) (xs ys : List Int) (hm : m ≤ 100000) (hm' : m' ≤ 100000) :
    Ctr Try.prog 31 [.slice (some ⟨q, 0, none⟩) 2 2] (fun h => blk q [.slice A m c, .slice B m' c'] 33 h ∧ rdS encN h A m xs ∧ rdS encN h B m' ys) [] (fun v L => ∃ A' c2, v = .slice A' (m + m') c2 ∧ L = [own encN A' (m + m') c2 (xs ++ ys)]) := by
  have hgr := growI_spec (m + m') (by omega)
  rw [show iV ((m + m' : Nat) : Int) = iV (0 + (m : Int) + (m' : Int)) from congrArg (Value.int .i64) (by omega)] at hgr
  refine Ctr.intro Try.func31 rfl rfl (by decide +kernel) fun F hpre => ?_
  obtain ⟨hb, r1, r2⟩ := hpre
  have hl1 := r1.1
  have hl2 := r2.1
  repeat' (first | (refine XL_id ?_; first | refine XL_nil ?_ | (refine XG_load ?_; refine XL_loadF tt_ok rfl (by assumption) rfl rfl rfl rfl ?_) | (refine XG_idx ?_; refine XL_idxl tt_ok rfl rfl rfl rfl rfl (by omega) (by omega) rfl ?_) | (refine XG_call ?_; first | (refine XL_op tt_ok rfl rfl ?_) | (refine XL_callK [] hgr rfl rfl (fun _ => rfl) (fun _ _ _ => trivial) (fun u L hv => ?_); obtain ⟨A1, c1, rfl, rfl⟩ := hv) | (refine XL_appF tt_ok 0 rfl rfl r1 rfl rfl rfl rfl rfl rfl rfl (by show (_ : Nat) * 8 ≤ _; omega) (by omega) (fun _ _ => rfl) (fun A2 c2 => ?_)) | (refine XL_appF tt_ok 0 rfl rfl r2 rfl rfl rfl rfl rfl rfl rfl (by show (_ : Nat) * 8 ≤ _; omega) (by omega) (fun _ _ => rfl) (fun A2 c2 => ?_))) | (refine XL_op tt_ok rfl rfl ?_; try (first | refine XL_int (wrap_i64 (by omega) (by omega)) ?_ | refine XL_dec_t (by omega) ?_ | refine XL_dec_f (by omega) ?_))) | (refine X_id ?_; first | refine X_unroll 2 ?_ | refine X_seq ?_ | (refine X_regionN (by repeat' (first | exact .nil | apply NL.cons)) ?_) | refine X_skip ?_ | refine X_ret ?_ | refine X_exit ?_ | refine X_block ?_ | refine X_cond_t rfl ?_ | refine X_cond_f rfl ?_) | (refine Y_id ?_; first | refine Y_unroll ?_ | refine Y_then ?_ | refine Y_then_exit ?_ | refine Y_block_hit ?_ | refine Y_block_normal ?_))
  all_goals first
    | exact Y_ret1 rfl rfl (stars_fin [0] rfl fun h hs => (by have h1 := stars_own hs; rw [Nat.zero_add] at h1; exact h1)) ⟨_, _, by rw [Nat.zero_add], rfl⟩
    | (exfalso; omega)
    | skip
  
end Go.Proofs.Ytgbcagcaaegciaa
