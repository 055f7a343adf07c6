/- Walks of the laws' helpers. -/
import Derived.Test.YtookjknlfkmemaaWc
import Derived.Test.YtookjknlfkmemaaSlJ
set_option linter.unusedVariables false
namespace Go.Proofs.Ytookjknlfkmemaa
open Go.RowKit Go.Cof

def W0 : List Int := List.replicate 512 0
def W1 : List Int := storeF W0 254 287454020 4
def W2 : List Int := putF W1 0 (pageF W1 1)
theorem W0_len : W0.length = 512 := List.length_replicate
theorem W1_len : W1.length = 512 := by unfold W1; rw [storeF_length, W0_len]
theorem W2_len : W2.length = 512 := by unfold W2; rw [putF_length (by decide) (by rw [W1_len]; decide) (pageF_length (by decide) (by rw [W1_len]; decide)), W1_len]
theorem w_new : Ctr Try.prog 9 [.int .i64 2] (fun _ => True) [] (fun v L => ∃ p, v = .tuple #[.pointer (some ⟨p, 0, none⟩), .int .i64 0] ∧ L = [isMem p W0]) := new_ok 2 (by decide) (by decide)
theorem w_store (p : Nat) : Ctr Try.prog 11 [.pointer (some ⟨p, 0, none⟩), .int .u64 254, .int .i64 4, .int .u64 287454020] (fun _ => True) [isMem p W0] (fun u L => u = .int .i64 0 ∧ L = [isMem p W1]) := by
  have h := store_spec p W0 254 4 287454020 (by decide) (by decide) (by decide) (by decide) (by decide) (by decide)
  rw [W0_len, show runE 512 254 4 = 0 from by decide, if_pos rfl] at h
  exact h
theorem w_load (p : Nat) : Ctr Try.prog 13 [.pointer (some ⟨p, 0, none⟩), .int .u64 254, .int .i64 4] (fun _ => True) [isMem p W1] (fun u L => u = .tuple #[.int .u64 287454020, .int .i64 0] ∧ L = [isMem p W1]) := by
  have h := load_spec p W1 254 4 (by decide) (by decide) (by decide) (by decide)
  rw [W1_len, show runE 512 254 4 = 0 from by decide, if_pos rfl, show loadF W1 (254 : Int).toNat (4 : Int).toNat = 287454020 from by decide +kernel] at h
  exact h
theorem w_byte (p : Nat) : Ctr Try.prog 12 [.pointer (some ⟨p, 0, none⟩), .int .u64 257] (fun _ => True) [isMem p W1] (fun u L => u = .tuple #[.int .u8 17, .int .i64 0] ∧ L = [isMem p W1]) := by
  have h := byte_spec p W1 257 (by decide) (by decide)
  rw [W1_len, show runE 512 257 1 = 0 from by decide, if_pos rfl, show byteAt W1 (257 : Int).toNat = 17 from by decide +kernel] at h
  exact h
theorem w_copy (p : Nat) : Ctr Try.prog 14 [.pointer (some ⟨p, 0, none⟩), .int .i64 0, .int .i64 1] (fun _ => True) [isMem p W1] (fun u L => u = .int .i64 0 ∧ L = [isMem p W2]) := by
  have h := copy_spec p W1 0 1 (by decide) (by decide) (by decide) (by decide)
  rw [W1_len, show copyE 512 0 1 = 0 from by decide, if_pos rfl] at h
  exact h
theorem w_byte2 (p : Nat) : Ctr Try.prog 12 [.pointer (some ⟨p, 0, none⟩), .int .u64 0] (fun _ => True) [isMem p W2] (fun u L => u = .tuple #[.int .u8 34, .int .i64 0] ∧ L = [isMem p W2]) := by
  have h := byte_spec p W2 0 (by decide) (by decide)
  rw [W2_len, show runE 512 0 1 = 0 from by decide, if_pos rfl, show byteAt W2 (0 : Int).toNat = 34 from by decide +kernel] at h
  exact h
theorem w_load2 (p : Nat) : Ctr Try.prog 13 [.pointer (some ⟨p, 0, none⟩), .int .u64 509, .int .i64 4] (fun _ => True) [isMem p W2] (fun u L => u = .tuple #[.int .u64 0, .int .i64 10] ∧ L = [isMem p W2]) := by
  have h := load_spec p W2 509 4 (by decide) (by decide) (by decide) (by decide)
  rw [W2_len, show runE 512 509 4 = 10 from by decide, if_neg (by decide)] at h
  exact h
theorem works_spec : FnC Try.prog 8 [] (fun _ => True) (.bool true) := by
  refine Ctr.intro Try.func8 rfl rfl (by decide +kernel) fun F hpre => ?_
  repeat' (first | (refine X_seq ?_) | (refine X_region ?_) | (refine XL_nil ?_) | (refine Y_then ?_) | (refine X_skip ?_) | (refine X_ret ?_) | (refine X_cond_f rfl ?_) | (refine XL_guard_yes rfl rfl rfl ?_) | (refine XL_op tt_ok rfl rfl ?_; try (first | (refine XL_dec_t (by omega) ?_) | (refine XL_dec_f (by omega) ?_))) | (refine XL_callK [] w_new rfl rfl (fun _ => rfl) (fun _ _ _ => trivial) (fun v L hv => ?_); obtain ⟨p, rfl, rfl⟩ := hv) | (refine XL_callE [0] (w_store _) rfl rfl rfl (fun _ _ _ => trivial) ?_) | (refine XL_callE [0] (w_load _) rfl rfl rfl (fun _ _ _ => trivial) ?_) | (refine XL_callE [0] (w_byte _) rfl rfl rfl (fun _ _ _ => trivial) ?_) | (refine XL_callE [0] (w_copy _) rfl rfl rfl (fun _ _ _ => trivial) ?_) | (refine XL_callE [0] (w_byte2 _) rfl rfl rfl (fun _ _ _ => trivial) ?_) | (refine XL_callE [0] (w_load2 _) rfl rfl rfl (fun _ _ _ => trivial) ?_))
  exact Y_fn1 rfl rfl rfl

/-- Two lists of bytes. -/
theorem sameBytes_spec (A B : Option Addr) (m c m' c' : Nat) (xs ys : List Int) (h1 : m ≤ 9223372036854775807) (h2 : m' ≤ 9223372036854775807) : FnC Try.prog 16 [.slice A m c, .slice B m' c'] (fun h => rdS (encI .u8) h A m xs ∧ rdS (encI .u8) h B m' ys) (.bool (decide (xs = ys))) := by
  refine Ctr.intro Try.func16 rfl rfl (by decide +kernel) fun F hpre => ?_
  have r1 := hpre.1
  have r2 := hpre.2
  by_cases hm : m = m'
  · repeat' (first | (refine X_seq ?_) | (refine X_region ?_) | (refine XL_nil ?_) | (refine Y_then ?_) | (refine X_skip ?_) | (refine X_block ?_) | (refine X_cond_f rfl ?_) | (refine XL_op tt_ok rfl rfl ?_; try ((refine XL_dec_f (by omega) ?_))))
    all_goals try (exfalso; omega)
    refine X_loop (ι := Nat) (fun i => [(5, .int .i64 i), (0, .slice A m c), (1, .slice B m' c')]) (fun _ => []) (fun i => i ≤ m ∧ xs.take i = ys.take i) (fun i => m - i) 0 ⟨Nat.zero_le _, rfl⟩ (by repeat' (first | exact trivial | refine And.intro rfl ?_)) (fun _ h => h) ?_
    intro i hi
    obtain ⟨hi, he⟩ := hi
    repeat' (first | (refine X_seq ?_) | (refine X_region ?_) | (refine XL_nil ?_) | (refine Y_then ?_) | (refine Y_then_exit ?_) | (refine Y_block_hit ?_) | (refine X_skip ?_) | (refine X_ret ?_) | (refine X_exit ?_) | (refine X_block ?_) | (refine X_cond_t rfl ?_) | (refine X_cond_f rfl ?_) | (refine XL_op tt_ok rfl rfl ?_; try ((refine XL_dec (fun _ => ?_) (fun _ => ?_)))))
    · have hlt : (i : Int) < m := by assumption
      refine X_draw (List.range 9) (fun _ => .s) (fun _ => false) 2 [] rfl mixed (by decide +kernel) ?_
      intro G hFG hM thaw
      have r3 := r1.le hFG
      have r4 := r2.le hFG
      show XD _ _ _ _ _ _ [0, 1, 2, 3, 4, 5, 6, 7, 8] _ _ _
      repeat' (first | (refine XD_thaw thaw ?_; refine XD_nil ?_) | (refine XD_s rfl rfl rfl (XV_op tt_ok rfl) rfl ?_; try ((refine XD_dec (fun _ => ?_) (fun _ => ?_)))) | (refine XD_s rfl rfl rfl (XV_idx tt_ok rfl rfl rfl rfl rfl (by assumption) (by omega) (by omega)) rfl ?_) | (refine XD_s rfl rfl rfl (XV_el tt_ok rfl (by assumption) rfl (by omega) (by omega) rfl rfl rfl) rfl ?_))
      all_goals clear hM thaw
      repeat' (first | (refine X_seq ?_) | (refine X_region ?_) | (refine XL_nil ?_) | (refine Y_then ?_) | (refine Y_then_ret ?_) | (refine Y_block_normal ?_) | (refine Y_block_ret ?_) | (refine X_skip ?_) | (refine X_ret ?_) | (refine X_cond_t rfl ?_) | (refine X_cond_f rfl ?_) | (refine XL_op tt_ok rfl rfl ?_; try ((refine XL_int (wrap_i64 (by omega) (by omega)) ?_))))
      · exact Y_fn1 rfl rfl (bool_f fun h => by rename_i hn; exact hn (by rw [h]))
      · rename_i hn
        exact Y_again (i + 1) fun _ _ hf hs => ⟨⟨by omega, take_succ_eq he (by have := r1.1; omega) (by have := r2.1; omega) (Decidable.not_not.1 hn)⟩, by omega, hf.sub (by repeat' (first | exact trivial | refine And.intro rfl ?_)), hs⟩
    · obtain rfl : i = m := by omega
      rw [r1.1, List.take_length, show xs.length = ys.length from by rw [← r1.1, ← r2.1, hm], List.take_length] at he
      exact Y_fn1 rfl rfl (bool_t he)
  · repeat' (first | (refine X_seq ?_) | (refine X_region ?_) | (refine XL_nil ?_) | (refine Y_then ?_) | (refine Y_then_ret ?_) | (refine X_ret ?_) | (refine X_cond_t rfl ?_) | (refine XL_op tt_ok rfl rfl ?_; try ((refine XL_dec_t (by omega) ?_))))
    all_goals try (exfalso; omega)
    exact Y_fn1 rfl rfl (bool_f fun h => hm (by rw [r1.1, r2.1, h]))
end Go.Proofs.Ytookjknlfkmemaa
