/- FramesPieces' walk. -/
import Derived.Test.YtookjknlfkmemaaWf
set_option linter.unusedVariables false
namespace Go.Proofs.Ytookjknlfkmemaa
open Go.RowKit Go.Cof

theorem kind_spec (k n : Int) (h1 : -9223372036854775808 ≤ k) (h2 : k ≤ 9223372036854775807) (h3 : 0 < n) (h4 : n ≤ 4294967296) : FnC Try.prog 17 [.int .i64 k, .int .i64 n] (fun _ => True) (.int .i64 (k % n)) := by
  refine Ctr.intro Try.func17 rfl rfl (by decide +kernel) fun F hpre => ?_
  repeat' (first
    | (refine XL_op tt_ok (opV_rem rfl rfl (by omega)) rfl ?_; refine XL_int (rem_pos (by omega)) ?_; refine XL_gen 11 (fun z => z = k % n) ?_ (fun z hz => ?_))
    | (refine XL_op tt_ok (opV_rem rfl rfl (by omega)) rfl ?_; refine XL_rem (by omega) (fun y hy1 hy2 hy3 hy4 => ?_))
    | (refine X_seq ?_)
    | (refine X_region ?_)
    | (refine XL_nil ?_)
    | (refine Y_then ?_)
    | (refine Y_then_ret ?_)
    | (refine Y_then_exit ?_)
    | (refine Y_block_hit ?_)
    | (refine Y_block_miss rfl ?_)
    | (refine Y_block_normal ?_)
    | (refine Y_block_ret ?_)
    | (refine X_skip ?_)
    | (refine X_ret ?_)
    | (refine X_exit ?_)
    | (refine X_block ?_)
    | (refine X_cond_t rfl ?_)
    | (refine X_cond_f rfl ?_)
    | (refine XL_guard_yes rfl rfl rfl ?_)
    | (refine XL_guard_no rfl rfl rfl rfl rfl ?_)
    | (refine XL_op tt_ok rfl rfl ?_; try (first | (refine XL_int (shl8_u64 (by omega) (by omega)) ?_) | (refine XL_int (shr8) ?_) | (refine XL_int (wrap_i64 (by omega) (by omega)) ?_) | (refine XL_int (wrap_u64 (by omega) (by omega)) ?_) | (refine XL_int (wrap_u8 (by omega) (by omega)) ?_) | (refine XL_int (quo_i64 (by omega) (by omega) (by omega)) ?_) | (refine XL_int (quo_u64 (by omega) (by omega) (by omega)) ?_) | (refine XL_int (rem_pos (by omega)) ?_) | (refine XL_remb (by omega) (fun _ _ _ _ => ?_)) | (refine XL_dec_t (by omega) ?_) | (refine XL_dec_f (by omega) ?_) | (refine XL_dec (fun _ => ?_) (fun _ => ?_))))
    | (refine XL_load tt_ok 0 rfl rfl rfl rfl rfl rfl ?_)
    | (refine XL_load tt_ok 1 rfl rfl rfl rfl rfl rfl ?_)
    | (refine XL_load tt_ok 2 rfl rfl rfl rfl rfl rfl ?_)
    | (refine XL_load tt_ok 3 rfl rfl rfl rfl rfl rfl ?_)
    | (refine XL_load tt_ok 4 rfl rfl rfl rfl rfl rfl ?_)
    | (refine XL_load tt_ok 5 rfl rfl rfl rfl rfl rfl ?_)
    | (refine XL_loadF tt_ok rfl (by assumption) rfl rfl rfl rfl ?_)
    | (refine XL_idx tt_ok rfl rfl rfl rfl rfl (by assumption) (by omega) (by omega) rfl ?_)
    | (refine XL_el tt_ok rfl (by assumption) rfl (by omega) (by omega) rfl rfl rfl rfl ?_)
    | (refine XL_elf tt_ok rfl (by assumption) rfl (by omega) (by omega) rfl rfl rfl rfl ?_)
    | (refine XL_box rfl (fun _ => rfl) (fun _ => ?_))
    | (refine XL_build tt_ok rfl rfl rfl rfl rfl rfl rfl ?_)
    )
  · rw [Int.add_emod_right, hy4]
  · exact Y_fn1 rfl rfl (by rw [hz])

theorem div_bd {v : Int} (h : 0 ≤ v) (k : Nat) : 0 ≤ v / 256 ^ k ∧ v / 256 ^ k ≤ v := ⟨Int.ediv_nonneg h (Int.le_of_lt (pow256_pos k)), Int.ediv_le_self _ h⟩
theorem mod_bd {v : Int} (h : 0 ≤ v) (k : Nat) : 0 ≤ v % 256 ^ k ∧ v % 256 ^ k ≤ v ∧ v % 256 ^ k < 256 ^ k := ⟨Int.emod_nonneg _ (Int.ne_of_gt (pow256_pos k)), by
  have h1 := Int.mul_ediv_add_emod v (256 ^ k)
  have h2 := Int.mul_nonneg (Int.le_of_lt (pow256_pos k)) (div_bd h k).1
  omega, Int.emod_lt_of_pos _ (pow256_pos k)⟩
theorem mod_mul_pow (v : Int) (h : 0 ≤ v) (c m : Nat) : v % 256 ^ (c + m) = v % 256 ^ c + v / 256 ^ c % 256 ^ m * 256 ^ c := by
  obtain ⟨w, rfl⟩ := Int.eq_ofNat_of_zero_le h
  have := Nat.mod_mul (x := w) (a := 256 ^ c) (b := 256 ^ m)
  rw [← Nat.pow_add] at this
  have h2 : ((w % 256 ^ (c + m) : Nat) : Int) = ((w % 256 ^ c + 256 ^ c * (w / 256 ^ c % 256 ^ m) : Nat) : Int) := by rw [this]
  simp only [Int.natCast_add, Int.natCast_mul, Int.natCast_emod, Int.natCast_ediv, Int.natCast_pow] at h2
  rw [Int.mul_comm (_ % _)]
  exact h2
theorem mod_div_mod {v : Int} (h : 0 ≤ v) {c j : Nat} (hj : j < c) : v % 256 ^ c / 256 ^ j % 256 = v / 256 ^ j % 256 := by
  have e1 := Int.mul_ediv_add_emod v (256 ^ c)
  have e2 : (256 : Int) ^ c = 256 ^ j * (256 * 256 ^ (c - j - 1)) := by
    rw [← Int.mul_assoc, ← Int.pow_succ, ← Int.pow_add]; congr 1; omega
  have e3 : v / 256 ^ j = v % 256 ^ c / 256 ^ j + 256 * (256 ^ (c - j - 1) * (v / 256 ^ c)) := by
    have e4 : v = v % 256 ^ c + 256 ^ j * (256 * (256 ^ (c - j - 1) * (v / 256 ^ c))) := by
      have : (256 : Int) ^ j * (256 * (256 ^ (c - j - 1) * (v / 256 ^ c))) = 256 ^ c * (v / 256 ^ c) := by rw [e2]; simp only [Int.mul_assoc]
      omega
    conv => lhs; rw [e4]
    exact Int.add_mul_ediv_left _ _ (Int.ne_of_gt (pow256_pos j))
  rw [e3, Int.add_mul_emod_self_left]
theorem byte_ext {xs ys : List Int} (hl : xs.length = ys.length) (h : ∀ i, byteAt xs i = byteAt ys i) : xs = ys := by
  apply List.ext_getElem hl
  intro i h1 h2
  have := h i
  unfold byteAt at this
  rwa [List.getD_eq_getElem?_getD, List.getD_eq_getElem?_getD, List.getElem?_eq_getElem h1, List.getElem?_eq_getElem h2] at this
theorem pieces {zs : List Int} {o c m : Nat} {v : Int} (hv : 0 ≤ v) (h : o + (c + m) ≤ zs.length) : storeF (storeF zs (o + c) (v / 256 ^ c) m) o (v % 256 ^ c) c = storeF zs o v (c + m) := by
  apply byte_ext
  · simp only [storeF_length]
  · intro i
    rw [byteAt_storeF (by rw [storeF_length]; omega), byteAt_storeF (by omega), byteAt_storeF (by omega)]
    by_cases h1 : o ≤ i ∧ i < o + c
    · rw [if_pos h1, if_pos (by omega), mod_div_mod hv (by omega)]
    · rw [if_neg h1]
      by_cases h2 : o + c ≤ i ∧ i < o + c + m
      · rw [if_pos h2, if_pos (by omega), Int.ediv_ediv_of_nonneg (Int.le_of_lt (pow256_pos c)), ← Int.pow_add, show c + (i - (o + c)) = i - o from by omega]
      · rw [if_neg h2, if_neg (by omega)]
theorem load_piece {zs : List Int} {o c m : Nat} {v : Int} (hv : 0 ≤ v) (h : o + (c + m) ≤ zs.length) : loadF (storeF zs o v (c + m)) (o + c) m = v / 256 ^ c % 256 ^ m :=
  loadF_eq (Int.ediv_nonneg hv (Int.le_of_lt (pow256_pos c))) fun j hj => by
    rw [byteAt_storeF h, if_pos (by omega), Int.ediv_ediv_of_nonneg (Int.le_of_lt (pow256_pos c)), ← Int.pow_add, show c + j = o + c + j - o from by omega]
theorem load_first {zs : List Int} {o c m : Nat} {v : Int} (hv : 0 ≤ v) (h : o + (c + m) ≤ zs.length) : loadF (storeF zs o v (c + m)) o c = v % 256 ^ c :=
  loadF_eq hv fun j hj => by
    rw [byteAt_storeF h, if_pos (by omega), show o + j - o = j from by omega]
end Go.Proofs.Ytookjknlfkmemaa
