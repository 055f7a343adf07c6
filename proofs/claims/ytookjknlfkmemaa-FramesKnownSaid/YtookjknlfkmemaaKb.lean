/- The closed law FramesKnown, walked. -/
import Derived.Test.YtookjknlfkmemaaNc
set_option linter.unusedVariables false
namespace Go.Proofs.Ytookjknlfkmemaa
open Go.RowKit Go.Cof

def BigM : List Int := List.replicate 1048576 0
theorem Big_len : BigM.length = 1048576 := List.length_replicate
theorem Big_new : Ctr Try.prog 9 [.int .i64 4096] (fun _ => True) [] (fun v L => ∃ p, v = .tuple #[.pointer (some ⟨p, 0, none⟩), .int .i64 0] ∧ L = [isMem p BigM]) := new_ok 4096 (by decide) (by decide)
theorem Big_frames (p : Nat) : Ctr Try.prog 21 [.pointer (some ⟨p, 0, none⟩)] (fun _ => True) [isMem p BigM] (fun v L => v = .int .i64 4096 ∧ L = [isMem p BigM]) := by
  have h := framesI_spec p BigM
  rw [Big_len] at h
  exact h
theorem Big_at (o : Nat) : byteAt BigM o = 0 := by
  unfold byteAt BigM
  rw [List.getD_eq_getElem?_getD, List.getElem?_replicate]
  split <;> rfl
theorem Big_byte (p : Nat) : Ctr Try.prog 12 [.pointer (some ⟨p, 0, none⟩), .int .u64 1048575] (fun _ => True) [isMem p BigM] (fun v L => v = .tuple #[.int .u8 0, .int .i64 0] ∧ L = [isMem p BigM]) := by
  have h := byte_spec p BigM 1048575 (by decide) (by decide)
  rw [Big_len, Big_at, show runE 1048576 1048575 1 = 0 from by decide, if_pos rfl] at h
  exact h
theorem Big_byte2 (p : Nat) : Ctr Try.prog 12 [.pointer (some ⟨p, 0, none⟩), .int .u64 1048576] (fun _ => True) [isMem p BigM] (fun v L => v = .tuple #[.int .u8 0, .int .i64 10] ∧ L = [isMem p BigM]) := by
  have h := byte_spec p BigM 1048576 (by decide) (by decide)
  rw [Big_len, show runE 1048576 1048576 1 = 10 from by decide, if_neg (by decide)] at h
  exact h
theorem kl_0 (p : Nat) : Ctr Try.prog 13 [.pointer (some ⟨p, 0, none⟩), .int .u64 509, .int .i64 3] (fun _ => True) [isMem p W0] (fun v L => v = .tuple #[.int .u64 0, .int .i64 0] ∧ L = [isMem p W0]) := by
  have h := load_spec p W0 509 3 (by decide) (by decide) (by decide) (by decide)
  rw [W0_len, show runE 512 509 3 = 0 from by decide, if_pos rfl, show loadF W0 (509 : Int).toNat (3 : Int).toNat = 0 from by decide +kernel] at h
  exact h
theorem kl_1 (p : Nat) : Ctr Try.prog 13 [.pointer (some ⟨p, 0, none⟩), .int .u64 0, .int .i64 0] (fun _ => True) [isMem p W0] (fun v L => v = .tuple #[.int .u64 0, .int .i64 2] ∧ L = [isMem p W0]) := by
  have h := load_spec p W0 0 0 (by decide) (by decide) (by decide) (by decide)
  rw [W0_len, show runE 512 0 0 = 2 from by decide, if_neg (by decide)] at h
  exact h
theorem kl_2 (p : Nat) : Ctr Try.prog 13 [.pointer (some ⟨p, 0, none⟩), .int .u64 0, .int .i64 9] (fun _ => True) [isMem p W0] (fun v L => v = .tuple #[.int .u64 0, .int .i64 2] ∧ L = [isMem p W0]) := by
  have h := load_spec p W0 0 9 (by decide) (by decide) (by decide) (by decide)
  rw [W0_len, show runE 512 0 9 = 2 from by decide, if_neg (by decide)] at h
  exact h
theorem kl_3 (p : Nat) : Ctr Try.prog 13 [.pointer (some ⟨p, 0, none⟩), .int .u64 512, .int .i64 0] (fun _ => True) [isMem p W0] (fun v L => v = .tuple #[.int .u64 0, .int .i64 10] ∧ L = [isMem p W0]) := by
  have h := load_spec p W0 512 0 (by decide) (by decide) (by decide) (by decide)
  rw [W0_len, show runE 512 512 0 = 10 from by decide, if_neg (by decide)] at h
  exact h
theorem kl_4 (p : Nat) : Ctr Try.prog 13 [.pointer (some ⟨p, 0, none⟩), .int .u64 18446744073709551615, .int .i64 8] (fun _ => True) [isMem p W0] (fun v L => v = .tuple #[.int .u64 0, .int .i64 10] ∧ L = [isMem p W0]) := by
  have h := load_spec p W0 18446744073709551615 8 (by decide) (by decide) (by decide) (by decide)
  rw [W0_len, show runE 512 18446744073709551615 8 = 10 from by decide, if_neg (by decide)] at h
  exact h
theorem kz_0 (p : Nat) : Ctr Try.prog 19 [.pointer (some ⟨p, 0, none⟩), .int .i64 2] (fun _ => True) [isMem p W0] (fun v L => v = .int .i64 2 ∧ L = [isMem p W0]) := by
  have h := zero_spec p W0 2 (by decide) (by decide)
  rw [W0_len, show frameE 512 2 = 2 from by decide, if_neg (by decide)] at h
  exact h
theorem kc_0 (p : Nat) : Ctr Try.prog 14 [.pointer (some ⟨p, 0, none⟩), .int .i64 0, .int .i64 2] (fun _ => True) [isMem p W0] (fun v L => v = .int .i64 2 ∧ L = [isMem p W0]) := by
  have h := copy_spec p W0 0 2 (by decide) (by decide) (by decide) (by decide)
  rw [W0_len, show copyE 512 0 2 = 2 from by decide, if_neg (by decide)] at h
  exact h
theorem kc_1 (p : Nat) : Ctr Try.prog 14 [.pointer (some ⟨p, 0, none⟩), .int .i64 2, .int .i64 0] (fun _ => True) [isMem p W0] (fun v L => v = .int .i64 2 ∧ L = [isMem p W0]) := by
  have h := copy_spec p W0 2 0 (by decide) (by decide) (by decide) (by decide)
  rw [W0_len, show copyE 512 2 0 = 2 from by decide, if_neg (by decide)] at h
  exact h
theorem kp_0 (p q : Nat) : Ctr Try.prog 18 [.pointer (some ⟨p, 0, none⟩), .int .i64 (1), .slice (some ⟨q, 0, none⟩) 255 255] (fun h => rdS (encI .u8) h (some ⟨q, 0, none⟩) 255 (List.replicate 255 0)) [isMem p W0] (fun v L => v = .int .i64 2 ∧ L = [isMem p W0]) := by
  have h := putL_spec p W0 (1) (some ⟨q, 0, none⟩) 255 255 (List.replicate 255 0) (by decide) (by decide) (by decide) (fun y hy => by rw [List.eq_of_mem_replicate hy]; decide)
  rw [W0_len, show putE 512 (1) 255 = 2 from by decide, if_neg (by decide)] at h
  exact h
theorem kp_1 (p q : Nat) : Ctr Try.prog 18 [.pointer (some ⟨p, 0, none⟩), .int .i64 (1), .slice (some ⟨q, 0, none⟩) 257 257] (fun h => rdS (encI .u8) h (some ⟨q, 0, none⟩) 257 (List.replicate 257 0)) [isMem p W0] (fun v L => v = .int .i64 2 ∧ L = [isMem p W0]) := by
  have h := putL_spec p W0 (1) (some ⟨q, 0, none⟩) 257 257 (List.replicate 257 0) (by decide) (by decide) (by decide) (fun y hy => by rw [List.eq_of_mem_replicate hy]; decide)
  rw [W0_len, show putE 512 (1) 257 = 2 from by decide, if_neg (by decide)] at h
  exact h
theorem kp_2 (p q : Nat) : Ctr Try.prog 18 [.pointer (some ⟨p, 0, none⟩), .int .i64 (-1), .slice (some ⟨q, 0, none⟩) 256 256] (fun h => rdS (encI .u8) h (some ⟨q, 0, none⟩) 256 (List.replicate 256 0)) [isMem p W0] (fun v L => v = .int .i64 2 ∧ L = [isMem p W0]) := by
  have h := putL_spec p W0 (-1) (some ⟨q, 0, none⟩) 256 256 (List.replicate 256 0) (by decide) (by decide) (by decide) (fun y hy => by rw [List.eq_of_mem_replicate hy]; decide)
  rw [W0_len, show putE 512 (-1) 256 = 2 from by decide, if_neg (by decide)] at h
  exact h
set_option maxRecDepth 100000 in
set_option maxHeartbeats 8000000 in
theorem framesKnown_walk : FnC Try.prog 7 [] (fun _ => True) (.bool true) := by
  refine Ctr.intro Try.func7 rfl rfl (by decide +kernel) fun F hpre => ?_
  repeat' (first | (refine XL_id ?_; first | refine XL_nil ?_ | refine XL_guard_yes rfl rfl rfl ?_ | (refine XG_box ?_; (refine XL_box rfl (fun _ => rfl) (fun _ => ?_); refine XL_nB (by repeat' (first | exact .nil | apply NL.cons)) ?_)) | (refine XG_build ?_; (refine XL_build tt_ok rfl rfl rfl rfl rfl rfl rfl ?_; refine XL_aggN (by repeat' (first | exact .nil | apply NL.cons)) ?_)) | (refine XG_call ?_; first | refine XL_fn (new_bad 0 (by decide)) rfl rfl (fun _ _ _ => trivial) ?_ | refine XL_fn (new_bad 4097 (by decide)) rfl rfl (fun _ _ _ => trivial) ?_ | (refine XL_callK [] Big_new rfl rfl (fun _ => rfl) (fun _ _ _ => trivial) (fun v L hv => ?_); obtain ⟨p, rfl, rfl⟩ := hv) | (refine XL_callK [] w_new rfl rfl (fun _ => rfl) (fun _ _ _ => trivial) (fun v L hv => ?_); obtain ⟨p, rfl, rfl⟩ := hv) | refine XL_fn works_spec rfl rfl (fun _ _ _ => trivial) ?_ | refine XL_callE [0] (Big_frames _) rfl rfl rfl (fun _ _ _ => trivial) ?_ | refine XL_callE [0] (Big_byte _) rfl rfl rfl (fun _ _ _ => trivial) ?_ | refine XL_callE [0] (Big_byte2 _) rfl rfl rfl (fun _ _ _ => trivial) ?_ | refine XL_callE [0] (kl_0 _) rfl rfl rfl (fun _ _ _ => trivial) ?_ | refine XL_callE [0] (kl_1 _) rfl rfl rfl (fun _ _ _ => trivial) ?_ | refine XL_callE [0] (kl_2 _) rfl rfl rfl (fun _ _ _ => trivial) ?_ | refine XL_callE [0] (kl_3 _) rfl rfl rfl (fun _ _ _ => trivial) ?_ | refine XL_callE [0] (kl_4 _) rfl rfl rfl (fun _ _ _ => trivial) ?_ | refine XL_callE [0] (kz_0 _) rfl rfl rfl (fun _ _ _ => trivial) ?_ | refine XL_callE [0] (kc_0 _) rfl rfl rfl (fun _ _ _ => trivial) ?_ | refine XL_callE [0] (kc_1 _) rfl rfl rfl (fun _ _ _ => trivial) ?_ | refine XL_callE [1] (kp_0 _ _) rfl rfl rfl (fun g hg hL => rd_at 0 rfl hL) ?_ | refine XL_callE [1] (kp_1 _ _) rfl rfl rfl (fun g hg hL => rd_at 0 rfl hL) ?_ | refine XL_callE [1] (kp_2 _ _) rfl rfl rfl (fun g hg hL => rd_at 0 rfl hL) ?_ | refine XL_fn (nFrames_n) rfl rfl (fun _ _ _ => trivial) ?_ | refine XL_fn (nFrames_e _) rfl rfl (fun g hg hL => blk_at 0 rfl hL) ?_ | refine XL_fn (nByte_n _) rfl rfl (fun _ _ _ => trivial) ?_ | refine XL_fn (nByte_e _ _) rfl rfl (fun g hg hL => blk_at 0 rfl hL) ?_ | refine XL_fn (nSetByte_n _ _) rfl rfl (fun _ _ _ => trivial) ?_ | refine XL_fn (nSetByte_e _ _ _) rfl rfl (fun g hg hL => blk_at 0 rfl hL) ?_ | refine XL_fn (nLoad_n _ _) rfl rfl (fun _ _ _ => trivial) ?_ | refine XL_fn (nLoad_e _ _ _) rfl rfl (fun g hg hL => blk_at 0 rfl hL) ?_ | refine XL_fn (nStore_n _ _ _) rfl rfl (fun _ _ _ => trivial) ?_ | refine XL_fn (nStore_e _ _ _ _) rfl rfl (fun g hg hL => blk_at 0 rfl hL) ?_ | refine XL_fn (nZero_n _) rfl rfl (fun _ _ _ => trivial) ?_ | refine XL_fn (nZero_e _ _) rfl rfl (fun g hg hL => blk_at 0 rfl hL) ?_ | refine XL_fn (nCopy_n _ _) rfl rfl (fun _ _ _ => trivial) ?_ | refine XL_fn (nCopy_e _ _ _) rfl rfl (fun g hg hL => blk_at 0 rfl hL) ?_ | refine XL_fn (nPage_n _) rfl rfl (fun _ _ _ => trivial) ?_ | refine XL_fn (nPage_e _ _) rfl rfl (fun g hg hL => blk_at 0 rfl hL) ?_ | refine XL_fn (nPut_n _ _ _ _) rfl rfl (fun _ _ _ => trivial) ?_ | refine XL_fn (nPut_e _ _ _ _ _) rfl rfl (fun g hg hL => blk_at 0 rfl hL) ?_) | (refine XG_make ?_; (refine XL_make (encI .u8) (0 : Int) tt_ok rfl rfl rfl rfl rfl rfl rfl rfl (by omega) (by omega) (by show (1 : Int) * _ ≤ _; omega) (by omega) (fun _ => rfl) (fun g => ?_))) | (refine XL_op tt_ok rfl rfl ?_; try (first | (refine XL_int (Eq.trans (wrap_i64 (by omega) (by omega)) (by simp only [Int.reduceAdd, Int.reduceSub, Int.reduceMul, Int.reduceNeg]; rfl)) ?_) | refine XL_dec_t (by omega) ?_ | refine XL_dec_f (by omega) ?_))) | (refine X_id ?_; first | (refine X_regionEN (id := 0) [] rfl (by repeat' (exact .nil)) ?_) | (refine X_regionEN (id := 1) [] rfl (by repeat' (exact .nil)) ?_) | (refine X_regionEN (id := 2) [2] rfl (by repeat' (exact .nil)) ?_) | (refine X_regionEN (id := 3) [2, 4] rfl (by repeat' (exact .nil)) ?_) | (refine X_regionEN (id := 4) [2, 4, 5, 6] rfl (by repeat' (first | exact .nil | apply NL.cons)) ?_) | (refine X_regionEN (id := 6) [2, 4, 5] rfl (by repeat' (first | exact .nil | apply NL.cons)) ?_) | (refine X_regionEN (id := 7) [2, 4, 5, 7, 8] rfl (by repeat' (first | exact .nil | apply NL.cons)) ?_) | (refine X_regionEN (id := 8) [2, 4, 7, 8, 10] rfl (by repeat' (first | exact .nil | apply NL.cons)) ?_) | (refine X_regionEN (id := 9) [11] rfl (by repeat' (first | exact .nil | apply NL.cons)) ?_) | (refine X_regionEN (id := 10) [11, 12] rfl (by repeat' (first | exact .nil | apply NL.cons)) ?_) | (refine X_regionEN (id := 11) [11, 12, 15] rfl (by repeat' (first | exact .nil | apply NL.cons)) ?_) | (refine X_regionEN (id := 12) [11, 12, 15, 17] rfl (by repeat' (first | exact .nil | apply NL.cons)) ?_) | (refine X_regionEN (id := 13) [11, 12, 15, 17, 19] rfl (by repeat' (first | exact .nil | apply NL.cons)) ?_) | (refine X_regionEN (id := 14) [11, 12, 15, 17, 19, 21] rfl (by repeat' (first | exact .nil | apply NL.cons)) ?_) | (refine X_regionEN (id := 15) [11, 12, 15, 17, 19, 21, 23] rfl (by repeat' (first | exact .nil | apply NL.cons)) ?_) | (refine X_regionEN (id := 16) [11, 24] rfl (by repeat' (first | exact .nil | apply NL.cons)) ?_) | (refine X_regionEN (id := 17) [11, 24, 25] rfl (by repeat' (first | exact .nil | apply NL.cons)) ?_) | (refine X_regionEN (id := 18) [11, 24, 25, 26] rfl (by repeat' (first | exact .nil | apply NL.cons)) ?_) | (refine X_regionEN (id := 19) [11, 24, 25, 26, 27] rfl (by repeat' (first | exact .nil | apply NL.cons)) ?_) | (refine X_regionEN (id := 21) [11, 24, 25, 26, 27] rfl (by repeat' (first | exact .nil | apply NL.cons)) ?_) | (refine X_regionEN (id := 22) [11, 24, 25, 26, 27, 29] rfl (by repeat' (first | exact .nil | apply NL.cons)) ?_) | (refine X_regionEN (id := 23) [11, 24, 25, 26, 27, 29, 31] rfl (by repeat' (first | exact .nil | apply NL.cons)) ?_) | (refine X_regionEN (id := 24) [11, 24, 25, 26, 27, 29, 31, 33] rfl (by repeat' (first | exact .nil | apply NL.cons)) ?_) | (refine X_regionEN (id := 25) [11, 24, 25, 26, 27] rfl (by repeat' (first | exact .nil | apply NL.cons)) ?_) | (refine X_regionEN (id := 20) [11, 24, 25, 26, 27] rfl (by repeat' (first | exact .nil | apply NL.cons)) ?_) | (refine X_regionEN (id := 26) [11, 24, 26] rfl (by repeat' (first | exact .nil | apply NL.cons)) ?_) | refine X_unroll 4 ?_ | refine X_seq ?_ | refine X_skip ?_ | refine X_ret ?_ | refine X_exit ?_ | refine X_block ?_ | refine X_cond_t rfl ?_ | refine X_cond_f rfl ?_) | (refine Y_id ?_; first | refine Y_unroll ?_ | refine Y_then ?_ | refine Y_then_exit ?_ | refine Y_block_hit ?_ | refine Y_block_normal ?_))
  all_goals first
    | exact Y_fn1 rfl rfl rfl
    | skip
  
end Go.Proofs.Ytookjknlfkmemaa
