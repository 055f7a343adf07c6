/- FramesLast's walk. -/
import Derived.Test.YtookjknlfkmemaaWe
set_option linter.unusedVariables false
namespace Go.Proofs.Ytookjknlfkmemaa
open Go.RowKit Go.Cof

theorem get_all {xs : List Int} {i : Int} (h : ∀ x ∈ xs, 0 ≤ x ∧ x < 256) (hi : 0 ≤ i ∧ i < xs.length) : 0 ≤ Cof.get xs i ∧ Cof.get xs i < 256 := h _ (List.mem_of_getElem? (Cof.get_some hi.1 hi.2))
theorem one_shl {s : Int} (h0 : 0 ≤ s) (h1 : s < 8) : IntKind.u64.wrap (1 * 2 ^ min (8 * s).toNat IntKind.u64.bits) = 256 ^ s.toNat := by
  have h2 : (256 : Int) ^ (s.toNat + 1) ≤ 18446744073709551616 := pow256_le (by omega)
  have h3 := pow256_pos s.toNat
  rw [Int.pow_succ] at h2
  rw [Int.one_mul, p256' h0 (by omega)]
  exact wrap_u64 (by omega) (by omega)
theorem get_xor (xs : List Int) (i : Int) : 0 ≤ bits .xor .u8 255 (Cof.get xs i) ∧ bits .xor .u8 255 (Cof.get xs i) < 256 := by
  unfold bits
  rw [wrap_u8']
  omega
theorem sameBytes_eq (A B : Option Addr) (m c m' c' : Nat) (xs : List Int) (h1 : m ≤ 9223372036854775807) (h2 : m' ≤ 9223372036854775807) : FnC Try.prog 16 [.slice A m c, .slice B m' c'] (fun h => rdS (encI .u8) h A m xs ∧ rdS (encI .u8) h B m' xs) (.bool true) := by
  have h := sameBytes_spec A B m c m' c' xs xs h1 h2
  rw [decide_eq_true rfl] at h
  exact h
set_option maxHeartbeats 4000000 in
theorem framesLast_walk (A B : In Int) (at_ size v fr : Int) (ha1 : -9223372036854775808 ≤ at_) (ha2 : at_ ≤ 9223372036854775807) (hs1 : -9223372036854775808 ≤ size) (hs2 : size ≤ 9223372036854775807) (hv1 : 0 ≤ v) (hv2 : v ≤ 18446744073709551615) (hf1 : -9223372036854775808 ≤ fr) (hf2 : fr ≤ 9223372036854775807) (hm : A.m ≤ 9223372036854775807) (hA : ∀ x ∈ A.xs, 0 ≤ x ∧ x < 256) :
    FnC Try.prog 3 [.agg #[.slice A.A A.m A.c, .slice B.A B.m B.c, .int .i64 at_, .int .i64 size, .int .u64 v, .int .i64 fr]] (fun h => rdS (encI .u8) h A.A A.m A.xs) (.bool true) := by
  refine Ctr.intro Try.func3 rfl rfl (by decide +kernel) fun F hpre => ?_
  repeat' (first
    | (refine XL_box rfl (fun _ => rfl) (fun bx => ?_))
    | (refine XL_op tt_ok rfl rfl ?_; refine XL_int (wrap_i64 (by omega) (by omega)) ?_; refine XL_gen 26 (fun n => 2 ≤ n ∧ n ≤ 7) ⟨by omega, by omega⟩ (fun n hn => ?_); obtain ⟨hn0, hn1⟩ := hn)
    | (refine XL_op tt_ok rfl rfl ?_; refine XL_int (wrap_i64 (by omega) (by omega)) ?_; refine XL_gen 49 (fun n => 1 ≤ n ∧ n ≤ 8) ⟨by omega, by omega⟩ (fun sz hsz => ?_); obtain ⟨hz0, hz1⟩ := hsz)
    | (refine X_cutB (c := .block 0 _) (fun (zs : List Int) => [(1, .pointer (some ⟨bx, 0, none⟩)), (3, .int .i64 n), (4, .pointer (some ⟨p, 0, none⟩)), (6, .int .i64 (256 * n)), (7, .int .i64 at0), (8, .int .i64 sz), (9, .slice (some ⟨g, 0, none⟩) (256 * n).toNat (256 * n).toNat)]) (fun zs => [isMem p zs, own (encI .u8) (some ⟨g, 0, none⟩) (256 * n).toNat (256 * n).toNat zs, blk bx [.slice A.A A.m A.c, .slice B.A B.m B.c, .int .i64 at_, .int .i64 size, .int .u64 v, .int .i64 fr] 25]) (fun zs => zs.length = (256 * n).toNat) (X_block ?_) (fun zs hl => ?_))
    | (refine X_cutB (c := .seq (.region 17 _ _) _) (fun (a : Int) => [(1, .pointer (some ⟨bx, 0, none⟩)), (3, .int .i64 n), (4, .pointer (some ⟨p, 0, none⟩)), (6, .int .i64 (256 * n)), (7, .int .i64 a), (8, .int .i64 sz), (9, .slice (some ⟨g, 0, none⟩) (256 * n).toNat (256 * n).toNat)]) (fun a => [isMem p zs, own (encI .u8) (some ⟨g, 0, none⟩) (256 * n).toNat (256 * n).toNat zs, blk bx [.slice A.A A.m A.c, .slice B.A B.m B.c, .int .i64 at_, .int .i64 size, .int .u64 v, .int .i64 fr] 25]) (fun a => 0 ≤ a ∧ a + sz ≤ 256 * n) (X_seq ?_) (fun a ha => ?_))
    | (refine X_cutB (c := .block 2 _) (fun (_ : Unit) => [(1, .pointer (some ⟨bx, 0, none⟩)), (3, .int .i64 n), (4, .pointer (some ⟨p, 0, none⟩)), (6, .int .i64 (256 * n)), (7, .int .i64 a), (8, .int .i64 sz), (9, .slice (some ⟨g, 0, none⟩) (256 * n).toNat (256 * n).toNat)]) (fun _ => [isMem p (storeF zs a.toNat v sz.toNat), own (encI .u8) (some ⟨g, 0, none⟩) (256 * n).toNat (256 * n).toNat (storeF zs a.toNat v sz.toNat), blk bx [.slice A.A A.m A.c, .slice B.A B.m B.c, .int .i64 at_, .int .i64 size, .int .u64 v, .int .i64 fr] 25]) (fun _ => True) (X_block ?_) (fun _ _ => ?_))
    | (refine X_cutB (c := .block 4 _) (fun (_ : Unit) => [(1, .pointer (some ⟨bx, 0, none⟩)), (3, .int .i64 n), (4, .pointer (some ⟨p, 0, none⟩)), (6, .int .i64 (256 * n)), (7, .int .i64 a), (8, .int .i64 sz), (9, .slice (some ⟨g, 0, none⟩) (256 * n).toNat (256 * n).toNat)]) (fun _ => [isMem p (storeF zs a.toNat v sz.toNat), own (encI .u8) (some ⟨g, 0, none⟩) (256 * n).toNat (256 * n).toNat (storeF zs a.toNat v sz.toNat), blk bx [.slice A.A A.m A.c, .slice B.A B.m B.c, .int .i64 at_, .int .i64 size, .int .u64 v, .int .i64 fr] 25]) (fun _ => True) (X_block ?_) (fun _ _ => ?_))
    | (refine X_seq ?_)
    | (refine X_region ?_)
    | (refine XL_nil ?_)
    | (refine Y_then ?_)
    | (refine Y_then_ret ?_)
    | (refine Y_then_exit ?_)
    | (refine Y_block_hit ?_)
    | (refine Y_block_miss rfl ?_)
    | (refine Y_block_normal ?_)
    | (refine Y_block_ret ?_)
    | (refine X_skip ?_)
    | (refine X_ret ?_)
    | (refine X_exit ?_)
    | (refine X_block ?_)
    | (refine X_cond_t rfl ?_)
    | (refine X_cond_f rfl ?_)
    | (refine XL_guard_yes rfl rfl rfl ?_)
    | (refine XL_guard_no rfl rfl rfl rfl rfl ?_)
    | (refine XL_op tt_ok rfl rfl ?_; try (first | (refine XL_int (shl8_u64 (by omega) (by omega)) ?_) | (refine XL_int (shr8) ?_) | (refine XL_int (wrap_i64 (by omega) (by omega)) ?_) | (refine XL_int (wrap_u64 (by omega) (by omega)) ?_) | (refine XL_int (wrap_u8 (by omega) (by omega)) ?_) | (refine XL_int (quo_i64 (by omega) (by omega) (by omega)) ?_) | (refine XL_int (quo_u64 (by omega) (by omega) (by omega)) ?_) | (refine XL_int (rem_pos (by omega)) ?_) | (refine XL_remb (by omega) (fun _ _ _ _ => ?_)) | (refine XL_dec_t (by omega) ?_) | (refine XL_dec_f (by omega) ?_) | (refine XL_dec (fun _ => ?_) (fun _ => ?_))))
    | (refine XL_load tt_ok 0 rfl rfl rfl rfl rfl rfl ?_)
    | (refine XL_load tt_ok 1 rfl rfl rfl rfl rfl rfl ?_)
    | (refine XL_load tt_ok 2 rfl rfl rfl rfl rfl rfl ?_)
    | (refine XL_load tt_ok 3 rfl rfl rfl rfl rfl rfl ?_)
    | (refine XL_load tt_ok 4 rfl rfl rfl rfl rfl rfl ?_)
    | (refine XL_load tt_ok 5 rfl rfl rfl rfl rfl rfl ?_)
    | (refine XL_loadF tt_ok rfl (by assumption) rfl rfl rfl rfl ?_)
    | (refine XL_idx tt_ok rfl rfl rfl rfl rfl (by assumption) (by omega) (by omega) rfl ?_)
    | (refine XL_el tt_ok rfl (by assumption) rfl (by omega) (by omega) rfl rfl rfl rfl ?_)
    | (refine XL_elf tt_ok rfl (by assumption) rfl (by omega) (by omega) rfl rfl rfl rfl ?_)
    | (refine XL_box rfl (fun _ => rfl) (fun _ => ?_))
    | (refine XL_build tt_ok rfl rfl rfl rfl rfl rfl rfl ?_)
    | (refine XL_callE [0] (store_in _ _ _ _ _ (by omega) (by omega) (by omega) (by omega) (by omega) (by omega) (by omega)) rfl rfl rfl (fun _ _ _ => trivial) ?_)
    | (refine XL_fn works_spec rfl rfl (fun _ _ _ => trivial) ?_)
    | (refine XL_callK [] (new_ok _ (by omega) (by omega)) rfl rfl (fun _ => rfl) (fun _ _ _ => trivial) (fun v L hv => ?_); obtain ⟨p, rfl, rfl⟩ := hv)
    | (refine XL_op tt_ok (opV_rem rfl rfl (by omega)) rfl ?_; refine XL_remb (by omega) (fun y1 hy1 hy2 hy3 => ?_); refine XL_gen 43 (fun y => 0 ≤ y ∧ y < 256 * n) ⟨by omega, by omega⟩ (fun at0 h0 => ?_); obtain ⟨ht0, ht1⟩ := h0)
    | (refine XL_op tt_ok (opV_rem rfl rfl (by omega)) rfl ?_; refine XL_remb (by omega) (fun y1 hy1 hy2 hy3 => ?_))
    | (refine XL_make (encI .u8) (0 : Int) tt_ok rfl rfl rfl rfl rfl rfl rfl rfl (by omega) (by omega) (by show (1 : Int) * _ ≤ _; omega) (by omega) (fun _ => rfl) (fun g => ?_))
    )
  · have el : (List.replicate (n.toNat * 256) (0 : Int)) = List.replicate (256 * n).toNat 0 := by congr 1; omega
    refine X_loop2 (fun (i : Nat) (zs : List Int) => [(1, .pointer (some ⟨bx, 0, none⟩)), (3, .int .i64 n), (4, .pointer (some ⟨p, 0, none⟩)), (6, .int .i64 (256 * n)), (7, .int .i64 at0), (8, .int .i64 sz), (9, .slice (some ⟨g, 0, none⟩) (256 * n).toNat (256 * n).toNat), (10, .int .i64 i)]) (fun i zs => [isMem p zs, own (encI .u8) (some ⟨g, 0, none⟩) (256 * n).toNat (256 * n).toNat zs, blk bx [.slice A.A A.m A.c, .slice B.A B.m B.c, .int .i64 at_, .int .i64 size, .int .u64 v, .int .i64 fr] 25]) (fun i zs => zs.length = (256 * n).toNat ∧ i ≤ (256 * n).toNat) (fun i _ => (256 * n).toNat - i) 0 (List.replicate (256 * n).toNat 0) ⟨List.length_replicate, Nat.zero_le _⟩ (by repeat' (first | exact trivial | refine And.intro rfl ?_)) (fun h hs => by rw [el] at hs; exact stars_only [1, 0, 0] rfl h hs) ?_
    intro i zs hi
    obtain ⟨hl, hi⟩ := hi
    have e0 : 0 + ((i : Nat) : Int).toNat * 1 = ((i : Nat) : Int).toNat := by omega
    repeat' (first
    | (refine X_seq ?_)
    | (refine X_region ?_)
    | (refine XL_nil ?_)
    | (refine Y_then ?_)
    | (refine Y_then_ret ?_)
    | (refine Y_then_exit ?_)
    | (refine Y_block_hit ?_)
    | (refine Y_block_miss rfl ?_)
    | (refine Y_block_normal ?_)
    | (refine Y_block_ret ?_)
    | (refine X_skip ?_)
    | (refine X_ret ?_)
    | (refine X_exit ?_)
    | (refine X_block ?_)
    | (refine X_cond_t rfl ?_)
    | (refine X_cond_f rfl ?_)
    | (refine XL_guard_yes rfl rfl rfl ?_)
    | (refine XL_guard_no rfl rfl rfl rfl rfl ?_)
    | (refine XL_op tt_ok rfl rfl ?_; try (first | (refine XL_int (shl8_u64 (by omega) (by omega)) ?_) | (refine XL_int (shr8) ?_) | (refine XL_int (wrap_i64 (by omega) (by omega)) ?_) | (refine XL_int (wrap_u64 (by omega) (by omega)) ?_) | (refine XL_int (wrap_u8 (by omega) (by omega)) ?_) | (refine XL_int (quo_i64 (by omega) (by omega) (by omega)) ?_) | (refine XL_int (quo_u64 (by omega) (by omega) (by omega)) ?_) | (refine XL_int (rem_pos (by omega)) ?_) | (refine XL_remb (by omega) (fun _ _ _ _ => ?_)) | (refine XL_dec_t (by omega) ?_) | (refine XL_dec_f (by omega) ?_) | (refine XL_dec (fun _ => ?_) (fun _ => ?_))))
    | (refine XL_load tt_ok 0 rfl rfl rfl rfl rfl rfl ?_)
    | (refine XL_load tt_ok 1 rfl rfl rfl rfl rfl rfl ?_)
    | (refine XL_load tt_ok 2 rfl rfl rfl rfl rfl rfl ?_)
    | (refine XL_load tt_ok 3 rfl rfl rfl rfl rfl rfl ?_)
    | (refine XL_load tt_ok 4 rfl rfl rfl rfl rfl rfl ?_)
    | (refine XL_load tt_ok 5 rfl rfl rfl rfl rfl rfl ?_)
    | (refine XL_loadF tt_ok rfl (by assumption) rfl rfl rfl rfl ?_)
    | (refine XL_idx tt_ok rfl rfl rfl rfl rfl (by assumption) (by omega) (by omega) rfl ?_)
    | (refine XL_el tt_ok rfl (by assumption) rfl (by omega) (by omega) rfl rfl rfl rfl ?_)
    | (refine XL_elf tt_ok rfl (by assumption) rfl (by omega) (by omega) rfl rfl rfl rfl ?_)
    | (refine XL_box rfl (fun _ => rfl) (fun _ => ?_))
    | (refine XL_build tt_ok rfl rfl rfl rfl rfl rfl rfl ?_)
    | (refine XL_idxl tt_ok rfl rfl rfl rfl rfl (by omega) (by omega) rfl ?_)
    | (refine XL_put1 tt_ok 1 (Cof.get A.xs i) rfl rfl rfl rfl rfl rfl rfl (by omega) rfl ?_)
    | (refine XL_callE [0] (setByte_in _ _ _ _ (by omega) (by omega) (by omega) (get_all hA (by have := hpre.1; omega)).1 (get_all hA (by have := hpre.1; omega)).2) rfl rfl rfl (fun _ _ _ => trivial) ?_)
    )
    · exact Y_again (i + 1, zs.set ((i : Nat) : Int).toNat (Cof.get A.xs i)) fun _ _ hf hs => ⟨⟨by rw [List.length_set]; exact hl, by show i + 1 ≤ _; omega⟩, by show (256 * n).toNat - (i + 1) < _; omega, hf.sub (by repeat' (first | exact trivial | refine And.intro rfl ?_)), hs.imp fun h hs => by rw [e0] at hs; exact hs⟩
    all_goals exact Y_again zs fun _ _ hf hs => ⟨hl, hf.sub (by repeat' (first | exact trivial | refine And.intro rfl ?_)), hs⟩
  · exact Y_again (256 * n - sz) fun _ _ hf hs => ⟨⟨by omega, by omega⟩, hf.sub (by repeat' (first | exact trivial | refine And.intro rfl ?_)), hs⟩
  · exact Y_again at0 fun _ _ hf hs => ⟨⟨by omega, by omega⟩, hf.sub (by repeat' (first | exact trivial | refine And.intro rfl ?_)), hs⟩
  · refine X_loop (ι := Nat) (fun i => [(11, .int .u64 (v / 256 ^ i)), (1, .pointer (some ⟨bx, 0, none⟩)), (3, .int .i64 n), (4, .pointer (some ⟨p, 0, none⟩)), (6, .int .i64 (256 * n)), (7, .int .i64 a), (8, .int .i64 sz), (9, .slice (some ⟨g, 0, none⟩) (256 * n).toNat (256 * n).toNat), (12, .int .i64 i)]) (fun i => [isMem p (storeF zs a.toNat v sz.toNat), own (encI .u8) (some ⟨g, 0, none⟩) (256 * n).toNat (256 * n).toNat (storeF zs a.toNat v i), blk bx [.slice A.A A.m A.c, .slice B.A B.m B.c, .int .i64 at_, .int .i64 size, .int .u64 v, .int .i64 fr] 25]) (fun i => i ≤ sz.toNat) (fun i => sz.toNat - i) 0 (Nat.zero_le _) (And.intro (by rw [Int.pow_zero, Int.ediv_one]; rfl) (by repeat' (first | exact trivial | refine And.intro rfl ?_))) (fun h hs => hs) ?_
    intro i hi
    have hsl : ∀ k, (storeF zs a.toNat v k).length = (256 * n).toNat := fun k => by rw [storeF_length]; exact hl
    have e0 : 0 + (a + ((i : Nat) : Int)).toNat * 1 = a.toNat + i := by omega
    have e1 : v / 256 ^ i / 256 = v / 256 ^ (i + 1) := by rw [Int.pow_succ, Int.ediv_ediv_of_nonneg (Int.le_of_lt (pow256_pos i))]
    repeat' (first
    | (refine X_seq ?_)
    | (refine X_region ?_)
    | (refine XL_nil ?_)
    | (refine Y_then ?_)
    | (refine Y_then_ret ?_)
    | (refine Y_then_exit ?_)
    | (refine Y_block_hit ?_)
    | (refine Y_block_miss rfl ?_)
    | (refine Y_block_normal ?_)
    | (refine Y_block_ret ?_)
    | (refine X_skip ?_)
    | (refine X_ret ?_)
    | (refine X_exit ?_)
    | (refine X_block ?_)
    | (refine X_cond_t rfl ?_)
    | (refine X_cond_f rfl ?_)
    | (refine XL_guard_yes rfl rfl rfl ?_)
    | (refine XL_guard_no rfl rfl rfl rfl rfl ?_)
    | (refine XL_op tt_ok rfl rfl ?_; try (first | (refine XL_int (shl8_u64 (by omega) (by omega)) ?_) | (refine XL_int (shr8) ?_) | (refine XL_int (wrap_i64 (by omega) (by omega)) ?_) | (refine XL_int (wrap_u64 (by omega) (by omega)) ?_) | (refine XL_int (wrap_u8 (by omega) (by omega)) ?_) | (refine XL_int (quo_i64 (by omega) (by omega) (by omega)) ?_) | (refine XL_int (quo_u64 (by omega) (by omega) (by omega)) ?_) | (refine XL_int (rem_pos (by omega)) ?_) | (refine XL_remb (by omega) (fun _ _ _ _ => ?_)) | (refine XL_dec_t (by omega) ?_) | (refine XL_dec_f (by omega) ?_) | (refine XL_dec (fun _ => ?_) (fun _ => ?_))))
    | (refine XL_load tt_ok 0 rfl rfl rfl rfl rfl rfl ?_)
    | (refine XL_load tt_ok 1 rfl rfl rfl rfl rfl rfl ?_)
    | (refine XL_load tt_ok 2 rfl rfl rfl rfl rfl rfl ?_)
    | (refine XL_load tt_ok 3 rfl rfl rfl rfl rfl rfl ?_)
    | (refine XL_load tt_ok 4 rfl rfl rfl rfl rfl rfl ?_)
    | (refine XL_load tt_ok 5 rfl rfl rfl rfl rfl rfl ?_)
    | (refine XL_loadF tt_ok rfl (by assumption) rfl rfl rfl rfl ?_)
    | (refine XL_idx tt_ok rfl rfl rfl rfl rfl (by assumption) (by omega) (by omega) rfl ?_)
    | (refine XL_el tt_ok rfl (by assumption) rfl (by omega) (by omega) rfl rfl rfl rfl ?_)
    | (refine XL_elf tt_ok rfl (by assumption) rfl (by omega) (by omega) rfl rfl rfl rfl ?_)
    | (refine XL_box rfl (fun _ => rfl) (fun _ => ?_))
    | (refine XL_build tt_ok rfl rfl rfl rfl rfl rfl rfl ?_)
    | (refine XL_idxl tt_ok rfl rfl rfl rfl rfl (by omega) (by omega) rfl ?_)
    | (refine XL_put1 tt_ok 1 (IntKind.u8.wrap (v / 256 ^ i)) rfl rfl rfl rfl rfl rfl rfl (by omega) rfl ?_)
    )
    · exact Y_again (i + 1) fun _ _ hf hs => ⟨by omega, by omega, hf.sub (And.intro (by rw [← e1]; rfl) (by repeat' (first | exact trivial | refine And.intro rfl ?_))), hs.imp fun h hs => by rw [e0, wrap_u8'] at hs; exact hs⟩
    · obtain rfl : i = sz.toNat := by omega
      exact Y_again () fun _ _ hf hs => ⟨trivial, hf.sub (by repeat' (first | exact trivial | refine And.intro rfl ?_)), hs⟩
  · refine X_loop (ι := Nat) (fun i => [(1, .pointer (some ⟨bx, 0, none⟩)), (3, .int .i64 n), (4, .pointer (some ⟨p, 0, none⟩)), (6, .int .i64 (256 * n)), (7, .int .i64 a), (8, .int .i64 sz), (9, .slice (some ⟨g, 0, none⟩) (256 * n).toNat (256 * n).toNat), (13, .int .i64 i)]) (fun i => [isMem p (storeF zs a.toNat v sz.toNat), own (encI .u8) (some ⟨g, 0, none⟩) (256 * n).toNat (256 * n).toNat (storeF zs a.toNat v sz.toNat), blk bx [.slice A.A A.m A.c, .slice B.A B.m B.c, .int .i64 at_, .int .i64 size, .int .u64 v, .int .i64 fr] 25]) (fun i => i ≤ (256 * n).toNat) (fun i => (256 * n).toNat - i) 0 (Nat.zero_le _) (by repeat' (first | exact trivial | refine And.intro rfl ?_)) (fun h hs => hs) ?_
    intro i hi
    have hsl : (storeF zs a.toNat v sz.toNat).length = (256 * n).toNat := by rw [storeF_length]; exact hl
    repeat' (first
    | (refine X_seq ?_)
    | (refine X_region ?_)
    | (refine XL_nil ?_)
    | (refine Y_then ?_)
    | (refine Y_then_ret ?_)
    | (refine Y_then_exit ?_)
    | (refine Y_block_hit ?_)
    | (refine Y_block_miss rfl ?_)
    | (refine Y_block_normal ?_)
    | (refine Y_block_ret ?_)
    | (refine X_skip ?_)
    | (refine X_ret ?_)
    | (refine X_exit ?_)
    | (refine X_block ?_)
    | (refine X_cond_t rfl ?_)
    | (refine X_cond_f rfl ?_)
    | (refine XL_guard_yes rfl rfl rfl ?_)
    | (refine XL_guard_no rfl rfl rfl rfl rfl ?_)
    | (refine XL_op tt_ok rfl rfl ?_; try (first | (refine XL_int (shl8_u64 (by omega) (by omega)) ?_) | (refine XL_int (shr8) ?_) | (refine XL_int (wrap_i64 (by omega) (by omega)) ?_) | (refine XL_int (wrap_u64 (by omega) (by omega)) ?_) | (refine XL_int (wrap_u8 (by omega) (by omega)) ?_) | (refine XL_int (quo_i64 (by omega) (by omega) (by omega)) ?_) | (refine XL_int (quo_u64 (by omega) (by omega) (by omega)) ?_) | (refine XL_int (rem_pos (by omega)) ?_) | (refine XL_remb (by omega) (fun _ _ _ _ => ?_)) | (refine XL_dec_t (by omega) ?_) | (refine XL_dec_f (by omega) ?_) | (refine XL_dec (fun _ => ?_) (fun _ => ?_))))
    | (refine XL_load tt_ok 0 rfl rfl rfl rfl rfl rfl ?_)
    | (refine XL_load tt_ok 1 rfl rfl rfl rfl rfl rfl ?_)
    | (refine XL_load tt_ok 2 rfl rfl rfl rfl rfl rfl ?_)
    | (refine XL_load tt_ok 3 rfl rfl rfl rfl rfl rfl ?_)
    | (refine XL_load tt_ok 4 rfl rfl rfl rfl rfl rfl ?_)
    | (refine XL_load tt_ok 5 rfl rfl rfl rfl rfl rfl ?_)
    | (refine XL_loadF tt_ok rfl (by assumption) rfl rfl rfl rfl ?_)
    | (refine XL_idx tt_ok rfl rfl rfl rfl rfl (by assumption) (by omega) (by omega) rfl ?_)
    | (refine XL_el tt_ok rfl (by assumption) rfl (by omega) (by omega) rfl rfl rfl rfl ?_)
    | (refine XL_elf tt_ok rfl (by assumption) rfl (by omega) (by omega) rfl rfl rfl rfl ?_)
    | (refine XL_box rfl (fun _ => rfl) (fun _ => ?_))
    | (refine XL_build tt_ok rfl rfl rfl rfl rfl rfl rfl ?_)
    | (refine XL_callE [0] (byte_in _ _ _ (by omega) (by omega) (by omega)) rfl rfl rfl (fun _ _ _ => trivial) ?_)
    | (refine XL_idxo tt_ok 1 rfl rfl rfl rfl rfl rfl (by omega) (by omega) rfl ?_)
    | (refine XL_elo tt_ok 1 rfl rfl rfl (by omega) (by omega) rfl rfl rfl rfl ?_)
    )
    · exact Y_again (i + 1) fun _ _ hf hs => ⟨by omega, by omega, hf.sub (by repeat' (first | exact trivial | refine And.intro rfl ?_)), hs⟩
    · exact Y_again () fun _ _ hf hs => ⟨trivial, hf.sub (by repeat' (first | exact trivial | refine And.intro rfl ?_)), hs⟩
  · have hsl : (storeF zs a.toNat v sz.toNat).length = (256 * n).toNat := by rw [storeF_length]; exact hl
    obtain ⟨r, hr, hr8, hr7⟩ : ∃ r, loadF (storeF zs a.toNat v sz.toNat) a.toNat sz.toNat = r ∧ (8 ≤ sz → r = v) ∧ v.tmod (256 ^ sz.toNat) = r := by
      refine ⟨_, load_store hv1 (by omega), fun h => ?_, Int.tmod_eq_emod_of_nonneg hv1⟩
      obtain rfl : sz = 8 := by omega
      exact Int.emod_eq_of_lt hv1 (by show v < 18446744073709551616; omega)
    have hpg : (pageF (storeF zs a.toNat v sz.toNat) 0).length = 256 := pageF_length (by decide) (by omega)
    have hpl : (putF (storeF zs a.toNat v sz.toNat) (n - 1) (pageF (storeF zs a.toNat v sz.toNat) 0)).length = (256 * n).toNat := by rw [putF_length (by omega) (by omega) hpg]; exact hsl
    have hpp : pageF ((putF (storeF zs a.toNat v sz.toNat) (n - 1) (pageF (storeF zs a.toNat v sz.toNat) 0)).set (0 : Int).toNat (bits .xor .u8 255 (Cof.get (storeF zs a.toNat v sz.toNat) 0))) (n - 1) = (storeF zs a.toNat v sz.toNat).take 256 := by
      rw [page_set (show (0 : Int).toNat < _ by show 0 < _; omega), page_put (by omega) (by omega) hpg]
      rfl
    have hm8 := get_xor (storeF zs a.toNat v sz.toNat) 0
    repeat' (first
    | (refine X_cutB (c := .seq (.region 35 _ _) _) (fun (_ : Unit) => [(1, .pointer (some ⟨bx, 0, none⟩)), (3, .int .i64 n), (4, .pointer (some ⟨p, 0, none⟩)), (6, .int .i64 (256 * n)), (7, .int .i64 a), (8, .int .i64 sz), (9, .slice (some ⟨g, 0, none⟩) (256 * n).toNat (256 * n).toNat), (16, .int .u64 r), (5, .int .i64 0), (17, .int .u64 r)]) (fun _ => [isMem p (storeF zs a.toNat v sz.toNat), own (encI .u8) (some ⟨g, 0, none⟩) (256 * n).toNat (256 * n).toNat (storeF zs a.toNat v sz.toNat), blk bx [.slice A.A A.m A.c, .slice B.A B.m B.c, .int .i64 at_, .int .i64 size, .int .u64 v, .int .i64 fr] 25]) (fun _ => True) (X_seq ?_) (fun _ _ => ?_))
    | (refine X_seq ?_)
    | (refine X_region ?_)
    | (refine XL_nil ?_)
    | (refine Y_then ?_)
    | (refine Y_then_ret ?_)
    | (refine Y_then_exit ?_)
    | (refine Y_block_hit ?_)
    | (refine Y_block_miss rfl ?_)
    | (refine Y_block_normal ?_)
    | (refine Y_block_ret ?_)
    | (refine X_skip ?_)
    | (refine X_ret ?_)
    | (refine X_exit ?_)
    | (refine X_block ?_)
    | (refine X_cond_t rfl ?_)
    | (refine X_cond_f rfl ?_)
    | (refine XL_guard_yes rfl rfl rfl ?_)
    | (refine XL_guard_no rfl rfl rfl rfl rfl ?_)
    | (refine XL_op tt_ok rfl rfl ?_; try (first | (refine XL_int (shl8_u64 (by omega) (by omega)) ?_) | (refine XL_int (shr8) ?_) | (refine XL_int (wrap_i64 (by omega) (by omega)) ?_) | (refine XL_int (wrap_u64 (by omega) (by omega)) ?_) | (refine XL_int (wrap_u8 (by omega) (by omega)) ?_) | (refine XL_int (quo_i64 (by omega) (by omega) (by omega)) ?_) | (refine XL_int (quo_u64 (by omega) (by omega) (by omega)) ?_) | (refine XL_int (rem_pos (by omega)) ?_) | (refine XL_remb (by omega) (fun _ _ _ _ => ?_)) | (refine XL_dec_t (by omega) ?_) | (refine XL_dec_f (by omega) ?_) | (refine XL_dec (fun _ => ?_) (fun _ => ?_))))
    | (refine XL_load tt_ok 0 rfl rfl rfl rfl rfl rfl ?_)
    | (refine XL_load tt_ok 1 rfl rfl rfl rfl rfl rfl ?_)
    | (refine XL_load tt_ok 2 rfl rfl rfl rfl rfl rfl ?_)
    | (refine XL_load tt_ok 3 rfl rfl rfl rfl rfl rfl ?_)
    | (refine XL_load tt_ok 4 rfl rfl rfl rfl rfl rfl ?_)
    | (refine XL_load tt_ok 5 rfl rfl rfl rfl rfl rfl ?_)
    | (refine XL_loadF tt_ok rfl (by assumption) rfl rfl rfl rfl ?_)
    | (refine XL_idx tt_ok rfl rfl rfl rfl rfl (by assumption) (by omega) (by omega) rfl ?_)
    | (refine XL_el tt_ok rfl (by assumption) rfl (by omega) (by omega) rfl rfl rfl rfl ?_)
    | (refine XL_elf tt_ok rfl (by assumption) rfl (by omega) (by omega) rfl rfl rfl rfl ?_)
    | (refine XL_box rfl (fun _ => rfl) (fun _ => ?_))
    | (refine XL_build tt_ok rfl rfl rfl rfl rfl rfl rfl ?_)
    | (refine XL_callE [0] (load_in _ _ _ _ _ (by omega) (by omega) (by omega) (by omega) (by omega) hr) rfl rfl rfl (fun _ _ _ => trivial) ?_)
    | (refine XL_callE [0] (copy_in _ _ _ _ (by omega) (by omega) (by omega) (by omega) (by omega)) rfl rfl rfl (fun _ _ _ => trivial) ?_)
    | (refine XL_idxo tt_ok 1 rfl rfl rfl rfl rfl rfl (by omega) (by omega) rfl ?_)
    | (refine XL_elo tt_ok 1 rfl rfl rfl (by omega) (by omega) rfl rfl rfl rfl ?_)
    | (refine XL_callE [0] (setByte_in _ _ _ _ (by omega) (by rw [hpl]; omega) (by rw [hpl]; omega) hm8.1 hm8.2) rfl rfl rfl (fun _ _ _ => trivial) ?_)
    | (refine XL_callK [0] (page_in _ _ _ _ (by omega) (by rw [List.length_set, hpl]; omega) (by rw [List.length_set, hpl]; omega) hpp) rfl rfl (fun _ => rfl) (fun _ _ _ => trivial) (fun v L hv => ?_); obtain ⟨b, rfl, rfl⟩ := hv)
    | (refine XL_slice0 tt_ok rfl rfl rfl (.hi (by omega) (by omega)) rfl rfl rfl rfl ?_)
    | (refine XL_fn (sameBytes_eq _ _ _ _ _ _ _ (by omega) (by omega)) rfl rfl (fun g' _ hL => ⟨rd_at 0 rfl hL, ?_⟩) ?_)
    )
    · refine X_draw (List.range 7) (fun _ => .s) (fun _ => false) 2 [2] rfl mixed (by decide +kernel) ?_
      intro G hFG hM thaw
      have hb := stars_blk hM
      show XD _ _ _ _ _ _ [0, 1, 2, 3, 4, 5, 6] _ _ _
      repeat' (first
    | (refine XD_thaw thaw ?_; refine XD_nil ?_)
    | (refine XD_nil ?_)
    | (refine XD_s rfl rfl rfl (XV_op tt_ok rfl) rfl ?_; try (first | (refine XD_int (shl8_u64 (by omega) (by omega)) ?_) | (refine XD_int (shr8) ?_) | (refine XD_int (wrap_i64 (by omega) (by omega)) ?_) | (refine XD_int (wrap_u64 (by omega) (by omega)) ?_) | (refine XD_int (wrap_u8 (by omega) (by omega)) ?_) | (refine XD_int (quo_i64 (by omega) (by omega) (by omega)) ?_) | (refine XD_int (quo_u64 (by omega) (by omega) (by omega)) ?_) | (refine XD_int (rem_pos (by omega)) ?_) | (refine XD_dec_t (by omega) ?_) | (refine XD_dec_f (by omega) ?_) | (refine XD_dec (fun _ => ?_) (fun _ => ?_))))
    | (refine XD_sy rfl rfl rfl rfl rfl (XV_op tt_ok rfl) rfl ?_; try (first | (refine XD_int (shl8_u64 (by omega) (by omega)) ?_) | (refine XD_int (shr8) ?_) | (refine XD_int (wrap_i64 (by omega) (by omega)) ?_) | (refine XD_int (wrap_u64 (by omega) (by omega)) ?_) | (refine XD_int (wrap_u8 (by omega) (by omega)) ?_) | (refine XD_int (quo_i64 (by omega) (by omega) (by omega)) ?_) | (refine XD_int (quo_u64 (by omega) (by omega) (by omega)) ?_) | (refine XD_int (rem_pos (by omega)) ?_) | (refine XD_dec_t (by omega) ?_) | (refine XD_dec_f (by omega) ?_) | (refine XD_dec (fun _ => ?_) (fun _ => ?_))))
    | (refine XD_s rfl rfl rfl (XV_load tt_ok rfl (by assumption) rfl rfl rfl) rfl ?_; try (first | (refine XD_int (shl8_u64 (by omega) (by omega)) ?_) | (refine XD_int (shr8) ?_) | (refine XD_int (wrap_i64 (by omega) (by omega)) ?_) | (refine XD_int (wrap_u64 (by omega) (by omega)) ?_) | (refine XD_int (wrap_u8 (by omega) (by omega)) ?_) | (refine XD_int (quo_i64 (by omega) (by omega) (by omega)) ?_) | (refine XD_int (quo_u64 (by omega) (by omega) (by omega)) ?_) | (refine XD_int (rem_pos (by omega)) ?_) | (refine XD_dec_t (by omega) ?_) | (refine XD_dec_f (by omega) ?_) | (refine XD_dec (fun _ => ?_) (fun _ => ?_))))
    | (refine XD_sy rfl rfl rfl rfl rfl (XV_load tt_ok rfl (by assumption) rfl rfl rfl) rfl ?_; try (first | (refine XD_int (shl8_u64 (by omega) (by omega)) ?_) | (refine XD_int (shr8) ?_) | (refine XD_int (wrap_i64 (by omega) (by omega)) ?_) | (refine XD_int (wrap_u64 (by omega) (by omega)) ?_) | (refine XD_int (wrap_u8 (by omega) (by omega)) ?_) | (refine XD_int (quo_i64 (by omega) (by omega) (by omega)) ?_) | (refine XD_int (quo_u64 (by omega) (by omega) (by omega)) ?_) | (refine XD_int (rem_pos (by omega)) ?_) | (refine XD_dec_t (by omega) ?_) | (refine XD_dec_f (by omega) ?_) | (refine XD_dec (fun _ => ?_) (fun _ => ?_))))
    | (refine XD_s rfl rfl rfl (XV_idx tt_ok rfl rfl rfl rfl rfl (by assumption) (by omega) (by omega)) rfl ?_; try (first | (refine XD_int (shl8_u64 (by omega) (by omega)) ?_) | (refine XD_int (shr8) ?_) | (refine XD_int (wrap_i64 (by omega) (by omega)) ?_) | (refine XD_int (wrap_u64 (by omega) (by omega)) ?_) | (refine XD_int (wrap_u8 (by omega) (by omega)) ?_) | (refine XD_int (quo_i64 (by omega) (by omega) (by omega)) ?_) | (refine XD_int (quo_u64 (by omega) (by omega) (by omega)) ?_) | (refine XD_int (rem_pos (by omega)) ?_) | (refine XD_dec_t (by omega) ?_) | (refine XD_dec_f (by omega) ?_) | (refine XD_dec (fun _ => ?_) (fun _ => ?_))))
    | (refine XD_sy rfl rfl rfl rfl rfl (XV_idx tt_ok rfl rfl rfl rfl rfl (by assumption) (by omega) (by omega)) rfl ?_; try (first | (refine XD_int (shl8_u64 (by omega) (by omega)) ?_) | (refine XD_int (shr8) ?_) | (refine XD_int (wrap_i64 (by omega) (by omega)) ?_) | (refine XD_int (wrap_u64 (by omega) (by omega)) ?_) | (refine XD_int (wrap_u8 (by omega) (by omega)) ?_) | (refine XD_int (quo_i64 (by omega) (by omega) (by omega)) ?_) | (refine XD_int (quo_u64 (by omega) (by omega) (by omega)) ?_) | (refine XD_int (rem_pos (by omega)) ?_) | (refine XD_dec_t (by omega) ?_) | (refine XD_dec_f (by omega) ?_) | (refine XD_dec (fun _ => ?_) (fun _ => ?_))))
    | (refine XD_s rfl rfl rfl (XV_el tt_ok rfl (by assumption) rfl (by omega) (by omega) rfl rfl rfl) rfl ?_; try (first | (refine XD_int (shl8_u64 (by omega) (by omega)) ?_) | (refine XD_int (shr8) ?_) | (refine XD_int (wrap_i64 (by omega) (by omega)) ?_) | (refine XD_int (wrap_u64 (by omega) (by omega)) ?_) | (refine XD_int (wrap_u8 (by omega) (by omega)) ?_) | (refine XD_int (quo_i64 (by omega) (by omega) (by omega)) ?_) | (refine XD_int (quo_u64 (by omega) (by omega) (by omega)) ?_) | (refine XD_int (rem_pos (by omega)) ?_) | (refine XD_dec_t (by omega) ?_) | (refine XD_dec_f (by omega) ?_) | (refine XD_dec (fun _ => ?_) (fun _ => ?_))))
    | (refine XD_sy rfl rfl rfl rfl rfl (XV_el tt_ok rfl (by assumption) rfl (by omega) (by omega) rfl rfl rfl) rfl ?_; try (first | (refine XD_int (shl8_u64 (by omega) (by omega)) ?_) | (refine XD_int (shr8) ?_) | (refine XD_int (wrap_i64 (by omega) (by omega)) ?_) | (refine XD_int (wrap_u64 (by omega) (by omega)) ?_) | (refine XD_int (wrap_u8 (by omega) (by omega)) ?_) | (refine XD_int (quo_i64 (by omega) (by omega) (by omega)) ?_) | (refine XD_int (quo_u64 (by omega) (by omega) (by omega)) ?_) | (refine XD_int (rem_pos (by omega)) ?_) | (refine XD_dec_t (by omega) ?_) | (refine XD_dec_f (by omega) ?_) | (refine XD_dec (fun _ => ?_) (fun _ => ?_))))
    | (refine XD_s rfl rfl rfl (XV_elf tt_ok rfl (by assumption) rfl (by omega) (by omega) rfl rfl rfl) rfl ?_; try (first | (refine XD_int (shl8_u64 (by omega) (by omega)) ?_) | (refine XD_int (shr8) ?_) | (refine XD_int (wrap_i64 (by omega) (by omega)) ?_) | (refine XD_int (wrap_u64 (by omega) (by omega)) ?_) | (refine XD_int (wrap_u8 (by omega) (by omega)) ?_) | (refine XD_int (quo_i64 (by omega) (by omega) (by omega)) ?_) | (refine XD_int (quo_u64 (by omega) (by omega) (by omega)) ?_) | (refine XD_int (rem_pos (by omega)) ?_) | (refine XD_dec_t (by omega) ?_) | (refine XD_dec_f (by omega) ?_) | (refine XD_dec (fun _ => ?_) (fun _ => ?_))))
    | (refine XD_sy rfl rfl rfl rfl rfl (XV_elf tt_ok rfl (by assumption) rfl (by omega) (by omega) rfl rfl rfl) rfl ?_; try (first | (refine XD_int (shl8_u64 (by omega) (by omega)) ?_) | (refine XD_int (shr8) ?_) | (refine XD_int (wrap_i64 (by omega) (by omega)) ?_) | (refine XD_int (wrap_u64 (by omega) (by omega)) ?_) | (refine XD_int (wrap_u8 (by omega) (by omega)) ?_) | (refine XD_int (quo_i64 (by omega) (by omega) (by omega)) ?_) | (refine XD_int (quo_u64 (by omega) (by omega) (by omega)) ?_) | (refine XD_int (rem_pos (by omega)) ?_) | (refine XD_dec_t (by omega) ?_) | (refine XD_dec_f (by omega) ?_) | (refine XD_dec (fun _ => ?_) (fun _ => ?_))))
    | (refine XD_no rfl rfl rfl rfl rfl rfl ?_)
    | (refine XD_s rfl rfl rfl (XV_op tt_ok (opV_shl rfl rfl (by omega))) rfl ?_; refine XD_int (one_shl (by omega) (by omega)) ?_)
    | (refine XD_sy rfl rfl rfl rfl rfl (XV_op tt_ok (opV_shl rfl rfl (by omega))) rfl ?_; refine XD_int (one_shl (by omega) (by omega)) ?_)
    | (refine XD_s rfl rfl rfl (XV_op tt_ok (opV_rem rfl rfl (Int.ne_of_gt (pow256_pos _)))) rfl ?_; refine XD_int hr7 ?_)
    | (refine XD_sy rfl rfl rfl rfl rfl (XV_op tt_ok (opV_rem rfl rfl (Int.ne_of_gt (pow256_pos _)))) rfl ?_; refine XD_int hr7 ?_)
    )
      all_goals clear hM thaw
      exact Y_again () fun _ _ hf hs => ⟨trivial, hf.sub (by repeat' (first | exact trivial | refine And.intro rfl ?_)), hs⟩
    · obtain rfl : r = v := hr8 (by omega)
      exact Y_again () fun _ _ hf hs => ⟨trivial, hf.sub (by repeat' (first | exact trivial | refine And.intro rfl ?_)), hs⟩
    · have hq := (rd_at 2 (rfl : _ = some (own (encI .u8) _ _ _ _)) hL).sub (l := 0) (k := 256) (cc := (256 * n).toNat) (Nat.zero_le _) (by omega) (by omega)
      rw [sbA_zero] at hq
      exact hq
    · exact Y_fn1 rfl rfl rfl
end Go.Proofs.Ytookjknlfkmemaa
