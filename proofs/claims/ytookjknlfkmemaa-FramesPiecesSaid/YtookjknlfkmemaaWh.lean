/- FramesPieces' walk. -/
import Derived.Test.YtookjknlfkmemaaWg
set_option linter.unusedVariables false
namespace Go.Proofs.Ytookjknlfkmemaa
open Go.RowKit Go.Cof

theorem shr_pow {x s : Int} (h0 : 0 ≤ s) (h1 : s ≤ 8) : x / 2 ^ min (8 * s).toNat IntKind.u64.bits = x / 256 ^ s.toNat := by rw [p256' h0 h1]
theorem store_in' (p : Nat) (bs : List Int) (pa size v : Int) (r : List Int) (h0 : 0 ≤ pa) (h1 : pa + size ≤ bs.length) (hl : bs.length ≤ 1048576) (hs1 : 1 ≤ size) (hs2 : size ≤ 8) (hv0 : 0 ≤ v) (hv1 : v < 18446744073709551616) (hr : storeF bs pa.toNat v size.toNat = r) :
    Ctr Try.prog 11 [.pointer (some ⟨p, 0, none⟩), .int .u64 pa, .int .i64 size, .int .u64 v] (fun _ => True) [isMem p bs] (fun u L => u = .int .i64 0 ∧ L = [isMem p r]) := by
  rw [← hr]
  exact store_in p bs pa size v h0 h1 hl hs1 hs2 hv0 hv1
set_option maxRecDepth 100000 in
set_option maxHeartbeats 4000000 in
theorem framesPieces_walk (A B : In Int) (at_ size v fr cut : Int) (ha1 : -9223372036854775808 ≤ at_) (ha2 : at_ ≤ 9223372036854775807) (hs1 : -9223372036854775808 ≤ size) (hs2 : size ≤ 9223372036854775807) (hv1 : 0 ≤ v) (hv2 : v ≤ 18446744073709551615) (hc1 : -9223372036854775808 ≤ cut) (hc2 : cut ≤ 9223372036854775807) (hm : A.m ≤ 9223372036854775807) (hA : ∀ x ∈ A.xs, 0 ≤ x ∧ x < 256) :
    FnC Try.prog 4 [.agg #[.slice A.A A.m A.c, .slice B.A B.m B.c, .int .i64 at_, .int .i64 size, .int .u64 v, .int .i64 fr], .int .i64 cut] (fun h => rdS (encI .u8) h A.A A.m A.xs) (.bool true) := by
  refine Ctr.intro Try.func4 rfl rfl (by decide +kernel) fun F hpre => ?_
  repeat' (first
    | (refine XL_box rfl (fun _ => rfl) (fun bx => ?_))
    | (refine X_cutB (c := .block 0 _) (fun (zs : List Int) => [(2, .pointer (some ⟨bx, 0, none⟩)), (1, .int .i64 cut), (5, .pointer (some ⟨p, 0, none⟩)), (7, .pointer (some ⟨q, 0, none⟩))]) (fun zs => [isMem q zs, isMem p zs, blk bx [.slice A.A A.m A.c, .slice B.A B.m B.c, .int .i64 at_, .int .i64 size, .int .u64 v, .int .i64 fr] 25]) (fun zs => zs.length = 512) (X_block ?_) (fun zs hl => ?_))
    | (refine X_seq ?_)
    | (refine X_region ?_)
    | (refine XL_nil ?_)
    | (refine Y_then ?_)
    | (refine Y_then_ret ?_)
    | (refine Y_then_exit ?_)
    | (refine Y_block_hit ?_)
    | (refine Y_block_miss rfl ?_)
    | (refine Y_block_normal ?_)
    | (refine Y_block_ret ?_)
    | (refine X_skip ?_)
    | (refine X_ret ?_)
    | (refine X_exit ?_)
    | (refine X_block ?_)
    | (refine X_cond_t rfl ?_)
    | (refine X_cond_f rfl ?_)
    | (refine XL_guard_yes rfl rfl rfl ?_)
    | (refine XL_guard_no rfl rfl rfl rfl rfl ?_)
    | (refine XL_op tt_ok rfl rfl ?_; try (first | (refine XL_int (shl8_u64 (by omega) (by omega)) ?_) | (refine XL_int (shr8) ?_) | (refine XL_int (wrap_i64 (by omega) (by omega)) ?_) | (refine XL_int (wrap_u64 (by omega) (by omega)) ?_) | (refine XL_int (wrap_u8 (by omega) (by omega)) ?_) | (refine XL_int (quo_i64 (by omega) (by omega) (by omega)) ?_) | (refine XL_int (quo_u64 (by omega) (by omega) (by omega)) ?_) | (refine XL_int (rem_pos (by omega)) ?_) | (refine XL_remb (by omega) (fun _ _ _ _ => ?_)) | (refine XL_dec_t (by omega) ?_) | (refine XL_dec_f (by omega) ?_) | (refine XL_dec (fun _ => ?_) (fun _ => ?_))))
    | (refine XL_load tt_ok 0 rfl rfl rfl rfl rfl rfl ?_)
    | (refine XL_load tt_ok 1 rfl rfl rfl rfl rfl rfl ?_)
    | (refine XL_load tt_ok 2 rfl rfl rfl rfl rfl rfl ?_)
    | (refine XL_load tt_ok 3 rfl rfl rfl rfl rfl rfl ?_)
    | (refine XL_load tt_ok 4 rfl rfl rfl rfl rfl rfl ?_)
    | (refine XL_load tt_ok 5 rfl rfl rfl rfl rfl rfl ?_)
    | (refine XL_loadF tt_ok rfl (by assumption) rfl rfl rfl rfl ?_)
    | (refine XL_idx tt_ok rfl rfl rfl rfl rfl (by assumption) (by omega) (by omega) rfl ?_)
    | (refine XL_el tt_ok rfl (by assumption) rfl (by omega) (by omega) rfl rfl rfl rfl ?_)
    | (refine XL_elf tt_ok rfl (by assumption) rfl (by omega) (by omega) rfl rfl rfl rfl ?_)
    | (refine XL_box rfl (fun _ => rfl) (fun _ => ?_))
    | (refine XL_build tt_ok rfl rfl rfl rfl rfl rfl rfl ?_)
    | (refine XL_fn works_spec rfl rfl (fun _ _ _ => trivial) ?_)
    | (refine XL_callK (L := [isMem p W0, _]) [] w_new rfl rfl (fun _ => rfl) (fun _ _ _ => trivial) (fun u L hv => ?_); obtain ⟨q, rfl, rfl⟩ := hv)
    | (refine XL_callK [] w_new rfl rfl (fun _ => rfl) (fun _ _ _ => trivial) (fun u L hv => ?_); obtain ⟨p, rfl, rfl⟩ := hv)
    | (refine XL_fn (kind_spec _ _ (by omega) (by omega) (by omega) (by omega)) rfl rfl (fun _ _ _ => trivial) ?_; refine XL_gen 73 (fun y => 0 ≤ y ∧ y < 7) ⟨by omega, by omega⟩ (fun sz0 hsz => ?_); obtain ⟨hz0, hz1⟩ := hsz)
    | (refine XL_fn (kind_spec _ _ (by omega) (by omega) (by omega) (by omega)) rfl rfl (fun _ _ _ => trivial) ?_; refine XL_gen 80 (fun y => 0 ≤ y ∧ y < 512 - (2 + sz0) + 1) ⟨Int.emod_nonneg _ (by omega), Int.emod_lt_of_pos _ (by omega)⟩ (fun at0 h0 => ?_); obtain ⟨ht0, ht1⟩ := h0)
    | (refine XL_fn (kind_spec _ _ (by omega) (by omega) (by omega) (by omega)) rfl rfl (fun _ _ _ => trivial) ?_; refine XL_gen 85 (fun y => 0 ≤ y ∧ y < 2 + sz0 - 1) ⟨Int.emod_nonneg _ (by omega), Int.emod_lt_of_pos _ (by omega)⟩ (fun ct h0 => ?_); obtain ⟨hct0, hct1⟩ := h0)
    )
  · refine X_loop2 (fun (i : Nat) (zs : List Int) => [(2, .pointer (some ⟨bx, 0, none⟩)), (1, .int .i64 cut), (5, .pointer (some ⟨p, 0, none⟩)), (7, .pointer (some ⟨q, 0, none⟩)), (9, .int .i64 i)]) (fun i zs => [isMem q zs, isMem p zs, blk bx [.slice A.A A.m A.c, .slice B.A B.m B.c, .int .i64 at_, .int .i64 size, .int .u64 v, .int .i64 fr] 25]) (fun i zs => zs.length = 512 ∧ i ≤ 512) (fun i _ => 512 - i) 0 W0 ⟨W0_len, Nat.zero_le _⟩ (by repeat' (first | exact trivial | refine And.intro rfl ?_)) (fun h hs => hs) ?_
    intro i zs hi
    obtain ⟨hl, hi⟩ := hi
    repeat' (first
    | (refine X_seq ?_)
    | (refine X_region ?_)
    | (refine XL_nil ?_)
    | (refine Y_then ?_)
    | (refine Y_then_ret ?_)
    | (refine Y_then_exit ?_)
    | (refine Y_block_hit ?_)
    | (refine Y_block_miss rfl ?_)
    | (refine Y_block_normal ?_)
    | (refine Y_block_ret ?_)
    | (refine X_skip ?_)
    | (refine X_ret ?_)
    | (refine X_exit ?_)
    | (refine X_block ?_)
    | (refine X_cond_t rfl ?_)
    | (refine X_cond_f rfl ?_)
    | (refine XL_guard_yes rfl rfl rfl ?_)
    | (refine XL_guard_no rfl rfl rfl rfl rfl ?_)
    | (refine XL_op tt_ok rfl rfl ?_; try (first | (refine XL_int (shl8_u64 (by omega) (by omega)) ?_) | (refine XL_int (shr8) ?_) | (refine XL_int (wrap_i64 (by omega) (by omega)) ?_) | (refine XL_int (wrap_u64 (by omega) (by omega)) ?_) | (refine XL_int (wrap_u8 (by omega) (by omega)) ?_) | (refine XL_int (quo_i64 (by omega) (by omega) (by omega)) ?_) | (refine XL_int (quo_u64 (by omega) (by omega) (by omega)) ?_) | (refine XL_int (rem_pos (by omega)) ?_) | (refine XL_remb (by omega) (fun _ _ _ _ => ?_)) | (refine XL_dec_t (by omega) ?_) | (refine XL_dec_f (by omega) ?_) | (refine XL_dec (fun _ => ?_) (fun _ => ?_))))
    | (refine XL_load tt_ok 0 rfl rfl rfl rfl rfl rfl ?_)
    | (refine XL_load tt_ok 1 rfl rfl rfl rfl rfl rfl ?_)
    | (refine XL_load tt_ok 2 rfl rfl rfl rfl rfl rfl ?_)
    | (refine XL_load tt_ok 3 rfl rfl rfl rfl rfl rfl ?_)
    | (refine XL_load tt_ok 4 rfl rfl rfl rfl rfl rfl ?_)
    | (refine XL_load tt_ok 5 rfl rfl rfl rfl rfl rfl ?_)
    | (refine XL_loadF tt_ok rfl (by assumption) rfl rfl rfl rfl ?_)
    | (refine XL_idx tt_ok rfl rfl rfl rfl rfl (by assumption) (by omega) (by omega) rfl ?_)
    | (refine XL_el tt_ok rfl (by assumption) rfl (by omega) (by omega) rfl rfl rfl rfl ?_)
    | (refine XL_elf tt_ok rfl (by assumption) rfl (by omega) (by omega) rfl rfl rfl rfl ?_)
    | (refine XL_box rfl (fun _ => rfl) (fun _ => ?_))
    | (refine XL_build tt_ok rfl rfl rfl rfl rfl rfl rfl ?_)
    | (refine XL_callE [1] (setByte_in p _ _ _ (by omega) (by omega) (by omega) (get_all hA (by have := hpre.1; omega)).1 (get_all hA (by have := hpre.1; omega)).2) rfl rfl rfl (fun _ _ _ => trivial) ?_)
    | (refine XL_callE [1] (setByte_in q _ _ _ (by omega) (by omega) (by omega) (get_all hA (by have := hpre.1; omega)).1 (get_all hA (by have := hpre.1; omega)).2) rfl rfl rfl (fun _ _ _ => trivial) ?_)
    )
    · exact Y_again (i + 1, zs.set ((i : Nat) : Int).toNat (Cof.get A.xs i)) fun _ _ hf hs => ⟨⟨by rw [List.length_set]; exact hl, by show i + 1 ≤ _; omega⟩, by show 512 - (i + 1) < _; omega, hf.sub (by repeat' (first | exact trivial | refine And.intro rfl ?_)), hs⟩
    all_goals exact Y_again zs fun _ _ hf hs => ⟨hl, hf.sub (by repeat' (first | exact trivial | refine And.intro rfl ?_)), hs⟩
  · have hdv := div_bd hv1 (1 + ct).toNat
    have hmv := mod_bd hv1 (1 + ct).toNat
    have e1 : (at0 + (1 + ct)).toNat = at0.toNat + (1 + ct).toNat := by omega
    have e2 : (1 + ct).toNat + (2 + sz0 - (1 + ct)).toNat = (2 + sz0).toNat := by omega
    have hpc : storeF (storeF zs (at0 + (1 + ct)).toNat (v / 256 ^ (1 + ct).toNat) (2 + sz0 - (1 + ct)).toNat) at0.toNat (v % 256 ^ (1 + ct).toNat) (1 + ct).toNat = (storeF zs at0.toNat v (2 + sz0).toNat) := by
      rw [e1, pieces hv1 (by omega), e2]
    have hr1 : loadF (storeF zs at0.toNat v (2 + sz0).toNat) at0.toNat (2 + sz0).toNat = v % 256 ^ (2 + sz0).toNat := load_store hv1 (by omega)
    have hr2 : loadF (storeF zs at0.toNat v (2 + sz0).toNat) at0.toNat (1 + ct).toNat = v % 256 ^ (1 + ct).toNat := by rw [← e2]; exact load_first hv1 (by omega)
    have hr3 : loadF (storeF zs at0.toNat v (2 + sz0).toNat) (at0 + (1 + ct)).toNat (2 + sz0 - (1 + ct)).toNat = v / 256 ^ (1 + ct).toNat % 256 ^ (2 + sz0 - (1 + ct)).toNat := by rw [← e2, e1]; exact load_piece hv1 (by omega)
    have hsl : (storeF zs at0.toNat v (2 + sz0).toNat).length = 512 := by rw [storeF_length]; exact hl
    have hsum := mod_mul_pow v hv1 (1 + ct).toNat (2 + sz0 - (1 + ct)).toNat
    rw [e2] at hsum
    have hb1 := mod_bd hv1 (2 + sz0).toNat
    have hb3 := mod_bd hdv.1 (2 + sz0 - (1 + ct)).toNat
    have hb4 : 0 ≤ v / 256 ^ (1 + ct).toNat % 256 ^ (2 + sz0 - (1 + ct)).toNat * 256 ^ (1 + ct).toNat := Int.mul_nonneg hb3.1 (Int.le_of_lt (pow256_pos _))
    have hshl : IntKind.u64.wrap (v / 256 ^ (1 + ct).toNat % 256 ^ (2 + sz0 - (1 + ct)).toNat * 2 ^ min (8 * (1 + ct)).toNat IntKind.u64.bits) = v / 256 ^ (1 + ct).toNat % 256 ^ (2 + sz0 - (1 + ct)).toNat * 256 ^ (1 + ct).toNat := by
      rw [p256' (by omega) (by omega)]; exact wrap_u64 hb4 (by omega)
    refine X_draw (List.range 7) (fun _ => .s) (fun _ => false) 2 [2] rfl mixed (by decide +kernel) ?_
    intro G hFG hM thaw
    have hb := stars_blk hM
    show XD _ _ _ _ _ _ [0, 1, 2, 3, 4, 5, 6] _ _ _
    repeat' (first
    | (refine XD_thaw thaw ?_; refine XD_nil ?_)
    | (refine XD_nil ?_)
    | (refine XD_s rfl rfl rfl (XV_op tt_ok rfl) rfl ?_; try (first | (refine XD_int (shl8_u64 (by omega) (by omega)) ?_) | (refine XD_int (shr8) ?_) | (refine XD_int (wrap_i64 (by omega) (by omega)) ?_) | (refine XD_int (wrap_u64 (by omega) (by omega)) ?_) | (refine XD_int (wrap_u8 (by omega) (by omega)) ?_) | (refine XD_int (quo_i64 (by omega) (by omega) (by omega)) ?_) | (refine XD_int (quo_u64 (by omega) (by omega) (by omega)) ?_) | (refine XD_int (rem_pos (by omega)) ?_) | (refine XD_dec_t (by omega) ?_) | (refine XD_dec_f (by omega) ?_) | (refine XD_dec (fun _ => ?_) (fun _ => ?_))))
    | (refine XD_sy rfl rfl rfl rfl rfl (XV_op tt_ok rfl) rfl ?_; try (first | (refine XD_int (shl8_u64 (by omega) (by omega)) ?_) | (refine XD_int (shr8) ?_) | (refine XD_int (wrap_i64 (by omega) (by omega)) ?_) | (refine XD_int (wrap_u64 (by omega) (by omega)) ?_) | (refine XD_int (wrap_u8 (by omega) (by omega)) ?_) | (refine XD_int (quo_i64 (by omega) (by omega) (by omega)) ?_) | (refine XD_int (quo_u64 (by omega) (by omega) (by omega)) ?_) | (refine XD_int (rem_pos (by omega)) ?_) | (refine XD_dec_t (by omega) ?_) | (refine XD_dec_f (by omega) ?_) | (refine XD_dec (fun _ => ?_) (fun _ => ?_))))
    | (refine XD_s rfl rfl rfl (XV_load tt_ok rfl (by assumption) rfl rfl rfl) rfl ?_; try (first | (refine XD_int (shl8_u64 (by omega) (by omega)) ?_) | (refine XD_int (shr8) ?_) | (refine XD_int (wrap_i64 (by omega) (by omega)) ?_) | (refine XD_int (wrap_u64 (by omega) (by omega)) ?_) | (refine XD_int (wrap_u8 (by omega) (by omega)) ?_) | (refine XD_int (quo_i64 (by omega) (by omega) (by omega)) ?_) | (refine XD_int (quo_u64 (by omega) (by omega) (by omega)) ?_) | (refine XD_int (rem_pos (by omega)) ?_) | (refine XD_dec_t (by omega) ?_) | (refine XD_dec_f (by omega) ?_) | (refine XD_dec (fun _ => ?_) (fun _ => ?_))))
    | (refine XD_sy rfl rfl rfl rfl rfl (XV_load tt_ok rfl (by assumption) rfl rfl rfl) rfl ?_; try (first | (refine XD_int (shl8_u64 (by omega) (by omega)) ?_) | (refine XD_int (shr8) ?_) | (refine XD_int (wrap_i64 (by omega) (by omega)) ?_) | (refine XD_int (wrap_u64 (by omega) (by omega)) ?_) | (refine XD_int (wrap_u8 (by omega) (by omega)) ?_) | (refine XD_int (quo_i64 (by omega) (by omega) (by omega)) ?_) | (refine XD_int (quo_u64 (by omega) (by omega) (by omega)) ?_) | (refine XD_int (rem_pos (by omega)) ?_) | (refine XD_dec_t (by omega) ?_) | (refine XD_dec_f (by omega) ?_) | (refine XD_dec (fun _ => ?_) (fun _ => ?_))))
    | (refine XD_s rfl rfl rfl (XV_idx tt_ok rfl rfl rfl rfl rfl (by assumption) (by omega) (by omega)) rfl ?_; try (first | (refine XD_int (shl8_u64 (by omega) (by omega)) ?_) | (refine XD_int (shr8) ?_) | (refine XD_int (wrap_i64 (by omega) (by omega)) ?_) | (refine XD_int (wrap_u64 (by omega) (by omega)) ?_) | (refine XD_int (wrap_u8 (by omega) (by omega)) ?_) | (refine XD_int (quo_i64 (by omega) (by omega) (by omega)) ?_) | (refine XD_int (quo_u64 (by omega) (by omega) (by omega)) ?_) | (refine XD_int (rem_pos (by omega)) ?_) | (refine XD_dec_t (by omega) ?_) | (refine XD_dec_f (by omega) ?_) | (refine XD_dec (fun _ => ?_) (fun _ => ?_))))
    | (refine XD_sy rfl rfl rfl rfl rfl (XV_idx tt_ok rfl rfl rfl rfl rfl (by assumption) (by omega) (by omega)) rfl ?_; try (first | (refine XD_int (shl8_u64 (by omega) (by omega)) ?_) | (refine XD_int (shr8) ?_) | (refine XD_int (wrap_i64 (by omega) (by omega)) ?_) | (refine XD_int (wrap_u64 (by omega) (by omega)) ?_) | (refine XD_int (wrap_u8 (by omega) (by omega)) ?_) | (refine XD_int (quo_i64 (by omega) (by omega) (by omega)) ?_) | (refine XD_int (quo_u64 (by omega) (by omega) (by omega)) ?_) | (refine XD_int (rem_pos (by omega)) ?_) | (refine XD_dec_t (by omega) ?_) | (refine XD_dec_f (by omega) ?_) | (refine XD_dec (fun _ => ?_) (fun _ => ?_))))
    | (refine XD_s rfl rfl rfl (XV_el tt_ok rfl (by assumption) rfl (by omega) (by omega) rfl rfl rfl) rfl ?_; try (first | (refine XD_int (shl8_u64 (by omega) (by omega)) ?_) | (refine XD_int (shr8) ?_) | (refine XD_int (wrap_i64 (by omega) (by omega)) ?_) | (refine XD_int (wrap_u64 (by omega) (by omega)) ?_) | (refine XD_int (wrap_u8 (by omega) (by omega)) ?_) | (refine XD_int (quo_i64 (by omega) (by omega) (by omega)) ?_) | (refine XD_int (quo_u64 (by omega) (by omega) (by omega)) ?_) | (refine XD_int (rem_pos (by omega)) ?_) | (refine XD_dec_t (by omega) ?_) | (refine XD_dec_f (by omega) ?_) | (refine XD_dec (fun _ => ?_) (fun _ => ?_))))
    | (refine XD_sy rfl rfl rfl rfl rfl (XV_el tt_ok rfl (by assumption) rfl (by omega) (by omega) rfl rfl rfl) rfl ?_; try (first | (refine XD_int (shl8_u64 (by omega) (by omega)) ?_) | (refine XD_int (shr8) ?_) | (refine XD_int (wrap_i64 (by omega) (by omega)) ?_) | (refine XD_int (wrap_u64 (by omega) (by omega)) ?_) | (refine XD_int (wrap_u8 (by omega) (by omega)) ?_) | (refine XD_int (quo_i64 (by omega) (by omega) (by omega)) ?_) | (refine XD_int (quo_u64 (by omega) (by omega) (by omega)) ?_) | (refine XD_int (rem_pos (by omega)) ?_) | (refine XD_dec_t (by omega) ?_) | (refine XD_dec_f (by omega) ?_) | (refine XD_dec (fun _ => ?_) (fun _ => ?_))))
    | (refine XD_s rfl rfl rfl (XV_elf tt_ok rfl (by assumption) rfl (by omega) (by omega) rfl rfl rfl) rfl ?_; try (first | (refine XD_int (shl8_u64 (by omega) (by omega)) ?_) | (refine XD_int (shr8) ?_) | (refine XD_int (wrap_i64 (by omega) (by omega)) ?_) | (refine XD_int (wrap_u64 (by omega) (by omega)) ?_) | (refine XD_int (wrap_u8 (by omega) (by omega)) ?_) | (refine XD_int (quo_i64 (by omega) (by omega) (by omega)) ?_) | (refine XD_int (quo_u64 (by omega) (by omega) (by omega)) ?_) | (refine XD_int (rem_pos (by omega)) ?_) | (refine XD_dec_t (by omega) ?_) | (refine XD_dec_f (by omega) ?_) | (refine XD_dec (fun _ => ?_) (fun _ => ?_))))
    | (refine XD_sy rfl rfl rfl rfl rfl (XV_elf tt_ok rfl (by assumption) rfl (by omega) (by omega) rfl rfl rfl) rfl ?_; try (first | (refine XD_int (shl8_u64 (by omega) (by omega)) ?_) | (refine XD_int (shr8) ?_) | (refine XD_int (wrap_i64 (by omega) (by omega)) ?_) | (refine XD_int (wrap_u64 (by omega) (by omega)) ?_) | (refine XD_int (wrap_u8 (by omega) (by omega)) ?_) | (refine XD_int (quo_i64 (by omega) (by omega) (by omega)) ?_) | (refine XD_int (quo_u64 (by omega) (by omega) (by omega)) ?_) | (refine XD_int (rem_pos (by omega)) ?_) | (refine XD_dec_t (by omega) ?_) | (refine XD_dec_f (by omega) ?_) | (refine XD_dec (fun _ => ?_) (fun _ => ?_))))
    | (refine XD_no rfl rfl rfl rfl rfl rfl ?_)
    | (refine XD_s rfl rfl rfl (XV_op tt_ok (opV_shl rfl rfl (by omega))) rfl ?_; refine XD_int (one_shl (by omega) (by omega)) ?_)
    | (refine XD_sy rfl rfl rfl rfl rfl (XV_op tt_ok (opV_shl rfl rfl (by omega))) rfl ?_; refine XD_int (one_shl (by omega) (by omega)) ?_)
    | (refine XD_s rfl rfl rfl (XV_op tt_ok (opV_rem rfl rfl (Int.ne_of_gt (pow256_pos _)))) rfl ?_; refine XD_int (Int.tmod_eq_emod_of_nonneg hv1) ?_)
    | (refine XD_sy rfl rfl rfl rfl rfl (XV_op tt_ok (opV_rem rfl rfl (Int.ne_of_gt (pow256_pos _)))) rfl ?_; refine XD_int (Int.tmod_eq_emod_of_nonneg hv1) ?_)
    )
    all_goals clear hM thaw hb
    repeat' (first
    | (refine X_cutB (c := .block 2 _) (fun (_ : Unit) => [(2, .pointer (some ⟨bx, 0, none⟩)), (1, .int .i64 (1 + ct)), (5, .pointer (some ⟨p, 0, none⟩)), (7, .pointer (some ⟨q, 0, none⟩)), (10, .int .i64 (2 + sz0)), (11, .int .u64 at0)]) (fun _ => [isMem p (storeF zs at0.toNat v (2 + sz0).toNat), isMem q (storeF zs at0.toNat v (2 + sz0).toNat), blk bx [.slice A.A A.m A.c, .slice B.A B.m B.c, .int .i64 at_, .int .i64 size, .int .u64 v, .int .i64 fr] 25]) (fun _ => True) (X_block ?_) (fun _ _ => ?_))
    | (refine X_seq ?_)
    | (refine X_region ?_)
    | (refine XL_nil ?_)
    | (refine Y_then ?_)
    | (refine Y_then_ret ?_)
    | (refine Y_then_exit ?_)
    | (refine Y_block_hit ?_)
    | (refine Y_block_miss rfl ?_)
    | (refine Y_block_normal ?_)
    | (refine Y_block_ret ?_)
    | (refine X_skip ?_)
    | (refine X_ret ?_)
    | (refine X_exit ?_)
    | (refine X_block ?_)
    | (refine X_cond_t rfl ?_)
    | (refine X_cond_f rfl ?_)
    | (refine XL_guard_yes rfl rfl rfl ?_)
    | (refine XL_guard_no rfl rfl rfl rfl rfl ?_)
    | (refine XL_op tt_ok rfl rfl ?_; try (first | (refine XL_int (shl8_u64 (by omega) (by omega)) ?_) | (refine XL_int (shr8) ?_) | (refine XL_int (wrap_i64 (by omega) (by omega)) ?_) | (refine XL_int (wrap_u64 (by omega) (by omega)) ?_) | (refine XL_int (wrap_u8 (by omega) (by omega)) ?_) | (refine XL_int (quo_i64 (by omega) (by omega) (by omega)) ?_) | (refine XL_int (quo_u64 (by omega) (by omega) (by omega)) ?_) | (refine XL_int (rem_pos (by omega)) ?_) | (refine XL_remb (by omega) (fun _ _ _ _ => ?_)) | (refine XL_dec_t (by omega) ?_) | (refine XL_dec_f (by omega) ?_) | (refine XL_dec (fun _ => ?_) (fun _ => ?_))))
    | (refine XL_load tt_ok 0 rfl rfl rfl rfl rfl rfl ?_)
    | (refine XL_load tt_ok 1 rfl rfl rfl rfl rfl rfl ?_)
    | (refine XL_load tt_ok 2 rfl rfl rfl rfl rfl rfl ?_)
    | (refine XL_load tt_ok 3 rfl rfl rfl rfl rfl rfl ?_)
    | (refine XL_load tt_ok 4 rfl rfl rfl rfl rfl rfl ?_)
    | (refine XL_load tt_ok 5 rfl rfl rfl rfl rfl rfl ?_)
    | (refine XL_loadF tt_ok rfl (by assumption) rfl rfl rfl rfl ?_)
    | (refine XL_idx tt_ok rfl rfl rfl rfl rfl (by assumption) (by omega) (by omega) rfl ?_)
    | (refine XL_el tt_ok rfl (by assumption) rfl (by omega) (by omega) rfl rfl rfl rfl ?_)
    | (refine XL_elf tt_ok rfl (by assumption) rfl (by omega) (by omega) rfl rfl rfl rfl ?_)
    | (refine XL_box rfl (fun _ => rfl) (fun _ => ?_))
    | (refine XL_build tt_ok rfl rfl rfl rfl rfl rfl rfl ?_)
    | (refine XL_op tt_ok (opV_shr rfl rfl (by omega)) rfl ?_; refine XL_int (shr_pow (by omega) (by omega)) ?_)
    | (refine XL_op tt_ok (opV_shl rfl rfl (by omega)) rfl ?_; refine XL_int hshl ?_)
    | (refine XL_callE [1] (store_in' p _ _ _ _ _ (by omega) (by omega) (by omega) (by omega) (by omega) (by omega) (by omega) rfl) rfl rfl rfl (fun _ _ _ => trivial) ?_)
    | (refine XL_callE [0] (store_in' q _ _ _ _ _ (by omega) (by rw [storeF_length]; omega) (by rw [storeF_length]; omega) (by omega) (by omega) (by omega) (by omega) hpc) rfl rfl rfl (fun _ _ _ => trivial) ?_)
    | (refine XL_callE [1] (store_in' q _ _ _ _ _ (by omega) (by omega) (by omega) (by omega) (by omega) (by omega) (by omega) rfl) rfl rfl rfl (fun _ _ _ => trivial) ?_)
    | (refine XL_callE [0] (load_in p _ _ _ _ (by omega) (by omega) (by omega) (by omega) (by omega) hr1) rfl rfl rfl (fun _ _ _ => trivial) ?_)
    | (refine XL_callE [0] (load_in p _ _ _ _ (by omega) (by omega) (by omega) (by omega) (by omega) hr2) rfl rfl rfl (fun _ _ _ => trivial) ?_)
    | (refine XL_callE [0] (load_in p _ _ _ _ (by omega) (by omega) (by omega) (by omega) (by omega) hr3) rfl rfl rfl (fun _ _ _ => trivial) ?_)
    )
    · refine X_loop (ι := Nat) (fun i => [(2, .pointer (some ⟨bx, 0, none⟩)), (1, .int .i64 (1 + ct)), (5, .pointer (some ⟨p, 0, none⟩)), (7, .pointer (some ⟨q, 0, none⟩)), (10, .int .i64 (2 + sz0)), (11, .int .u64 at0), (13, .int .i64 i)]) (fun i => [isMem p (storeF zs at0.toNat v (2 + sz0).toNat), isMem q (storeF zs at0.toNat v (2 + sz0).toNat), blk bx [.slice A.A A.m A.c, .slice B.A B.m B.c, .int .i64 at_, .int .i64 size, .int .u64 v, .int .i64 fr] 25]) (fun i => i ≤ 2) (fun i => 2 - i) 0 (Nat.zero_le _) (by repeat' (first | exact trivial | refine And.intro rfl ?_)) (fun h hs => stars_only [1, 0, 0] rfl h hs) ?_
      intro i hi
      repeat' (first
    | (refine X_seq ?_)
    | (refine X_region ?_)
    | (refine XL_nil ?_)
    | (refine Y_then ?_)
    | (refine Y_then_ret ?_)
    | (refine Y_then_exit ?_)
    | (refine Y_block_hit ?_)
    | (refine Y_block_miss rfl ?_)
    | (refine Y_block_normal ?_)
    | (refine Y_block_ret ?_)
    | (refine X_skip ?_)
    | (refine X_ret ?_)
    | (refine X_exit ?_)
    | (refine X_block ?_)
    | (refine X_cond_t rfl ?_)
    | (refine X_cond_f rfl ?_)
    | (refine XL_guard_yes rfl rfl rfl ?_)
    | (refine XL_guard_no rfl rfl rfl rfl rfl ?_)
    | (refine XL_op tt_ok rfl rfl ?_; try (first | (refine XL_int (shl8_u64 (by omega) (by omega)) ?_) | (refine XL_int (shr8) ?_) | (refine XL_int (wrap_i64 (by omega) (by omega)) ?_) | (refine XL_int (wrap_u64 (by omega) (by omega)) ?_) | (refine XL_int (wrap_u8 (by omega) (by omega)) ?_) | (refine XL_int (quo_i64 (by omega) (by omega) (by omega)) ?_) | (refine XL_int (quo_u64 (by omega) (by omega) (by omega)) ?_) | (refine XL_int (rem_pos (by omega)) ?_) | (refine XL_remb (by omega) (fun _ _ _ _ => ?_)) | (refine XL_dec_t (by omega) ?_) | (refine XL_dec_f (by omega) ?_) | (refine XL_dec (fun _ => ?_) (fun _ => ?_))))
    | (refine XL_load tt_ok 0 rfl rfl rfl rfl rfl rfl ?_)
    | (refine XL_load tt_ok 1 rfl rfl rfl rfl rfl rfl ?_)
    | (refine XL_load tt_ok 2 rfl rfl rfl rfl rfl rfl ?_)
    | (refine XL_load tt_ok 3 rfl rfl rfl rfl rfl rfl ?_)
    | (refine XL_load tt_ok 4 rfl rfl rfl rfl rfl rfl ?_)
    | (refine XL_load tt_ok 5 rfl rfl rfl rfl rfl rfl ?_)
    | (refine XL_loadF tt_ok rfl (by assumption) rfl rfl rfl rfl ?_)
    | (refine XL_idx tt_ok rfl rfl rfl rfl rfl (by assumption) (by omega) (by omega) rfl ?_)
    | (refine XL_el tt_ok rfl (by assumption) rfl (by omega) (by omega) rfl rfl rfl rfl ?_)
    | (refine XL_elf tt_ok rfl (by assumption) rfl (by omega) (by omega) rfl rfl rfl rfl ?_)
    | (refine XL_box rfl (fun _ => rfl) (fun _ => ?_))
    | (refine XL_build tt_ok rfl rfl rfl rfl rfl rfl rfl ?_)
    | (refine XL_callK [0] (page_in p _ _ _ (by omega) (by omega) (by omega) rfl) rfl rfl (fun _ => rfl) (fun _ _ _ => trivial) (fun u L hv => ?_); obtain ⟨b1, rfl, rfl⟩ := hv)
    | (refine XL_callK [2] (page_in q _ _ _ (by omega) (by omega) (by omega) rfl) rfl rfl (fun _ => rfl) (fun _ _ _ => trivial) (fun u L hv => ?_); obtain ⟨b2, rfl, rfl⟩ := hv)
    | (refine XL_fn (sameBytes_eq _ _ _ _ _ _ _ (by omega) (by omega)) rfl rfl (fun g' _ hL => ⟨rd_at 2 rfl hL, rd_at 0 rfl hL⟩) ?_)
    )
      · exact Y_again (i + 1) fun _ _ hf hs => ⟨by omega, by omega, hf.sub (by repeat' (first | exact trivial | refine And.intro rfl ?_)), hs.imp fun h hs => stars_only [3, 1, 2] rfl h hs⟩
      · exact Y_again () fun _ _ hf hs => ⟨trivial, hf.sub (by repeat' (first | exact trivial | refine And.intro rfl ?_)), hs⟩
    · exact Y_fn1 rfl rfl rfl
end Go.Proofs.Ytookjknlfkmemaa
