/- FramesApart's walk. -/
import Derived.Test.YtookjknlfkmemaaWi
import Derived.Test.YtookjknlfkmemaaSlK
set_option linter.unusedVariables false
namespace Go.Proofs.Ytookjknlfkmemaa
open Go.RowKit Go.Cof

theorem page_other {bs ys : List Int} (hy : ys.length = 256) : pageF (putF bs 0 ys) 1 = pageF bs 1 := by
  unfold pageF putF
  show List.take 256 (List.drop 256 (List.take 0 bs ++ ys ++ List.drop (0 + 256) bs)) = List.take 256 (List.drop 256 bs)
  rw [List.take_zero, List.nil_append, ← hy, List.drop_left, Nat.zero_add]
theorem xor_xor {x : Int} (h0 : 0 ≤ x) (h1 : x < 256) : bits .xor .u8 255 (bits .xor .u8 255 x) = x := by
  have h : ∀ y : Fin 256, bits .xor .u8 255 (bits .xor .u8 255 (y.val : Int)) = (y.val : Int) := by decide +kernel
  have := h ⟨x.toNat, by omega⟩
  simpa [Int.toNat_of_nonneg h0] using this
theorem xor_round {zs ws : List Int} {i : Nat} (hl : zs.length = 256) (hi : i < 256) (h : ∀ j, j < 256 → zs.getD j default = if j < i then bits .xor .u8 255 (ws.getD j default) else ws.getD j default) :
    ∀ j, j < 256 → (zs.set i (bits .xor .u8 255 (zs.getD i default))).getD j default = if j < i + 1 then bits .xor .u8 255 (ws.getD j default) else ws.getD j default := fun j hj => by
  by_cases hij : i = j
  · subst hij
    rw [if_pos (by omega), List.getD_eq_getElem?_getD, List.getElem?_set_self (by omega)]
    show bits .xor .u8 255 (zs.getD i default) = _
    rw [h i hi, if_neg (by omega)]
  · rw [List.getD_eq_getElem?_getD, List.getElem?_set_ne hij, ← List.getD_eq_getElem?_getD, h j hj]
    by_cases hji : j < i
    · rw [if_pos hji, if_pos (by omega)]
    · rw [if_neg hji, if_neg (by omega)]
set_option maxRecDepth 100000 in
set_option maxHeartbeats 4000000 in
theorem framesApart_walk (A B : In Int) (at_ size v fr : Int) (hmA : A.m ≤ 140737488351232) (hmB : B.m ≤ 140737488351232) (hA : ∀ x ∈ A.xs, 0 ≤ x ∧ x < 256) (hB : ∀ x ∈ B.xs, 0 ≤ x ∧ x < 256) :
    FnC Try.prog 5 [.agg #[.slice A.A A.m A.c, .slice B.A B.m B.c, .int .i64 at_, .int .i64 size, .int .u64 v, .int .i64 fr]] (fun h => rdS (encI .u8) h A.A A.m A.xs ∧ rdS (encI .u8) h B.A B.m B.xs) (.bool true) := by
  refine Ctr.intro Try.func5 rfl rfl (by decide +kernel) fun F hpre => ?_
  repeat' (first
    | (refine XL_box rfl (fun _ => rfl) (fun bx => ?_))
    | (refine X_seq ?_)
    | (refine X_region ?_)
    | (refine XL_nil ?_)
    | (refine Y_then ?_)
    | (refine Y_then_ret ?_)
    | (refine Y_then_exit ?_)
    | (refine Y_block_hit ?_)
    | (refine Y_block_miss rfl ?_)
    | (refine Y_block_normal ?_)
    | (refine Y_block_ret ?_)
    | (refine X_skip ?_)
    | (refine X_ret ?_)
    | (refine X_exit ?_)
    | (refine X_block ?_)
    | (refine X_cond_t rfl ?_)
    | (refine X_cond_f rfl ?_)
    | (refine XL_guard_yes rfl rfl rfl ?_)
    | (refine XL_guard_no rfl rfl rfl rfl rfl ?_)
    | (refine XL_op tt_ok rfl rfl ?_; try (first | (refine XL_int (shl8_u64 (by omega) (by omega)) ?_) | (refine XL_int (shr8) ?_) | (refine XL_int (wrap_i64 (by omega) (by omega)) ?_) | (refine XL_int (wrap_u64 (by omega) (by omega)) ?_) | (refine XL_int (wrap_u8 (by omega) (by omega)) ?_) | (refine XL_int (quo_i64 (by omega) (by omega) (by omega)) ?_) | (refine XL_int (quo_u64 (by omega) (by omega) (by omega)) ?_) | (refine XL_int (rem_pos (by omega)) ?_) | (refine XL_remb (by omega) (fun _ _ _ _ => ?_)) | (refine XL_dec_t (by omega) ?_) | (refine XL_dec_f (by omega) ?_) | (refine XL_dec (fun _ => ?_) (fun _ => ?_))))
    | (refine XL_load tt_ok 0 rfl rfl rfl rfl rfl rfl ?_)
    | (refine XL_load tt_ok 1 rfl rfl rfl rfl rfl rfl ?_)
    | (refine XL_load tt_ok 2 rfl rfl rfl rfl rfl rfl ?_)
    | (refine XL_load tt_ok 3 rfl rfl rfl rfl rfl rfl ?_)
    | (refine XL_load tt_ok 4 rfl rfl rfl rfl rfl rfl ?_)
    | (refine XL_load tt_ok 5 rfl rfl rfl rfl rfl rfl ?_)
    | (refine XL_loadF tt_ok rfl (by assumption) rfl rfl rfl rfl ?_)
    | (refine XL_idx tt_ok rfl rfl rfl rfl rfl (by assumption) (by omega) (by omega) rfl ?_)
    | (refine XL_el tt_ok rfl (by assumption) rfl (by omega) (by omega) rfl rfl rfl rfl ?_)
    | (refine XL_elf tt_ok rfl (by assumption) rfl (by omega) (by omega) rfl rfl rfl rfl ?_)
    | (refine XL_box rfl (fun _ => rfl) (fun _ => ?_))
    | (refine XL_build tt_ok rfl rfl rfl rfl rfl rfl rfl ?_)
    | (refine XL_fn works_spec rfl rfl (fun _ _ _ => trivial) ?_)
    | (refine XL_callK (L := [isMem p W0, _]) [] w_new rfl rfl (fun _ => rfl) (fun _ _ _ => trivial) (fun u L hv => ?_); obtain ⟨q, rfl, rfl⟩ := hv)
    | (refine XL_callK [] w_new rfl rfl (fun _ => rfl) (fun _ _ _ => trivial) (fun u L hv => ?_); obtain ⟨p, rfl, rfl⟩ := hv)
    | (refine X_cutB (c := .region 7 _ _) (fun (j : Nat × Nat) => [(1, .pointer (some ⟨bx, 0, none⟩)), (3, .pointer (some ⟨p, 0, none⟩)), (5, .pointer (some ⟨q, 0, none⟩)), (7, .slice (some ⟨j.1, 0, none⟩) 256 256), (8, .slice (some ⟨j.2, 0, none⟩) 256 256)]) (fun j => [isMem p W0, isMem q W0, own (encI .u8) (some ⟨j.1, 0, none⟩) 256 256 (List.replicate 256 0), own (encI .u8) (some ⟨j.2, 0, none⟩) 256 256 (List.replicate 256 0), blk bx [.slice A.A A.m A.c, .slice B.A B.m B.c, .int .i64 at_, .int .i64 size, .int .u64 v, .int .i64 fr] 25]) (fun _ => True) (X_any mixed rfl rfl ?_) (fun j _ => ?_))
    | (refine XN_two (i := 0) (j := 1) (by decide +kernel) rfl rfl (XI_do rfl ?_) (XI_do rfl ?_))
    | (refine XN_two (i := 1) (j := 2) (by decide +kernel) rfl rfl (XI_do rfl ?_) (XI_do rfl ?_))
    | (refine XN_one (i := 0) (by decide +kernel) rfl (XI_do rfl ?_))
    | (refine XN_one (i := 1) (by decide +kernel) rfl (XI_do rfl ?_))
    | (refine XN_one (i := 2) (by decide +kernel) rfl (XI_do rfl ?_))
    | (refine XN_one (i := 3) (by decide +kernel) rfl (XI_do rfl ?_))
    | (refine XN_nil (by decide +kernel) ?_)
    | (refine Y_n ?_)
    | (refine XL_make (encI .u8) (0 : Int) tt_ok rfl rfl rfl rfl rfl rfl rfl rfl (by omega) (by omega) (by show (1 : Int) * _ ≤ _; omega) (by omega) (fun _ => rfl) (fun g => ?_))
    )
  · rename_i ga
    exact Y_again (ga, g) fun _ _ hf hs => ⟨trivial, hf.sub (by repeat' (first | exact trivial | refine And.intro rfl ?_)), hs.imp fun h hs => stars_only [3, 2, 1, 0, 0] rfl h hs⟩
  · rename_i ga
    exact Y_again (ga, g) fun _ _ hf hs => ⟨trivial, hf.sub (by repeat' (first | exact trivial | refine And.intro rfl ?_)), hs.imp fun h hs => stars_only [3, 2, 1, 0, 0] rfl h hs⟩
  · rename_i ga
    exact Y_again (g, ga) fun _ _ hf hs => ⟨trivial, hf.sub (by repeat' (first | exact trivial | refine And.intro rfl ?_)), hs.imp fun h hs => stars_only [3, 2, 0, 0, 0] rfl h hs⟩
  · obtain ⟨g1, g2⟩ := j
    have la := pad_length A.xs
    have lb := pad_length B.xs
    have l1 : (putF W0 1 (pad A.xs)).length = 512 := by rw [putF_length (by decide) (by rw [W0_len]; decide) la, W0_len]
    have l2 : (putF (putF W0 1 (pad A.xs)) 0 (pad B.xs)).length = 512 := by rw [putF_length (by decide) (by rw [l1]; decide) lb, l1]
    have l3 : (putF (putF (putF W0 1 (pad A.xs)) 0 (pad B.xs)) 0 (List.replicate 256 0)).length = 512 := by rw [putF_length (by decide) (by rw [l2]; decide) List.length_replicate, l2]
    have l4 : (putF W0 1 (pad B.xs)).length = 512 := by rw [putF_length (by decide) (by rw [W0_len]; decide) lb, W0_len]
    have e1 : pageF (putF (putF (putF W0 1 (pad A.xs)) 0 (pad B.xs)) 0 (List.replicate 256 0)) 1 = pad A.xs := by rw [page_other List.length_replicate, page_other lb, page_put (by decide) (by rw [W0_len]; decide) la]
    have e2 : pageF (putF W0 1 (pad B.xs)) 1 = pad B.xs := page_put (by decide) (by rw [W0_len]; decide) lb
    have h0 := W0_len
    repeat' (first
    | (refine X_cutB (c := .block 0 _) (fun (j : List Int) => [(3, .pointer (some ⟨p, 0, none⟩)), (7, .slice (some ⟨g1, 0, none⟩) 256 256)]) (fun j => [isMem p (putF (putF (putF W0 1 (pad A.xs)) 0 (pad B.xs)) 0 (List.replicate 256 0)), own (encI .u8) (some ⟨g1, 0, none⟩) 256 256 j]) (fun j => bits .xor .u8 255 (Cof.get j 255) = Cof.get (pad A.xs) 255 ∧ bits .xor .u8 255 (Cof.get j 0) = Cof.get (pad A.xs) 0) (X_block ?_) (fun zs hz => ?_))
    | (refine X_seq ?_)
    | (refine X_region ?_)
    | (refine XL_nil ?_)
    | (refine Y_then ?_)
    | (refine Y_then_ret ?_)
    | (refine Y_then_exit ?_)
    | (refine Y_block_hit ?_)
    | (refine Y_block_miss rfl ?_)
    | (refine Y_block_normal ?_)
    | (refine Y_block_ret ?_)
    | (refine X_skip ?_)
    | (refine X_ret ?_)
    | (refine X_exit ?_)
    | (refine X_block ?_)
    | (refine X_cond_t rfl ?_)
    | (refine X_cond_f rfl ?_)
    | (refine XL_guard_yes rfl rfl rfl ?_)
    | (refine XL_guard_no rfl rfl rfl rfl rfl ?_)
    | (refine XL_op tt_ok rfl rfl ?_; try (first | (refine XL_int (shl8_u64 (by omega) (by omega)) ?_) | (refine XL_int (shr8) ?_) | (refine XL_int (wrap_i64 (by omega) (by omega)) ?_) | (refine XL_int (wrap_u64 (by omega) (by omega)) ?_) | (refine XL_int (wrap_u8 (by omega) (by omega)) ?_) | (refine XL_int (quo_i64 (by omega) (by omega) (by omega)) ?_) | (refine XL_int (quo_u64 (by omega) (by omega) (by omega)) ?_) | (refine XL_int (rem_pos (by omega)) ?_) | (refine XL_remb (by omega) (fun _ _ _ _ => ?_)) | (refine XL_dec_t (by omega) ?_) | (refine XL_dec_f (by omega) ?_) | (refine XL_dec (fun _ => ?_) (fun _ => ?_))))
    | (refine XL_load tt_ok 0 rfl rfl rfl rfl rfl rfl ?_)
    | (refine XL_load tt_ok 1 rfl rfl rfl rfl rfl rfl ?_)
    | (refine XL_load tt_ok 2 rfl rfl rfl rfl rfl rfl ?_)
    | (refine XL_load tt_ok 3 rfl rfl rfl rfl rfl rfl ?_)
    | (refine XL_load tt_ok 4 rfl rfl rfl rfl rfl rfl ?_)
    | (refine XL_load tt_ok 5 rfl rfl rfl rfl rfl rfl ?_)
    | (refine XL_loadF tt_ok rfl (by assumption) rfl rfl rfl rfl ?_)
    | (refine XL_idx tt_ok rfl rfl rfl rfl rfl (by assumption) (by omega) (by omega) rfl ?_)
    | (refine XL_el tt_ok rfl (by assumption) rfl (by omega) (by omega) rfl rfl rfl rfl ?_)
    | (refine XL_elf tt_ok rfl (by assumption) rfl (by omega) (by omega) rfl rfl rfl rfl ?_)
    | (refine XL_box rfl (fun _ => rfl) (fun _ => ?_))
    | (refine XL_build tt_ok rfl rfl rfl rfl rfl rfl rfl ?_)
    | (refine XL_copy tt_ok 2 0 rfl rfl (Nat.zero_mul _).symm (fun w hw => hpre.1.le hw.frz) (by have h1 : Nat.min A.m 256 ≤ 256 := Nat.min_le_right _ _; show 0 + Nat.min A.m 256 ≤ 256; omega) rfl rfl rfl rfl rfl ?_; refine XL_conv 2 (own (encI .u8) (some ⟨g1, 0, none⟩) 256 256 (pad A.xs)) rfl (fun h o => by rw [pad_copy _ _ hpre.1.1] at o; exact o) ?_)
    | (refine XL_copy tt_ok 3 0 rfl rfl (Nat.zero_mul _).symm (fun w hw => hpre.2.le hw.frz) (by have h1 : Nat.min B.m 256 ≤ 256 := Nat.min_le_right _ _; show 0 + Nat.min B.m 256 ≤ 256; omega) rfl rfl rfl rfl rfl ?_; refine XL_conv 3 (own (encI .u8) (some ⟨g2, 0, none⟩) 256 256 (pad B.xs)) rfl (fun h o => by rw [pad_copy _ _ hpre.2.1] at o; exact o) ?_)
    | (refine XL_callE [0] (put_in p W0 _ _ _ (pad A.xs) _ (by omega) (by omega) (by omega) (pad_byte hA) rfl) rfl rfl rfl (fun g _ hL => rd_at 1 rfl hL) ?_)
    | (refine XL_callE [1] (put_in q W0 _ _ _ (pad B.xs) _ (by omega) (by omega) (by omega) (pad_byte hB) rfl) rfl rfl rfl (fun g _ hL => rd_at 2 rfl hL) ?_)
    | (refine XL_callE [1] (put_in p (putF W0 1 (pad A.xs)) _ _ _ (pad B.xs) _ (by omega) (by omega) (by omega) (pad_byte hB) rfl) rfl rfl rfl (fun g _ hL => rd_at 2 rfl hL) ?_)
    | (refine XL_callE [0] (zero_in p _ _ (by omega) (by omega) (by omega)) rfl rfl rfl (fun _ _ _ => trivial) ?_)
    | (refine XL_callK [0] (page_in p _ _ _ (by omega) (by omega) (by omega) e1) rfl rfl (fun _ => rfl) (fun _ _ _ => trivial) (fun u L hv => ?_); obtain ⟨b1, rfl, rfl⟩ := hv)
    | (refine XL_callK [2] (page_in q _ _ _ (by omega) (by omega) (by omega) e2) rfl rfl (fun _ => rfl) (fun _ _ _ => trivial) (fun u L hv => ?_); obtain ⟨b2, rfl, rfl⟩ := hv)
    | (refine XL_fn (sameBytes_eq _ _ _ _ _ _ (pad A.xs) (by omega) (by omega)) rfl rfl (fun g' _ hL => ⟨rd_at 2 rfl hL, rd_at 4 rfl hL⟩) ?_)
    | (refine XL_fn (sameBytes_eq _ _ _ _ _ _ (pad B.xs) (by omega) (by omega)) rfl rfl (fun g' _ hL => ⟨rd_at 0 rfl hL, rd_at 5 rfl hL⟩) ?_)
    )
    · refine X_loop3 (fun (i : Nat) (zs ys : List Int) => [(3, .pointer (some ⟨p, 0, none⟩)), (7, .slice (some ⟨g1, 0, none⟩) 256 256), (9, .slice (some ⟨b1, 0, none⟩) 256 256), (11, .int .i64 i)]) (fun i zs ys => [isMem p (putF (putF (putF W0 1 (pad A.xs)) 0 (pad B.xs)) 0 (List.replicate 256 0)), own (encI .u8) (some ⟨g1, 0, none⟩) 256 256 zs, own (encI .u8) (some ⟨b1, 0, none⟩) 256 256 ys])
        (fun i zs _ => i ≤ 256 ∧ zs.length = 256 ∧ ∀ j, j < 256 → zs.getD j default = if j < i then bits .xor .u8 255 ((pad A.xs).getD j default) else (pad A.xs).getD j default) (fun i _ _ => 256 - i) 0 (pad A.xs) (pad A.xs) ⟨Nat.zero_le _, la, fun j _ => by rw [if_neg (by omega)]⟩ (by repeat' (first | exact trivial | refine And.intro rfl ?_)) (fun h hs => stars_only [3, 3, 2] rfl h hs) ?_
      intro i zs ys hi
      obtain ⟨hi, hz, hx⟩ := hi
      have e0 : 0 + ((i : Nat) : Int).toNat * 1 = i := by omega
      repeat' (first
    | (refine X_seq ?_)
    | (refine X_region ?_)
    | (refine XL_nil ?_)
    | (refine Y_then ?_)
    | (refine Y_then_ret ?_)
    | (refine Y_then_exit ?_)
    | (refine Y_block_hit ?_)
    | (refine Y_block_miss rfl ?_)
    | (refine Y_block_normal ?_)
    | (refine Y_block_ret ?_)
    | (refine X_skip ?_)
    | (refine X_ret ?_)
    | (refine X_exit ?_)
    | (refine X_block ?_)
    | (refine X_cond_t rfl ?_)
    | (refine X_cond_f rfl ?_)
    | (refine XL_guard_yes rfl rfl rfl ?_)
    | (refine XL_guard_no rfl rfl rfl rfl rfl ?_)
    | (refine XL_op tt_ok rfl rfl ?_; try (first | (refine XL_int (shl8_u64 (by omega) (by omega)) ?_) | (refine XL_int (shr8) ?_) | (refine XL_int (wrap_i64 (by omega) (by omega)) ?_) | (refine XL_int (wrap_u64 (by omega) (by omega)) ?_) | (refine XL_int (wrap_u8 (by omega) (by omega)) ?_) | (refine XL_int (quo_i64 (by omega) (by omega) (by omega)) ?_) | (refine XL_int (quo_u64 (by omega) (by omega) (by omega)) ?_) | (refine XL_int (rem_pos (by omega)) ?_) | (refine XL_remb (by omega) (fun _ _ _ _ => ?_)) | (refine XL_dec_t (by omega) ?_) | (refine XL_dec_f (by omega) ?_) | (refine XL_dec (fun _ => ?_) (fun _ => ?_))))
    | (refine XL_load tt_ok 0 rfl rfl rfl rfl rfl rfl ?_)
    | (refine XL_load tt_ok 1 rfl rfl rfl rfl rfl rfl ?_)
    | (refine XL_load tt_ok 2 rfl rfl rfl rfl rfl rfl ?_)
    | (refine XL_load tt_ok 3 rfl rfl rfl rfl rfl rfl ?_)
    | (refine XL_load tt_ok 4 rfl rfl rfl rfl rfl rfl ?_)
    | (refine XL_load tt_ok 5 rfl rfl rfl rfl rfl rfl ?_)
    | (refine XL_loadF tt_ok rfl (by assumption) rfl rfl rfl rfl ?_)
    | (refine XL_idx tt_ok rfl rfl rfl rfl rfl (by assumption) (by omega) (by omega) rfl ?_)
    | (refine XL_el tt_ok rfl (by assumption) rfl (by omega) (by omega) rfl rfl rfl rfl ?_)
    | (refine XL_elf tt_ok rfl (by assumption) rfl (by omega) (by omega) rfl rfl rfl rfl ?_)
    | (refine XL_box rfl (fun _ => rfl) (fun _ => ?_))
    | (refine XL_build tt_ok rfl rfl rfl rfl rfl rfl rfl ?_)
    | (refine XL_idxl tt_ok rfl rfl rfl rfl rfl (by omega) (by omega) rfl ?_)
    | (refine XL_at tt_ok 1 rfl rfl rfl (by omega) rfl rfl rfl rfl ?_)
    | (refine XL_put1 tt_ok 1 (bits .xor .u8 255 (zs.getD (0 + ((i : Nat) : Int).toNat * 1) default)) rfl rfl rfl rfl rfl rfl rfl (by omega) rfl ?_)
    | (refine XL_put1 tt_ok 2 (9 : Int) rfl rfl rfl rfl rfl rfl rfl (by omega) rfl ?_)
    )
      · exact Y_again (i + 1, zs.set i (bits .xor .u8 255 (zs.getD i default)), ys.set i 9) fun _ _ hf hs => ⟨⟨by show i + 1 ≤ 256; omega, by show (zs.set i _).length = 256; rw [List.length_set]; exact hz, xor_round hz (by omega) hx⟩, by show 256 - (i + 1) < _; omega, hf.sub (by repeat' (first | exact trivial | refine And.intro rfl ?_)), hs.imp fun h hs => by rw [e0] at hs; exact hs⟩
      · obtain rfl : i = 256 := by omega
        have hp0 := pad_byte hA
        exact Y_again zs fun _ _ hf hs => ⟨⟨by show bits _ _ _ (zs.getD 255 default) = _; rw [hx 255 (by decide), if_pos (by decide)]; exact xor_xor (get_all hp0 (i := 255) (by omega)).1 (get_all hp0 (i := 255) (by omega)).2, by show bits _ _ _ (zs.getD 0 default) = _; rw [hx 0 (by decide), if_pos (by decide)]; exact xor_xor (get_all hp0 (i := 0) (by omega)).1 (get_all hp0 (i := 0) (by omega)).2⟩, hf.sub (by repeat' (first | exact trivial | refine And.intro rfl ?_)), hs.imp fun h hs => stars_only [0, 0] rfl h hs⟩
    · refine X_draw (List.range 28) (fun _ => .s) (fun _ => false) 8 [0, 1] rfl mixed (by decide +kernel) ?_
      intro G hFG hM thaw
      have r1 := rd_at 0 (rfl : _ = some (own (encI .u8) (some ⟨b1, 0, none⟩) 256 256 (pad A.xs))) hM
      have r2 := rd_at 1 (rfl : _ = some (own (encI .u8) (some ⟨g1, 0, none⟩) 256 256 zs)) hM
      show XD _ _ _ _ _ _ [0, 1, 2, 3, 4, 5, 6, 7, 8, 9, 10, 11, 12, 13, 14, 15, 16, 17, 18, 19, 20, 21, 22, 23, 24, 25, 26, 27] _ _ _
      repeat' (first
    | (refine XD_thaw thaw ?_; refine XD_nil ?_)
    | (refine XD_nil ?_)
    | (refine XD_s rfl rfl rfl (XV_op tt_ok rfl) rfl ?_; try (first | (refine XD_int (shl8_u64 (by omega) (by omega)) ?_) | (refine XD_int (shr8) ?_) | (refine XD_int (wrap_i64 (by omega) (by omega)) ?_) | (refine XD_int (wrap_u64 (by omega) (by omega)) ?_) | (refine XD_int (wrap_u8 (by omega) (by omega)) ?_) | (refine XD_int (quo_i64 (by omega) (by omega) (by omega)) ?_) | (refine XD_int (quo_u64 (by omega) (by omega) (by omega)) ?_) | (refine XD_int (rem_pos (by omega)) ?_) | (refine XD_dec_t (by omega) ?_) | (refine XD_dec_f (by omega) ?_) | (refine XD_dec (fun _ => ?_) (fun _ => ?_))))
    | (refine XD_sy rfl rfl rfl rfl rfl (XV_op tt_ok rfl) rfl ?_; try (first | (refine XD_int (shl8_u64 (by omega) (by omega)) ?_) | (refine XD_int (shr8) ?_) | (refine XD_int (wrap_i64 (by omega) (by omega)) ?_) | (refine XD_int (wrap_u64 (by omega) (by omega)) ?_) | (refine XD_int (wrap_u8 (by omega) (by omega)) ?_) | (refine XD_int (quo_i64 (by omega) (by omega) (by omega)) ?_) | (refine XD_int (quo_u64 (by omega) (by omega) (by omega)) ?_) | (refine XD_int (rem_pos (by omega)) ?_) | (refine XD_dec_t (by omega) ?_) | (refine XD_dec_f (by omega) ?_) | (refine XD_dec (fun _ => ?_) (fun _ => ?_))))
    | (refine XD_s rfl rfl rfl (XV_load tt_ok rfl (by assumption) rfl rfl rfl) rfl ?_; try (first | (refine XD_int (shl8_u64 (by omega) (by omega)) ?_) | (refine XD_int (shr8) ?_) | (refine XD_int (wrap_i64 (by omega) (by omega)) ?_) | (refine XD_int (wrap_u64 (by omega) (by omega)) ?_) | (refine XD_int (wrap_u8 (by omega) (by omega)) ?_) | (refine XD_int (quo_i64 (by omega) (by omega) (by omega)) ?_) | (refine XD_int (quo_u64 (by omega) (by omega) (by omega)) ?_) | (refine XD_int (rem_pos (by omega)) ?_) | (refine XD_dec_t (by omega) ?_) | (refine XD_dec_f (by omega) ?_) | (refine XD_dec (fun _ => ?_) (fun _ => ?_))))
    | (refine XD_sy rfl rfl rfl rfl rfl (XV_load tt_ok rfl (by assumption) rfl rfl rfl) rfl ?_; try (first | (refine XD_int (shl8_u64 (by omega) (by omega)) ?_) | (refine XD_int (shr8) ?_) | (refine XD_int (wrap_i64 (by omega) (by omega)) ?_) | (refine XD_int (wrap_u64 (by omega) (by omega)) ?_) | (refine XD_int (wrap_u8 (by omega) (by omega)) ?_) | (refine XD_int (quo_i64 (by omega) (by omega) (by omega)) ?_) | (refine XD_int (quo_u64 (by omega) (by omega) (by omega)) ?_) | (refine XD_int (rem_pos (by omega)) ?_) | (refine XD_dec_t (by omega) ?_) | (refine XD_dec_f (by omega) ?_) | (refine XD_dec (fun _ => ?_) (fun _ => ?_))))
    | (refine XD_s rfl rfl rfl (XV_idx tt_ok rfl rfl rfl rfl rfl (by assumption) (by omega) (by omega)) rfl ?_; try (first | (refine XD_int (shl8_u64 (by omega) (by omega)) ?_) | (refine XD_int (shr8) ?_) | (refine XD_int (wrap_i64 (by omega) (by omega)) ?_) | (refine XD_int (wrap_u64 (by omega) (by omega)) ?_) | (refine XD_int (wrap_u8 (by omega) (by omega)) ?_) | (refine XD_int (quo_i64 (by omega) (by omega) (by omega)) ?_) | (refine XD_int (quo_u64 (by omega) (by omega) (by omega)) ?_) | (refine XD_int (rem_pos (by omega)) ?_) | (refine XD_dec_t (by omega) ?_) | (refine XD_dec_f (by omega) ?_) | (refine XD_dec (fun _ => ?_) (fun _ => ?_))))
    | (refine XD_sy rfl rfl rfl rfl rfl (XV_idx tt_ok rfl rfl rfl rfl rfl (by assumption) (by omega) (by omega)) rfl ?_; try (first | (refine XD_int (shl8_u64 (by omega) (by omega)) ?_) | (refine XD_int (shr8) ?_) | (refine XD_int (wrap_i64 (by omega) (by omega)) ?_) | (refine XD_int (wrap_u64 (by omega) (by omega)) ?_) | (refine XD_int (wrap_u8 (by omega) (by omega)) ?_) | (refine XD_int (quo_i64 (by omega) (by omega) (by omega)) ?_) | (refine XD_int (quo_u64 (by omega) (by omega) (by omega)) ?_) | (refine XD_int (rem_pos (by omega)) ?_) | (refine XD_dec_t (by omega) ?_) | (refine XD_dec_f (by omega) ?_) | (refine XD_dec (fun _ => ?_) (fun _ => ?_))))
    | (refine XD_s rfl rfl rfl (XV_el tt_ok rfl (by assumption) rfl (by omega) (by omega) rfl rfl rfl) rfl ?_; try (first | (refine XD_int (shl8_u64 (by omega) (by omega)) ?_) | (refine XD_int (shr8) ?_) | (refine XD_int (wrap_i64 (by omega) (by omega)) ?_) | (refine XD_int (wrap_u64 (by omega) (by omega)) ?_) | (refine XD_int (wrap_u8 (by omega) (by omega)) ?_) | (refine XD_int (quo_i64 (by omega) (by omega) (by omega)) ?_) | (refine XD_int (quo_u64 (by omega) (by omega) (by omega)) ?_) | (refine XD_int (rem_pos (by omega)) ?_) | (refine XD_dec_t (by omega) ?_) | (refine XD_dec_f (by omega) ?_) | (refine XD_dec (fun _ => ?_) (fun _ => ?_))))
    | (refine XD_sy rfl rfl rfl rfl rfl (XV_el tt_ok rfl (by assumption) rfl (by omega) (by omega) rfl rfl rfl) rfl ?_; try (first | (refine XD_int (shl8_u64 (by omega) (by omega)) ?_) | (refine XD_int (shr8) ?_) | (refine XD_int (wrap_i64 (by omega) (by omega)) ?_) | (refine XD_int (wrap_u64 (by omega) (by omega)) ?_) | (refine XD_int (wrap_u8 (by omega) (by omega)) ?_) | (refine XD_int (quo_i64 (by omega) (by omega) (by omega)) ?_) | (refine XD_int (quo_u64 (by omega) (by omega) (by omega)) ?_) | (refine XD_int (rem_pos (by omega)) ?_) | (refine XD_dec_t (by omega) ?_) | (refine XD_dec_f (by omega) ?_) | (refine XD_dec (fun _ => ?_) (fun _ => ?_))))
    | (refine XD_s rfl rfl rfl (XV_elf tt_ok rfl (by assumption) rfl (by omega) (by omega) rfl rfl rfl) rfl ?_; try (first | (refine XD_int (shl8_u64 (by omega) (by omega)) ?_) | (refine XD_int (shr8) ?_) | (refine XD_int (wrap_i64 (by omega) (by omega)) ?_) | (refine XD_int (wrap_u64 (by omega) (by omega)) ?_) | (refine XD_int (wrap_u8 (by omega) (by omega)) ?_) | (refine XD_int (quo_i64 (by omega) (by omega) (by omega)) ?_) | (refine XD_int (quo_u64 (by omega) (by omega) (by omega)) ?_) | (refine XD_int (rem_pos (by omega)) ?_) | (refine XD_dec_t (by omega) ?_) | (refine XD_dec_f (by omega) ?_) | (refine XD_dec (fun _ => ?_) (fun _ => ?_))))
    | (refine XD_sy rfl rfl rfl rfl rfl (XV_elf tt_ok rfl (by assumption) rfl (by omega) (by omega) rfl rfl rfl) rfl ?_; try (first | (refine XD_int (shl8_u64 (by omega) (by omega)) ?_) | (refine XD_int (shr8) ?_) | (refine XD_int (wrap_i64 (by omega) (by omega)) ?_) | (refine XD_int (wrap_u64 (by omega) (by omega)) ?_) | (refine XD_int (wrap_u8 (by omega) (by omega)) ?_) | (refine XD_int (quo_i64 (by omega) (by omega) (by omega)) ?_) | (refine XD_int (quo_u64 (by omega) (by omega) (by omega)) ?_) | (refine XD_int (rem_pos (by omega)) ?_) | (refine XD_dec_t (by omega) ?_) | (refine XD_dec_f (by omega) ?_) | (refine XD_dec (fun _ => ?_) (fun _ => ?_))))
    | (refine XD_no rfl rfl rfl rfl rfl rfl ?_)
    )
      · repeat' (first
    | (refine X_seq ?_)
    | (refine X_region ?_)
    | (refine XL_nil ?_)
    | (refine Y_then ?_)
    | (refine Y_then_ret ?_)
    | (refine Y_then_exit ?_)
    | (refine Y_block_hit ?_)
    | (refine Y_block_miss rfl ?_)
    | (refine Y_block_normal ?_)
    | (refine Y_block_ret ?_)
    | (refine X_skip ?_)
    | (refine X_ret ?_)
    | (refine X_exit ?_)
    | (refine X_block ?_)
    | (refine X_cond_t rfl ?_)
    | (refine X_cond_f rfl ?_)
    | (refine XL_guard_yes rfl rfl rfl ?_)
    | (refine XL_guard_no rfl rfl rfl rfl rfl ?_)
    | (refine XL_op tt_ok rfl rfl ?_; try (first | (refine XL_int (shl8_u64 (by omega) (by omega)) ?_) | (refine XL_int (shr8) ?_) | (refine XL_int (wrap_i64 (by omega) (by omega)) ?_) | (refine XL_int (wrap_u64 (by omega) (by omega)) ?_) | (refine XL_int (wrap_u8 (by omega) (by omega)) ?_) | (refine XL_int (quo_i64 (by omega) (by omega) (by omega)) ?_) | (refine XL_int (quo_u64 (by omega) (by omega) (by omega)) ?_) | (refine XL_int (rem_pos (by omega)) ?_) | (refine XL_remb (by omega) (fun _ _ _ _ => ?_)) | (refine XL_dec_t (by omega) ?_) | (refine XL_dec_f (by omega) ?_) | (refine XL_dec (fun _ => ?_) (fun _ => ?_))))
    | (refine XL_load tt_ok 0 rfl rfl rfl rfl rfl rfl ?_)
    | (refine XL_load tt_ok 1 rfl rfl rfl rfl rfl rfl ?_)
    | (refine XL_load tt_ok 2 rfl rfl rfl rfl rfl rfl ?_)
    | (refine XL_load tt_ok 3 rfl rfl rfl rfl rfl rfl ?_)
    | (refine XL_load tt_ok 4 rfl rfl rfl rfl rfl rfl ?_)
    | (refine XL_load tt_ok 5 rfl rfl rfl rfl rfl rfl ?_)
    | (refine XL_loadF tt_ok rfl (by assumption) rfl rfl rfl rfl ?_)
    | (refine XL_idx tt_ok rfl rfl rfl rfl rfl (by assumption) (by omega) (by omega) rfl ?_)
    | (refine XL_el tt_ok rfl (by assumption) rfl (by omega) (by omega) rfl rfl rfl rfl ?_)
    | (refine XL_elf tt_ok rfl (by assumption) rfl (by omega) (by omega) rfl rfl rfl rfl ?_)
    | (refine XL_box rfl (fun _ => rfl) (fun _ => ?_))
    | (refine XL_build tt_ok rfl rfl rfl rfl rfl rfl rfl ?_)
    )
        exact Y_fn1 rfl rfl rfl
      · exact absurd hz.2.symm (by assumption)
      · exact absurd hz.1.symm (by assumption)
end Go.Proofs.Ytookjknlfkmemaa
