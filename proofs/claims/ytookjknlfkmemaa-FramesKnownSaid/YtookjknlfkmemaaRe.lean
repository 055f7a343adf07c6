/- Walk of done: one call, done to both. -/
import Derived.Test.YtookjknlfkmemaaRd
set_option linter.unusedVariables false
namespace Go.Proofs.Ytookjknlfkmemaa
open Go.RowKit Go.Cof

def stepB (bs : List Int) (x : Dd) : List Int :=
  if x.k % 8 = 1 then (if runE bs.length x.at_ 1 = 0 then bs.set x.at_.toNat (IntKind.u8.wrap x.v) else bs) else
  if x.k % 8 = 3 then (if runE bs.length x.at_ x.size = 0 then storeF bs x.at_.toNat x.v x.size.toNat else bs) else
  if x.k % 8 = 4 then (if frameE bs.length x.to = 0 then putF bs x.to (List.replicate 256 0) else bs) else
  if x.k % 8 = 5 then (if copyE bs.length x.to x.from_ = 0 then putF bs x.to (pageF bs x.from_) else bs) else
  if x.k % 8 = 7 then (if putE bs.length x.to x.b.m = 0 then putF bs x.to x.b.xs else bs) else
  bs
theorem stepB_0 {bs : List Int} {x : Dd} (h : x.k % 8 = 0) : stepB bs x = (bs) := by
  unfold stepB
  rw [h]
  rfl
theorem stepB_1 {bs : List Int} {x : Dd} (h : x.k % 8 = 1) : stepB bs x = (if runE bs.length x.at_ 1 = 0 then bs.set x.at_.toNat (IntKind.u8.wrap x.v) else bs) := by
  unfold stepB
  rw [h]
  rfl
theorem stepB_2 {bs : List Int} {x : Dd} (h : x.k % 8 = 2) : stepB bs x = (bs) := by
  unfold stepB
  rw [h]
  rfl
theorem stepB_3 {bs : List Int} {x : Dd} (h : x.k % 8 = 3) : stepB bs x = (if runE bs.length x.at_ x.size = 0 then storeF bs x.at_.toNat x.v x.size.toNat else bs) := by
  unfold stepB
  rw [h]
  rfl
theorem stepB_4 {bs : List Int} {x : Dd} (h : x.k % 8 = 4) : stepB bs x = (if frameE bs.length x.to = 0 then putF bs x.to (List.replicate 256 0) else bs) := by
  unfold stepB
  rw [h]
  rfl
theorem stepB_5 {bs : List Int} {x : Dd} (h : x.k % 8 = 5) : stepB bs x = (if copyE bs.length x.to x.from_ = 0 then putF bs x.to (pageF bs x.from_) else bs) := by
  unfold stepB
  rw [h]
  rfl
theorem stepB_6 {bs : List Int} {x : Dd} (h : x.k % 8 = 6) : stepB bs x = (bs) := by
  unfold stepB
  rw [h]
  rfl
theorem stepB_7 {bs : List Int} {x : Dd} (h : x.k % 8 = 7) : stepB bs x = (if putE bs.length x.to x.b.m = 0 then putF bs x.to x.b.xs else bs) := by
  unfold stepB
  rw [h]
  rfl
theorem stepB_mem {bs : List Int} {x : Dd} (hm : Mem bs) (hx : x.In) (hbx : x.b.m = x.b.xs.length) : Mem (stepB bs x) ∧ (stepB bs x).length = bs.length := by
  have hw : IntKind.u8.wrap x.v = x.v % 256 := wrap_u8' _
  unfold stepB
  split
  · split
    · exact ⟨hm.set _ (by omega) (by omega), by simp⟩
    · exact ⟨hm, rfl⟩
  split
  · split
    · exact ⟨hm.store _ _ _, storeF_length _ _ _ _⟩
    · exact ⟨hm, rfl⟩
  split
  · split
    · rename_i h
      have := frameE_ok h
      exact ⟨hm.put this.1 this.2 List.length_replicate (fun y hy => by rw [List.eq_of_mem_replicate hy]; decide), putF_length this.1 this.2 List.length_replicate⟩
    · exact ⟨hm, rfl⟩
  split
  · split
    · rename_i h
      have h1 : frameE bs.length x.to = 0 := by unfold copyE at h; split at h <;> assumption
      have h2 : frameE bs.length x.from_ = 0 := by unfold copyE at h; rw [if_pos h1] at h; exact h
      have k1 := frameE_ok h1
      have k2 := frameE_ok h2
      exact ⟨hm.put k1.1 k1.2 (pageF_length k2.1 k2.2) (pageF_byte hm), putF_length k1.1 k1.2 (pageF_length k2.1 k2.2)⟩
    · exact ⟨hm, rfl⟩
  split
  · split
    · rename_i h
      have h1 : frameE bs.length x.to = 0 ∧ x.b.m = 256 := by
        unfold putE at h
        by_cases he : frameE bs.length x.to = 0
        · rw [if_pos he] at h
          by_cases hm2 : x.b.m = 256
          · exact ⟨he, hm2⟩
          · rw [if_neg hm2] at h; cases h
        · rw [if_neg he] at h; exact absurd h he
      have k1 := frameE_ok h1.1
      exact ⟨hm.put k1.1 k1.2 (by omega) hx.bb, putF_length k1.1 k1.2 (by omega)⟩
    · exact ⟨hm, rfl⟩
  exact ⟨hm, rfl⟩
set_option maxRecDepth 100000 in
set_option maxHeartbeats 16000000 in
theorem done_spec (p r g : Nat) (bs : List Int) (x : Dd) (hx : x.In) (hm : Mem bs) :
    Ctr Try.prog 23 [.pointer (some ⟨p, 0, none⟩), .pointer (some ⟨r, 0, none⟩), ddV x] (fun h => refB r g bs.length h ∧ rdS (encI .u8) h x.b.A x.b.m x.b.xs) [isMem p bs, refO g bs.length bs]
      (fun v L => v = .bool true ∧ L = [isMem p (stepB bs x), refO g bs.length (stepB bs x)]) := by
  have hl := hm.le
  have x1 := hx.k; have x2 := hx.at_; have x3 := hx.size; have x4 := hx.v; have x5 := hx.to; have x6 := hx.from_
  have hw : IntKind.u8.wrap x.v = x.v % 256 := wrap_u8' _
  have hk8 : x.k % 8 = 0 ∨ x.k % 8 = 1 ∨ x.k % 8 = 2 ∨ x.k % 8 = 3 ∨ x.k % 8 = 4 ∨ x.k % 8 = 5 ∨ x.k % 8 = 6 ∨ x.k % 8 = 7 := by omega
  have hkd := kind_spec x.k 8 x1.1 x1.2 (by decide) (by decide)
  refine Ctr.intro Try.func23 rfl rfl (by decide +kernel) fun F hpre => ?_
  obtain ⟨hb, hrd⟩ := hpre
  rcases hk8 with hk | hk | hk | hk | hk | hk | hk | hk
  · rw [stepB_0 hk]
    repeat' (first | (refine XL_id ?_; first | refine XL_nil ?_ | refine XL_guard_yes rfl rfl rfl ?_ | (refine XG_load ?_; first | refine XL_load tt_ok 0 rfl rfl rfl rfl rfl rfl ?_ | refine XL_load tt_ok 1 rfl rfl rfl rfl rfl rfl ?_) | (refine XG_box ?_; (refine XL_box rfl (fun _ => rfl) (fun _ => ?_); refine XL_nB (by repeat' (first | exact .nil | apply NL.cons)) ?_)) | (refine XG_call ?_; first | refine XL_fn hkd rfl rfl (fun _ _ _ => trivial) ?_ | refine XL_callE [1] (byte_spec p bs x.at_ (by omega) (by omega)) rfl rfl rfl (fun _ _ _ => trivial) ?_ | (refine XL_fn (rbyte_spec r g bs.length bs x.at_ (by omega) (by omega) (by omega) (by omega)) rfl rfl (fun g hg hL => ⟨by exact blk_le hb hg, by exact rd_at 2 rfl hL⟩) ?_)) | (refine XL_op tt_ok rfl rfl ?_; try (refine XL_dec_t (by omega) ?_))) | (refine X_id ?_; first | refine X_seq ?_ | (refine X_regionN (by repeat' (first | exact .nil | apply NL.cons)) ?_) | refine X_ret ?_ | refine X_block ?_ | refine X_cond_t rfl ?_) | (refine Y_id ?_; first | refine Y_then ?_ | refine Y_then_ret ?_ | refine Y_block_ret ?_))
    all_goals first
      | exact Y_ret1 rfl rfl (fun _ h => h) ⟨rfl, rfl⟩
      | exact Y_ret1 rfl rfl (stars_only [0, 0] rfl) ⟨rfl, rfl⟩
      | exact Y_ret1 rfl rfl (stars_only [1, 0] rfl) ⟨rfl, rfl⟩
      | exact Y_ret1 rfl rfl (stars_only [0, 1] rfl) ⟨rfl, rfl⟩
      | (exfalso; omega)
      | skip
    
  · rw [stepB_1 hk]
    repeat' (first | (refine XL_id ?_; first | refine XL_nil ?_ | (refine XG_load ?_; refine XL_load tt_ok 0 rfl rfl rfl rfl rfl rfl ?_) | (refine XG_box ?_; (refine XL_box rfl (fun _ => rfl) (fun _ => ?_); refine XL_nB (by repeat' (first | exact .nil | apply NL.cons)) ?_)) | (refine XG_call ?_; first | refine XL_fn hkd rfl rfl (fun _ _ _ => trivial) ?_ | refine XL_callE [0] (setByte_spec p bs x.at_ (IntKind.u8.wrap x.v) (by omega) (by omega) (by omega) (by omega)) rfl rfl rfl (fun _ _ _ => trivial) ?_ | (refine XL_callE [1] (rsetByte_spec r g bs.length bs x.at_ (IntKind.u8.wrap x.v) (by omega) (by omega) (by omega) (by omega) (by omega) (by omega)) rfl rfl rfl (fun g hg hL => by exact blk_le hb (hFG.trans hg)) ?_)) | (refine XL_op tt_ok rfl rfl ?_; try (first | refine XL_dec_t (by omega) ?_ | refine XL_dec_f (by omega) ?_))) | (refine XD_id ?_; first | (refine XD_thaw thaw ?_; refine XD_nil ?_) | (refine XD_id ?_; (first | (refine XD_uL rfl ?_; refine XD_s rfl rfl rfl (XV_load tt_ok rfl (blk_at 0 rfl hM) rfl rfl rfl) rfl ?_) | (refine XD_u rfl rfl ?_; refine XD_s rfl rfl rfl (XV_op tt_ok rfl) rfl ?_)); try (refine XD_dec_t (by omega) ?_)) | refine XD_m rfl rfl ?_) | (refine X_id ?_; first | (refine X_drawS (id := 7) [0, 1, 2, 3, 4, 5, 7, 8, 9, 10, 11, 12, 6, 13, 14, 15] (fun | 6 => .m | 13 => .m | _ => .s) 8 (by repeat' (first | exact Split.nil | apply Split.blk | apply Split.keep)) mixed (by decide +kernel) ?_; intro G hFG hM thaw; show XD _ _ _ _ _ _ [0, 1, 2, 3, 4, 5, 7, 8, 9, 10, 11, 12, 6, 13, 14, 15] _ _ _) | refine X_seq ?_ | (refine X_regionN (by repeat' (first | exact .nil | apply NL.cons)) ?_) | refine X_ret ?_ | refine X_block ?_ | refine X_cond_t rfl ?_ | refine X_cond_f rfl ?_) | (refine Y_id ?_; first | refine Y_then ?_ | refine Y_then_ret ?_ | refine Y_block_ret ?_ | refine Y_m ?_))
    all_goals first
      | exact Y_ret1 rfl rfl (fun _ h => h) ⟨rfl, rfl⟩
      | exact Y_ret1 rfl rfl (stars_only [0, 0] rfl) ⟨rfl, rfl⟩
      | exact Y_ret1 rfl rfl (stars_only [1, 0] rfl) ⟨rfl, rfl⟩
      | exact Y_ret1 rfl rfl (stars_only [0, 1] rfl) ⟨rfl, rfl⟩
      | (exfalso; omega)
      | skip
    
  · rw [stepB_2 hk]
    repeat' (first | (refine XL_id ?_; first | refine XL_nil ?_ | refine XL_guard_yes rfl rfl rfl ?_ | (refine XG_load ?_; first | refine XL_load tt_ok 0 rfl rfl rfl rfl rfl rfl ?_ | refine XL_load tt_ok 1 rfl rfl rfl rfl rfl rfl ?_) | (refine XG_box ?_; (refine XL_box rfl (fun _ => rfl) (fun _ => ?_); refine XL_nB (by repeat' (first | exact .nil | apply NL.cons)) ?_)) | (refine XG_call ?_; first | refine XL_fn hkd rfl rfl (fun _ _ _ => trivial) ?_ | refine XL_callE [1] (load_spec p bs x.at_ x.size (by omega) (by omega) (by omega) (by omega)) rfl rfl rfl (fun _ _ _ => trivial) ?_ | (refine XL_fn (rload_spec r g bs.length bs x.at_ x.size hm rfl (by omega) (by omega) (by omega) (by omega)) rfl rfl (fun g hg hL => ⟨by exact blk_le hb hg, by exact rd_at 2 rfl hL⟩) ?_)) | (refine XL_op tt_ok rfl rfl ?_; try (first | refine XL_dec_t (by omega) ?_ | refine XL_dec_f (by omega) ?_))) | (refine X_id ?_; first | refine X_seq ?_ | (refine X_regionN (by repeat' (first | exact .nil | apply NL.cons)) ?_) | refine X_ret ?_ | refine X_block ?_ | refine X_cond_t rfl ?_ | refine X_cond_f rfl ?_) | (refine Y_id ?_; first | refine Y_then ?_ | refine Y_then_ret ?_ | refine Y_block_ret ?_))
    all_goals first
      | exact Y_ret1 rfl rfl (fun _ h => h) ⟨rfl, rfl⟩
      | exact Y_ret1 rfl rfl (stars_only [0, 0] rfl) ⟨rfl, rfl⟩
      | exact Y_ret1 rfl rfl (stars_only [1, 0] rfl) ⟨rfl, rfl⟩
      | exact Y_ret1 rfl rfl (stars_only [0, 1] rfl) ⟨rfl, rfl⟩
      | (exfalso; omega)
      | skip
    
  · rw [stepB_3 hk]
    repeat' (first | (refine XL_id ?_; first | refine XL_nil ?_ | (refine XG_load ?_; refine XL_load tt_ok 0 rfl rfl rfl rfl rfl rfl ?_) | (refine XG_box ?_; (refine XL_box rfl (fun _ => rfl) (fun _ => ?_); refine XL_nB (by repeat' (first | exact .nil | apply NL.cons)) ?_)) | (refine XG_call ?_; first | refine XL_fn hkd rfl rfl (fun _ _ _ => trivial) ?_ | refine XL_callE [0] (store_spec p bs x.at_ x.size x.v (by omega) (by omega) (by omega) (by omega) (by omega) (by omega)) rfl rfl rfl (fun _ _ _ => trivial) ?_ | (refine XL_callE [1] (rstore_spec r g bs.length bs x.at_ x.size x.v hm rfl (by omega) (by omega) (by omega) (by omega) (by omega) (by omega)) rfl rfl rfl (fun g hg hL => by exact blk_le hb (hFG.trans hg)) ?_)) | (refine XL_op tt_ok rfl rfl ?_; try (first | refine XL_dec_t (by omega) ?_ | refine XL_dec_f (by omega) ?_))) | (refine XD_id ?_; first | (refine XD_thaw thaw ?_; refine XD_nil ?_) | (refine XD_id ?_; (first | (refine XD_uL rfl ?_; refine XD_s rfl rfl rfl (XV_load tt_ok rfl (blk_at 0 rfl hM) rfl rfl rfl) rfl ?_) | (refine XD_u rfl rfl ?_; refine XD_s rfl rfl rfl (XV_op tt_ok rfl) rfl ?_)); try (refine XD_dec_t (by omega) ?_)) | refine XD_m rfl rfl ?_) | (refine X_id ?_; first | (refine X_drawS (id := 13) [0, 1, 2, 3, 4, 5, 6, 8, 9, 10, 11, 12, 13, 14, 7, 15, 16, 17] (fun | 7 => .m | 15 => .m | _ => .s) 8 (by repeat' (first | exact Split.nil | apply Split.blk | apply Split.keep)) mixed (by decide +kernel) ?_; intro G hFG hM thaw; show XD _ _ _ _ _ _ [0, 1, 2, 3, 4, 5, 6, 8, 9, 10, 11, 12, 13, 14, 7, 15, 16, 17] _ _ _) | refine X_seq ?_ | (refine X_regionN (by repeat' (first | exact .nil | apply NL.cons)) ?_) | refine X_ret ?_ | refine X_block ?_ | refine X_cond_t rfl ?_ | refine X_cond_f rfl ?_) | (refine Y_id ?_; first | refine Y_then ?_ | refine Y_then_ret ?_ | refine Y_block_ret ?_ | refine Y_m ?_))
    all_goals first
      | exact Y_ret1 rfl rfl (fun _ h => h) ⟨rfl, rfl⟩
      | exact Y_ret1 rfl rfl (stars_only [0, 0] rfl) ⟨rfl, rfl⟩
      | exact Y_ret1 rfl rfl (stars_only [1, 0] rfl) ⟨rfl, rfl⟩
      | exact Y_ret1 rfl rfl (stars_only [0, 1] rfl) ⟨rfl, rfl⟩
      | (exfalso; omega)
      | skip
    
  · rw [stepB_4 hk]
    repeat' (first | (refine XL_id ?_; first | refine XL_nil ?_ | (refine XG_load ?_; refine XL_load tt_ok 0 rfl rfl rfl rfl rfl rfl ?_) | (refine XG_box ?_; (refine XL_box rfl (fun _ => rfl) (fun _ => ?_); refine XL_nB (by repeat' (first | exact .nil | apply NL.cons)) ?_)) | (refine XG_call ?_; first | refine XL_fn hkd rfl rfl (fun _ _ _ => trivial) ?_ | refine XL_callE [0] (zero_spec p bs x.to (by omega) (by omega)) rfl rfl rfl (fun _ _ _ => trivial) ?_ | (refine XL_callE [1] (rzero_spec r g bs.length bs x.to hm rfl) rfl rfl rfl (fun g hg hL => by exact blk_le hb (hFG.trans hg)) ?_)) | (refine XL_op tt_ok rfl rfl ?_; try (first | refine XL_dec_t (by omega) ?_ | refine XL_dec_f (by omega) ?_))) | (refine XD_id ?_; first | (refine XD_thaw thaw ?_; refine XD_nil ?_) | (refine XD_id ?_; (first | (refine XD_uL rfl ?_; refine XD_s rfl rfl rfl (XV_load tt_ok rfl (blk_at 0 rfl hM) rfl rfl rfl) rfl ?_) | (refine XD_u rfl rfl ?_; refine XD_s rfl rfl rfl (XV_op tt_ok rfl) rfl ?_)); try (refine XD_dec_t (by omega) ?_)) | refine XD_m rfl rfl ?_) | (refine X_id ?_; first | (refine X_drawS (id := 15) [0, 1, 2, 4, 5, 6, 3, 7, 8, 9] (fun | 3 => .m | 7 => .m | _ => .s) 8 (by repeat' (first | exact Split.nil | apply Split.blk | apply Split.keep)) mixed (by decide +kernel) ?_; intro G hFG hM thaw; show XD _ _ _ _ _ _ [0, 1, 2, 4, 5, 6, 3, 7, 8, 9] _ _ _) | refine X_seq ?_ | (refine X_regionN (by repeat' (first | exact .nil | apply NL.cons)) ?_) | refine X_ret ?_ | refine X_block ?_ | refine X_cond_t rfl ?_ | refine X_cond_f rfl ?_) | (refine Y_id ?_; first | refine Y_then ?_ | refine Y_then_ret ?_ | refine Y_block_ret ?_ | refine Y_m ?_))
    all_goals first
      | exact Y_ret1 rfl rfl (fun _ h => h) ⟨rfl, rfl⟩
      | exact Y_ret1 rfl rfl (stars_only [0, 0] rfl) ⟨rfl, rfl⟩
      | exact Y_ret1 rfl rfl (stars_only [1, 0] rfl) ⟨rfl, rfl⟩
      | exact Y_ret1 rfl rfl (stars_only [0, 1] rfl) ⟨rfl, rfl⟩
      | (exfalso; omega)
      | skip
    
  · rw [stepB_5 hk]
    repeat' (first | (refine XL_id ?_; first | refine XL_nil ?_ | (refine XG_load ?_; refine XL_load tt_ok 0 rfl rfl rfl rfl rfl rfl ?_) | (refine XG_box ?_; (refine XL_box rfl (fun _ => rfl) (fun _ => ?_); refine XL_nB (by repeat' (first | exact .nil | apply NL.cons)) ?_)) | (refine XG_call ?_; first | refine XL_fn hkd rfl rfl (fun _ _ _ => trivial) ?_ | refine XL_callE [0] (copy_spec p bs x.to x.from_ (by omega) (by omega) (by omega) (by omega)) rfl rfl rfl (fun _ _ _ => trivial) ?_ | (refine XL_callE [1] (rcopy_spec r g bs.length bs x.to x.from_ hm rfl) rfl rfl rfl (fun g hg hL => by exact blk_le hb (hFG.trans hg)) ?_)) | (refine XL_op tt_ok rfl rfl ?_; try (first | refine XL_dec_t (by omega) ?_ | refine XL_dec_f (by omega) ?_))) | (refine XD_id ?_; first | (refine XD_thaw thaw ?_; refine XD_nil ?_) | (refine XD_id ?_; (first | (refine XD_uL rfl ?_; refine XD_s rfl rfl rfl (XV_load tt_ok rfl (blk_at 0 rfl hM) rfl rfl rfl) rfl ?_) | (refine XD_u rfl rfl ?_; refine XD_s rfl rfl rfl (XV_op tt_ok rfl) rfl ?_)); try (refine XD_dec_t (by omega) ?_)) | refine XD_m rfl rfl ?_) | (refine X_id ?_; first | (refine X_drawS (id := 17) [0, 1, 2, 3, 4, 6, 7, 8, 9, 10, 5, 11, 12, 13] (fun | 5 => .m | 11 => .m | _ => .s) 8 (by repeat' (first | exact Split.nil | apply Split.blk | apply Split.keep)) mixed (by decide +kernel) ?_; intro G hFG hM thaw; show XD _ _ _ _ _ _ [0, 1, 2, 3, 4, 6, 7, 8, 9, 10, 5, 11, 12, 13] _ _ _) | refine X_seq ?_ | (refine X_regionN (by repeat' (first | exact .nil | apply NL.cons)) ?_) | refine X_ret ?_ | refine X_block ?_ | refine X_cond_t rfl ?_ | refine X_cond_f rfl ?_) | (refine Y_id ?_; first | refine Y_then ?_ | refine Y_then_ret ?_ | refine Y_block_ret ?_ | refine Y_m ?_))
    all_goals first
      | exact Y_ret1 rfl rfl (fun _ h => h) ⟨rfl, rfl⟩
      | exact Y_ret1 rfl rfl (stars_only [0, 0] rfl) ⟨rfl, rfl⟩
      | exact Y_ret1 rfl rfl (stars_only [1, 0] rfl) ⟨rfl, rfl⟩
      | exact Y_ret1 rfl rfl (stars_only [0, 1] rfl) ⟨rfl, rfl⟩
      | (exfalso; omega)
      | skip
    
  · rw [stepB_6 hk]
    repeat' (first | (refine XL_id ?_; first | refine XL_nil ?_ | (refine XG_load ?_; refine XL_load tt_ok 0 rfl rfl rfl rfl rfl rfl ?_) | (refine XG_box ?_; (refine XL_box rfl (fun _ => rfl) (fun _ => ?_); refine XL_nB (by repeat' (first | exact .nil | apply NL.cons)) ?_)) | (refine XG_call ?_; first | refine XL_fn hkd rfl rfl (fun _ _ _ => trivial) ?_ | (refine XL_callE [1, 1] (page_law p r g bs.length bs x.to hm rfl (by omega) (by omega)) rfl rfl rfl (fun g hg hL => by exact blk_le hb hg) ?_)) | (refine XL_op tt_ok rfl rfl ?_; try (first | refine XL_dec_t (by omega) ?_ | refine XL_dec_f (by omega) ?_))) | (refine X_id ?_; first | refine X_seq ?_ | (refine X_regionN (by repeat' (first | exact .nil | apply NL.cons)) ?_) | refine X_ret ?_ | refine X_block ?_ | refine X_cond_t rfl ?_ | refine X_cond_f rfl ?_) | (refine Y_id ?_; first | refine Y_then ?_ | refine Y_then_ret ?_ | refine Y_block_ret ?_))
    all_goals first
      | exact Y_ret1 rfl rfl (fun _ h => h) ⟨rfl, rfl⟩
      | exact Y_ret1 rfl rfl (stars_only [0, 0] rfl) ⟨rfl, rfl⟩
      | exact Y_ret1 rfl rfl (stars_only [1, 0] rfl) ⟨rfl, rfl⟩
      | exact Y_ret1 rfl rfl (stars_only [0, 1] rfl) ⟨rfl, rfl⟩
      | (exfalso; omega)
      | skip
    
  · rw [stepB_7 hk]
    repeat' (first | (refine XL_id ?_; first | refine XL_nil ?_ | (refine XG_load ?_; first | refine XL_loadW tt_ok 0 rfl rfl rfl rfl rfl rfl ?_ | refine XL_load tt_ok 0 rfl rfl rfl rfl rfl rfl ?_) | (refine XG_box ?_; (refine XL_box rfl (fun _ => rfl) (fun _ => ?_); refine XL_nB (by repeat' (first | exact .nil | apply NL.cons)) ?_)) | (refine XG_call ?_; first | refine XL_fn hkd rfl rfl (fun _ _ _ => trivial) ?_ | refine XL_callE [1, 1] (put_law p r g bs.length bs x hx hm rfl) rfl rfl rfl (fun g hg hL => ⟨blk_le hb hg, hrd.le hg⟩) ?_) | (refine XL_op tt_ok rfl rfl ?_; try (refine XL_dec_f (by omega) ?_))) | (refine X_id ?_; first | refine X_seq ?_ | (refine X_regionN (by repeat' (first | exact .nil | apply NL.cons)) ?_) | refine X_skip ?_ | refine X_ret ?_ | refine X_block ?_ | refine X_cond_f rfl ?_) | (refine Y_id ?_; first | refine Y_then ?_ | refine Y_block_normal ?_))
    all_goals first
      | exact Y_ret1 rfl rfl (fun _ h => h) ⟨rfl, rfl⟩
      | exact Y_ret1 rfl rfl (stars_only [0, 0] rfl) ⟨rfl, rfl⟩
      | exact Y_ret1 rfl rfl (stars_only [1, 0] rfl) ⟨rfl, rfl⟩
      | exact Y_ret1 rfl rfl (stars_only [0, 1] rfl) ⟨rfl, rfl⟩
      | (exfalso; omega)
      | skip
    
end Go.Proofs.Ytookjknlfkmemaa
