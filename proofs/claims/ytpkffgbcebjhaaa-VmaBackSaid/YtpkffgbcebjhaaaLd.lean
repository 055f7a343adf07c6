/- The law VmaChanges, walked. -/
import Derived.Test.YtpkffgbcebjhaaaLc
set_option linter.unusedVariables false
namespace Go.Proofs.Ytpkffgbcebjhaaa
open Go.RowKit Go.Cof

theorem fewP_len (xs : List Rg) : (fewP xs).1.length ≤ 1024 := by
  unfold fewP
  split
  · simp
  · show xs.length ≤ 1024; omega
theorem putP_len (l : List Rg) (r : Rg) : (putP l r).1.length ≤ 1024 := by
  unfold putP
  split
  · simp
  · split
    · simp
    · split
      · simp
      · exact fewP_len _
theorem cutP_len (l : List Rg) (p n : Int) : (cutP l p n).1.length ≤ 1024 := by
  unfold cutP
  split
  · simp
  · split
    · simp
    · exact fewP_len _
theorem protP_len (l : List Rg) (p n m : Int) : (protP l p n m).1.length ≤ 1024 := by
  unfold protP
  split
  · simp
  · split
    · simp
    · split
      · simp
      · exact fewP_len _
theorem spare_rd {A : Option Addr} {m c : Nat} {l : List Rg} (hm : m = l.length) (k : Nat) {L : List HProp} (hk : L[k]? = some (own encRg A (m + 5) c (l ++ marks))) {g : Hp} (h : stars L g) : rdS encRg g A m l := by
  have := (rd_at k hk h).take m (by omega)
  subst hm
  rwa [List.take_left] at this
set_option maxRecDepth 100000 in
set_option maxHeartbeats 8000000 in
theorem vmaChanges_walk (A : Option Addr) (m c : Nat) (l : List Rg) (p n q a : Int) (hm : m ≤ 5864062014634) (hmc : m ≤ c) (hl : ∀ r ∈ l, r.In) (hr : (⟨p, n, q⟩ : Rg).In) :
    FnC Try.prog 3 [.slice A m c, .agg #[.int .i64 p, .int .i64 n, .int .u8 q, .int .i64 a]] (fun h => rdS encRg h A m l) (.bool true) := by
  refine Ctr.intro Try.func3 rfl rfl (by decide +kernel) fun F hpre => ?_
  have r1 : rdS encRg F.heap A m l := hpre
  have hlen := r1.1
  have hq : -9223372036854775808 ≤ p ∧ p ≤ 9223372036854775807 := hr.p
  have s1 := rput_spec A m c l ⟨p, n, q⟩ (by omega) hl hr
  have s2 := rcut_spec A m c l p n (by omega) hl hq
  have s3 := rprot_spec A m c l p n q (by omega) hl hq
  rw [putP_ref] at s1
  rw [cutP_ref] at s2
  rw [protP_ref] at s3
  repeat' (first
    | (refine XL_id ?_; first
      | (refine XL_nil ?_)
      | (refine XL_guard_yes rfl rfl rfl ?_)
      | (refine XL_guard_no rfl rfl rfl rfl rfl ?_)
      | (refine XL_guard_nou rfl rfl rfl rfl ?_)
      | (refine XG_box ?_; first
        | (refine XL_box rfl (fun _ => rfl) (fun bx => ?_))
        | (refine XL_box rfl (fun _ => rfl) (fun _ => ?_))
      )
      | (refine XG_load ?_; first
        | (refine XL_loadW tt_ok 0 rfl rfl rfl rfl rfl rfl ?_)
        | (refine XL_loadW tt_ok 1 rfl rfl rfl rfl rfl rfl ?_)
        | (refine XL_loadW tt_ok 2 rfl rfl rfl rfl rfl rfl ?_)
        | (refine XL_loadW tt_ok 3 rfl rfl rfl rfl rfl rfl ?_)
        | (refine XL_loadW tt_ok 4 rfl rfl rfl rfl rfl rfl ?_)
        | (refine XL_loadW tt_ok 5 rfl rfl rfl rfl rfl rfl ?_)
        | (refine XL_loadW tt_ok 6 rfl rfl rfl rfl rfl rfl ?_)
        | (refine XL_loadW tt_ok 7 rfl rfl rfl rfl rfl rfl ?_)
        | (refine XL_loadW tt_ok 8 rfl rfl rfl rfl rfl rfl ?_)
        | (refine XL_loadW tt_ok 9 rfl rfl rfl rfl rfl rfl ?_)
        | (refine XL_load tt_ok 0 rfl rfl rfl rfl rfl rfl ?_)
        | (refine XL_load tt_ok 1 rfl rfl rfl rfl rfl rfl ?_)
        | (refine XL_load tt_ok 2 rfl rfl rfl rfl rfl rfl ?_)
        | (refine XL_load tt_ok 3 rfl rfl rfl rfl rfl rfl ?_)
        | (refine XL_load tt_ok 4 rfl rfl rfl rfl rfl rfl ?_)
        | (refine XL_load tt_ok 5 rfl rfl rfl rfl rfl rfl ?_)
        | (refine XL_load tt_ok 6 rfl rfl rfl rfl rfl rfl ?_)
        | (refine XL_load tt_ok 7 rfl rfl rfl rfl rfl rfl ?_)
        | (refine XL_load tt_ok 8 rfl rfl rfl rfl rfl rfl ?_)
        | (refine XL_load tt_ok 9 rfl rfl rfl rfl rfl rfl ?_)
        | (refine XL_loadF tt_ok rfl (by assumption) rfl rfl rfl rfl ?_)
        | (refine XL_elW tt_ok rfl (by assumption) rfl (by omega) (by omega) rfl rfl rfl rfl ?_)
        | (refine XL_el tt_ok rfl (by assumption) rfl (by omega) (by omega) rfl rfl rfl rfl ?_)
        | (refine XL_elf tt_ok rfl (by assumption) rfl (by omega) (by omega) rfl rfl rfl rfl ?_)
        | (refine XL_eloW tt_ok 0 rfl rfl rfl (by omega) (by omega) rfl rfl rfl rfl ?_)
        | (refine XL_elo tt_ok 0 rfl rfl rfl (by omega) (by omega) rfl rfl rfl rfl ?_)
        | (refine XL_elof tt_ok 0 rfl rfl rfl (by omega) (by omega) rfl rfl rfl rfl ?_)
        | (refine XL_eloW tt_ok 1 rfl rfl rfl (by omega) (by omega) rfl rfl rfl rfl ?_)
        | (refine XL_elo tt_ok 1 rfl rfl rfl (by omega) (by omega) rfl rfl rfl rfl ?_)
        | (refine XL_elof tt_ok 1 rfl rfl rfl (by omega) (by omega) rfl rfl rfl rfl ?_)
        | (refine XL_eloW tt_ok 2 rfl rfl rfl (by omega) (by omega) rfl rfl rfl rfl ?_)
        | (refine XL_elo tt_ok 2 rfl rfl rfl (by omega) (by omega) rfl rfl rfl rfl ?_)
        | (refine XL_elof tt_ok 2 rfl rfl rfl (by omega) (by omega) rfl rfl rfl rfl ?_)
        | (refine XL_eloW tt_ok 3 rfl rfl rfl (by omega) (by omega) rfl rfl rfl rfl ?_)
        | (refine XL_elo tt_ok 3 rfl rfl rfl (by omega) (by omega) rfl rfl rfl rfl ?_)
        | (refine XL_elof tt_ok 3 rfl rfl rfl (by omega) (by omega) rfl rfl rfl rfl ?_)
      )
      | (refine XG_idx ?_; first
        | (refine XL_idx tt_ok rfl rfl rfl rfl rfl (by assumption) (by omega) (by omega) rfl ?_)
        | (refine XL_idxo tt_ok 0 rfl rfl rfl rfl rfl rfl (by omega) (by omega) rfl ?_)
        | (refine XL_idxo tt_ok 1 rfl rfl rfl rfl rfl rfl (by omega) (by omega) rfl ?_)
        | (refine XL_idxo tt_ok 2 rfl rfl rfl rfl rfl rfl (by omega) (by omega) rfl ?_)
        | (refine XL_idxo tt_ok 3 rfl rfl rfl rfl rfl rfl (by omega) (by omega) rfl ?_)
      )
      | (refine XG_build ?_; first
        | (refine XL_build tt_ok rfl rfl rfl rfl rfl rfl rfl ?_)
      )
      | (refine XG_alloc ?_; first
        | (refine XL_alloc (et := 29) tt_ok rfl rfl (fun _ => rfl) (fun b6 => ?_))
        | (refine XL_alloc (et := 31) tt_ok rfl rfl (fun _ => rfl) (fun b7 => ?_))
        | (refine XL_alloc tt_ok rfl rfl (fun _ => rfl) (fun b => ?_))
      )
      | (refine XG_call ?_; first
        | (refine XL_op tt_ok rfl rfl ?_; try (first | (refine XL_int (shl8_u64 (by omega) (by omega)) ?_) | (refine XL_int (shr8) ?_) | (refine XL_int (wrap_i64 (by omega) (by omega)) ?_) | (refine XL_int (wrap_u64 (by omega) (by omega)) ?_) | (refine XL_int (wrap_u8 (by omega) (by omega)) ?_) | (refine XL_int (quo_i64 (by omega) (by omega) (by omega)) ?_) | (refine XL_int (quo_u64 (by omega) (by omega) (by omega)) ?_) | (refine XL_int (rem_pos (by omega)) ?_) | (refine XL_remb (by omega) (fun _ _ _ _ => ?_)) | (refine XL_dec_t (by omega) ?_) | (refine XL_dec_f (by omega) ?_) | (refine XL_dec (fun _ => ?_) (fun _ => ?_))))
        | (refine XL_callK [] (spare_spec A m c l hm) rfl rfl (fun _ => rfl) (fun g hg _ => r1.le hg) (fun u L hv => ?_); obtain ⟨As, cs, rfl, hcs, rfl⟩ := hv)
        | (refine XL_fn (check_spec As m cs l (by omega) hl) rfl rfl (fun g hg hL => spare_rd hlen 0 rfl hL) ?_)
        | (refine XL_fn (rcheck_spec A m c l (by omega) hl) rfl rfl (fun g hg hL => r1.le hg) ?_)
        | (refine XL_callK [] (put_spec As m cs l ⟨p, n, q⟩ (by omega) (by omega) hl hr) rfl rfl (fun _ => rfl) (fun g hg hL => spare_rd hlen 2 rfl hL) (fun u L hv => ?_); obtain ⟨o1, ho1, hm1, rfl, rfl⟩ := hv)
        | (refine XL_callK [] s1 rfl rfl (fun _ => rfl) (fun g hg hL => r1.le hg) (fun u L hv => ?_); obtain ⟨o2, ho2, hm2, rfl, rfl⟩ := hv)
        | (refine XL_fn (same_spec _ _ _ _ _ _ o1.xs o2.xs (by rw [hm1, ho1]; have := putP_len l ⟨p, n, q⟩; omega) (by rw [hm2, ho2]; have := putP_len l ⟨p, n, q⟩; omega)) rfl rfl (fun g hg hL => ⟨rd_at 1 rfl hL, rd_at 0 rfl hL⟩) ?_; refine XL_dec_t (ho1.trans ho2.symm) ?_)
        | (refine XL_callK [1] (spoil_spec o1.A o1.m o1.c o1.xs (by rw [hm1, ho1]; have := putP_len l ⟨p, n, q⟩; omega)) rfl rfl (fun _ => rfl) (fun _ _ _ => trivial) (fun u L hv => ?_); obtain ⟨rfl, rfl⟩ := hv)
        | (refine XL_callK [] (cut_spec As m cs l p n (by omega) (by omega) hl hq) rfl rfl (fun _ => rfl) (fun g hg hL => spare_rd hlen 3 rfl hL) (fun u L hv => ?_); obtain ⟨o3, ho3, hm3, rfl, rfl⟩ := hv)
        | (refine XL_callK [] s2 rfl rfl (fun _ => rfl) (fun g hg hL => r1.le hg) (fun u L hv => ?_); obtain ⟨o4, ho4, hm4, rfl, rfl⟩ := hv)
        | (refine XL_fn (same_spec _ _ _ _ _ _ o3.xs o4.xs (by rw [hm3, ho3]; have := cutP_len l p n; omega) (by rw [hm4, ho4]; have := cutP_len l p n; omega)) rfl rfl (fun g hg hL => ⟨rd_at 1 rfl hL, rd_at 0 rfl hL⟩) ?_; refine XL_dec_t (ho3.trans ho4.symm) ?_)
        | (refine XL_callK [1] (spoil_spec o3.A o3.m o3.c o3.xs (by rw [hm3, ho3]; have := cutP_len l p n; omega)) rfl rfl (fun _ => rfl) (fun _ _ _ => trivial) (fun u L hv => ?_); obtain ⟨rfl, rfl⟩ := hv)
        | (refine XL_callK [] (prot_spec As m cs l p n q (by omega) (by omega) hl hq) rfl rfl (fun _ => rfl) (fun g hg hL => spare_rd hlen 4 rfl hL) (fun u L hv => ?_); obtain ⟨o5, ho5, hm5, rfl, rfl⟩ := hv)
        | (refine XL_callK [] s3 rfl rfl (fun _ => rfl) (fun g hg hL => r1.le hg) (fun u L hv => ?_); obtain ⟨o6, ho6, hm6, rfl, rfl⟩ := hv)
        | (refine XL_fn (same_spec _ _ _ _ _ _ o5.xs o6.xs (by rw [hm5, ho5]; have := protP_len l p n q; omega) (by rw [hm6, ho6]; have := protP_len l p n q; omega)) rfl rfl (fun g hg hL => ⟨rd_at 1 rfl hL, rd_at 0 rfl hL⟩) ?_; refine XL_dec_t (ho5.trans ho6.symm) ?_)
        | (refine XL_callK [1] (spoil_spec o5.A o5.m o5.c o5.xs (by rw [hm5, ho5]; have := protP_len l p n q; omega)) rfl rfl (fun _ => rfl) (fun _ _ _ => trivial) (fun u L hv => ?_); obtain ⟨rfl, rfl⟩ := hv)
        | (refine XL_fn (kept_spec As A m cs m c l hm (by omega)) rfl rfl (fun g hg hL => ⟨rd_at 5 rfl hL, r1.le hg⟩) ?_)
        | (refine XL_fn (check_spec _ _ _ _ (by omega) (by assumption)) rfl rfl (fun g hg _ => rdS.le (by assumption) hg) ?_)
        | (refine XL_fn (rcheck_spec _ _ _ _ (by omega) (by assumption)) rfl rfl (fun g hg _ => rdS.le (by assumption) hg) ?_)
        | (refine XL_fn works_spec rfl rfl (fun _ _ _ => trivial) ?_)
      )
      | (refine XG_lit ?_; first
        | (refine XL_lit tt_ok rfl rfl rfl rfl rfl rfl rfl rfl rfl (fun _ => rfl) (fun b => ?_))
      )
      | (refine XG_store ?_; first
        | (refine XL_storeW tt_ok 0 rfl rfl rfl rfl rfl rfl rfl ?_)
        | (refine XL_storeW tt_ok 1 rfl rfl rfl rfl rfl rfl rfl ?_)
        | (refine XL_storeW tt_ok 2 rfl rfl rfl rfl rfl rfl rfl ?_)
        | (refine XL_storeW tt_ok 3 rfl rfl rfl rfl rfl rfl rfl ?_)
        | (refine XL_storeW tt_ok 4 rfl rfl rfl rfl rfl rfl rfl ?_)
        | (refine XL_storeW tt_ok 5 rfl rfl rfl rfl rfl rfl rfl ?_)
        | (refine XL_storeW tt_ok 6 rfl rfl rfl rfl rfl rfl rfl ?_)
        | (refine XL_storeW tt_ok 7 rfl rfl rfl rfl rfl rfl rfl ?_)
        | (refine XL_storeW tt_ok 8 rfl rfl rfl rfl rfl rfl rfl ?_)
        | (refine XL_storeW tt_ok 9 rfl rfl rfl rfl rfl rfl rfl ?_)
        | (refine XL_store tt_ok 0 rfl rfl rfl rfl rfl rfl rfl rfl ?_)
        | (refine XL_store tt_ok 1 rfl rfl rfl rfl rfl rfl rfl rfl ?_)
        | (refine XL_store tt_ok 2 rfl rfl rfl rfl rfl rfl rfl rfl ?_)
        | (refine XL_store tt_ok 3 rfl rfl rfl rfl rfl rfl rfl rfl ?_)
        | (refine XL_store tt_ok 4 rfl rfl rfl rfl rfl rfl rfl rfl ?_)
        | (refine XL_store tt_ok 5 rfl rfl rfl rfl rfl rfl rfl rfl ?_)
        | (refine XL_store tt_ok 6 rfl rfl rfl rfl rfl rfl rfl rfl ?_)
        | (refine XL_store tt_ok 7 rfl rfl rfl rfl rfl rfl rfl rfl ?_)
        | (refine XL_store tt_ok 8 rfl rfl rfl rfl rfl rfl rfl rfl ?_)
        | (refine XL_store tt_ok 9 rfl rfl rfl rfl rfl rfl rfl rfl ?_)
      )
      | (refine XL_op tt_ok rfl rfl ?_; try (first | (refine XL_int (shl8_u64 (by omega) (by omega)) ?_) | (refine XL_int (shr8) ?_) | (refine XL_int (wrap_i64 (by omega) (by omega)) ?_) | (refine XL_int (wrap_u64 (by omega) (by omega)) ?_) | (refine XL_int (wrap_u8 (by omega) (by omega)) ?_) | (refine XL_int (quo_i64 (by omega) (by omega) (by omega)) ?_) | (refine XL_int (quo_u64 (by omega) (by omega) (by omega)) ?_) | (refine XL_int (rem_pos (by omega)) ?_) | (refine XL_remb (by omega) (fun _ _ _ _ => ?_)) | (refine XL_dec_t (by omega) ?_) | (refine XL_dec_f (by omega) ?_) | (refine XL_dec (fun _ => ?_) (fun _ => ?_))))
    )
    | (refine XD_id ?_; first
      | (refine XD_thaw thaw ?_; refine XD_nil ?_)
      | (refine XD_nil ?_)
      | (refine XD_no rfl rfl rfl rfl rfl rfl ?_)
      | (refine XD_nou rfl rfl rfl rfl rfl ?_)
      | (refine XD_id ?_; (first | (refine XD_uL rfl ?_; first | refine XD_s rfl rfl rfl (XV_loadW tt_ok rfl (blk_at 0 rfl hM) rfl rfl rfl) rfl ?_ | refine XD_s rfl rfl rfl (XV_load tt_ok rfl (blk_at 0 rfl hM) rfl rfl rfl) rfl ?_ | refine XD_s rfl rfl rfl (XV_loadW tt_ok rfl (blk_at 1 rfl hM) rfl rfl rfl) rfl ?_ | refine XD_s rfl rfl rfl (XV_load tt_ok rfl (blk_at 1 rfl hM) rfl rfl rfl) rfl ?_ | refine XD_s rfl rfl rfl (XV_loadW tt_ok rfl (blk_at 2 rfl hM) rfl rfl rfl) rfl ?_ | refine XD_s rfl rfl rfl (XV_load tt_ok rfl (blk_at 2 rfl hM) rfl rfl rfl) rfl ?_ | refine XD_s rfl rfl rfl (XV_loadW tt_ok rfl (blk_at 3 rfl hM) rfl rfl rfl) rfl ?_ | refine XD_s rfl rfl rfl (XV_load tt_ok rfl (blk_at 3 rfl hM) rfl rfl rfl) rfl ?_ | refine XD_s rfl rfl rfl (XV_loadW tt_ok rfl (blk_at 4 rfl hM) rfl rfl rfl) rfl ?_ | refine XD_s rfl rfl rfl (XV_load tt_ok rfl (blk_at 4 rfl hM) rfl rfl rfl) rfl ?_ | refine XD_s rfl rfl rfl (XV_loadW tt_ok rfl (blk_at 5 rfl hM) rfl rfl rfl) rfl ?_ | refine XD_s rfl rfl rfl (XV_load tt_ok rfl (blk_at 5 rfl hM) rfl rfl rfl) rfl ?_ | refine XD_s rfl rfl rfl (XV_loadW tt_ok rfl (blk_at 6 rfl hM) rfl rfl rfl) rfl ?_ | refine XD_s rfl rfl rfl (XV_load tt_ok rfl (blk_at 6 rfl hM) rfl rfl rfl) rfl ?_ | refine XD_s rfl rfl rfl (XV_loadW tt_ok rfl (blk_at 7 rfl hM) rfl rfl rfl) rfl ?_ | refine XD_s rfl rfl rfl (XV_load tt_ok rfl (blk_at 7 rfl hM) rfl rfl rfl) rfl ?_ | refine XD_s rfl rfl rfl (XV_loadW tt_ok rfl (by assumption) rfl rfl rfl) rfl ?_ | refine XD_s rfl rfl rfl (XV_load tt_ok rfl (by assumption) rfl rfl rfl) rfl ?_ | refine XD_s rfl rfl rfl (XV_loadW tt_ok rfl (blk_le (by assumption) hFG) rfl rfl rfl) rfl ?_ | refine XD_s rfl rfl rfl (XV_load tt_ok rfl (blk_le (by assumption) hFG) rfl rfl rfl) rfl ?_ | refine XD_s rfl rfl rfl (XV_elW tt_ok rfl (by assumption) rfl (by omega) (by omega) rfl rfl rfl) rfl ?_ | refine XD_s rfl rfl rfl (XV_el tt_ok rfl (by assumption) rfl (by omega) (by omega) rfl rfl rfl) rfl ?_ | refine XD_s rfl rfl rfl (XV_elf tt_ok rfl (by assumption) rfl (by omega) (by omega) rfl rfl rfl) rfl ?_ | refine XD_s rfl rfl rfl (XV_elW tt_ok rfl (rdS.le (by assumption) hFG) rfl (by omega) (by omega) rfl rfl rfl) rfl ?_ | refine XD_s rfl rfl rfl (XV_el tt_ok rfl (rdS.le (by assumption) hFG) rfl (by omega) (by omega) rfl rfl rfl) rfl ?_ | refine XD_s rfl rfl rfl (XV_elf tt_ok rfl (rdS.le (by assumption) hFG) rfl (by omega) (by omega) rfl rfl rfl) rfl ?_ | refine XD_s rfl rfl rfl (XV_elW tt_ok rfl (rd_at 0 rfl hM) rfl (by omega) (by omega) rfl rfl rfl) rfl ?_ | refine XD_s rfl rfl rfl (XV_el tt_ok rfl (rd_at 0 rfl hM) rfl (by omega) (by omega) rfl rfl rfl) rfl ?_ | refine XD_s rfl rfl rfl (XV_elf tt_ok rfl (rd_at 0 rfl hM) rfl (by omega) (by omega) rfl rfl rfl) rfl ?_ | refine XD_s rfl rfl rfl (XV_elW tt_ok rfl (rd_at 1 rfl hM) rfl (by omega) (by omega) rfl rfl rfl) rfl ?_ | refine XD_s rfl rfl rfl (XV_el tt_ok rfl (rd_at 1 rfl hM) rfl (by omega) (by omega) rfl rfl rfl) rfl ?_ | refine XD_s rfl rfl rfl (XV_elf tt_ok rfl (rd_at 1 rfl hM) rfl (by omega) (by omega) rfl rfl rfl) rfl ?_ | refine XD_s rfl rfl rfl (XV_elW tt_ok rfl (rd_at 2 rfl hM) rfl (by omega) (by omega) rfl rfl rfl) rfl ?_ | refine XD_s rfl rfl rfl (XV_el tt_ok rfl (rd_at 2 rfl hM) rfl (by omega) (by omega) rfl rfl rfl) rfl ?_ | refine XD_s rfl rfl rfl (XV_elf tt_ok rfl (rd_at 2 rfl hM) rfl (by omega) (by omega) rfl rfl rfl) rfl ?_) | (refine XD_uI rfl ?_; first | refine XD_s rfl rfl rfl (XV_idx tt_ok rfl rfl rfl rfl rfl (by assumption) (by omega) (by omega)) rfl ?_ | refine XD_s rfl rfl rfl (XV_idx tt_ok rfl rfl rfl rfl rfl (rdS.le (by assumption) hFG) (by omega) (by omega)) rfl ?_ | refine XD_s rfl rfl rfl (XV_idx tt_ok rfl rfl rfl rfl rfl (rd_at 0 rfl hM) (by omega) (by omega)) rfl ?_ | refine XD_s rfl rfl rfl (XV_idx tt_ok rfl rfl rfl rfl rfl (rd_at 1 rfl hM) (by omega) (by omega)) rfl ?_ | refine XD_s rfl rfl rfl (XV_idx tt_ok rfl rfl rfl rfl rfl (rd_at 2 rfl hM) (by omega) (by omega)) rfl ?_) | (refine XD_gL rfl ?_; first | refine XD_sy rfl rfl rfl rfl rfl (XV_loadW tt_ok rfl (blk_at 0 rfl hM) rfl rfl rfl) rfl ?_ | refine XD_sy rfl rfl rfl rfl rfl (XV_load tt_ok rfl (blk_at 0 rfl hM) rfl rfl rfl) rfl ?_ | refine XD_sy rfl rfl rfl rfl rfl (XV_loadW tt_ok rfl (blk_at 1 rfl hM) rfl rfl rfl) rfl ?_ | refine XD_sy rfl rfl rfl rfl rfl (XV_load tt_ok rfl (blk_at 1 rfl hM) rfl rfl rfl) rfl ?_ | refine XD_sy rfl rfl rfl rfl rfl (XV_loadW tt_ok rfl (blk_at 2 rfl hM) rfl rfl rfl) rfl ?_ | refine XD_sy rfl rfl rfl rfl rfl (XV_load tt_ok rfl (blk_at 2 rfl hM) rfl rfl rfl) rfl ?_ | refine XD_sy rfl rfl rfl rfl rfl (XV_loadW tt_ok rfl (blk_at 3 rfl hM) rfl rfl rfl) rfl ?_ | refine XD_sy rfl rfl rfl rfl rfl (XV_load tt_ok rfl (blk_at 3 rfl hM) rfl rfl rfl) rfl ?_ | refine XD_sy rfl rfl rfl rfl rfl (XV_loadW tt_ok rfl (blk_at 4 rfl hM) rfl rfl rfl) rfl ?_ | refine XD_sy rfl rfl rfl rfl rfl (XV_load tt_ok rfl (blk_at 4 rfl hM) rfl rfl rfl) rfl ?_ | refine XD_sy rfl rfl rfl rfl rfl (XV_loadW tt_ok rfl (blk_at 5 rfl hM) rfl rfl rfl) rfl ?_ | refine XD_sy rfl rfl rfl rfl rfl (XV_load tt_ok rfl (blk_at 5 rfl hM) rfl rfl rfl) rfl ?_ | refine XD_sy rfl rfl rfl rfl rfl (XV_loadW tt_ok rfl (blk_at 6 rfl hM) rfl rfl rfl) rfl ?_ | refine XD_sy rfl rfl rfl rfl rfl (XV_load tt_ok rfl (blk_at 6 rfl hM) rfl rfl rfl) rfl ?_ | refine XD_sy rfl rfl rfl rfl rfl (XV_loadW tt_ok rfl (blk_at 7 rfl hM) rfl rfl rfl) rfl ?_ | refine XD_sy rfl rfl rfl rfl rfl (XV_load tt_ok rfl (blk_at 7 rfl hM) rfl rfl rfl) rfl ?_ | refine XD_sy rfl rfl rfl rfl rfl (XV_loadW tt_ok rfl (by assumption) rfl rfl rfl) rfl ?_ | refine XD_sy rfl rfl rfl rfl rfl (XV_load tt_ok rfl (by assumption) rfl rfl rfl) rfl ?_ | refine XD_sy rfl rfl rfl rfl rfl (XV_loadW tt_ok rfl (blk_le (by assumption) hFG) rfl rfl rfl) rfl ?_ | refine XD_sy rfl rfl rfl rfl rfl (XV_load tt_ok rfl (blk_le (by assumption) hFG) rfl rfl rfl) rfl ?_ | refine XD_sy rfl rfl rfl rfl rfl (XV_elW tt_ok rfl (by assumption) rfl (by omega) (by omega) rfl rfl rfl) rfl ?_ | refine XD_sy rfl rfl rfl rfl rfl (XV_el tt_ok rfl (by assumption) rfl (by omega) (by omega) rfl rfl rfl) rfl ?_ | refine XD_sy rfl rfl rfl rfl rfl (XV_elf tt_ok rfl (by assumption) rfl (by omega) (by omega) rfl rfl rfl) rfl ?_ | refine XD_sy rfl rfl rfl rfl rfl (XV_elW tt_ok rfl (rdS.le (by assumption) hFG) rfl (by omega) (by omega) rfl rfl rfl) rfl ?_ | refine XD_sy rfl rfl rfl rfl rfl (XV_el tt_ok rfl (rdS.le (by assumption) hFG) rfl (by omega) (by omega) rfl rfl rfl) rfl ?_ | refine XD_sy rfl rfl rfl rfl rfl (XV_elf tt_ok rfl (rdS.le (by assumption) hFG) rfl (by omega) (by omega) rfl rfl rfl) rfl ?_ | refine XD_sy rfl rfl rfl rfl rfl (XV_elW tt_ok rfl (rd_at 0 rfl hM) rfl (by omega) (by omega) rfl rfl rfl) rfl ?_ | refine XD_sy rfl rfl rfl rfl rfl (XV_el tt_ok rfl (rd_at 0 rfl hM) rfl (by omega) (by omega) rfl rfl rfl) rfl ?_ | refine XD_sy rfl rfl rfl rfl rfl (XV_elf tt_ok rfl (rd_at 0 rfl hM) rfl (by omega) (by omega) rfl rfl rfl) rfl ?_ | refine XD_sy rfl rfl rfl rfl rfl (XV_elW tt_ok rfl (rd_at 1 rfl hM) rfl (by omega) (by omega) rfl rfl rfl) rfl ?_ | refine XD_sy rfl rfl rfl rfl rfl (XV_el tt_ok rfl (rd_at 1 rfl hM) rfl (by omega) (by omega) rfl rfl rfl) rfl ?_ | refine XD_sy rfl rfl rfl rfl rfl (XV_elf tt_ok rfl (rd_at 1 rfl hM) rfl (by omega) (by omega) rfl rfl rfl) rfl ?_ | refine XD_sy rfl rfl rfl rfl rfl (XV_elW tt_ok rfl (rd_at 2 rfl hM) rfl (by omega) (by omega) rfl rfl rfl) rfl ?_ | refine XD_sy rfl rfl rfl rfl rfl (XV_el tt_ok rfl (rd_at 2 rfl hM) rfl (by omega) (by omega) rfl rfl rfl) rfl ?_ | refine XD_sy rfl rfl rfl rfl rfl (XV_elf tt_ok rfl (rd_at 2 rfl hM) rfl (by omega) (by omega) rfl rfl rfl) rfl ?_) | (refine XD_gI rfl ?_; first | refine XD_sy rfl rfl rfl rfl rfl (XV_idx tt_ok rfl rfl rfl rfl rfl (by assumption) (by omega) (by omega)) rfl ?_ | refine XD_sy rfl rfl rfl rfl rfl (XV_idx tt_ok rfl rfl rfl rfl rfl (rdS.le (by assumption) hFG) (by omega) (by omega)) rfl ?_ | refine XD_sy rfl rfl rfl rfl rfl (XV_idx tt_ok rfl rfl rfl rfl rfl (rd_at 0 rfl hM) (by omega) (by omega)) rfl ?_ | refine XD_sy rfl rfl rfl rfl rfl (XV_idx tt_ok rfl rfl rfl rfl rfl (rd_at 1 rfl hM) (by omega) (by omega)) rfl ?_ | refine XD_sy rfl rfl rfl rfl rfl (XV_idx tt_ok rfl rfl rfl rfl rfl (rd_at 2 rfl hM) (by omega) (by omega)) rfl ?_) | (refine XD_u rfl rfl ?_; first | refine XD_s rfl rfl rfl (XV_op tt_ok rfl) rfl ?_ | refine XD_s rfl rfl rfl (XV_build tt_ok rfl rfl rfl rfl rfl rfl) rfl ?_) | (refine XD_g rfl rfl ?_; first | refine XD_sy rfl rfl rfl rfl rfl (XV_op tt_ok rfl) rfl ?_ | refine XD_sy rfl rfl rfl rfl rfl (XV_build tt_ok rfl rfl rfl rfl rfl rfl) rfl ?_)); try (first | (refine XD_int (shl8_u64 (by omega) (by omega)) ?_) | (refine XD_int (shr8) ?_) | (refine XD_int (wrap_i64 (by omega) (by omega)) ?_) | (refine XD_int (wrap_u64 (by omega) (by omega)) ?_) | (refine XD_int (wrap_u8 (by omega) (by omega)) ?_) | (refine XD_int (quo_i64 (by omega) (by omega) (by omega)) ?_) | (refine XD_int (quo_u64 (by omega) (by omega) (by omega)) ?_) | (refine XD_int (rem_pos (by omega)) ?_) | (refine XD_dec_t (by omega) ?_) | (refine XD_dec_f (by omega) ?_) | (refine XD_dec (fun _ => ?_) (fun _ => ?_))))
      | (refine XD_m rfl rfl ?_)
      | (refine XD_thaw thaw ?_; refine XD_l rfl rfl ?_)
      | (refine XD_l rfl rfl ?_)
    )
    | (refine X_id ?_; first
      | (refine X_cutD (c := .region 4 _ _) [0, 3, 5] (fun (j : Nat × Nat) => [(6, .pointer (some ⟨j.1, 0, none⟩)), (7, .pointer (some ⟨j.2, 0, none⟩))]) (fun j => [blk j.1 [.int .i64 p, .int .i64 n, .int .u8 q] 29, blk j.2 [.int .i64 p, .int .i64 n] 31, own encRg As (m + 5) cs (l ++ marks), blk bx [.int .i64 p, .int .i64 n, .int .u8 q, .int .i64 a] 24]) (fun _ => True) rfl (X_draw2 (id := 4) ⟨[0, 1, 2, 3, 4, 5, 6, 7, 8, 9, 10, 11], 12, [13, 14, 15]⟩ ⟨[0, 1, 2, 3, 4, 5, 6, 7, 8, 9, 10, 11], 13, [12, 14, 15]⟩ (fun | 12 => .m | 13 => .m | 14 => .m | 15 => .l | _ => .s) 8 (by repeat' (first | exact Split.nil | apply Split.blk | apply Split.keep)) mixed (by decide +kernel) (fun G hFG hM thaw => ?_) (fun G hFG hM thaw => ?_)) (fun j hj => ?_) <;> (first | show XD _ _ _ _ _ _ [0, 1, 2, 3, 4, 5, 6, 7, 8, 9, 10, 11, 12, 13, 14, 15] _ _ _ | show XD _ _ _ _ _ _ [0, 1, 2, 3, 4, 5, 6, 7, 8, 9, 10, 11, 13, 12, 14, 15] _ _ _ | skip))
      | (refine X_seq ?_)
      | (refine X_region ?_)
      | (refine X_skip ?_)
      | (refine X_ret ?_)
      | (refine X_exit ?_)
      | (refine X_block ?_)
      | (refine X_cond_t rfl ?_)
      | (refine X_cond_f rfl ?_)
    )
    | (refine Y_id ?_; first
      | (refine Y_then ?_)
      | (refine Y_then_ret ?_)
      | (refine Y_then_exit ?_)
      | (refine Y_block_hit ?_)
      | (refine Y_block_miss rfl ?_)
      | (refine Y_block_normal ?_)
      | (refine Y_block_ret ?_)
      | (refine Y_m ?_)
      | (refine Y_l ?_)
    )
    )
  all_goals first
    | exact Y_again (b6, b7) fun _ _ hf hs => ⟨trivial, hf.sub (by repeat' (first | exact trivial | refine And.intro rfl ?_)), hs.imp fun h hs => stars_only [1, 0, 0, 0] rfl h hs⟩
    | exact Y_again (b6, b7) fun _ _ hf hs => ⟨trivial, hf.sub (by repeat' (first | exact trivial | refine And.intro rfl ?_)), hs.imp fun h hs => stars_only [0, 0, 0, 0] rfl h hs⟩
    | exact Y_fn1 rfl rfl rfl
    | (rename_i h; exact absurd rfl h)
    | skip
  
end Go.Proofs.Ytpkffgbcebjhaaa
