/- The law VmaBack, walked. -/
import Derived.Test.YtpkffgbcebjhaaaLd
import Derived.Test.YtpkffgbcebjhaaaPc
set_option linter.unusedVariables false
namespace Go.Proofs.Ytpkffgbcebjhaaa
open Go.RowKit Go.Cof

theorem Rg.Ok.inn {r : Rg} (h : r.Ok) : r.In := ⟨by have := h.p; have := h.e; have := h.n; omega, by have := h.p; have := h.e; have := h.n; omega, by have := h.m; omega⟩
theorem cut_at {A : Option Addr} {m c : Nat} {l a : List Rg} {p n : Int} (h : cutP l p n = (a, 0)) (hm : m = l.length) (hmc : m ≤ c) : Ctr Try.prog 18 [.slice A m c, spV p n] (fun h => rdS encRg h A m l) [] (LRes encRg a (.int .i64 0)) := by
  have md := cut_made h
  have := cut_spec A m c l p n (by have := md.was.len; omega) hmc (fun r hr => (md.was.good.ok r hr).inn) (by have := md.rng; omega)
  rwa [h] at this
theorem prot_at {A : Option Addr} {m c : Nat} {l a : List Rg} {p n q : Int} (h : protP l p n q = (a, 0)) (hm : m = l.length) (hmc : m ≤ c) : Ctr Try.prog 20 [.slice A m c, spV p n, .int .u8 q] (fun h => rdS encRg h A m l) [] (LRes encRg a (.int .i64 0)) := by
  have md := (prot_made h).1
  have := prot_spec A m c l p n q (by have := md.was.len; omega) hmc (fun r hr => (md.was.good.ok r hr).inn) (by have := md.rng; omega)
  rwa [h] at this
theorem put_at {A : Option Addr} {m c : Nat} {l a : List Rg} {r : Rg} (h : putP l r = (a, 0)) (hm : m = l.length) (hmc : m ≤ c) : Ctr Try.prog 14 [.slice A m c, rgV r] (fun h => rdS encRg h A m l) [] (LRes encRg a (.int .i64 0)) := by
  have md := put_made h
  have := put_spec A m c l r (by have := md.1.was.len; omega) hmc (fun r hr => (md.1.was.good.ok r hr).inn) md.2.1.inn
  rwa [h] at this
theorem pair_eq {α : Type} {x : α × Int} (h : x.2 = 0) : x = (x.1, 0) := by rw [← h]
set_option maxRecDepth 100000 in
set_option maxHeartbeats 8000000 in
theorem vmaBack_walk (A : Option Addr) (m c : Nat) (l : List Rg) (p n q a : Int) (hm : m ≤ 5864062014634) (hmc : m ≤ c) (hl : ∀ r ∈ l, r.In) (hr : (⟨p, n, q⟩ : Rg).In) :
    FnC Try.prog 5 [.slice A m c, .agg #[.int .i64 p, .int .i64 n, .int .u8 q, .int .i64 a]] (fun h => rdS encRg h A m l) (.bool true) := by
  have sp := put_spec A m c l ⟨p, n, q⟩ (by omega) hmc hl hr
  refine Ctr.intro Try.func5 rfl rfl (by decide +kernel) fun F hpre => ?_
  have r1 : rdS encRg F.heap A m l := hpre
  have hlen := r1.1
  by_cases h0 : (putP l ⟨p, n, q⟩).2 = 0
  · have hput := pair_eq h0
    have hcut := back_cut hput
    have hprt := back_prot hput
    have hla := putP_len l ⟨p, n, q⟩
    rw [h0] at sp
    generalize (putP l ⟨p, n, q⟩).1 = al at sp hput hcut hprt hla
    repeat' (first
    | (refine XL_id ?_; first
      | (refine XL_nil ?_)
      | (refine XL_guard_yes rfl rfl rfl ?_)
      | (refine XL_guard_no rfl rfl rfl rfl rfl ?_)
      | (refine XL_guard_nou rfl rfl rfl rfl ?_)
      | (refine XG_box ?_; first
        | (refine XL_box rfl (fun _ => rfl) (fun bx => ?_))
        | (refine XL_box rfl (fun _ => rfl) (fun _ => ?_))
      )
      | (refine XG_load ?_; first
        | (refine XL_loadW tt_ok 0 rfl rfl rfl rfl rfl rfl ?_)
        | (refine XL_loadW tt_ok 1 rfl rfl rfl rfl rfl rfl ?_)
        | (refine XL_loadW tt_ok 2 rfl rfl rfl rfl rfl rfl ?_)
        | (refine XL_loadW tt_ok 3 rfl rfl rfl rfl rfl rfl ?_)
        | (refine XL_loadW tt_ok 4 rfl rfl rfl rfl rfl rfl ?_)
        | (refine XL_loadW tt_ok 5 rfl rfl rfl rfl rfl rfl ?_)
        | (refine XL_loadW tt_ok 6 rfl rfl rfl rfl rfl rfl ?_)
        | (refine XL_loadW tt_ok 7 rfl rfl rfl rfl rfl rfl ?_)
        | (refine XL_loadW tt_ok 8 rfl rfl rfl rfl rfl rfl ?_)
        | (refine XL_loadW tt_ok 9 rfl rfl rfl rfl rfl rfl ?_)
        | (refine XL_load tt_ok 0 rfl rfl rfl rfl rfl rfl ?_)
        | (refine XL_load tt_ok 1 rfl rfl rfl rfl rfl rfl ?_)
        | (refine XL_load tt_ok 2 rfl rfl rfl rfl rfl rfl ?_)
        | (refine XL_load tt_ok 3 rfl rfl rfl rfl rfl rfl ?_)
        | (refine XL_load tt_ok 4 rfl rfl rfl rfl rfl rfl ?_)
        | (refine XL_load tt_ok 5 rfl rfl rfl rfl rfl rfl ?_)
        | (refine XL_load tt_ok 6 rfl rfl rfl rfl rfl rfl ?_)
        | (refine XL_load tt_ok 7 rfl rfl rfl rfl rfl rfl ?_)
        | (refine XL_load tt_ok 8 rfl rfl rfl rfl rfl rfl ?_)
        | (refine XL_load tt_ok 9 rfl rfl rfl rfl rfl rfl ?_)
        | (refine XL_loadF tt_ok rfl (by assumption) rfl rfl rfl rfl ?_)
        | (refine XL_elW tt_ok rfl (by assumption) rfl (by omega) (by omega) rfl rfl rfl rfl ?_)
        | (refine XL_el tt_ok rfl (by assumption) rfl (by omega) (by omega) rfl rfl rfl rfl ?_)
        | (refine XL_elf tt_ok rfl (by assumption) rfl (by omega) (by omega) rfl rfl rfl rfl ?_)
        | (refine XL_eloW tt_ok 0 rfl rfl rfl (by omega) (by omega) rfl rfl rfl rfl ?_)
        | (refine XL_elo tt_ok 0 rfl rfl rfl (by omega) (by omega) rfl rfl rfl rfl ?_)
        | (refine XL_elof tt_ok 0 rfl rfl rfl (by omega) (by omega) rfl rfl rfl rfl ?_)
        | (refine XL_eloW tt_ok 1 rfl rfl rfl (by omega) (by omega) rfl rfl rfl rfl ?_)
        | (refine XL_elo tt_ok 1 rfl rfl rfl (by omega) (by omega) rfl rfl rfl rfl ?_)
        | (refine XL_elof tt_ok 1 rfl rfl rfl (by omega) (by omega) rfl rfl rfl rfl ?_)
        | (refine XL_eloW tt_ok 2 rfl rfl rfl (by omega) (by omega) rfl rfl rfl rfl ?_)
        | (refine XL_elo tt_ok 2 rfl rfl rfl (by omega) (by omega) rfl rfl rfl rfl ?_)
        | (refine XL_elof tt_ok 2 rfl rfl rfl (by omega) (by omega) rfl rfl rfl rfl ?_)
        | (refine XL_eloW tt_ok 3 rfl rfl rfl (by omega) (by omega) rfl rfl rfl rfl ?_)
        | (refine XL_elo tt_ok 3 rfl rfl rfl (by omega) (by omega) rfl rfl rfl rfl ?_)
        | (refine XL_elof tt_ok 3 rfl rfl rfl (by omega) (by omega) rfl rfl rfl rfl ?_)
      )
      | (refine XG_idx ?_; first
        | (refine XL_idx tt_ok rfl rfl rfl rfl rfl (by assumption) (by omega) (by omega) rfl ?_)
        | (refine XL_idxo tt_ok 0 rfl rfl rfl rfl rfl rfl (by omega) (by omega) rfl ?_)
        | (refine XL_idxo tt_ok 1 rfl rfl rfl rfl rfl rfl (by omega) (by omega) rfl ?_)
        | (refine XL_idxo tt_ok 2 rfl rfl rfl rfl rfl rfl (by omega) (by omega) rfl ?_)
        | (refine XL_idxo tt_ok 3 rfl rfl rfl rfl rfl rfl (by omega) (by omega) rfl ?_)
      )
      | (refine XG_build ?_; first
        | (refine XL_build tt_ok rfl rfl rfl rfl rfl rfl rfl ?_)
      )
      | (refine XG_call ?_; first
        | (refine XL_op tt_ok rfl rfl ?_; try (first | (refine XL_int (shl8_u64 (by omega) (by omega)) ?_) | (refine XL_int (shr8) ?_) | (refine XL_int (wrap_i64 (by omega) (by omega)) ?_) | (refine XL_int (wrap_u64 (by omega) (by omega)) ?_) | (refine XL_int (wrap_u8 (by omega) (by omega)) ?_) | (refine XL_int (quo_i64 (by omega) (by omega) (by omega)) ?_) | (refine XL_int (quo_u64 (by omega) (by omega) (by omega)) ?_) | (refine XL_int (rem_pos (by omega)) ?_) | (refine XL_remb (by omega) (fun _ _ _ _ => ?_)) | (refine XL_dec_t (by omega) ?_) | (refine XL_dec_f (by omega) ?_) | (refine XL_dec (fun _ => ?_) (fun _ => ?_))))
        | (refine XL_callK [] sp rfl rfl (fun _ => rfl) (fun g hg hL => r1.le hg) (fun u L hv => ?_); obtain ⟨o1, ho1, hm1, rfl, rfl⟩ := hv; refine XL_fact 0 rfl (fun _ o => own_len o) fun hown => ?_; obtain ⟨A1, m1, c1, xs1⟩ := o1; obtain rfl : xs1 = al := ho1)
        | (refine XL_callK [] (cut_at (A := A1) (c := c1) hcut hm1 hown.2.1) rfl rfl (fun _ => rfl) (fun g hg hL => rd_at 0 rfl hL) (fun u L hv => ?_); obtain ⟨o2, ho2, hm2, rfl, rfl⟩ := hv)
        | (refine XL_callK [] (prot_at (A := A1) (c := c1) hprt hm1 hown.2.1) rfl rfl (fun _ => rfl) (fun g hg hL => rd_at 1 rfl hL) (fun u L hv => ?_); obtain ⟨o3, ho3, hm3, rfl, rfl⟩ := hv)
        | (refine XL_fn (same_spec o2.A A o2.m o2.c m c o2.xs l (by rw [hm2, ho2]; omega) (by omega)) rfl rfl (fun g hg hL => ⟨rd_at 1 rfl hL, r1.le hg⟩) ?_; refine XL_dec_t ho2 ?_)
        | (refine XL_fn (same_spec o3.A A1 o3.m o3.c m1 c1 o3.xs xs1 (by rw [hm3, ho3]; omega) (by have h9 : m1 = xs1.length := hm1; omega)) rfl rfl (fun g hg hL => ⟨rd_at 0 rfl hL, rd_at 2 rfl hL⟩) ?_; refine XL_dec_t ho3 ?_)
        | (refine XL_fn works_spec rfl rfl (fun _ _ _ => trivial) ?_)
      )
      | (refine XG_alloc ?_; first
        | (refine XL_alloc tt_ok rfl rfl (fun _ => rfl) (fun b => ?_))
      )
      | (refine XG_lit ?_; first
        | (refine XL_lit tt_ok rfl rfl rfl rfl rfl rfl rfl rfl rfl (fun _ => rfl) (fun b => ?_))
      )
      | (refine XG_store ?_; first
        | (refine XL_storeW tt_ok 0 rfl rfl rfl rfl rfl rfl rfl ?_)
        | (refine XL_storeW tt_ok 1 rfl rfl rfl rfl rfl rfl rfl ?_)
        | (refine XL_storeW tt_ok 2 rfl rfl rfl rfl rfl rfl rfl ?_)
        | (refine XL_storeW tt_ok 3 rfl rfl rfl rfl rfl rfl rfl ?_)
        | (refine XL_storeW tt_ok 4 rfl rfl rfl rfl rfl rfl rfl ?_)
        | (refine XL_storeW tt_ok 5 rfl rfl rfl rfl rfl rfl rfl ?_)
        | (refine XL_storeW tt_ok 6 rfl rfl rfl rfl rfl rfl rfl ?_)
        | (refine XL_storeW tt_ok 7 rfl rfl rfl rfl rfl rfl rfl ?_)
        | (refine XL_storeW tt_ok 8 rfl rfl rfl rfl rfl rfl rfl ?_)
        | (refine XL_storeW tt_ok 9 rfl rfl rfl rfl rfl rfl rfl ?_)
        | (refine XL_store tt_ok 0 rfl rfl rfl rfl rfl rfl rfl rfl ?_)
        | (refine XL_store tt_ok 1 rfl rfl rfl rfl rfl rfl rfl rfl ?_)
        | (refine XL_store tt_ok 2 rfl rfl rfl rfl rfl rfl rfl rfl ?_)
        | (refine XL_store tt_ok 3 rfl rfl rfl rfl rfl rfl rfl rfl ?_)
        | (refine XL_store tt_ok 4 rfl rfl rfl rfl rfl rfl rfl rfl ?_)
        | (refine XL_store tt_ok 5 rfl rfl rfl rfl rfl rfl rfl rfl ?_)
        | (refine XL_store tt_ok 6 rfl rfl rfl rfl rfl rfl rfl rfl ?_)
        | (refine XL_store tt_ok 7 rfl rfl rfl rfl rfl rfl rfl rfl ?_)
        | (refine XL_store tt_ok 8 rfl rfl rfl rfl rfl rfl rfl rfl ?_)
        | (refine XL_store tt_ok 9 rfl rfl rfl rfl rfl rfl rfl rfl ?_)
      )
      | (refine XL_op tt_ok rfl rfl ?_; try (first | (refine XL_int (shl8_u64 (by omega) (by omega)) ?_) | (refine XL_int (shr8) ?_) | (refine XL_int (wrap_i64 (by omega) (by omega)) ?_) | (refine XL_int (wrap_u64 (by omega) (by omega)) ?_) | (refine XL_int (wrap_u8 (by omega) (by omega)) ?_) | (refine XL_int (quo_i64 (by omega) (by omega) (by omega)) ?_) | (refine XL_int (quo_u64 (by omega) (by omega) (by omega)) ?_) | (refine XL_int (rem_pos (by omega)) ?_) | (refine XL_remb (by omega) (fun _ _ _ _ => ?_)) | (refine XL_dec_t (by omega) ?_) | (refine XL_dec_f (by omega) ?_) | (refine XL_dec (fun _ => ?_) (fun _ => ?_))))
    )
    | (refine X_id ?_; first
      | (refine X_seq ?_)
      | (refine X_region ?_)
      | (refine X_skip ?_)
      | (refine X_ret ?_)
      | (refine X_exit ?_)
      | (refine X_block ?_)
      | (refine X_cond_t rfl ?_)
      | (refine X_cond_f rfl ?_)
    )
    | (refine Y_id ?_; first
      | (refine Y_then ?_)
      | (refine Y_then_ret ?_)
      | (refine Y_then_exit ?_)
      | (refine Y_block_hit ?_)
      | (refine Y_block_miss rfl ?_)
      | (refine Y_block_normal ?_)
      | (refine Y_block_ret ?_)
    )
    )
    all_goals first
      | exact Y_fn1 rfl rfl rfl
      | (rename_i h; exact absurd rfl h)
      | skip
    
  · repeat' (first
    | (refine XL_id ?_; first
      | (refine XL_nil ?_)
      | (refine XL_guard_yes rfl rfl rfl ?_)
      | (refine XL_guard_no rfl rfl rfl rfl rfl ?_)
      | (refine XL_guard_nou rfl rfl rfl rfl ?_)
      | (refine XG_box ?_; first
        | (refine XL_box rfl (fun _ => rfl) (fun bx => ?_))
        | (refine XL_box rfl (fun _ => rfl) (fun _ => ?_))
      )
      | (refine XG_load ?_; first
        | (refine XL_loadW tt_ok 0 rfl rfl rfl rfl rfl rfl ?_)
        | (refine XL_loadW tt_ok 1 rfl rfl rfl rfl rfl rfl ?_)
        | (refine XL_loadW tt_ok 2 rfl rfl rfl rfl rfl rfl ?_)
        | (refine XL_loadW tt_ok 3 rfl rfl rfl rfl rfl rfl ?_)
        | (refine XL_loadW tt_ok 4 rfl rfl rfl rfl rfl rfl ?_)
        | (refine XL_loadW tt_ok 5 rfl rfl rfl rfl rfl rfl ?_)
        | (refine XL_loadW tt_ok 6 rfl rfl rfl rfl rfl rfl ?_)
        | (refine XL_loadW tt_ok 7 rfl rfl rfl rfl rfl rfl ?_)
        | (refine XL_loadW tt_ok 8 rfl rfl rfl rfl rfl rfl ?_)
        | (refine XL_loadW tt_ok 9 rfl rfl rfl rfl rfl rfl ?_)
        | (refine XL_load tt_ok 0 rfl rfl rfl rfl rfl rfl ?_)
        | (refine XL_load tt_ok 1 rfl rfl rfl rfl rfl rfl ?_)
        | (refine XL_load tt_ok 2 rfl rfl rfl rfl rfl rfl ?_)
        | (refine XL_load tt_ok 3 rfl rfl rfl rfl rfl rfl ?_)
        | (refine XL_load tt_ok 4 rfl rfl rfl rfl rfl rfl ?_)
        | (refine XL_load tt_ok 5 rfl rfl rfl rfl rfl rfl ?_)
        | (refine XL_load tt_ok 6 rfl rfl rfl rfl rfl rfl ?_)
        | (refine XL_load tt_ok 7 rfl rfl rfl rfl rfl rfl ?_)
        | (refine XL_load tt_ok 8 rfl rfl rfl rfl rfl rfl ?_)
        | (refine XL_load tt_ok 9 rfl rfl rfl rfl rfl rfl ?_)
        | (refine XL_loadF tt_ok rfl (by assumption) rfl rfl rfl rfl ?_)
        | (refine XL_elW tt_ok rfl (by assumption) rfl (by omega) (by omega) rfl rfl rfl rfl ?_)
        | (refine XL_el tt_ok rfl (by assumption) rfl (by omega) (by omega) rfl rfl rfl rfl ?_)
        | (refine XL_elf tt_ok rfl (by assumption) rfl (by omega) (by omega) rfl rfl rfl rfl ?_)
        | (refine XL_eloW tt_ok 0 rfl rfl rfl (by omega) (by omega) rfl rfl rfl rfl ?_)
        | (refine XL_elo tt_ok 0 rfl rfl rfl (by omega) (by omega) rfl rfl rfl rfl ?_)
        | (refine XL_elof tt_ok 0 rfl rfl rfl (by omega) (by omega) rfl rfl rfl rfl ?_)
        | (refine XL_eloW tt_ok 1 rfl rfl rfl (by omega) (by omega) rfl rfl rfl rfl ?_)
        | (refine XL_elo tt_ok 1 rfl rfl rfl (by omega) (by omega) rfl rfl rfl rfl ?_)
        | (refine XL_elof tt_ok 1 rfl rfl rfl (by omega) (by omega) rfl rfl rfl rfl ?_)
        | (refine XL_eloW tt_ok 2 rfl rfl rfl (by omega) (by omega) rfl rfl rfl rfl ?_)
        | (refine XL_elo tt_ok 2 rfl rfl rfl (by omega) (by omega) rfl rfl rfl rfl ?_)
        | (refine XL_elof tt_ok 2 rfl rfl rfl (by omega) (by omega) rfl rfl rfl rfl ?_)
        | (refine XL_eloW tt_ok 3 rfl rfl rfl (by omega) (by omega) rfl rfl rfl rfl ?_)
        | (refine XL_elo tt_ok 3 rfl rfl rfl (by omega) (by omega) rfl rfl rfl rfl ?_)
        | (refine XL_elof tt_ok 3 rfl rfl rfl (by omega) (by omega) rfl rfl rfl rfl ?_)
      )
      | (refine XG_idx ?_; first
        | (refine XL_idx tt_ok rfl rfl rfl rfl rfl (by assumption) (by omega) (by omega) rfl ?_)
        | (refine XL_idxo tt_ok 0 rfl rfl rfl rfl rfl rfl (by omega) (by omega) rfl ?_)
        | (refine XL_idxo tt_ok 1 rfl rfl rfl rfl rfl rfl (by omega) (by omega) rfl ?_)
        | (refine XL_idxo tt_ok 2 rfl rfl rfl rfl rfl rfl (by omega) (by omega) rfl ?_)
        | (refine XL_idxo tt_ok 3 rfl rfl rfl rfl rfl rfl (by omega) (by omega) rfl ?_)
      )
      | (refine XG_build ?_; first
        | (refine XL_build tt_ok rfl rfl rfl rfl rfl rfl rfl ?_)
      )
      | (refine XG_call ?_; first
        | (refine XL_op tt_ok rfl rfl ?_; try (first | (refine XL_int (shl8_u64 (by omega) (by omega)) ?_) | (refine XL_int (shr8) ?_) | (refine XL_int (wrap_i64 (by omega) (by omega)) ?_) | (refine XL_int (wrap_u64 (by omega) (by omega)) ?_) | (refine XL_int (wrap_u8 (by omega) (by omega)) ?_) | (refine XL_int (quo_i64 (by omega) (by omega) (by omega)) ?_) | (refine XL_int (quo_u64 (by omega) (by omega) (by omega)) ?_) | (refine XL_int (rem_pos (by omega)) ?_) | (refine XL_remb (by omega) (fun _ _ _ _ => ?_)) | (refine XL_dec_t (by omega) ?_) | (refine XL_dec_f (by omega) ?_) | (refine XL_dec (fun _ => ?_) (fun _ => ?_))))
        | (refine XL_callK [] sp rfl rfl (fun _ => rfl) (fun g hg hL => r1.le hg) (fun u L hv => ?_); obtain ⟨o1, ho1, hm1, rfl, rfl⟩ := hv)
        | (refine XL_fn works_spec rfl rfl (fun _ _ _ => trivial) ?_)
      )
      | (refine XG_alloc ?_; first
        | (refine XL_alloc tt_ok rfl rfl (fun _ => rfl) (fun b => ?_))
      )
      | (refine XG_lit ?_; first
        | (refine XL_lit tt_ok rfl rfl rfl rfl rfl rfl rfl rfl rfl (fun _ => rfl) (fun b => ?_))
      )
      | (refine XG_store ?_; first
        | (refine XL_storeW tt_ok 0 rfl rfl rfl rfl rfl rfl rfl ?_)
        | (refine XL_storeW tt_ok 1 rfl rfl rfl rfl rfl rfl rfl ?_)
        | (refine XL_storeW tt_ok 2 rfl rfl rfl rfl rfl rfl rfl ?_)
        | (refine XL_storeW tt_ok 3 rfl rfl rfl rfl rfl rfl rfl ?_)
        | (refine XL_storeW tt_ok 4 rfl rfl rfl rfl rfl rfl rfl ?_)
        | (refine XL_storeW tt_ok 5 rfl rfl rfl rfl rfl rfl rfl ?_)
        | (refine XL_storeW tt_ok 6 rfl rfl rfl rfl rfl rfl rfl ?_)
        | (refine XL_storeW tt_ok 7 rfl rfl rfl rfl rfl rfl rfl ?_)
        | (refine XL_storeW tt_ok 8 rfl rfl rfl rfl rfl rfl rfl ?_)
        | (refine XL_storeW tt_ok 9 rfl rfl rfl rfl rfl rfl rfl ?_)
        | (refine XL_store tt_ok 0 rfl rfl rfl rfl rfl rfl rfl rfl ?_)
        | (refine XL_store tt_ok 1 rfl rfl rfl rfl rfl rfl rfl rfl ?_)
        | (refine XL_store tt_ok 2 rfl rfl rfl rfl rfl rfl rfl rfl ?_)
        | (refine XL_store tt_ok 3 rfl rfl rfl rfl rfl rfl rfl rfl ?_)
        | (refine XL_store tt_ok 4 rfl rfl rfl rfl rfl rfl rfl rfl ?_)
        | (refine XL_store tt_ok 5 rfl rfl rfl rfl rfl rfl rfl rfl ?_)
        | (refine XL_store tt_ok 6 rfl rfl rfl rfl rfl rfl rfl rfl ?_)
        | (refine XL_store tt_ok 7 rfl rfl rfl rfl rfl rfl rfl rfl ?_)
        | (refine XL_store tt_ok 8 rfl rfl rfl rfl rfl rfl rfl rfl ?_)
        | (refine XL_store tt_ok 9 rfl rfl rfl rfl rfl rfl rfl rfl ?_)
      )
      | (refine XL_op tt_ok rfl rfl ?_; try (first | (refine XL_int (shl8_u64 (by omega) (by omega)) ?_) | (refine XL_int (shr8) ?_) | (refine XL_int (wrap_i64 (by omega) (by omega)) ?_) | (refine XL_int (wrap_u64 (by omega) (by omega)) ?_) | (refine XL_int (wrap_u8 (by omega) (by omega)) ?_) | (refine XL_int (quo_i64 (by omega) (by omega) (by omega)) ?_) | (refine XL_int (quo_u64 (by omega) (by omega) (by omega)) ?_) | (refine XL_int (rem_pos (by omega)) ?_) | (refine XL_remb (by omega) (fun _ _ _ _ => ?_)) | (refine XL_dec_t (by omega) ?_) | (refine XL_dec_f (by omega) ?_) | (refine XL_dec (fun _ => ?_) (fun _ => ?_))))
    )
    | (refine X_id ?_; first
      | (refine X_seq ?_)
      | (refine X_region ?_)
      | (refine X_skip ?_)
      | (refine X_ret ?_)
      | (refine X_exit ?_)
      | (refine X_block ?_)
      | (refine X_cond_t rfl ?_)
      | (refine X_cond_f rfl ?_)
    )
    | (refine Y_id ?_; first
      | (refine Y_then ?_)
      | (refine Y_then_ret ?_)
      | (refine Y_then_exit ?_)
      | (refine Y_block_hit ?_)
      | (refine Y_block_miss rfl ?_)
      | (refine Y_block_normal ?_)
      | (refine Y_block_ret ?_)
    )
    )
    all_goals first
      | exact Y_fn1 rfl rfl rfl
      | (rename_i h; exact absurd rfl h)
      | skip
    
end Go.Proofs.Ytpkffgbcebjhaaa
