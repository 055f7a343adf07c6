/- Walks of the reference's TLB, on: Mark, Drop, DropAll, Empty, All. -/
import Derived.Test.YtocilbkjbikeeaaRb
set_option linter.unusedVariables false
namespace Go.Proofs.Ytocilbkjbikeeaa
open Go.RowKit Go.Cof

theorem hasT_some {ys : List Tr} {a pg : Int} {y : Tr} (he : askE a pg = 0) (h : ys.find? (kB a pg) = some y) : hasT ys a pg = true := by unfold hasT; rw [if_pos he, h]; rfl
theorem hasT_none {ys : List Tr} {a pg : Int} (he : askE a pg = 0) (h : ys.find? (kB a pg) = none) : hasT ys a pg = false := by unfold hasT; rw [if_pos he, h]; rfl
theorem hasT_bad {ys : List Tr} {a pg : Int} (he : ¬ askE a pg = 0) : hasT ys a pg = false := by unfold hasT; rw [if_neg he]
set_option maxHeartbeats 8000000 in
theorem rmark_is (p : Nat) (n : Int) (ys : List Tr) (a pg : Int) : Ctr Try.prog 41 [ptr p, .int .i64 a, .int .i64 pg] (fun _ => True) [isRef p n ys] (fun v L => v = .tuple #[.bool (hasT ys a pg), .int .i64 (askE a pg)] ∧ L = [isRef p n (markT ys a pg)]) := by
  refine Ctr.intro Try.func41 rfl rfl (by decide +kernel) fun F hpre => ?_
  refine X_openp 0 rfl (fun _ h => h) fun xa hok => ?_
  obtain ⟨A, c⟩ := xa
  have hn := hok.n1
  have hlen := hok.len
  have hn2 := hok.n2
  have hft := hok.markT a pg
  have hpk := rpeek_spec p n A ys.length c ys a pg (by omega) (by omega)
  have hat := rat_spec p n A ys.length c ys a pg (by omega)
  have hfq := find_firstQ (kB a pg) ys
  unfold peekR at hpk
  unfold markT at hft ⊢
  by_cases he : askE a pg = 0
  · rw [if_pos he] at hpk hft ⊢
    rw [he]
    cases hfd : ys.find? (kB a pg) with
    | none =>
      rw [hasT_none he hfd, map_mark_none (find_none_iff.1 hfd)]
      rw [hfd] at hpk
      dsimp only at hpk
      repeat' (first | (refine XL_id ?_; first | refine XL_nil ?_ | (refine XG_call ?_; refine XL_fn hpk rfl rfl (fun g hg hL => ⟨blk_at 0 rfl hL, rd_at 1 rfl hL⟩) ?_) | (refine XG_alloc ?_; (refine XL_alloc tt_ok rfl rfl (fun _ => rfl) (fun b => ?_); refine XL_nB (by repeat' (first | exact .nil | apply NL.cons)) ?_)) | (refine XG_store ?_; (refine XL_storeW tt_ok 0 rfl rfl rfl rfl rfl rfl rfl ?_; refine XL_nK 0 rfl (by repeat' (first | exact .nil | apply NL.cons)) ?_)) | (refine XL_op tt_ok rfl rfl ?_)) | (refine X_id ?_; first | refine X_seq ?_ | (refine X_regionN (by repeat' (first | exact .nil | apply NL.cons)) ?_) | refine X_skip ?_ | refine X_ret ?_ | refine X_cond_f rfl ?_) | (refine Y_id ?_; refine Y_then ?_))
      all_goals first
        | exact Y_ret2 rfl rfl rfl (stars_fin [1, 1] rfl fun h hh => ⟨(A, c), hok, hh⟩) ⟨rfl, rfl⟩
        | skip
      
    | some y =>
      rw [hasT_some he hfd]
      rw [hfd] at hpk hfq
      dsimp only at hpk
      by_cases hlt : firstQ (kB a pg) ys < ys.length
      · rw [show idxI (kB a pg) ys = (firstQ (kB a pg) ys : Int) from if_pos hlt] at hat
        have hwo := without_spec A ys.length c ys (-1) (by omega)
        rw [wo_neg] at hwo
        have hsm := set_mark hok.uniq hlt
        have hmk := fun (A2 : Option Addr) (c2 : Nat) => isRef_mk (p := p) (n := n) (A := A2) (c := c2) (m := ys.length) (l := ys.set (firstQ (kB a pg) ys) { ys.getD (firstQ (kB a pg) ys) default with d := true }) (ys.map (markX a pg)) hft (by rw [List.length_map]) hsm
        repeat' (first | (refine XL_id ?_; first | refine XL_nil ?_ | (refine XG_load ?_; refine XL_load tt_ok 1 rfl rfl rfl rfl rfl rfl ?_) | (refine XG_idx ?_; refine XL_idxl tt_ok rfl rfl rfl rfl rfl (by omega) (by omega) rfl ?_) | (refine XG_call ?_; first | refine XL_fn hpk rfl rfl (fun g hg hL => ⟨blk_at 0 rfl hL, rd_at 1 rfl hL⟩) ?_ | refine XL_fn hat rfl rfl (fun g hg hL => ⟨blk_at 1 rfl hL, rd_at 2 rfl hL⟩) ?_ | (refine XL_callK [] hwo rfl rfl (fun _ => rfl) (fun g hg hL => rd_at 2 rfl hL) (fun u L hv => ?_); obtain ⟨A2, c2, rfl, rfl⟩ := hv; refine XL_fact 0 rfl (fun _ o => own_some o (by omega)) fun hq2 => ?_; obtain ⟨bq, rfl⟩ := hq2)) | (refine XG_store ?_; first | (refine XL_put (i := firstQ (kB a pg) ys) (f := 5) (x' := { ys.getD (firstQ (kB a pg) ys) default with d := true }) tt_ok 0 rfl rfl (by rw [Addr.add_lit]; show (⟨bq, 0 + firstQ (kB a pg) ys * 6 + 5, none⟩ : Addr) = ⟨bq, firstQ (kB a pg) ys * 6 + 5, none⟩; rw [Nat.zero_add]) rfl rfl rfl rfl (by omega) rfl rfl rfl ?_) | (refine XL_storeW tt_ok 0 rfl rfl rfl rfl rfl rfl rfl ?_; refine XL_nK 0 rfl (by repeat' (first | exact .nil | apply NL.cons)) ?_) | (refine XL_store tt_ok 2 rfl rfl rfl rfl rfl rfl rfl rfl ?_; refine XL_nK 2 rfl (by repeat' (first | exact .nil | apply NL.cons)) ?_)) | (refine XG_alloc ?_; (refine XL_alloc tt_ok rfl rfl (fun _ => rfl) (fun b => ?_); refine XL_nB (by repeat' (first | exact .nil | apply NL.cons)) ?_)) | (refine XL_op tt_ok rfl rfl ?_)) | (refine X_id ?_; first | refine X_seq ?_ | (refine X_regionN (by repeat' (first | exact .nil | apply NL.cons)) ?_) | refine X_ret ?_ | refine X_cond_t rfl ?_) | (refine Y_id ?_; refine Y_then ?_))
        all_goals first
          | exact Y_ret2 rfl rfl rfl (stars_fin [2, 0] rfl (hmk _ _)) ⟨rfl, rfl⟩
          | skip
        
      · rw [if_neg hlt] at hfq
        cases hfq
  · rw [if_neg he] at hpk hft ⊢
    rw [hasT_bad he]
    repeat' (first | (refine XL_id ?_; first | refine XL_nil ?_ | (refine XG_call ?_; refine XL_fn hpk rfl rfl (fun g hg hL => ⟨blk_at 0 rfl hL, rd_at 1 rfl hL⟩) ?_) | (refine XG_alloc ?_; (refine XL_alloc tt_ok rfl rfl (fun _ => rfl) (fun b => ?_); refine XL_nB (by repeat' (first | exact .nil | apply NL.cons)) ?_)) | (refine XG_store ?_; (refine XL_storeW tt_ok 0 rfl rfl rfl rfl rfl rfl rfl ?_; refine XL_nK 0 rfl (by repeat' (first | exact .nil | apply NL.cons)) ?_)) | (refine XL_op tt_ok rfl rfl ?_)) | (refine X_id ?_; first | refine X_seq ?_ | (refine X_regionN (by repeat' (first | exact .nil | apply NL.cons)) ?_) | refine X_skip ?_ | refine X_ret ?_ | refine X_cond_f rfl ?_) | (refine Y_id ?_; refine Y_then ?_))
    all_goals first
      | exact Y_ret2 rfl rfl rfl (stars_fin [1, 1] rfl fun h hh => ⟨(A, c), hok, hh⟩) ⟨rfl, rfl⟩
      | skip
    
set_option maxHeartbeats 8000000 in
theorem rdrop_is (p : Nat) (n : Int) (ys : List Tr) (a pg : Int) : Ctr Try.prog 42 [ptr p, .int .i64 a, .int .i64 pg] (fun _ => True) [isRef p n ys] (fun v L => v = .tuple #[.bool (hasT ys a pg), .int .i64 (askE a pg)] ∧ L = [isRef p n (dropT ys a pg)]) := by
  refine Ctr.intro Try.func42 rfl rfl (by decide +kernel) fun F hpre => ?_
  refine X_openp 0 rfl (fun _ h => h) fun xa hok => ?_
  obtain ⟨A, c⟩ := xa
  have hn := hok.n1
  have hlen := hok.len
  have hn2 := hok.n2
  have hft := hok.dropT a pg
  have hpk := rpeek_spec p n A ys.length c ys a pg (by omega) (by omega)
  have hat := rat_spec p n A ys.length c ys a pg (by omega)
  have hfq := find_firstQ (kB a pg) ys
  unfold peekR at hpk
  unfold dropT at hft ⊢
  by_cases he : askE a pg = 0
  · rw [if_pos he] at hpk hft ⊢
    rw [he]
    cases hfd : ys.find? (kB a pg) with
    | none =>
      have hrm : rm a pg ys = ys := List.filter_eq_self.2 fun x hx => by rw [find_none_iff.1 hfd x hx]; rfl
      rw [hasT_none he hfd, hrm]
      rw [hfd] at hpk
      dsimp only at hpk
      repeat' (first | (refine XL_id ?_; first | refine XL_nil ?_ | (refine XG_call ?_; refine XL_fn hpk rfl rfl (fun g hg hL => ⟨blk_at 0 rfl hL, rd_at 1 rfl hL⟩) ?_) | (refine XG_alloc ?_; (refine XL_alloc tt_ok rfl rfl (fun _ => rfl) (fun b => ?_); refine XL_nB (by repeat' (first | exact .nil | apply NL.cons)) ?_)) | (refine XG_store ?_; (refine XL_storeW tt_ok 0 rfl rfl rfl rfl rfl rfl rfl ?_; refine XL_nK 0 rfl (by repeat' (first | exact .nil | apply NL.cons)) ?_)) | (refine XL_op tt_ok rfl rfl ?_)) | (refine X_id ?_; first | refine X_seq ?_ | (refine X_regionN (by repeat' (first | exact .nil | apply NL.cons)) ?_) | refine X_skip ?_ | refine X_ret ?_ | refine X_cond_f rfl ?_) | (refine Y_id ?_; refine Y_then ?_))
      all_goals first
        | exact Y_ret2 rfl rfl rfl (stars_fin [1, 1] rfl fun h hh => ⟨(A, c), hok, hh⟩) ⟨rfl, rfl⟩
        | skip
      
    | some y =>
      rw [hasT_some he hfd]
      rw [hfd] at hpk hfq
      dsimp only at hpk
      by_cases hlt : firstQ (kB a pg) ys < ys.length
      · rw [show idxI (kB a pg) ys = (firstQ (kB a pg) ys : Int) from if_pos hlt] at hat
        have hwo := without_spec A ys.length c ys (firstQ (kB a pg) ys : Int) (by omega)
        rw [wo_rm hok.uniq hlt] at hwo
        have hmk := fun (A2 : Option Addr) (c2 : Nat) => isRef_mk (p := p) (n := n) (A := A2) (c := c2) (m := (rm a pg ys).length) (l := rm a pg ys) (rm a pg ys) hft rfl rfl
        repeat' (first | (refine XL_id ?_; first | refine XL_nil ?_ | (refine XG_call ?_; first | refine XL_fn hpk rfl rfl (fun g hg hL => ⟨blk_at 0 rfl hL, rd_at 1 rfl hL⟩) ?_ | refine XL_fn hat rfl rfl (fun g hg hL => ⟨blk_le (blk_at 1 rfl hM) hg, rd_at 0 rfl hL⟩) ?_ | (refine XL_callK [] hwo rfl rfl (fun _ => rfl) (fun g hg hL => rd_at 0 rfl hL) (fun u L hv => ?_); obtain ⟨A2, c2, rfl, rfl⟩ := hv)) | (refine XG_alloc ?_; (refine XL_alloc tt_ok rfl rfl (fun _ => rfl) (fun b => ?_); refine XL_nB (by repeat' (first | exact .nil | apply NL.cons)) ?_)) | (refine XG_store ?_; first | (refine XL_storeW tt_ok 0 rfl rfl rfl rfl rfl rfl rfl ?_; refine XL_nK 0 rfl (by repeat' (first | exact .nil | apply NL.cons)) ?_) | (refine XL_store tt_ok 3 rfl rfl rfl rfl rfl rfl rfl rfl ?_; refine XL_nK 3 rfl (by repeat' (first | exact .nil | apply NL.cons)) ?_)) | (refine XL_op tt_ok rfl rfl ?_)) | (refine XD_id ?_; first | refine XD_nil ?_ | (refine XD_id ?_; (first | (refine XD_uL rfl ?_; refine XD_s rfl rfl rfl (XV_load tt_ok rfl (blk_at 1 rfl hM) rfl rfl rfl) rfl ?_) | (refine XD_u rfl rfl ?_; refine XD_s rfl rfl rfl (XV_op tt_ok rfl) rfl ?_))) | refine XD_m rfl rfl ?_ | (refine XD_thaw thaw ?_; refine XD_l rfl rfl ?_)) | (refine X_id ?_; first | (refine X_drawS (id := 3) [0, 1, 2, 3, 4, 5, 6, 7, 8, 9, 10, 11, 12] (fun | 8 => .m | 9 => .m | 12 => .l | _ => .s) 8 (by repeat' (first | exact Split.nil | apply Split.blk | apply Split.keep)) mixed (by decide +kernel) ?_; intro G hFG hM thaw; show XD _ _ _ _ _ _ [0, 1, 2, 3, 4, 5, 6, 7, 8, 9, 10, 11, 12] _ _ _) | refine X_seq ?_ | (refine X_regionN (by repeat' (first | exact .nil | apply NL.cons)) ?_) | refine X_ret ?_ | refine X_cond_t rfl ?_) | (refine Y_id ?_; first | refine Y_then ?_ | refine Y_m ?_ | refine Y_l ?_))
        all_goals first
          | exact Y_ret2 rfl rfl rfl (stars_fin [3, 0] rfl (hmk _ _)) ⟨rfl, rfl⟩
          | skip
        
      · rw [if_neg hlt] at hfq
        cases hfq
  · rw [if_neg he] at hpk hft ⊢
    rw [hasT_bad he]
    repeat' (first | (refine XL_id ?_; first | refine XL_nil ?_ | (refine XG_call ?_; refine XL_fn hpk rfl rfl (fun g hg hL => ⟨blk_at 0 rfl hL, rd_at 1 rfl hL⟩) ?_) | (refine XG_alloc ?_; (refine XL_alloc tt_ok rfl rfl (fun _ => rfl) (fun b => ?_); refine XL_nB (by repeat' (first | exact .nil | apply NL.cons)) ?_)) | (refine XG_store ?_; (refine XL_storeW tt_ok 0 rfl rfl rfl rfl rfl rfl rfl ?_; refine XL_nK 0 rfl (by repeat' (first | exact .nil | apply NL.cons)) ?_)) | (refine XL_op tt_ok rfl rfl ?_)) | (refine X_id ?_; first | refine X_seq ?_ | (refine X_regionN (by repeat' (first | exact .nil | apply NL.cons)) ?_) | refine X_skip ?_ | refine X_ret ?_ | refine X_cond_f rfl ?_) | (refine Y_id ?_; refine Y_then ?_))
    all_goals first
      | exact Y_ret2 rfl rfl rfl (stars_fin [1, 1] rfl fun h hh => ⟨(A, c), hok, hh⟩) ⟨rfl, rfl⟩
      | skip
    
set_option maxHeartbeats 8000000 in
theorem rdropAll_is (p : Nat) (n : Int) (ys : List Tr) (a : Int) : Ctr Try.prog 43 [ptr p, .int .i64 a] (fun _ => True) [isRef p n ys] (fun v L => v = .tuple #[.int .i64 (dallN ys a), .int .i64 (askE a 0)] ∧ L = [isRef p n (dallT ys a)]) := by
  refine Ctr.intro Try.func43 rfl rfl (by decide +kernel) fun F hpre => ?_
  refine X_openp 0 rfl (fun _ h => h) fun xa hok => ?_
  obtain ⟨A, c⟩ := xa
  have hn := hok.n1
  have hlen := hok.len
  have hn2 := hok.n2
  have hft := hok.dallT a
  have hask := rasked_spec p n A ys.length c a 0 (by omega)
  have hdl : (dropA ys a).length ≤ ys.length := List.length_filter_le _ _
  unfold dallT at hft ⊢
  unfold dallN
  by_cases he : askE a 0 = 0
  · rw [if_pos he] at hft
    rw [he, if_pos rfl, if_pos rfl]
    rw [he] at hask
    repeat' (first | (refine XL_id ?_; first | refine XL_nil ?_ | (refine XG_call ?_; refine XL_fn hask rfl rfl (fun g hg hL => blk_at 0 rfl hL) ?_) | (refine XL_op tt_ok rfl rfl ?_; try (refine XL_dec_f (by omega) ?_))) | (refine X_id ?_; first | refine X_seq ?_ | (refine X_regionN (by repeat' (first | exact .nil | apply NL.cons)) ?_) | refine X_skip ?_ | refine X_block ?_ | refine X_cond_f rfl ?_) | (refine Y_id ?_; refine Y_then ?_))
    refine X_loopD4 [0, 1] (fun (i : Nat) (A2 : Option Addr) (c2 : Nat) (zs : List Tr) => [(8, .int .i64 i), (7, .slice A2 zs.length c2)]) (fun _ A2 c2 zs => [refB p n A ys.length c, own encTr A ys.length c ys, own encTr A2 zs.length c2 zs]) (fun i A2 c2 zs => i ≤ ys.length ∧ zs = dropA (ys.take i) a) (fun i _ _ _ => ys.length - i) 0 none 0 [] rfl ⟨Nat.zero_le _, rfl⟩ (by (repeat' (first | exact trivial | refine And.intro rfl ?_)); done) (fun h hs => stars_only [1, 1, 0] rfl h (stars_new (own_nil encTr Hp.nil) hs)) ?_
    intro i A2 c2 zs hi
    obtain ⟨hi, hz⟩ := hi
    have hzl : zs.length ≤ i := by
      rw [hz]
      exact Nat.le_trans (List.length_filter_le _ _) (List.length_take_le _ _)
    by_cases hlt : i < ys.length
    · have hsn := take_snoc' ys i hlt
      by_cases hk : (Cof.get ys i).a = a
      · have hst : dropA (ys.take (i + 1)) a = dropA (ys.take i) a := by
          unfold dropA
          rw [hsn, List.filter_append, List.filter_cons_of_neg (by simp [hk]), List.filter_nil, List.append_nil]
        repeat' (first | (refine XL_id ?_; first | refine XL_nil ?_ | (refine XG_load ?_; first | refine XL_load tt_ok 0 rfl rfl rfl rfl rfl rfl ?_ | refine XL_elo tt_ok 1 rfl rfl rfl (by omega) (by omega) rfl rfl rfl rfl ?_) | (refine XG_idx ?_; refine XL_idxo tt_ok 1 rfl rfl rfl rfl rfl rfl (by omega) (by omega) rfl ?_) | (refine XL_op tt_ok rfl rfl ?_; try (first | refine XL_int (wrap_i64 (by omega) (by omega)) ?_ | refine XL_dec_t (by omega) ?_ | refine XL_dec_f (by omega) ?_))) | (refine X_id ?_; first | refine X_seq ?_ | (refine X_regionN (by repeat' (first | exact .nil | apply NL.cons)) ?_) | refine X_skip ?_ | refine X_block ?_ | refine X_cond_t rfl ?_ | refine X_cond_f rfl ?_) | (refine Y_id ?_; first | refine Y_then ?_ | refine Y_block_normal ?_))
        all_goals first
          | exact Y_again (i + 1, A2, c2, zs) fun _ _ hf hs => ⟨⟨by show i + 1 ≤ ys.length; omega, by rw [hst]; exact hz⟩, by show ys.length - (i + 1) < ys.length - i; omega, hf.sub (by (repeat' (first | exact trivial | refine And.intro rfl ?_)); done), hs⟩
          | (exfalso; omega)
          | skip
        
      · have hst : dropA (ys.take (i + 1)) a = dropA (ys.take i) a ++ [Cof.get ys i] := by
          unfold dropA
          rw [hsn, List.filter_append, List.filter_cons_of_pos (by simp [hk]), List.filter_nil]
        repeat' (first | (refine XL_id ?_; first | refine XL_nil ?_ | (refine XG_load ?_; first | refine XL_load tt_ok 0 rfl rfl rfl rfl rfl rfl ?_ | refine XL_eloW tt_ok 1 rfl rfl rfl (by omega) (by omega) rfl rfl rfl rfl ?_ | refine XL_elo tt_ok 1 rfl rfl rfl (by omega) (by omega) rfl rfl rfl rfl ?_) | (refine XG_idx ?_; refine XL_idxo tt_ok 1 rfl rfl rfl rfl rfl rfl (by omega) (by omega) rfl ?_) | (refine XG_call ?_; first | (refine XL_op tt_ok rfl rfl ?_) | (refine XL_app1 tt_ok 3 0 (Cof.get ys i) rfl rfl rfl rfl rfl rfl rfl rfl rfl rfl rfl (by show (_ : Nat) * 32 ≤ _; omega) (by omega) (fun _ _ => rfl) (fun A3 c3 => ?_))) | (refine XG_lit ?_; (refine XL_lit tt_ok rfl rfl rfl rfl rfl rfl rfl rfl rfl (fun _ => rfl) (fun b => ?_); refine XL_nB (by repeat' (first | exact .nil | apply NL.cons)) ?_)) | (refine XL_op tt_ok rfl rfl ?_; try (first | refine XL_int (wrap_i64 (by omega) (by omega)) ?_ | refine XL_dec_t (by omega) ?_))) | (refine X_id ?_; first | refine X_seq ?_ | (refine X_regionN (by repeat' (first | exact .nil | apply NL.cons)) ?_) | refine X_skip ?_ | refine X_block ?_ | refine X_cond_t rfl ?_) | (refine Y_id ?_; first | refine Y_then ?_ | refine Y_block_normal ?_))
        all_goals first
          | exact Y_again (i + 1, A3, c3, zs ++ [Cof.get ys i]) fun _ _ hf hs => ⟨⟨by show i + 1 ≤ ys.length; omega, by rw [hst, ← hz]⟩, by show ys.length - (i + 1) < ys.length - i; omega, hf.sub (by simp only [List.length_append, List.length_singleton]; exact (by (repeat' (first | exact trivial | refine And.intro rfl ?_)); done)), hs.imp fun h hs => by have h1 := stars_only [1, 1, 1] rfl h hs; simpa using h1⟩
          | (exfalso; omega)
          | skip
        
    · rw [List.take_of_length_le (by omega)] at hz
      subst hz
      repeat' (first | (refine XL_id ?_; first | refine XL_nil ?_ | (refine XG_load ?_; refine XL_load tt_ok 0 rfl rfl rfl rfl rfl rfl ?_) | (refine XG_store ?_; (refine XL_store tt_ok 0 rfl rfl rfl rfl rfl rfl rfl rfl ?_; refine XL_nK 0 rfl (by repeat' (first | exact .nil | apply NL.cons)) ?_)) | (refine XL_op tt_ok rfl rfl ?_; try (first | refine XL_int (wrap_i64 (by omega) (by omega)) ?_ | refine XL_dec_f (by omega) ?_))) | (refine X_id ?_; first | refine X_seq ?_ | (refine X_regionN (by repeat' (first | exact .nil | apply NL.cons)) ?_) | refine X_ret ?_ | refine X_exit ?_ | refine X_cond_f rfl ?_) | (refine Y_id ?_; first | refine Y_then ?_ | refine Y_then_exit ?_ | refine Y_block_hit ?_))
      exact Y_ret2 rfl rfl rfl (stars_fin [0, 1] rfl (isRef_mk _ hft rfl rfl)) ⟨rfl, rfl⟩
  · rw [if_neg he, if_neg he]
    repeat' (first | (refine XL_id ?_; first | refine XL_nil ?_ | (refine XG_call ?_; refine XL_fn hask rfl rfl (fun g hg hL => blk_at 0 rfl hL) ?_) | (refine XL_op tt_ok rfl rfl ?_; try (refine XL_dec_t (by omega) ?_))) | (refine X_id ?_; first | refine X_seq ?_ | (refine X_regionN (by repeat' (first | exact .nil | apply NL.cons)) ?_) | refine X_ret ?_ | refine X_cond_t rfl ?_) | (refine Y_id ?_; first | refine Y_then ?_ | refine Y_then_ret ?_))
    all_goals first
      | exact Y_ret2 rfl rfl rfl (stars_fin [0, 0] rfl fun h hh => ⟨(A, c), hok, hh⟩) ⟨rfl, rfl⟩
      | skip
    
theorem rempty_is (p : Nat) (n : Int) (ys : List Tr) : Ctr Try.prog 44 [ptr p] (fun _ => True) [isRef p n ys] (fun v L => v = .tuple #[.int .i64 (ys.length : Int), .int .i64 0] ∧ L = [isRef p n []]) := by
  refine Ctr.intro Try.func44 rfl rfl (by decide +kernel) fun F hpre => ?_
  refine X_openp 0 rfl (fun _ h => h) fun xa hok => ?_
  obtain ⟨A, c⟩ := xa
  have hn := hok.n1
  have hn2 := hok.n2
  have hlen := hok.len
  have hask := rasked_spec p n A ys.length c 0 0 (by omega)
  rw [show askE 0 0 = 0 from by decide] at hask
  repeat' (first | (refine XL_id ?_; first | refine XL_nil ?_ | (refine XG_load ?_; refine XL_load tt_ok 0 rfl rfl rfl rfl rfl rfl ?_) | (refine XG_call ?_; first | (refine XL_op tt_ok rfl rfl ?_) | refine XL_fn hask rfl rfl (fun g hg hL => blk_at 0 rfl hL) ?_) | (refine XG_store ?_; (refine XL_store tt_ok 0 rfl rfl rfl rfl rfl rfl rfl rfl ?_; refine XL_nK 0 rfl (by repeat' (first | exact .nil | apply NL.cons)) ?_)) | (refine XL_op tt_ok rfl rfl ?_; try (refine XL_dec_f (by omega) ?_))) | (refine X_id ?_; first | refine X_seq ?_ | (refine X_regionN (by repeat' (first | exact .nil | apply NL.cons)) ?_) | refine X_skip ?_ | refine X_ret ?_ | refine X_cond_f rfl ?_) | (refine Y_id ?_; refine Y_then ?_))
  all_goals first
    | exact Y_ret2 rfl rfl rfl (stars_fin [0] rfl fun h hs => ⟨(none, 0), TOk.nil hok.n1 hok.n2, by obtain ⟨g1, g2, d, a, b, hA, hB⟩ := hs; exact ⟨g1, g2, d, a, b, hA, stars_new (own_nil _ _) hB⟩⟩) ⟨rfl, rfl⟩
    | skip
  
theorem rall_is (p : Nat) (n : Int) (ys : List Tr) : Ctr Try.prog 25 [ptr p] (fun _ => True) [isRef p n ys] (fun v L => ∃ A c, v = .slice A ys.length c ∧ L = [own encTr A ys.length c ys, isRef p n ys]) := by
  refine Ctr.intro Try.func25 rfl rfl (by decide +kernel) fun F hpre => ?_
  refine X_openp 0 rfl (fun _ h => h) fun xa hok => ?_
  obtain ⟨A, c⟩ := xa
  have hlen := hok.len
  have hn2 := hok.n2
  have hwo := without_spec A ys.length c ys (-1) (by omega)
  rw [wo_neg] at hwo
  repeat' (first | (refine XL_id ?_; first | refine XL_nil ?_ | (refine XG_load ?_; refine XL_load tt_ok 0 rfl rfl rfl rfl rfl rfl ?_) | (refine XG_call ?_; (refine XL_callK [] hwo rfl rfl (fun _ => rfl) (fun g hg hL => rd_at 1 rfl hL) (fun u L hv => ?_); obtain ⟨A2, c2, rfl, rfl⟩ := hv)) | (refine XL_op tt_ok rfl rfl ?_)) | (refine X_id ?_; first | refine X_seq ?_ | (refine X_regionN (by repeat' (first | exact .nil | apply NL.cons)) ?_) | refine X_skip ?_ | refine X_ret ?_ | refine X_cond_f rfl ?_) | (refine Y_id ?_; refine Y_then ?_))
  all_goals first
    | exact Y_ret1 rfl rfl (stars_two [0] [0, 0] rfl rfl (fun _ h => stars_own h) fun _ h => ⟨(A, c), hok, h⟩) ⟨A2, c2, rfl, rfl⟩
    | skip
  
end Go.Proofs.Ytocilbkjbikeeaa
