/- Total, Limit, Base, Slots: the reference's. -/
import Derived.Test.YtpokfingnflblaaRf
set_option linter.unusedVariables false
namespace Go.Proofs.Ytpokfingnflblaa
open Go.RowKit Go.Cof

theorem rTotal_spec (d : Cd) (y : Ly) (hd : d.In) (hf : y.Fit) (hl : d.ps.length = y.pm) (p : Int) : FnC Try.prog 24 [cfV d y, iV p] (fun h => CfR h d y) (.tuple #[iV (totE d p), iV (thE d p)]) := by
  have hth := rthere_spec d y hd hf hl p
  unfold totE
  by_cases h : thE d p = 0
  · obtain ⟨hm, n, rfl, hn⟩ := thE_zero h
    rw [if_pos h]
    rw [h] at hth ⊢
    have hnm : n < y.pm := by omega
    have hr1 : 0 ≤ d.fr.tdiv d.co ∧ d.fr.tdiv d.co ≤ 4096 := eaF_rng hm.mach
    have hco := hm.mach.co
    have hne : d.co ≠ 0 := by omega
    show FnC Try.prog 24 [cfV d y, iV (n : Int)] (fun h => CfR h d y) (.tuple #[iV (toF d n), iV 0])
    refine Ctr.intro Try.func24 rfl rfl (by decide +kernel) fun F hpre => ?_
    have hpre : CfR F.heap d y := hpre
    have r1 := hpre.ps
    have hdat := get_dat hpre hnm
    have hml : (Cof.get y.ps (n : Int)).m = (Cof.get d.ps (n : Int)).xs.length := by rw [(hpre.xs _ (get_memN hpre hnm)).1, hdat]
    have e1 : ((Cof.get y.ps (n : Int)).m : Int) * d.fr.tdiv d.co = toF d n := by rw [hml]
    have hr2 : 0 ≤ ((Cof.get y.ps (n : Int)).m : Int) * d.fr.tdiv d.co ∧ ((Cof.get y.ps (n : Int)).m : Int) * d.fr.tdiv d.co ≤ 65536 := by rw [e1]; exact toF_rng hm.mach (hm.part n hn).1
    rw [← e1]
    repeat' (first | (refine XL_id ?_; first | refine XL_nil ?_ | (refine XG_load ?_; refine XL_loadW tt_ok 0 rfl rfl rfl rfl rfl rfl ?_) | (refine XG_box ?_; (refine XL_box rfl (fun _ => rfl) (fun _ => ?_); refine XL_nB (by repeat' (first | exact .nil | apply NL.cons)) ?_)) | (refine XG_call ?_; refine XL_fn hth rfl rfl (fun g hg hL => CfR.le hpre hg) ?_) | (refine XL_op tt_ok rfl rfl ?_; try (refine XL_dec_f (by omega) ?_))) | (refine XD_id ?_; first | (refine XD_thaw thaw ?_; refine XD_nil ?_) | (refine XD_id ?_; (first | (refine XD_uL rfl ?_; first | refine XD_s rfl rfl rfl (XV_load tt_ok rfl (blk_at 0 rfl hM) rfl rfl rfl) rfl ?_ | refine XD_s rfl rfl rfl (XV_el tt_ok rfl (rdS.le (by assumption) hFG) rfl (by omega) (by omega) rfl rfl rfl) rfl ?_) | (refine XD_uI rfl ?_; refine XD_s rfl rfl rfl (XV_idx tt_ok rfl rfl rfl rfl rfl (rdS.le (by assumption) hFG) (by omega) (by omega)) rfl ?_) | (refine XD_u rfl rfl ?_; first | refine XD_s rfl rfl rfl (XV_op tt_ok rfl) rfl ?_ | refine XD_s rfl rfl rfl (XV_op tt_ok (opV_quo rfl rfl hne)) rfl ?_)); try (refine XD_int (wrap_i64 (by omega) (by omega)) ?_))) | (refine X_id ?_; first | (refine X_drawS (id := 4) [0, 1, 2, 3, 4, 5, 6, 7, 8, 9, 10, 11, 12, 13, 14] (fun _ => .s) 8 (by repeat' (first | exact Split.nil | apply Split.blk)) mixed (by decide +kernel) ?_; intro G hFG hM thaw; show XD _ _ _ _ _ _ [0, 1, 2, 3, 4, 5, 6, 7, 8, 9, 10, 11, 12, 13, 14] _ _ _) | refine X_seq ?_ | (refine X_regionN (by repeat' (first | exact .nil | apply NL.cons)) ?_) | refine X_skip ?_ | refine X_ret ?_ | refine X_cond_f rfl ?_) | (refine Y_id ?_; refine Y_then ?_))
    all_goals first
      | exact Y_fn2 rfl rfl rfl rfl
      | (exfalso; omega)
      | skip
    
  · rw [if_neg h]
    obtain ⟨E, hE⟩ : ∃ E, thE d p = E := ⟨_, rfl⟩
    rw [hE] at h hth ⊢
    refine Ctr.intro Try.func24 rfl rfl (by decide +kernel) fun F hpre => ?_
    repeat' (first | (refine XL_id ?_; first | refine XL_nil ?_ | (refine XG_load ?_; refine XL_loadW tt_ok 0 rfl rfl rfl rfl rfl rfl ?_) | (refine XG_box ?_; (refine XL_box rfl (fun _ => rfl) (fun _ => ?_); refine XL_nB (by repeat' (first | exact .nil | apply NL.cons)) ?_)) | (refine XG_call ?_; refine XL_fn hth rfl rfl (fun g hg hL => CfR.le hpre hg) ?_) | (refine XL_op tt_ok rfl rfl ?_; try (refine XL_dec_t (by omega) ?_))) | (refine X_id ?_; first | refine X_seq ?_ | (refine X_regionN (by repeat' (first | exact .nil | apply NL.cons)) ?_) | refine X_ret ?_ | refine X_cond_t rfl ?_) | (refine Y_id ?_; first | refine Y_then ?_ | refine Y_then_ret ?_))
    all_goals first
      | exact Y_fn2 rfl rfl rfl rfl
      | (exfalso; omega)
      | skip
    
theorem rLimit_spec (d : Cd) (y : Ly) (hd : d.In) (hf : y.Fit) (hl : d.ps.length = y.pm) (p : Int) : FnC Try.prog 25 [cfV d y, iV p] (fun h => CfR h d y) (.tuple #[iV (shpE d p).li, iV (thE d p)]) := by
  have hth := rthere_spec d y hd hf hl p
  unfold shpE
  by_cases h : thE d p = 0
  · obtain ⟨hm, n, rfl, hn⟩ := thE_zero h
    rw [if_pos h]
    rw [h] at hth ⊢
    have hsh := rshape_spec d y n (by omega) (hm.part n hn).2.1
    obtain ⟨S, hS⟩ : ∃ S, shF (Cof.get d.ps (n : Int)) = S := ⟨_, rfl⟩
    rw [hS] at hsh ⊢
    refine Ctr.intro Try.func25 rfl rfl (by decide +kernel) fun F hpre => ?_
    repeat' (first | (refine XL_id ?_; first | refine XL_nil ?_ | (refine XG_load ?_; refine XL_loadW tt_ok 0 rfl rfl rfl rfl rfl rfl ?_) | (refine XG_box ?_; (refine XL_box rfl (fun _ => rfl) (fun _ => ?_); refine XL_nB (by repeat' (first | exact .nil | apply NL.cons)) ?_)) | (refine XG_call ?_; first | refine XL_fn hth rfl rfl (fun g hg hL => CfR.le hpre hg) ?_ | refine XL_fn hsh rfl rfl (fun g hg hL => CfR.le hpre hg) ?_) | (refine XL_op tt_ok rfl rfl ?_; try (refine XL_dec_f (by omega) ?_))) | (refine X_id ?_; first | refine X_seq ?_ | (refine X_regionN (by repeat' (first | exact .nil | apply NL.cons)) ?_) | refine X_skip ?_ | refine X_ret ?_ | refine X_cond_f rfl ?_) | (refine Y_id ?_; refine Y_then ?_))
    all_goals first
      | exact Y_fn2 rfl rfl rfl rfl
      | (exfalso; omega)
      | skip
    
  · rw [if_neg h]
    obtain ⟨E, hE⟩ : ∃ E, thE d p = E := ⟨_, rfl⟩
    rw [hE] at h hth ⊢
    refine Ctr.intro Try.func25 rfl rfl (by decide +kernel) fun F hpre => ?_
    repeat' (first | (refine XL_id ?_; first | refine XL_nil ?_ | (refine XG_load ?_; refine XL_loadW tt_ok 0 rfl rfl rfl rfl rfl rfl ?_) | (refine XG_box ?_; (refine XL_box rfl (fun _ => rfl) (fun _ => ?_); refine XL_nB (by repeat' (first | exact .nil | apply NL.cons)) ?_)) | (refine XG_call ?_; refine XL_fn hth rfl rfl (fun g hg hL => CfR.le hpre hg) ?_) | (refine XL_op tt_ok rfl rfl ?_; try (refine XL_dec_t (by omega) ?_))) | (refine X_id ?_; first | refine X_seq ?_ | (refine X_regionN (by repeat' (first | exact .nil | apply NL.cons)) ?_) | refine X_ret ?_ | refine X_cond_t rfl ?_) | (refine Y_id ?_; first | refine Y_then ?_ | refine Y_then_ret ?_))
    all_goals first
      | exact Y_fn2 rfl rfl rfl rfl
      | (exfalso; omega)
      | skip
    
set_option maxHeartbeats 4000000 in
theorem rBase_spec (d : Cd) (y : Ly) (hd : d.In) (hf : y.Fit) (hl : d.ps.length = y.pm) (p : Int) : FnC Try.prog 26 [cfV d y, iV p] (fun h => CfR h d y) (.tuple #[iV (basE d p), iV (thE d p)]) := by
  have hth := rthere_spec d y hd hf hl p
  unfold basE
  by_cases h : thE d p = 0
  · obtain ⟨hm, n, rfl, hn⟩ := thE_zero h
    have hps := hm.mach.ps
    rw [if_pos h]
    rw [h] at hth ⊢
    show FnC Try.prog 26 [cfV d y, iV (n : Int)] (fun h => CfR h d y) (.tuple #[iV (smF d.ps n), iV 0])
    refine Ctr.intro Try.func26 rfl rfl (by decide +kernel) fun F hpre => ?_
    have hpre : CfR F.heap d y := hpre
    have r1 := hpre.ps
    repeat' (first | (refine XL_id ?_; first | refine XL_nil ?_ | (refine XG_box ?_; (refine XL_box rfl (fun _ => rfl) (fun bx => ?_); refine XL_nB (by repeat' (first | exact .nil | apply NL.cons)) ?_)) | (refine XG_load ?_; refine XL_loadW tt_ok 0 rfl rfl rfl rfl rfl rfl ?_) | (refine XG_call ?_; refine XL_fn hth rfl rfl (fun g hg hL => CfR.le hpre hg) ?_) | (refine XL_op tt_ok rfl rfl ?_; try (refine XL_dec_f (by omega) ?_))) | (refine X_id ?_; first | refine X_cutD (c := .block 0 _) [] (fun (_ : Unit) => [(7, iV (smF d.ps n))]) (fun _ => []) (fun _ => True) rfl (X_block (hold ?_)) (fun _ _ => ?_) | refine X_seq ?_ | (refine X_regionN (by repeat' (first | exact .nil | apply NL.cons)) ?_) | refine X_skip ?_ | refine X_ret ?_ | refine X_cond_f rfl ?_) | (refine Y_id ?_; refine Y_then ?_))
    · intro _
      refine X_loopD [1, 2] (fun (i : Nat) => [(8, .int .i64 i), (7, iV (smF d.ps i))]) (fun i => [blk bx (cfL d y) 28]) (fun i => i ≤ n) (fun i => n - i) 0 rfl (Nat.zero_le _) (by (repeat' (first | exact trivial | refine And.intro rfl ?_)); done) (fun h hs => hs) ?_
      intro i hi
      have hi : i ≤ n := hi
      by_cases hlt : i < n
      · have hr := smF_rng (fun j hj => hm.k j (by omega) : ∀ j, j < i → 1 ≤ (Cof.get d.ps (j : Int)).k ∧ (Cof.get d.ps (j : Int)).k ≤ 1024)
        have hki := hm.k i (by omega)
        have hdat := get_dat hpre (show i < y.pm by omega)
        rw [← hdat] at hki
        obtain ⟨S, hS⟩ : ∃ S, smF d.ps (i + 1) = S := ⟨_, rfl⟩
        have hst : smF d.ps i + (Cof.get y.ps (i : Int)).d.k = S := by rw [hdat, ← hS]; rfl
        repeat' (first | (refine XL_id ?_; first | refine XL_nil ?_ | (refine XG_load ?_; first | refine XL_load tt_ok 0 rfl rfl rfl rfl rfl rfl ?_ | refine XL_elf tt_ok rfl (by assumption) rfl (by omega) (by omega) rfl rfl rfl rfl ?_) | (refine XG_idx ?_; refine XL_idx tt_ok rfl rfl rfl rfl rfl (by assumption) (by omega) (by omega) rfl ?_) | (refine XL_op tt_ok rfl rfl ?_; refine XL_int (Eq.trans (wrap_i64 (by omega) (by omega)) hst) ?_) | (refine XL_op tt_ok rfl rfl ?_; try (first | refine XL_int (wrap_i64 (by omega) (by omega)) ?_ | refine XL_dec_t (by omega) ?_))) | (refine X_id ?_; first | refine X_seq ?_ | (refine X_regionN (by repeat' (first | exact .nil | apply NL.cons)) ?_) | refine X_skip ?_ | refine X_block ?_ | refine X_cond_t rfl ?_) | (refine Y_id ?_; first | refine Y_then ?_ | refine Y_block_normal ?_))
        all_goals first
          | (subst hS; exact Y_again (i + 1) fun _ _ hf hs => ⟨hlt, by show n - (i + 1) < n - i; omega, hf.sub (by (repeat' (first | exact trivial | refine And.intro rfl ?_)); done), hs⟩)
          | (exfalso; omega)
          | skip
        
      · obtain rfl : i = n := by omega
        repeat' (first | (refine XL_id ?_; first | refine XL_nil ?_ | (refine XL_op tt_ok rfl rfl ?_; try (refine XL_dec_f (by omega) ?_))) | (refine X_id ?_; first | refine X_seq ?_ | (refine X_regionN (by repeat' (first | exact .nil | apply NL.cons)) ?_) | refine X_exit ?_ | refine X_cond_f rfl ?_) | (refine Y_id ?_; first | refine Y_then ?_ | refine Y_then_exit ?_ | refine Y_block_hit ?_))
        all_goals first
          | exact Y_again () fun _ _ hf hs => ⟨trivial, hf.sub (by (repeat' (first | exact trivial | refine And.intro rfl ?_)); done), hs.imp fun _ _ => trivial⟩
          | (exfalso; omega)
          | skip
        
    all_goals first
      | exact Y_fn2 rfl rfl rfl rfl
      | skip
    
  · rw [if_neg h]
    obtain ⟨E, hE⟩ : ∃ E, thE d p = E := ⟨_, rfl⟩
    rw [hE] at h hth ⊢
    refine Ctr.intro Try.func26 rfl rfl (by decide +kernel) fun F hpre => ?_
    repeat' (first | (refine XL_id ?_; first | refine XL_nil ?_ | (refine XG_load ?_; refine XL_loadW tt_ok 0 rfl rfl rfl rfl rfl rfl ?_) | (refine XG_box ?_; (refine XL_box rfl (fun _ => rfl) (fun _ => ?_); refine XL_nB (by repeat' (first | exact .nil | apply NL.cons)) ?_)) | (refine XG_call ?_; refine XL_fn hth rfl rfl (fun g hg hL => CfR.le hpre hg) ?_) | (refine XL_op tt_ok rfl rfl ?_; try (refine XL_dec_t (by omega) ?_))) | (refine X_id ?_; first | refine X_seq ?_ | (refine X_regionN (by repeat' (first | exact .nil | apply NL.cons)) ?_) | refine X_ret ?_ | refine X_cond_t rfl ?_) | (refine Y_id ?_; first | refine Y_then ?_ | refine Y_then_ret ?_))
    all_goals first
      | exact Y_fn2 rfl rfl rfl rfl
      | (exfalso; omega)
      | skip
    
set_option maxHeartbeats 4000000 in
theorem rSlots_spec (d : Cd) (y : Ly) (hd : d.In) (hf : y.Fit) (hl : d.ps.length = y.pm) : FnC Try.prog 27 [cfV d y] (fun h => CfR h d y) (.tuple #[iV (sltE d).1, iV (sltE d).2]) := by
  have hma := rmay2_spec d y hd hf hl
  unfold sltE
  by_cases h : MayP d
  · have hm := MayP.all h
    have hps := hm.mach.ps
    rw [if_pos h]
    rw [decide_eq_true h] at hma
    show FnC Try.prog 27 [cfV d y] (fun h => CfR h d y) (.tuple #[iV (smF d.ps d.ps.length), iV 0])
    rw [hl]
    refine Ctr.intro Try.func27 rfl rfl (by decide +kernel) fun F hpre => ?_
    have hpre : CfR F.heap d y := hpre
    have r1 := hpre.ps
    repeat' (first | (refine XL_id ?_; first | refine XL_nil ?_ | (refine XG_box ?_; (refine XL_box rfl (fun _ => rfl) (fun bx => ?_); refine XL_nB (by repeat' (first | exact .nil | apply NL.cons)) ?_)) | (refine XG_load ?_; refine XL_loadW tt_ok 0 rfl rfl rfl rfl rfl rfl ?_) | (refine XG_call ?_; refine XL_fn hma rfl rfl (fun g hg hL => CfR.le hpre hg) ?_) | (refine XL_op tt_ok rfl rfl ?_)) | (refine X_id ?_; first | refine X_cutD (c := .block 0 _) [] (fun (_ : Unit) => [(4, iV (smF d.ps y.pm))]) (fun _ => []) (fun _ => True) rfl (X_block (hold ?_)) (fun _ _ => ?_) | refine X_seq ?_ | (refine X_regionN (by repeat' (first | exact .nil | apply NL.cons)) ?_) | refine X_skip ?_ | refine X_ret ?_ | refine X_cond_f rfl ?_) | (refine Y_id ?_; refine Y_then ?_))
    · intro _
      refine X_loopD [1] (fun (i : Nat) => [(5, .int .i64 i), (4, iV (smF d.ps i))]) (fun i => [blk bx (cfL d y) 28]) (fun i => i ≤ y.pm) (fun i => y.pm - i) 0 rfl (Nat.zero_le _) (by (repeat' (first | exact trivial | refine And.intro rfl ?_)); done) (fun h hs => hs) ?_
      intro i hi
      have hi : i ≤ y.pm := hi
      by_cases hlt : i < y.pm
      · have hr := smF_rng (fun j hj => hm.k j (by omega) : ∀ j, j < i → 1 ≤ (Cof.get d.ps (j : Int)).k ∧ (Cof.get d.ps (j : Int)).k ≤ 1024)
        have hki := hm.k i (by omega)
        have hdat := get_dat hpre (show i < y.pm by omega)
        rw [← hdat] at hki
        obtain ⟨S, hS⟩ : ∃ S, smF d.ps (i + 1) = S := ⟨_, rfl⟩
        have hst : smF d.ps i + (Cof.get y.ps (i : Int)).d.k = S := by rw [hdat, ← hS]; rfl
        repeat' (first | (refine XL_id ?_; first | refine XL_nil ?_ | (refine XG_load ?_; first | refine XL_load tt_ok 0 rfl rfl rfl rfl rfl rfl ?_ | refine XL_elf tt_ok rfl (by assumption) rfl (by omega) (by omega) rfl rfl rfl rfl ?_) | (refine XG_idx ?_; refine XL_idx tt_ok rfl rfl rfl rfl rfl (by assumption) (by omega) (by omega) rfl ?_) | (refine XL_op tt_ok rfl rfl ?_; refine XL_int (Eq.trans (wrap_i64 (by omega) (by omega)) hst) ?_) | (refine XL_op tt_ok rfl rfl ?_; try (first | refine XL_int (wrap_i64 (by omega) (by omega)) ?_ | refine XL_dec_t (by omega) ?_))) | (refine X_id ?_; first | refine X_seq ?_ | (refine X_regionN (by repeat' (first | exact .nil | apply NL.cons)) ?_) | refine X_skip ?_ | refine X_block ?_ | refine X_cond_t rfl ?_) | (refine Y_id ?_; first | refine Y_then ?_ | refine Y_block_normal ?_))
        all_goals first
          | (subst hS; exact Y_again (i + 1) fun _ _ hf hs => ⟨hlt, by show y.pm - (i + 1) < y.pm - i; omega, hf.sub (by (repeat' (first | exact trivial | refine And.intro rfl ?_)); done), hs⟩)
          | (exfalso; omega)
          | skip
        
      · have hie : i = y.pm := by omega
        rw [hie]
        repeat' (first | (refine XL_id ?_; first | refine XL_nil ?_ | (refine XG_load ?_; refine XL_load tt_ok 0 rfl rfl rfl rfl rfl rfl ?_) | (refine XL_op tt_ok rfl rfl ?_; try (refine XL_dec_f (by omega) ?_))) | (refine X_id ?_; first | refine X_seq ?_ | (refine X_regionN (by repeat' (first | exact .nil | apply NL.cons)) ?_) | refine X_exit ?_ | refine X_cond_f rfl ?_) | (refine Y_id ?_; first | refine Y_then ?_ | refine Y_then_exit ?_ | refine Y_block_hit ?_))
        all_goals first
          | exact Y_again () fun _ _ hf hs => ⟨trivial, hf.sub (by (repeat' (first | exact trivial | refine And.intro rfl ?_)); done), hs.imp fun _ _ => trivial⟩
          | (exfalso; omega)
          | skip
        
    all_goals first
      | exact Y_fn2 rfl rfl rfl rfl
      | skip
    
  · rw [if_neg h]
    rw [decide_eq_false h] at hma
    refine Ctr.intro Try.func27 rfl rfl (by decide +kernel) fun F hpre => ?_
    repeat' (first | (refine XL_id ?_; first | refine XL_nil ?_ | (refine XG_load ?_; refine XL_loadW tt_ok 0 rfl rfl rfl rfl rfl rfl ?_) | (refine XG_box ?_; (refine XL_box rfl (fun _ => rfl) (fun _ => ?_); refine XL_nB (by repeat' (first | exact .nil | apply NL.cons)) ?_)) | (refine XG_call ?_; refine XL_fn hma rfl rfl (fun g hg hL => CfR.le hpre hg) ?_) | (refine XL_op tt_ok rfl rfl ?_)) | (refine X_id ?_; first | refine X_seq ?_ | (refine X_regionN (by repeat' (first | exact .nil | apply NL.cons)) ?_) | refine X_ret ?_ | refine X_cond_t rfl ?_) | (refine Y_id ?_; first | refine Y_then ?_ | refine Y_then_ret ?_))
    all_goals first
      | exact Y_fn2 rfl rfl rfl rfl
      | (exfalso; omega)
      | skip
    
end Go.Proofs.Ytpokfingnflblaa
