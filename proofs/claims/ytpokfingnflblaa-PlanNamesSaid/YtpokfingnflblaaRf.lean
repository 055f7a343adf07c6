/- May, there, Shape, Owner: the reference's (printed by genf.py). -/
import Derived.Test.YtpokfingnflblaaWn
import Derived.Test.YtpokfingnflblaaRe
set_option linter.unusedVariables false
namespace Go.Proofs.Ytpokfingnflblaa
open Go.RowKit Go.Cof

theorem rmay2_spec (d : Cd) (y : Ly) (hd : d.In) (hf : y.Fit) (hl : d.ps.length = y.pm) : FnC Try.prog 47 [cfV d y] (fun h => CfR h d y) (.bool (decide (MayP d))) := by
  have hck := rcheckC_spec d y hd hf hl
  refine Ctr.intro Try.func47 rfl rfl (by decide +kernel) fun F hpre => ?_
  repeat' (first | (refine XL_id ?_; first | refine XL_nil ?_ | (refine XG_load ?_; refine XL_loadW tt_ok 0 rfl rfl rfl rfl rfl rfl ?_) | (refine XG_box ?_; (refine XL_box rfl (fun _ => rfl) (fun _ => ?_); refine XL_nB (by repeat' (first | exact .nil | apply NL.cons)) ?_)) | (refine XG_call ?_; first | (refine XL_op tt_ok rfl rfl ?_) | (refine XL_callK [] hck rfl rfl (fun _ => rfl) (fun g hg hL => CfR.le hpre hg) (fun u L hv => ?_); obtain ⟨A1, c1, rfl, rfl⟩ := hv)) | (refine XL_op tt_ok rfl rfl ?_; try (refine XL_dec (fun _ => ?_) (fun _ => ?_)))) | (refine X_id ?_; first | refine X_seq ?_ | (refine X_regionN (by repeat' (first | exact .nil | apply NL.cons)) ?_) | refine X_ret ?_) | (refine Y_id ?_; refine Y_then ?_))
  all_goals first
    | exact Y_fn1 rfl rfl (bool_t (List.length_eq_zero_iff.1 (by omega)))
    | exact Y_fn1 rfl rfl (bool_f (fun h => by have a := List.length_eq_zero_iff.2 (show chkF d = [] from h); omega))
    | skip
  
theorem rthere_spec (d : Cd) (y : Ly) (hd : d.In) (hf : y.Fit) (hl : d.ps.length = y.pm) (p : Int) : FnC Try.prog 49 [cfV d y, iV p] (fun h => CfR h d y) (iV (thE d p)) := by
  have hma := rmay2_spec d y hd hf hl
  have hcap := hf.cap
  unfold thE
  by_cases h : MayP d
  · rw [if_pos h]
    rw [decide_eq_true h] at hma
    by_cases h2 : 0 ≤ p ∧ p < (d.ps.length : Int)
    · rw [if_pos h2]
      refine Ctr.intro Try.func49 rfl rfl (by decide +kernel) fun F hpre => ?_
      repeat' (first | (refine XL_id ?_; first | refine XL_nil ?_ | refine XL_guard_yes rfl rfl rfl ?_ | (refine XG_load ?_; first | refine XL_loadW tt_ok 0 rfl rfl rfl rfl rfl rfl ?_ | refine XL_load tt_ok 0 rfl rfl rfl rfl rfl rfl ?_) | (refine XG_box ?_; (refine XL_box rfl (fun _ => rfl) (fun _ => ?_); refine XL_nB (by repeat' (first | exact .nil | apply NL.cons)) ?_)) | (refine XG_call ?_; first | (refine XL_op tt_ok rfl rfl ?_) | refine XL_fn hma rfl rfl (fun g hg hL => CfR.le hpre hg) ?_) | (refine XL_op tt_ok rfl rfl ?_; try (refine XL_dec_f (by omega) ?_))) | (refine X_id ?_; first | refine X_seq ?_ | (refine X_regionN (by repeat' (first | exact .nil | apply NL.cons)) ?_) | refine X_skip ?_ | refine X_ret ?_ | refine X_cond_f rfl ?_) | (refine Y_id ?_; refine Y_then ?_))
      all_goals first
        | exact Y_fn1 rfl rfl rfl
        | (exfalso; omega)
        | skip
      
    · rw [if_neg h2]
      refine Ctr.intro Try.func49 rfl rfl (by decide +kernel) fun F hpre => ?_
      repeat' (first | (refine XL_id ?_; first | refine XL_nil ?_ | refine XL_guard_yes rfl rfl rfl ?_ | refine XL_guard_no rfl rfl rfl rfl rfl ?_ | (refine XG_load ?_; first | refine XL_loadW tt_ok 0 rfl rfl rfl rfl rfl rfl ?_ | refine XL_load tt_ok 0 rfl rfl rfl rfl rfl rfl ?_) | (refine XG_box ?_; (refine XL_box rfl (fun _ => rfl) (fun _ => ?_); refine XL_nB (by repeat' (first | exact .nil | apply NL.cons)) ?_)) | (refine XG_call ?_; first | (refine XL_op tt_ok rfl rfl ?_) | refine XL_fn hma rfl rfl (fun g hg hL => CfR.le hpre hg) ?_) | (refine XL_op tt_ok rfl rfl ?_; try (first | refine XL_dec_t (by omega) ?_ | refine XL_dec (fun _ => ?_) (fun _ => ?_)))) | (refine X_id ?_; first | refine X_seq ?_ | (refine X_regionN (by repeat' (first | exact .nil | apply NL.cons)) ?_) | refine X_skip ?_ | refine X_ret ?_ | refine X_cond_t rfl ?_ | refine X_cond_f rfl ?_) | (refine Y_id ?_; first | refine Y_then ?_ | refine Y_then_ret ?_))
      all_goals first
        | exact Y_fn1 rfl rfl rfl
        | (exfalso; omega)
        | skip
      
  · rw [if_neg h]
    rw [decide_eq_false h] at hma
    refine Ctr.intro Try.func49 rfl rfl (by decide +kernel) fun F hpre => ?_
    repeat' (first | (refine XL_id ?_; first | refine XL_nil ?_ | (refine XG_load ?_; refine XL_loadW tt_ok 0 rfl rfl rfl rfl rfl rfl ?_) | (refine XG_box ?_; (refine XL_box rfl (fun _ => rfl) (fun _ => ?_); refine XL_nB (by repeat' (first | exact .nil | apply NL.cons)) ?_)) | (refine XG_call ?_; refine XL_fn hma rfl rfl (fun g hg hL => CfR.le hpre hg) ?_) | (refine XL_op tt_ok rfl rfl ?_)) | (refine X_id ?_; first | refine X_seq ?_ | (refine X_regionN (by repeat' (first | exact .nil | apply NL.cons)) ?_) | refine X_ret ?_ | refine X_cond_t rfl ?_) | (refine Y_id ?_; first | refine Y_then ?_ | refine Y_then_ret ?_))
    all_goals first
      | exact Y_fn1 rfl rfl rfl
      | skip
    
theorem rShape_spec (d : Cd) (y : Ly) (hd : d.In) (hf : y.Fit) (hl : d.ps.length = y.pm) (p : Int) : FnC Try.prog 19 [cfV d y, iV p] (fun h => CfR h d y) (.tuple #[shV (shpE d p), iV (thE d p)]) := by
  have hth := rthere_spec d y hd hf hl p
  unfold shpE
  by_cases h : thE d p = 0
  · obtain ⟨hm, n, rfl, hn⟩ := thE_zero h
    rw [if_pos h]
    rw [h] at hth ⊢
    have hsh := rshape_spec d y n (by omega) (hm.part n hn).2.1
    obtain ⟨S, hS⟩ : ∃ S, shF (Cof.get d.ps (n : Int)) = S := ⟨_, rfl⟩
    rw [hS] at hsh ⊢
    refine Ctr.intro Try.func19 rfl rfl (by decide +kernel) fun F hpre => ?_
    repeat' (first | (refine XL_id ?_; first | refine XL_nil ?_ | (refine XG_load ?_; refine XL_loadW tt_ok 1 rfl rfl rfl rfl rfl rfl ?_) | (refine XG_box ?_; (refine XL_box rfl (fun _ => rfl) (fun _ => ?_); refine XL_nB (by repeat' (first | exact .nil | apply NL.cons)) ?_)) | (refine XG_call ?_; first | refine XL_fn hth rfl rfl (fun g hg hL => CfR.le hpre hg) ?_ | refine XL_fn hsh rfl rfl (fun g hg hL => CfR.le hpre hg) ?_) | (refine XG_alloc ?_; (refine XL_alloc tt_ok rfl rfl (fun _ => rfl) (fun b => ?_); refine XL_nB (by repeat' (first | exact .nil | apply NL.cons)) ?_)) | (refine XG_store ?_; (refine XL_storeW tt_ok 0 rfl rfl rfl rfl rfl rfl rfl ?_; refine XL_nK 0 rfl (by repeat' (first | exact .nil | apply NL.cons)) ?_)) | (refine XL_op tt_ok rfl rfl ?_; try (refine XL_dec_f (by omega) ?_))) | (refine X_id ?_; first | refine X_seq ?_ | (refine X_regionN (by repeat' (first | exact .nil | apply NL.cons)) ?_) | refine X_skip ?_ | refine X_ret ?_ | refine X_cond_f rfl ?_) | (refine Y_id ?_; refine Y_then ?_))
    all_goals first
      | exact Y_res2 rfl (.cell tt_ok 0 rfl rfl rfl rfl rfl) (.tmp rfl) (L' := []) (fun _ _ => trivial) ⟨rfl, rfl⟩
      | (exfalso; omega)
      | skip
    
  · rw [if_neg h]
    obtain ⟨E, hE⟩ : ∃ E, thE d p = E := ⟨_, rfl⟩
    rw [hE] at h hth ⊢
    refine Ctr.intro Try.func19 rfl rfl (by decide +kernel) fun F hpre => ?_
    repeat' (first | (refine XL_id ?_; first | refine XL_nil ?_ | (refine XG_load ?_; refine XL_loadW tt_ok 1 rfl rfl rfl rfl rfl rfl ?_) | (refine XG_box ?_; (refine XL_box rfl (fun _ => rfl) (fun _ => ?_); refine XL_nB (by repeat' (first | exact .nil | apply NL.cons)) ?_)) | (refine XG_build ?_; (refine XL_build tt_ok rfl rfl rfl rfl rfl rfl rfl ?_; refine XL_aggN (by repeat' (first | exact .nil | apply NL.cons)) ?_)) | (refine XG_call ?_; refine XL_fn hth rfl rfl (fun g hg hL => CfR.le hpre hg) ?_) | (refine XG_alloc ?_; (refine XL_alloc tt_ok rfl rfl (fun _ => rfl) (fun b => ?_); refine XL_nB (by repeat' (first | exact .nil | apply NL.cons)) ?_)) | (refine XG_store ?_; (refine XL_storeW tt_ok 0 rfl rfl rfl rfl rfl rfl rfl ?_; refine XL_nK 0 rfl (by repeat' (first | exact .nil | apply NL.cons)) ?_)) | (refine XL_op tt_ok rfl rfl ?_; try (refine XL_dec_t (by omega) ?_))) | (refine X_id ?_; first | refine X_seq ?_ | (refine X_regionN (by repeat' (first | exact .nil | apply NL.cons)) ?_) | refine X_ret ?_ | refine X_cond_t rfl ?_) | (refine Y_id ?_; first | refine Y_then ?_ | refine Y_then_ret ?_))
    all_goals first
      | exact Y_res2 rfl (.cell tt_ok 0 rfl rfl rfl rfl rfl) (.tmp rfl) (L' := []) (fun _ _ => trivial) ⟨rfl, rfl⟩
      | (exfalso; omega)
      | skip
    
set_option maxHeartbeats 8000000 in
theorem rOwner_spec (d : Cd) (y : Ly) (hd : d.In) (hf : y.Fit) (hl : d.ps.length = y.pm) (v : Int) : FnC Try.prog 18 [cfV d y, iV v] (fun h => CfR h d y) (.tuple #[iV (ownE d v).1, bV (ownE d v).2.1, iV (ownE d v).2.2]) := by
  have hma := rmay2_spec d y hd hf hl
  have hcap := hf.cap
  unfold ownE
  by_cases h : MayP d
  · have hm := MayP.all h
    have hps := hm.mach.ps
    rw [if_pos h]
    rw [decide_eq_true h] at hma
    by_cases h2 : 0 ≤ v ∧ v < d.co
    · rw [if_pos h2]
      obtain ⟨I, hI⟩ : ∃ I, firstQ (qO v) d.ps = I := ⟨_, rfl⟩
      have hile := firstQ_le (qO v) d.ps
      rw [hI] at hile ⊢
      refine Ctr.intro Try.func18 rfl rfl (by decide +kernel) fun F hpre => ?_
      have hpre : CfR F.heap d y := hpre
      have r1 := hpre.ps
      repeat' (first | (refine XL_id ?_; first | refine XL_nil ?_ | refine XL_guard_yes rfl rfl rfl ?_ | (refine XG_box ?_; (refine XL_box rfl (fun _ => rfl) (fun bx => ?_); refine XL_nB (by repeat' (first | exact .nil | apply NL.cons)) ?_)) | (refine XG_load ?_; first | refine XL_loadW tt_ok 0 rfl rfl rfl rfl rfl rfl ?_ | refine XL_load tt_ok 0 rfl rfl rfl rfl rfl rfl ?_) | (refine XG_call ?_; refine XL_fn hma rfl rfl (fun g hg hL => CfR.le hpre hg) ?_) | (refine XL_op tt_ok rfl rfl ?_; try (refine XL_dec_f (by omega) ?_))) | (refine X_id ?_; first | refine X_cutD (c := .block 0 _) [] (fun (_ : Unit) => []) (fun _ => []) (fun _ => I = d.ps.length) rfl (X_block (hold ?_)) (fun _ hj => ?_) | refine X_seq ?_ | (refine X_regionN (by repeat' (first | exact .nil | apply NL.cons)) ?_) | refine X_skip ?_ | refine X_ret ?_ | refine X_cond_f rfl ?_) | (refine Y_id ?_; refine Y_then ?_))
      all_goals first
        | (exfalso; omega)
        | (refine Y_fn3 rfl rfl rfl rfl ?_; rw [if_neg (by omega)]; done)
        | skip
      · intro _
        refine X_loopD [1, 2] (fun (i : Nat) => [(7, .int .i64 i)]) (fun i => [blk bx (cfL d y) 28]) (fun i => i ≤ y.pm ∧ ∀ j : Nat, j < i → qO v (Cof.get d.ps (j : Int)) = false) (fun i => y.pm - i) 0 rfl ⟨Nat.zero_le _, fun j hj => by omega⟩ (by (repeat' (first | exact trivial | refine And.intro rfl ?_)); done) (fun h hs => hs) ?_
        intro i hi
        obtain ⟨hi, hx⟩ := hi
        by_cases hlt : i < y.pm
        · have hkd := get_dat hpre hlt
          have rk := hpre.xs _ (get_memN hpre hlt)
          have hkf := hf.x _ (get_memN hpre hlt)
          have hct := has_spec (Cof.get y.ps (i : Int)).A (Cof.get y.ps (i : Int)).m (Cof.get y.ps (i : Int)).c (Cof.get y.ps (i : Int)).d.xs v (by omega)
          rw [hkd] at hct
          have rk2 : rdS encN F.heap (Cof.get y.ps (i : Int)).A (Cof.get y.ps (i : Int)).m (Cof.get d.ps (i : Int)).xs := by rw [← hkd]; exact rk
          clear rk
          cases hq : qO v (Cof.get d.ps (i : Int)) with
          | true =>
            have e := firstQ_eq (q := qO v) (l := d.ps) (i := i) (by omega) hx (fun _ => hq)
            rw [show decide (v ∈ (Cof.get d.ps (i : Int)).xs) = true from hq] at hct
            repeat' (first | (refine XL_id ?_; first | refine XL_nil ?_ | (refine XG_load ?_; first | refine XL_load tt_ok 0 rfl rfl rfl rfl rfl rfl ?_ | refine XL_el tt_ok rfl (by assumption) rfl (by omega) (by omega) rfl rfl rfl rfl ?_) | (refine XG_idx ?_; refine XL_idx tt_ok rfl rfl rfl rfl rfl (by assumption) (by omega) (by omega) rfl ?_) | (refine XG_call ?_; first | (refine XL_op tt_ok rfl rfl ?_) | refine XL_fn hct rfl rfl (fun g hg hL => rk2.le hg) ?_) | (refine XL_op tt_ok rfl rfl ?_; try (refine XL_dec_t (by omega) ?_))) | (refine X_id ?_; first | refine X_seq ?_ | (refine X_regionN (by repeat' (first | exact .nil | apply NL.cons)) ?_) | refine X_skip ?_ | refine X_ret ?_ | refine X_block ?_ | refine X_cond_t rfl ?_) | (refine Y_id ?_; first | refine Y_then ?_ | refine Y_then_ret ?_ | refine Y_block_ret ?_))
            all_goals first
              | (have hii : I = i := (by omega); subst hii; rw [if_pos (by omega)]; exact Y_fn3 rfl rfl rfl rfl rfl)
              | skip
            
          | false =>
            rw [show decide (v ∈ (Cof.get d.ps (i : Int)).xs) = false from hq] at hct
            repeat' (first | (refine XL_id ?_; first | refine XL_nil ?_ | (refine XG_load ?_; first | refine XL_load tt_ok 0 rfl rfl rfl rfl rfl rfl ?_ | refine XL_el tt_ok rfl (by assumption) rfl (by omega) (by omega) rfl rfl rfl rfl ?_) | (refine XG_idx ?_; refine XL_idx tt_ok rfl rfl rfl rfl rfl (by assumption) (by omega) (by omega) rfl ?_) | (refine XG_call ?_; first | (refine XL_op tt_ok rfl rfl ?_) | refine XL_fn hct rfl rfl (fun g hg hL => rk2.le hg) ?_) | (refine XL_op tt_ok rfl rfl ?_; try (first | refine XL_int (wrap_i64 (by omega) (by omega)) ?_ | refine XL_dec_t (by omega) ?_))) | (refine X_id ?_; first | refine X_seq ?_ | (refine X_regionN (by repeat' (first | exact .nil | apply NL.cons)) ?_) | refine X_skip ?_ | refine X_block ?_ | refine X_cond_t rfl ?_ | refine X_cond_f rfl ?_) | (refine Y_id ?_; first | refine Y_then ?_ | refine Y_block_normal ?_))
            all_goals first
              | exact Y_again (i + 1) fun _ _ hf hs => ⟨⟨hlt, fun j hj => by by_cases hj2 : j < i; exact hx j hj2; obtain rfl : j = i := (by omega); exact hq⟩, by show y.pm - (i + 1) < y.pm - i; omega, hf.sub (by (repeat' (first | exact trivial | refine And.intro rfl ?_)); done), hs.imp fun h hs => stars_only [0] rfl h hs⟩
              | skip
            
        · have e := firstQ_eq (q := qO v) (l := d.ps) (i := i) (by omega) hx (fun hh => by omega)
          repeat' (first | (refine XL_id ?_; first | refine XL_nil ?_ | (refine XG_load ?_; refine XL_load tt_ok 0 rfl rfl rfl rfl rfl rfl ?_) | (refine XL_op tt_ok rfl rfl ?_; try (refine XL_dec_f (by omega) ?_))) | (refine X_id ?_; first | refine X_seq ?_ | (refine X_regionN (by repeat' (first | exact .nil | apply NL.cons)) ?_) | refine X_exit ?_ | refine X_cond_f rfl ?_) | (refine Y_id ?_; first | refine Y_then ?_ | refine Y_then_exit ?_ | refine Y_block_hit ?_))
          all_goals first
            | exact Y_again () fun _ _ hf hs => ⟨by omega, hf.sub (by (repeat' (exact trivial)); done), hs.imp fun _ _ => trivial⟩
            | (exfalso; omega)
            | skip
          
      all_goals first
        | (rw [if_neg (by omega)]; exact Y_fn3 rfl rfl rfl rfl rfl)
        | skip
      
    · rw [if_neg h2]
      refine Ctr.intro Try.func18 rfl rfl (by decide +kernel) fun F hpre => ?_
      repeat' (first | (refine XL_id ?_; first | refine XL_nil ?_ | refine XL_guard_yes rfl rfl rfl ?_ | refine XL_guard_no rfl rfl rfl rfl rfl ?_ | (refine XG_load ?_; first | refine XL_loadW tt_ok 0 rfl rfl rfl rfl rfl rfl ?_ | refine XL_load tt_ok 0 rfl rfl rfl rfl rfl rfl ?_) | (refine XG_box ?_; (refine XL_box rfl (fun _ => rfl) (fun _ => ?_); refine XL_nB (by repeat' (first | exact .nil | apply NL.cons)) ?_)) | (refine XG_call ?_; refine XL_fn hma rfl rfl (fun g hg hL => CfR.le hpre hg) ?_) | (refine XL_op tt_ok rfl rfl ?_; try (first | refine XL_dec_t (by omega) ?_ | refine XL_dec (fun _ => ?_) (fun _ => ?_)))) | (refine X_id ?_; first | refine X_seq ?_ | (refine X_regionN (by repeat' (first | exact .nil | apply NL.cons)) ?_) | refine X_skip ?_ | refine X_ret ?_ | refine X_cond_t rfl ?_ | refine X_cond_f rfl ?_) | (refine Y_id ?_; first | refine Y_then ?_ | refine Y_then_ret ?_))
      all_goals first
        | exact Y_fn3 rfl rfl rfl rfl rfl
        | (exfalso; omega)
        | skip
      
  · rw [if_neg h]
    rw [decide_eq_false h] at hma
    refine Ctr.intro Try.func18 rfl rfl (by decide +kernel) fun F hpre => ?_
    repeat' (first | (refine XL_id ?_; first | refine XL_nil ?_ | (refine XG_load ?_; refine XL_loadW tt_ok 0 rfl rfl rfl rfl rfl rfl ?_) | (refine XG_box ?_; (refine XL_box rfl (fun _ => rfl) (fun _ => ?_); refine XL_nB (by repeat' (first | exact .nil | apply NL.cons)) ?_)) | (refine XG_call ?_; refine XL_fn hma rfl rfl (fun g hg hL => CfR.le hpre hg) ?_) | (refine XL_op tt_ok rfl rfl ?_)) | (refine X_id ?_; first | refine X_seq ?_ | (refine X_regionN (by repeat' (first | exact .nil | apply NL.cons)) ?_) | refine X_ret ?_ | refine X_cond_t rfl ?_) | (refine Y_id ?_; first | refine Y_then ?_ | refine Y_then_ret ?_))
    all_goals first
      | exact Y_fn3 rfl rfl rfl rfl rfl
      | (exfalso; omega)
      | skip
    
end Go.Proofs.Ytpokfingnflblaa
