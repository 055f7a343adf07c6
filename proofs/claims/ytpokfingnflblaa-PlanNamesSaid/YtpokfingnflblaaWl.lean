/- Total, Shape, Limit: the program's. -/
import Derived.Test.YtpokfingnflblaaWk
set_option linter.unusedVariables false
namespace Go.Proofs.Ytpokfingnflblaa
open Go.RowKit Go.Cof

def sh0 : Sh := ⟨0, 0, 0, 0⟩
theorem thE_zero {d : Cd} {p : Int} (h : thE d p = 0) : MayF d ∧ ∃ n : Nat, p = n ∧ n < d.ps.length := by
  unfold thE at h
  split at h
  · rename_i hm
    split at h
    · rename_i hp
      exact ⟨MayP.all hm, p.toNat, by omega, by omega⟩
    · exact absurd h (by decide)
  · exact absurd h (by decide)
def totE (d : Cd) (p : Int) : Int := if thE d p = 0 then toF d p.toNat else 0
def shpE (d : Cd) (p : Int) : Sh := if thE d p = 0 then shF (Cof.get d.ps p) else sh0
theorem Total_spec (d : Cd) (y : Ly) (hd : d.In) (hf : y.Fit) (hl : d.ps.length = y.pm) (p : Int) : FnC Try.prog 20 [cfV d y, iV p] (fun h => CfR h d y) (.tuple #[iV (totE d p), iV (thE d p)]) := by
  have hth := there_spec d y hd hf hl p
  unfold totE
  by_cases h : thE d p = 0
  · obtain ⟨hm, n, rfl, hn⟩ := thE_zero h
    rw [if_pos h]
    rw [h] at hth ⊢
    have hto := total_spec d y hm.mach n (by omega) (hm.part n hn).1
    show FnC Try.prog 20 [cfV d y, iV (n : Int)] (fun h => CfR h d y) (.tuple #[iV (toF d n), iV 0])
    refine Ctr.intro Try.func20 rfl rfl (by decide +kernel) fun F hpre => ?_
    repeat' (first | (refine XL_id ?_; first | refine XL_nil ?_ | (refine XG_load ?_; refine XL_loadW tt_ok 0 rfl rfl rfl rfl rfl rfl ?_) | (refine XG_box ?_; (refine XL_box rfl (fun _ => rfl) (fun _ => ?_); refine XL_nB (by repeat' (first | exact .nil | apply NL.cons)) ?_)) | (refine XG_call ?_; first | refine XL_fn hth rfl rfl (fun g hg hL => CfR.le hpre hg) ?_ | refine XL_fn hto rfl rfl (fun g hg hL => CfR.le hpre hg) ?_) | (refine XL_op tt_ok rfl rfl ?_; try (refine XL_dec_f (by omega) ?_))) | (refine X_id ?_; first | refine X_seq ?_ | (refine X_regionN (by repeat' (first | exact .nil | apply NL.cons)) ?_) | refine X_skip ?_ | refine X_ret ?_ | refine X_cond_f rfl ?_) | (refine Y_id ?_; refine Y_then ?_))
    all_goals first
      | exact Y_fn2 rfl rfl rfl rfl
      | (exfalso; omega)
      | skip
    
  · rw [if_neg h]
    obtain ⟨E, hE⟩ : ∃ E, thE d p = E := ⟨_, rfl⟩
    rw [hE] at h hth ⊢
    refine Ctr.intro Try.func20 rfl rfl (by decide +kernel) fun F hpre => ?_
    repeat' (first | (refine XL_id ?_; first | refine XL_nil ?_ | (refine XG_load ?_; refine XL_loadW tt_ok 0 rfl rfl rfl rfl rfl rfl ?_) | (refine XG_box ?_; (refine XL_box rfl (fun _ => rfl) (fun _ => ?_); refine XL_nB (by repeat' (first | exact .nil | apply NL.cons)) ?_)) | (refine XG_call ?_; refine XL_fn hth rfl rfl (fun g hg hL => CfR.le hpre hg) ?_) | (refine XL_op tt_ok rfl rfl ?_; try (refine XL_dec_t (by omega) ?_))) | (refine X_id ?_; first | refine X_seq ?_ | (refine X_regionN (by repeat' (first | exact .nil | apply NL.cons)) ?_) | refine X_ret ?_ | refine X_cond_t rfl ?_) | (refine Y_id ?_; first | refine Y_then ?_ | refine Y_then_ret ?_))
    all_goals first
      | exact Y_fn2 rfl rfl rfl rfl
      | (exfalso; omega)
      | skip
    
theorem Shape_spec (d : Cd) (y : Ly) (hd : d.In) (hf : y.Fit) (hl : d.ps.length = y.pm) (p : Int) : FnC Try.prog 16 [cfV d y, iV p] (fun h => CfR h d y) (.tuple #[shV (shpE d p), iV (thE d p)]) := by
  have hth := there_spec d y hd hf hl p
  unfold shpE
  by_cases h : thE d p = 0
  · obtain ⟨hm, n, rfl, hn⟩ := thE_zero h
    rw [if_pos h]
    rw [h] at hth ⊢
    have hsh := shape_spec d y n (by omega) (hm.part n hn).2.1
    obtain ⟨S, hS⟩ : ∃ S, shF (Cof.get d.ps (n : Int)) = S := ⟨_, rfl⟩
    rw [hS] at hsh ⊢
    refine Ctr.intro Try.func16 rfl rfl (by decide +kernel) fun F hpre => ?_
    repeat' (first | (refine XL_id ?_; first | refine XL_nil ?_ | (refine XG_load ?_; refine XL_loadW tt_ok 1 rfl rfl rfl rfl rfl rfl ?_) | (refine XG_box ?_; (refine XL_box rfl (fun _ => rfl) (fun _ => ?_); refine XL_nB (by repeat' (first | exact .nil | apply NL.cons)) ?_)) | (refine XG_call ?_; first | refine XL_fn hth rfl rfl (fun g hg hL => CfR.le hpre hg) ?_ | refine XL_fn hsh rfl rfl (fun g hg hL => CfR.le hpre hg) ?_) | (refine XG_alloc ?_; (refine XL_alloc tt_ok rfl rfl (fun _ => rfl) (fun b => ?_); refine XL_nB (by repeat' (first | exact .nil | apply NL.cons)) ?_)) | (refine XG_store ?_; (refine XL_storeW tt_ok 0 rfl rfl rfl rfl rfl rfl rfl ?_; refine XL_nK 0 rfl (by repeat' (first | exact .nil | apply NL.cons)) ?_)) | (refine XL_op tt_ok rfl rfl ?_; try (refine XL_dec_f (by omega) ?_))) | (refine X_id ?_; first | refine X_seq ?_ | (refine X_regionN (by repeat' (first | exact .nil | apply NL.cons)) ?_) | refine X_skip ?_ | refine X_ret ?_ | refine X_cond_f rfl ?_) | (refine Y_id ?_; refine Y_then ?_))
    all_goals first
      | exact Y_res2 rfl (.cell tt_ok 0 rfl rfl rfl rfl rfl) (.tmp rfl) (L' := []) (fun _ _ => trivial) ⟨rfl, rfl⟩
      | (exfalso; omega)
      | skip
    
  · rw [if_neg h]
    obtain ⟨E, hE⟩ : ∃ E, thE d p = E := ⟨_, rfl⟩
    rw [hE] at h hth ⊢
    refine Ctr.intro Try.func16 rfl rfl (by decide +kernel) fun F hpre => ?_
    repeat' (first | (refine XL_id ?_; first | refine XL_nil ?_ | (refine XG_load ?_; refine XL_loadW tt_ok 1 rfl rfl rfl rfl rfl rfl ?_) | (refine XG_box ?_; (refine XL_box rfl (fun _ => rfl) (fun _ => ?_); refine XL_nB (by repeat' (first | exact .nil | apply NL.cons)) ?_)) | (refine XG_build ?_; (refine XL_build tt_ok rfl rfl rfl rfl rfl rfl rfl ?_; refine XL_aggN (by repeat' (first | exact .nil | apply NL.cons)) ?_)) | (refine XG_call ?_; refine XL_fn hth rfl rfl (fun g hg hL => CfR.le hpre hg) ?_) | (refine XG_alloc ?_; (refine XL_alloc tt_ok rfl rfl (fun _ => rfl) (fun b => ?_); refine XL_nB (by repeat' (first | exact .nil | apply NL.cons)) ?_)) | (refine XG_store ?_; (refine XL_storeW tt_ok 0 rfl rfl rfl rfl rfl rfl rfl ?_; refine XL_nK 0 rfl (by repeat' (first | exact .nil | apply NL.cons)) ?_)) | (refine XL_op tt_ok rfl rfl ?_; try (refine XL_dec_t (by omega) ?_))) | (refine X_id ?_; first | refine X_seq ?_ | (refine X_regionN (by repeat' (first | exact .nil | apply NL.cons)) ?_) | refine X_ret ?_ | refine X_cond_t rfl ?_) | (refine Y_id ?_; first | refine Y_then ?_ | refine Y_then_ret ?_))
    all_goals first
      | exact Y_res2 rfl (.cell tt_ok 0 rfl rfl rfl rfl rfl) (.tmp rfl) (L' := []) (fun _ _ => trivial) ⟨rfl, rfl⟩
      | (exfalso; omega)
      | skip
    
theorem Limit_spec (d : Cd) (y : Ly) (hd : d.In) (hf : y.Fit) (hl : d.ps.length = y.pm) (p : Int) : FnC Try.prog 21 [cfV d y, iV p] (fun h => CfR h d y) (.tuple #[iV (shpE d p).li, iV (thE d p)]) := by
  have hsh := Shape_spec d y hd hf hl p
  obtain ⟨S, hS⟩ : ∃ S, shpE d p = S := ⟨_, rfl⟩
  rw [hS] at hsh ⊢
  refine Ctr.intro Try.func21 rfl rfl (by decide +kernel) fun F hpre => ?_
  repeat' (first | (refine XL_id ?_; first | refine XL_nil ?_ | (refine XG_load ?_; first | refine XL_loadW tt_ok 0 rfl rfl rfl rfl rfl rfl ?_ | refine XL_load tt_ok 0 rfl rfl rfl rfl rfl rfl ?_) | (refine XG_box ?_; (refine XL_box rfl (fun _ => rfl) (fun _ => ?_); refine XL_nB (by repeat' (first | exact .nil | apply NL.cons)) ?_)) | (refine XG_call ?_; refine XL_fn hsh rfl rfl (fun g hg hL => CfR.le hpre hg) ?_) | (refine XG_alloc ?_; (refine XL_alloc tt_ok rfl rfl (fun _ => rfl) (fun b => ?_); refine XL_nB (by repeat' (first | exact .nil | apply NL.cons)) ?_)) | (refine XG_store ?_; (refine XL_storeW tt_ok 0 rfl rfl rfl rfl rfl rfl rfl ?_; refine XL_nK 0 rfl (by repeat' (first | exact .nil | apply NL.cons)) ?_)) | (refine XL_op tt_ok rfl rfl ?_)) | (refine X_id ?_; first | refine X_seq ?_ | (refine X_regionN (by repeat' (first | exact .nil | apply NL.cons)) ?_) | refine X_ret ?_) | (refine Y_id ?_; refine Y_then ?_))
  all_goals first
    | exact Y_fn2 rfl rfl rfl rfl
    | skip
  
end Go.Proofs.Ytpokfingnflblaa
