/- May, there, Total, Shape, Limit, Owner: the program's. -/
import Derived.Test.YthmllhihldbfoaaPlWj
set_option linter.unusedVariables false
namespace Go.Proofs.Ythmllhihldbfoaa.Pl
open Go.RowKit Go.Cof

def MayP (d : Cd) : Prop := chkF d = []
instance (d : Cd) : Decidable (MayP d) := inferInstanceAs (Decidable (_ = _))
theorem may_spec (d : Cd) (y : Ly) (hd : d.In) (hf : y.Fit) (hl : d.ps.length = y.pm) : FnC Try.prog 7 [cfV d y] (fun h => CfR h d y) (.bool (decide (MayP d))) := by
  have hck := check_spec d y hd hf hl
  refine Ctr.intro Try.func7 rfl rfl (by decide +kernel) fun F hpre => ?_
  repeat' (first | (refine XL_id ?_; first | refine XL_nil ?_ | (refine XG_load ?_; refine XL_loadW tt_ok 0 rfl rfl rfl rfl rfl rfl ?_) | (refine XG_box ?_; (refine XL_box rfl (fun _ => rfl) (fun _ => ?_); refine XL_nB (by repeat' (first | exact .nil | apply NL.cons)) ?_)) | (refine XG_call ?_; first | (refine XL_op tt_ok rfl rfl ?_) | (refine XL_callK [] hck rfl rfl (fun _ => rfl) (fun g hg hL => CfR.le hpre hg) (fun u L hv => ?_); obtain ⟨A1, c1, rfl, rfl⟩ := hv)) | (refine XL_op tt_ok rfl rfl ?_; try (refine XL_dec (fun _ => ?_) (fun _ => ?_)))) | (refine X_id ?_; first | refine X_seq ?_ | (refine X_regionN (by repeat' (first | exact .nil | apply NL.cons)) ?_) | refine X_ret ?_) | (refine Y_id ?_; refine Y_then ?_))
  all_goals first
    | exact Y_fn1 rfl rfl (bool_t (List.length_eq_zero_iff.1 (by omega)))
    | exact Y_fn1 rfl rfl (bool_f (fun h => by have a := List.length_eq_zero_iff.2 (show chkF d = [] from h); omega))
    | skip
  
theorem MayP.noNt {b : Bool} {e a : Int} {l : List Fl} (h : nt b e a l = []) : b = true ∧ l = [] := by
  unfold nt at h
  split at h
  · exact ⟨by assumption, h⟩
  · simp at h
theorem parts_nil {d : Cd} : ∀ {n : Nat}, partsF d n = [] → (partsF d 0 = []) ∧ ∀ p, p < n → partE d p = 0
  | 0, h => ⟨h, fun p hp => by omega⟩
  | n + 1, h => by
    obtain ⟨h1, h2⟩ := MayP.noNt (show nt (decide (partE d n = 0)) (partE d n) (4 + n) (partsF d n) = [] from h)
    obtain ⟨h3, h4⟩ := parts_nil h2
    exact ⟨h3, fun p hp => by by_cases hp2 : p < n; exact h4 p hp2; obtain rfl : p = n := (by omega); exact of_decide_eq_true h1⟩
structure MayF (d : Cd) : Prop where
  mach : MachP d
  cost : CostP d.cs
  sli : SliP d
  tur : TurP d
  part : ∀ p, p < d.ps.length → ColP d p ∧ QuoP d p
theorem MayP.all {d : Cd} (h : MayP d) : MayF d := by
  obtain ⟨h0, hp⟩ := parts_nil (show partsF d (min d.ps.length 8) = [] from h)
  obtain ⟨a1, h1⟩ := MayP.noNt (show nt (decide (TurP d)) 112 3 _ = [] from h0)
  obtain ⟨a2, h2⟩ := MayP.noNt h1
  obtain ⟨a3, h3⟩ := MayP.noNt h2
  obtain ⟨a4, h4⟩ := MayP.noNt h3
  have hm : MachP d := of_decide_eq_true a4
  have hps := hm.ps
  exact ⟨hm, of_decide_eq_true a3, of_decide_eq_true a2, of_decide_eq_true a1, fun p hp2 => partE_zero (hp p (by omega))⟩
def thE (d : Cd) (p : Int) : Int := if MayP d then if 0 ≤ p ∧ p < (d.ps.length : Int) then 0 else 270 else 5
end Go.Proofs.Ythmllhihldbfoaa.Pl
