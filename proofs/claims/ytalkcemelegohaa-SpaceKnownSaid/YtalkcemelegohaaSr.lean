/- Address spaces: what fits; the program's. -/
import Derived.Test.YtalkcemelegohaaLw
import Derived.Test.YtalkcemelegohaaPlB
set_option linter.unusedVariables false
set_option maxRecDepth 100000
namespace Go.Proofs.Ytalkcemelegohaa
open Go.RowKit Go.Cof
open Pl (Cd Ly CfR cfV thE shpE thE_zero Pt encPt)

def fitP (d : Cd) (p : Int) (n : Nd) : Prop := n.a ≤ 16 ∧ n.a ≤ 4 * (Cof.get d.ps p).s ∧ n.d ≤ 8 * (Cof.get d.ps p).r ∧ n.c ≤ (Cof.get d.ps p).t ∧ n.b ≤ (shpE d p).li
instance (d : Cd) (p : Int) (n : Nd) : Decidable (fitP d p n) := inferInstanceAs (Decidable (_ ∧ _ ∧ _ ∧ _ ∧ _))
def negN (n : Nd) : Prop := n.a < 0 ∨ n.b < 0 ∨ n.c < 0 ∨ n.d < 0
instance (n : Nd) : Decidable (negN n) := inferInstanceAs (Decidable (_ ∨ _ ∨ _ ∨ _))
def fitR (d : Cd) (p : Int) (n : Nd) : Bool × Int := if thE d p ≠ 0 then (false, thE d p) else if negN n then (false, 2) else (decide (fitP d p n), 0)
abbrev ftV (x : Bool × Int) : Value := .tuple #[.bool x.1, iV x.2]
set_option maxHeartbeats 16000000 in
theorem fits_spec (d : Cd) (y : Ly) (hd : d.In) (hf : y.Fit) (hl : d.ps.length = y.pm) (p : Int) (n : Nd) :
    FnC Try.prog 29 [cfV d y, iV p, ndV n.a n.b n.c n.d] (fun h => CfR h d y) (ftV (fitR d p n)) := by
  have hli := Pl.Limit_spec d y hd hf hl p
  unfold fitR
  by_cases hz : thE d p = 0
  · rw [if_neg (by omega)]
    rw [hz] at hli
    obtain ⟨hmay, k, rfl, hk⟩ := thE_zero hz
    have hnine := (hmay.part k hk).2.1
    obtain ⟨li, hL⟩ : ∃ x, (shpE d k).li = x := ⟨_, rfl⟩
    rw [hL] at hli
    have hfp : fitP d k n ↔ n.a ≤ 16 ∧ n.a ≤ 4 * (Cof.get d.ps (k : Int)).s ∧ n.d ≤ 8 * (Cof.get d.ps (k : Int)).r ∧ n.c ≤ (Cof.get d.ps (k : Int)).t ∧ n.b ≤ li := by unfold fitP; rw [hL]
    by_cases hn : negN n
    · rw [if_pos hn]
      unfold negN at hn
      refine Ctr.intro Try.func29 rfl rfl (by decide +kernel) fun F hpre => ?_
      have hpre : CfR F.heap d y := hpre
      repeat' (first | (refine XL_id ?_; first | refine XL_nil ?_ | (refine XG_load ?_; first | refine XL_loadW tt_ok 1 rfl rfl rfl rfl rfl rfl ?_ | refine XL_load tt_ok 0 rfl rfl rfl rfl rfl rfl ?_) | (refine XG_box ?_; (refine XL_box rfl (fun _ => rfl) (fun _ => ?_); refine XL_nB (by repeat' (first | exact .nil | apply NL.cons)) ?_)) | (refine XG_call ?_; first | (refine XL_op tt_ok rfl rfl ?_) | refine XL_fn hli rfl rfl (fun g hg _ => hpre.le hg) ?_) | (refine XL_op tt_ok rfl rfl ?_; try (first | refine XL_dec_t (by omega) ?_ | refine XL_dec_f (by omega) ?_))) | (refine X_id ?_; first | refine X_seq ?_ | (refine X_regionN (by repeat' (first | exact .nil | apply NL.cons)) ?_) | refine X_skip ?_ | refine X_ret ?_ | refine X_cond_t rfl ?_ | refine X_cond_f rfl ?_) | (refine Y_id ?_; first | refine Y_then ?_ | refine Y_then_ret ?_))
      all_goals first
        | exact Y_fn2 rfl rfl rfl rfl
        | (exfalso; omega)
        | skip
      
    · rw [if_neg hn]
      unfold negN at hn
      have hdat : ∀ (F : Hp), CfR F d y → (Cof.get y.ps (k : Int)).d = Cof.get d.ps (k : Int) := fun F r => Pl.get_dat r (by omega)
      have b1 := hnine.s; have b2 := hnine.r; have b3 := hnine.t
      refine Ctr.intro Try.func29 rfl rfl (by decide +kernel) fun F hpre => ?_
      have hpre : CfR F.heap d y := hpre
      have hdk := hdat F.heap hpre
      have r1 := hpre.ps
      have hlen := r1.1
      have w1 := congrArg Pl.Pd.s hdk; have w2 := congrArg Pl.Pd.r hdk; have w3 := congrArg Pl.Pd.t hdk
      repeat' (first | (refine XL_id ?_; first | refine XL_nil ?_ | refine XL_guard_yes rfl rfl rfl ?_ | refine XL_guard_no rfl rfl rfl rfl rfl ?_ | (refine XG_load ?_; first | refine XL_loadW tt_ok 1 rfl rfl rfl rfl rfl rfl ?_ | refine XL_load tt_ok 0 rfl rfl rfl rfl rfl rfl ?_ | refine XL_load tt_ok 1 rfl rfl rfl rfl rfl rfl ?_ | refine XL_elW tt_ok rfl (by assumption) rfl (by omega) (by omega) rfl rfl rfl rfl ?_) | (refine XG_idx ?_; refine XL_idx tt_ok rfl rfl rfl rfl rfl (by assumption) (by omega) (by omega) rfl ?_) | (refine XG_box ?_; (refine XL_box rfl (fun _ => rfl) (fun _ => ?_); refine XL_nB (by repeat' (first | exact .nil | apply NL.cons)) ?_)) | (refine XG_call ?_; first | (refine XL_op tt_ok rfl rfl ?_) | refine XL_fn hli rfl rfl (fun g hg _ => hpre.le hg) ?_) | (refine XG_alloc ?_; (refine XL_alloc tt_ok rfl rfl (fun _ => rfl) (fun b => ?_); refine XL_nB (by repeat' (first | exact .nil | apply NL.cons)) ?_)) | (refine XG_store ?_; (refine XL_storeW tt_ok 0 rfl rfl rfl rfl rfl rfl rfl ?_; refine XL_nK 0 rfl (by repeat' (first | exact .nil | apply NL.cons)) ?_)) | (refine XL_op tt_ok rfl rfl ?_; try (first | refine XL_int (wrap_i64 (by omega) (by omega)) ?_ | refine XL_dec_f (by omega) ?_ | refine XL_dec (fun _ => ?_) (fun _ => ?_)))) | (refine X_id ?_; first | refine X_seq ?_ | (refine X_regionN (by repeat' (first | exact .nil | apply NL.cons)) ?_) | refine X_skip ?_ | refine X_ret ?_ | refine X_cond_f rfl ?_) | (refine Y_id ?_; refine Y_then ?_))
      all_goals first
        | exact Y_fn2 rfl rfl rfl (by rw [decide_eq_true (hfp.2 (by omega))])
        | exact Y_fn2 rfl rfl rfl (by rw [decide_eq_false (fun h => absurd (hfp.1 h) (by omega))])
        | (exfalso; omega)
        | skip
      
  · rw [if_pos (by omega)]
    obtain ⟨e, he⟩ : ∃ x, thE d p = x := ⟨_, rfl⟩
    rw [he] at hz hli ⊢
    refine Ctr.intro Try.func29 rfl rfl (by decide +kernel) fun F hpre => ?_
    have hpre : CfR F.heap d y := hpre
    repeat' (first | (refine XL_id ?_; first | refine XL_nil ?_ | (refine XG_load ?_; refine XL_loadW tt_ok 1 rfl rfl rfl rfl rfl rfl ?_) | (refine XG_box ?_; (refine XL_box rfl (fun _ => rfl) (fun _ => ?_); refine XL_nB (by repeat' (first | exact .nil | apply NL.cons)) ?_)) | (refine XG_call ?_; refine XL_fn hli rfl rfl (fun g hg _ => hpre.le hg) ?_) | (refine XL_op tt_ok rfl rfl ?_; try (refine XL_dec_t (by omega) ?_))) | (refine X_id ?_; first | refine X_seq ?_ | (refine X_regionN (by repeat' (first | exact .nil | apply NL.cons)) ?_) | refine X_ret ?_ | refine X_cond_t rfl ?_) | (refine Y_id ?_; first | refine Y_then ?_ | refine Y_then_ret ?_))
    all_goals first
      | exact Y_fn2 rfl rfl rfl rfl
      | (exfalso; omega)
      | skip
    
end Go.Proofs.Ytalkcemelegohaa
