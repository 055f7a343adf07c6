/- Slices: the program's. -/
import Derived.Test.YthmllhihldbfoaaPlWh
set_option linter.unusedVariables false
namespace Go.Proofs.Ythmllhihldbfoaa.Pl
open Go.RowKit Go.Cof

abbrev swF (d : Cd) : Int := (d.ls * d.lw + d.tl) * d.cs.st
def SliP (d : Cd) : Prop := (1 ≤ d.sl ∧ d.sl ≤ 4194304) ∧ d.pd ≤ 4194304 ∧ d.fi < 1099511627776 ∧ (MachP d → CostP d.cs → swF d ≤ d.pd ∧ ∀ p, p < d.ps.length → partE d p = 0 → mostF d.cs (shF (Cof.get d.ps (p : Int))) ≤ d.sl)
instance (d : Cd) : Decidable (SliP d) := inferInstanceAs (Decidable (_ ∧ _ ∧ _ ∧ (_ → _ → _ ∧ ∀ p, p < _ → _ → _)))
theorem partE_zero {d : Cd} {p : Nat} (h : partE d p = 0) : ColP d p ∧ QuoP d p := by
  unfold partE at h
  split at h
  · split at h
    · exact ⟨by assumption, by assumption⟩
    · exact absurd h (by decide)
  · exact absurd h (by decide)
theorem lw_rng {d : Cd} (hm : MachP d) : 0 ≤ d.ls * d.lw ∧ d.ls * d.lw ≤ 65536 := by
  have h1 := hm.ls
  have h2 := hm.lw
  exact ⟨Int.mul_nonneg (by omega) (by omega), Int.le_trans (Int.mul_le_mul h1.2 h2.2 (by omega) (by decide)) (by decide)⟩
set_option maxHeartbeats 16000000 in
theorem sliced_spec (d : Cd) (y : Ly) (hd : d.In) (hf : y.Fit) (hl : d.ps.length = y.pm) : FnC Try.prog 41 [cfV d y] (fun h => CfR h d y) (.bool (decide (SliP d))) := by
  have hmc := machine_spec d y hd hl
  have hcc := ccheck_spec d.cs hd.cs
  by_cases hb : MachP d ∧ CostP d.cs
  · obtain ⟨hm, hc⟩ := hb
    rw [decide_eq_true hm] at hmc
    rw [costE_ok hc] at hcc
    have hlw := lw_rng hm
    have htl := hm.tl
    have hps := hm.ps
    have hsw := switch_spec d.cs hd.cs (d.ls * d.lw) d.tl hc hlw (by omega)
    obtain ⟨W, hW⟩ : ∃ W, (d.ls * d.lw + d.tl) * d.cs.st = W := ⟨_, rfl⟩
    rw [hW] at hsw
    have hWd : swF d = W := hW
    refine Ctr.intro Try.func41 rfl rfl (by decide +kernel) fun F hpre => ?_
    have hpre : CfR F.heap d y := hpre
    repeat' (first | (refine XL_id ?_; first | refine XL_nil ?_ | refine XL_guard_yes rfl rfl rfl ?_ | refine XL_guard_no rfl rfl rfl rfl rfl ?_ | (refine XG_box ?_; (refine XL_box rfl (fun _ => rfl) (fun bx => ?_); refine XL_nB (by repeat' (first | exact .nil | apply NL.cons)) ?_)) | (refine XG_load ?_; first | refine XL_loadW tt_ok 0 rfl rfl rfl rfl rfl rfl ?_ | refine XL_load tt_ok 0 rfl rfl rfl rfl rfl rfl ?_) | (refine XG_call ?_; first | (refine XL_op tt_ok rfl rfl ?_) | refine XL_fn hmc rfl rfl (fun _ _ _ => trivial) ?_ | refine XL_fn hcc rfl rfl (fun _ _ _ => trivial) ?_ | refine XL_fn hsw rfl rfl (fun _ _ _ => trivial) ?_) | (refine XL_op tt_ok rfl rfl ?_; try (first | refine XL_int (wrap_i64 (by omega) (by omega)) ?_ | refine XL_dec_f (by omega) ?_ | refine XL_dec (fun _ => ?_) (fun _ => ?_)))) | (refine X_id ?_; first | refine X_cutD (c := .block 0 _) [] (fun (_ : Unit) => []) (fun _ => [blk bx (cfL d y) 28]) (fun _ => ∀ p, p < d.ps.length → partE d p = 0 → mostF d.cs (shF (Cof.get d.ps (p : Int))) ≤ d.sl) rfl (X_block (hold ?_)) (fun _ hj => ?_) | refine X_seq ?_ | (refine X_regionN (by repeat' (first | exact .nil | apply NL.cons)) ?_) | refine X_skip ?_ | refine X_ret ?_ | refine X_cond_t rfl ?_ | refine X_cond_f rfl ?_) | (refine Y_id ?_; first | refine Y_then ?_ | refine Y_then_ret ?_))
    all_goals first
      | exact Y_fn1 rfl rfl (bool_f (fun h => by have a := h.1; omega))
      | exact Y_fn1 rfl rfl (bool_f (fun h => by have a := h.2.1; omega))
      | exact Y_fn1 rfl rfl (bool_f (fun h => by have a := h.2.2.1; omega))
      | exact Y_fn1 rfl rfl (bool_f (fun h => by have a := (h.2.2.2 hm hc).1; rw [hWd] at a; omega))
      | exact Y_fn1 rfl rfl (bool_t ⟨by omega, by omega, by omega, fun _ _ => ⟨by rw [hWd]; omega, hj⟩⟩)
      | skip
    · intro _
      refine X_loopD [1, 58] (fun (i : Nat) => [(59, .int .i64 i)]) (fun i => [blk bx (cfL d y) 28]) (fun i => i ≤ y.pm ∧ ∀ p, p < i → partE d p = 0 → mostF d.cs (shF (Cof.get d.ps (p : Int))) ≤ d.sl) (fun i => y.pm - i) 0 rfl ⟨Nat.zero_le _, fun j hj => by omega⟩ (by (repeat' (first | exact trivial | refine And.intro rfl ?_)); done) (fun h hs => hs) ?_
      intro i hi
      obtain ⟨hi, hx⟩ := hi
      by_cases hlt : i < y.pm
      · have hpt := part_spec d y hd hf hl i hlt (by omega)
        by_cases hz : partE d i = 0
        · rw [hz] at hpt
          have hnn : Nine (Cof.get d.ps (i : Int)) := (partE_zero hz).2.1
          have hsh := shape_spec d y i hlt hnn
          have hmo := most_spec d.cs (shF (Cof.get d.ps (i : Int))) hd.cs hc (shF_ok hnn)
          obtain ⟨M, hMo⟩ : ∃ M, mostF d.cs (shF (Cof.get d.ps (i : Int))) = M := ⟨_, rfl⟩
          rw [hMo] at hmo
          repeat' (first | (refine XL_id ?_; first | refine XL_nil ?_ | refine XL_guard_yes rfl rfl rfl ?_ | (refine XG_load ?_; first | refine XL_loadW tt_ok 0 rfl rfl rfl rfl rfl rfl ?_ | refine XL_load tt_ok 0 rfl rfl rfl rfl rfl rfl ?_) | (refine XG_call ?_; first | refine XL_fn hpt rfl rfl (fun g hg hL => CfR.le hpre hg) ?_ | refine XL_fn hsh rfl rfl (fun g hg hL => (CfR.le hpre hFG).le hg) ?_ | refine XL_fn hmo rfl rfl (fun _ _ _ => trivial) ?_) | (refine XL_op tt_ok rfl rfl ?_; try (first | refine XL_int (wrap_i64 (by omega) (by omega)) ?_ | refine XL_dec_t (by omega) ?_ | refine XL_dec_f (by omega) ?_ | refine XL_dec (fun _ => ?_) (fun _ => ?_)))) | (refine XD_id ?_; first | (refine XD_thaw thaw ?_; refine XD_nil ?_) | (refine XD_id ?_; (first | (refine XD_uL rfl ?_; first | refine XD_s rfl rfl rfl (XV_loadW tt_ok rfl (blk_at 0 rfl hM) rfl rfl rfl) rfl ?_ | refine XD_s rfl rfl rfl (XV_load tt_ok rfl (blk_at 0 rfl hM) rfl rfl rfl) rfl ?_) | (refine XD_u rfl rfl ?_; refine XD_s rfl rfl rfl (XV_op tt_ok rfl) rfl ?_))) | refine XD_m rfl rfl ?_) | (refine X_id ?_; first | (refine X_drawS (id := 12) [0, 1, 2, 3, 4, 5, 6, 7, 8, 9, 10] (fun | 4 => .m | 5 => .m | _ => .s) 8 (by repeat' (first | exact Split.nil | apply Split.blk)) mixed (by decide +kernel) ?_; intro G hFG hM thaw; show XD _ _ _ _ _ _ [0, 1, 2, 3, 4, 5, 6, 7, 8, 9, 10] _ _ _) | refine X_seq ?_ | (refine X_regionN (by repeat' (first | exact .nil | apply NL.cons)) ?_) | refine X_skip ?_ | refine X_ret ?_ | refine X_block ?_ | refine X_cond_t rfl ?_ | refine X_cond_f rfl ?_) | (refine Y_id ?_; first | refine Y_then ?_ | refine Y_then_ret ?_ | refine Y_block_normal ?_ | refine Y_block_ret ?_ | refine Y_m ?_))
          all_goals first
            | exact Y_fn1 rfl rfl (bool_f (fun h => by have a := (h.2.2.2 hm hc).2 i (by omega) hz; rw [hMo] at a; omega))
            | exact Y_again (i + 1) fun _ _ hf hs => ⟨⟨hlt, fun p hp hz2 => by by_cases hp2 : p < i; exact hx p hp2 hz2; obtain rfl : p = i := (by omega); rw [hMo]; omega⟩, by show y.pm - (i + 1) < y.pm - i; omega, hf.sub (by (repeat' (first | exact trivial | refine And.intro rfl ?_)); done), hs⟩
            | skip
          
        · repeat' (first | (refine XL_id ?_; first | refine XL_nil ?_ | (refine XG_load ?_; refine XL_loadW tt_ok 0 rfl rfl rfl rfl rfl rfl ?_) | (refine XG_call ?_; refine XL_fn hpt rfl rfl (fun g hg hL => CfR.le hpre hg) ?_) | (refine XL_op tt_ok rfl rfl ?_; try (first | refine XL_int (wrap_i64 (by omega) (by omega)) ?_ | refine XL_dec_t (by omega) ?_))) | (refine X_id ?_; first | refine X_seq ?_ | (refine X_regionN (by repeat' (first | exact .nil | apply NL.cons)) ?_) | refine X_skip ?_ | refine X_exit ?_ | refine X_block ?_ | refine X_cond_t rfl ?_) | (refine Y_id ?_; first | refine Y_then ?_ | refine Y_then_exit ?_ | refine Y_block_hit ?_))
          all_goals first
            | exact Y_again (i + 1) fun _ _ hf hs => ⟨⟨hlt, fun p hp hz2 => by by_cases hp2 : p < i; exact hx p hp2 hz2; obtain rfl : p = i := (by omega); exact absurd hz2 hz⟩, by show y.pm - (i + 1) < y.pm - i; omega, hf.sub (by (repeat' (first | exact trivial | refine And.intro rfl ?_)); done), hs⟩
            | skip
          
      · repeat' (first | (refine XL_id ?_; first | refine XL_nil ?_ | (refine XL_op tt_ok rfl rfl ?_; try (refine XL_dec_f (by omega) ?_))) | (refine X_id ?_; first | refine X_seq ?_ | (refine X_regionN (by repeat' (first | exact .nil | apply NL.cons)) ?_) | refine X_exit ?_ | refine X_cond_f rfl ?_) | (refine Y_id ?_; first | refine Y_then ?_ | refine Y_then_exit ?_ | refine Y_block_hit ?_))
        all_goals first
          | exact Y_again () fun _ _ hf hs => ⟨fun p hp hz => hx p (by omega) hz, hf.sub (by (repeat' (exact trivial)); done), hs⟩
          | (exfalso; omega)
          | skip
        
  · by_cases hm : MachP d
    · rw [decide_eq_true hm] at hmc
      rw [costE_no (fun h => hb ⟨hm, h⟩)] at hcc
      refine Ctr.intro Try.func41 rfl rfl (by decide +kernel) fun F hpre => ?_
      repeat' (first | (refine XL_id ?_; first | refine XL_nil ?_ | refine XL_guard_yes rfl rfl rfl ?_ | refine XL_guard_no rfl rfl rfl rfl rfl ?_ | (refine XG_load ?_; first | refine XL_loadW tt_ok 0 rfl rfl rfl rfl rfl rfl ?_ | refine XL_load tt_ok 0 rfl rfl rfl rfl rfl rfl ?_) | (refine XG_box ?_; (refine XL_box rfl (fun _ => rfl) (fun _ => ?_); refine XL_nB (by repeat' (first | exact .nil | apply NL.cons)) ?_)) | (refine XG_call ?_; first | refine XL_fn hmc rfl rfl (fun _ _ _ => trivial) ?_ | refine XL_fn hcc rfl rfl (fun _ _ _ => trivial) ?_) | (refine XL_op tt_ok rfl rfl ?_; try (first | refine XL_dec_t (by omega) ?_ | refine XL_dec (fun _ => ?_) (fun _ => ?_)))) | (refine X_id ?_; first | refine X_seq ?_ | (refine X_regionN (by repeat' (first | exact .nil | apply NL.cons)) ?_) | refine X_skip ?_ | refine X_ret ?_ | refine X_cond_t rfl ?_ | refine X_cond_f rfl ?_) | (refine Y_id ?_; first | refine Y_then ?_ | refine Y_then_ret ?_))
      all_goals first
        | exact Y_fn1 rfl rfl (bool_f (fun h => by have a := h.1; omega))
        | exact Y_fn1 rfl rfl (bool_f (fun h => by have a := h.2.1; omega))
        | exact Y_fn1 rfl rfl (bool_f (fun h => by have a := h.2.2.1; omega))
        | exact Y_fn1 rfl rfl (bool_t ⟨by omega, by omega, by omega, fun a b => absurd ⟨a, b⟩ hb⟩)
        | skip
      
    · rw [decide_eq_false hm] at hmc
      refine Ctr.intro Try.func41 rfl rfl (by decide +kernel) fun F hpre => ?_
      repeat' (first | (refine XL_id ?_; first | refine XL_nil ?_ | refine XL_guard_yes rfl rfl rfl ?_ | refine XL_guard_no rfl rfl rfl rfl rfl ?_ | (refine XG_load ?_; first | refine XL_loadW tt_ok 0 rfl rfl rfl rfl rfl rfl ?_ | refine XL_load tt_ok 0 rfl rfl rfl rfl rfl rfl ?_) | (refine XG_box ?_; (refine XL_box rfl (fun _ => rfl) (fun _ => ?_); refine XL_nB (by repeat' (first | exact .nil | apply NL.cons)) ?_)) | (refine XG_call ?_; refine XL_fn hmc rfl rfl (fun _ _ _ => trivial) ?_) | (refine XL_op tt_ok rfl rfl ?_; try (refine XL_dec (fun _ => ?_) (fun _ => ?_)))) | (refine X_id ?_; first | refine X_seq ?_ | (refine X_regionN (by repeat' (first | exact .nil | apply NL.cons)) ?_) | refine X_skip ?_ | refine X_ret ?_ | refine X_cond_t rfl ?_ | refine X_cond_f rfl ?_) | (refine Y_id ?_; first | refine Y_then ?_ | refine Y_then_ret ?_))
      all_goals first
        | exact Y_fn1 rfl rfl (bool_f (fun h => by have a := h.1; omega))
        | exact Y_fn1 rfl rfl (bool_f (fun h => by have a := h.2.1; omega))
        | exact Y_fn1 rfl rfl (bool_f (fun h => by have a := h.2.2.1; omega))
        | exact Y_fn1 rfl rfl (bool_t ⟨by omega, by omega, by omega, fun a b => absurd ⟨a, b⟩ hb⟩)
        | skip
      
end Go.Proofs.Ythmllhihldbfoaa.Pl
