/- Turns and slices: the reference's. -/
import Derived.Test.YtpokfingnflblaaWi
import Derived.Test.YtpokfingnflblaaRa
import Derived.Test.YtpokfingnflblaaRc
set_option linter.unusedVariables false
namespace Go.Proofs.Ytpokfingnflblaa
open Go.RowKit Go.Cof

set_option maxHeartbeats 4000000 in
theorem rturns_spec (d : Cd) (y : Ly) (hf : y.Fit) (hl : d.ps.length = y.pm) : FnC Try.prog 41 [cfV d y] (fun h => CfR h d y) (.bool (decide (¬ TurP d))) := by
  have hcap := hf.cap
  have htf := hf.t
  refine Ctr.intro Try.func41 rfl rfl (by decide +kernel) fun F hpre => ?_
  have hpre : CfR F.heap d y := hpre
  have rt := hpre.tn
  have htl := rt.1
  repeat' (first | (refine XL_id ?_; first | refine XL_nil ?_ | refine XL_guard_yes rfl rfl rfl ?_ | refine XL_guard_no rfl rfl rfl rfl rfl ?_ | (refine XG_box ?_; (refine XL_box rfl (fun _ => rfl) (fun bx => ?_); refine XL_nB (by repeat' (first | exact .nil | apply NL.cons)) ?_)) | (refine XG_load ?_; refine XL_load tt_ok 0 rfl rfl rfl rfl rfl rfl ?_) | (refine XL_op tt_ok rfl rfl ?_; try (refine XL_dec (fun _ => ?_) (fun _ => ?_)))) | (refine X_id ?_; first | refine X_cutD (c := .block 0 _) [] (fun (_ : Unit) => []) (fun _ => [blk bx (cfL d y) 28]) (fun _ => ∀ v, v ∈ d.tn → 0 ≤ v ∧ v < (d.ps.length : Int)) rfl (X_block (hold ?_)) (fun _ hj => ?_) | refine X_seq ?_ | (refine X_regionN (by repeat' (first | exact .nil | apply NL.cons)) ?_) | refine X_skip ?_ | refine X_ret ?_ | refine X_cond_t rfl ?_ | refine X_cond_f rfl ?_) | (refine Y_id ?_; first | refine Y_then ?_ | refine Y_then_ret ?_))
  all_goals first
    | exact Y_fn1 rfl rfl (bool_t (fun h => by have a := h.1; omega))
    | exact Y_fn1 rfl rfl (bool_f (fun h => h ⟨by omega, hj⟩))
    | skip
  · intro _
    refine X_loopD [1] (fun (i : Nat) => [(3, .int .i64 i)]) (fun i => [blk bx (cfL d y) 28]) (fun i => i ≤ y.tm ∧ ∀ j : Nat, j < i → 0 ≤ Cof.get d.tn (j : Int) ∧ Cof.get d.tn (j : Int) < (d.ps.length : Int)) (fun i => y.tm - i) 0 rfl ⟨Nat.zero_le _, fun j hj => by omega⟩ (by (repeat' (first | exact trivial | refine And.intro rfl ?_)); done) (fun h hs => hs) ?_
    intro i hi
    obtain ⟨hi, hx⟩ := hi
    by_cases hlt : i < y.tm
    · have hmem : Cof.get d.tn (i : Int) ∈ d.tn := get_mem' (by omega) (by omega)
      repeat' (first | (refine XL_id ?_; first | refine XL_nil ?_ | (refine XG_load ?_; refine XL_load tt_ok 0 rfl rfl rfl rfl rfl rfl ?_) | (refine XL_op tt_ok rfl rfl ?_; try (first | refine XL_int (wrap_i64 (by omega) (by omega)) ?_ | refine XL_dec_t (by omega) ?_))) | (refine XD_id ?_; first | (refine XD_thaw thaw ?_; refine XD_nil ?_) | refine XD_no rfl rfl rfl rfl rfl rfl ?_ | (refine XD_id ?_; (first | (refine XD_uL rfl ?_; first | refine XD_s rfl rfl rfl (XV_load tt_ok rfl (blk_at 0 rfl hM) rfl rfl rfl) rfl ?_ | refine XD_s rfl rfl rfl (XV_el tt_ok rfl (rdS.le (by assumption) hFG) rfl (by omega) (by omega) rfl rfl rfl) rfl ?_) | (refine XD_uI rfl ?_; refine XD_s rfl rfl rfl (XV_idx tt_ok rfl rfl rfl rfl rfl (rdS.le (by assumption) hFG) (by omega) (by omega)) rfl ?_) | (refine XD_gL rfl ?_; first | refine XD_sy rfl rfl rfl rfl rfl (XV_load tt_ok rfl (blk_at 0 rfl hM) rfl rfl rfl) rfl ?_ | refine XD_sy rfl rfl rfl rfl rfl (XV_el tt_ok rfl (rdS.le (by assumption) hFG) rfl (by omega) (by omega) rfl rfl rfl) rfl ?_) | (refine XD_gI rfl ?_; refine XD_sy rfl rfl rfl rfl rfl (XV_idx tt_ok rfl rfl rfl rfl rfl (rdS.le (by assumption) hFG) (by omega) (by omega)) rfl ?_) | (refine XD_u rfl rfl ?_; refine XD_s rfl rfl rfl (XV_op tt_ok rfl) rfl ?_) | (refine XD_g rfl rfl ?_; refine XD_sy rfl rfl rfl rfl rfl (XV_op tt_ok rfl) rfl ?_)); try (refine XD_dec (fun _ => ?_) (fun _ => ?_)))) | (refine X_id ?_; first | (refine X_drawS (id := 6) [0, 1, 2, 3, 4, 5, 6, 7, 8, 9, 10, 11, 12, 13, 14, 15, 16] (fun _ => .s) 8 (by repeat' (first | exact Split.nil | apply Split.blk)) mixed (by decide +kernel) ?_; intro G hFG hM thaw; show XD _ _ _ _ _ _ [0, 1, 2, 3, 4, 5, 6, 7, 8, 9, 10, 11, 12, 13, 14, 15, 16] _ _ _) | refine X_seq ?_ | (refine X_regionN (by repeat' (first | exact .nil | apply NL.cons)) ?_) | refine X_skip ?_ | refine X_ret ?_ | refine X_block ?_ | refine X_cond_t rfl ?_ | refine X_cond_f rfl ?_) | (refine Y_id ?_; first | refine Y_then ?_ | refine Y_then_ret ?_ | refine Y_block_normal ?_ | refine Y_block_ret ?_))
      all_goals first
        | exact Y_fn1 rfl rfl (bool_t (fun h => by have a := h.2 _ hmem; omega))
        | exact Y_again (i + 1) fun _ _ hf hs => ⟨⟨hlt, fun j hj => by by_cases hj2 : j < i; exact hx j hj2; obtain rfl : j = i := (by omega); omega⟩, by show y.tm - (i + 1) < y.tm - i; omega, hf.sub (by (repeat' (first | exact trivial | refine And.intro rfl ?_)); done), hs⟩
        | (exfalso; omega)
        | skip
      
    · repeat' (first | (refine XL_id ?_; first | refine XL_nil ?_ | (refine XG_load ?_; refine XL_load tt_ok 0 rfl rfl rfl rfl rfl rfl ?_) | (refine XL_op tt_ok rfl rfl ?_; try (refine XL_dec_f (by omega) ?_))) | (refine X_id ?_; first | refine X_seq ?_ | (refine X_regionN (by repeat' (first | exact .nil | apply NL.cons)) ?_) | refine X_exit ?_ | refine X_cond_f rfl ?_) | (refine Y_id ?_; first | refine Y_then ?_ | refine Y_then_exit ?_ | refine Y_block_hit ?_))
      all_goals first
        | exact Y_again () fun _ _ hf hs => ⟨fun v hv => by
            obtain ⟨j, hj, rfl⟩ := List.getElem_of_mem hv
            have := hx j (by omega)
            rwa [get_nat, List.getD_eq_getElem?_getD, List.getElem?_eq_getElem hj] at this, hf.sub (by (repeat' (exact trivial)); done), hs⟩
        | (exfalso; omega)
        | skip
      
theorem rmost_spec (x : Cs) (s : Sh) (hc : CostP x) (hs : ShP s) : FnC Try.prog 65 [csV x, shV s] (fun _ => True) (.tuple #[uV (mostF x s), iV 0]) :=
  rmost_walk (nums hc hs) hs.us hs.li hs.no hc hs
set_option maxHeartbeats 16000000 in
theorem rslices_spec (d : Cd) (y : Ly) (hd : d.In) (hf : y.Fit) (hl : d.ps.length = y.pm) : FnC Try.prog 40 [cfV d y] (fun h => CfR h d y) (.bool (decide (¬ SliP d))) := by
  have hmc := rmachine_spec d y hd hl
  have hcc := rcheck_spec d.cs
  by_cases hb : MachP d ∧ CostP d.cs
  · obtain ⟨hm, hc⟩ := hb
    rw [decide_eq_false (fun h => h hm)] at hmc
    rw [costE_ok hc] at hcc
    have hlw := lw_rng hm
    have htl := hm.tl
    have hps := hm.ps
    have hsw := rswitch_spec d.cs (d.ls * d.lw) d.tl hc hlw (by omega)
    obtain ⟨W, hW⟩ : ∃ W, (d.ls * d.lw + d.tl) * d.cs.st = W := ⟨_, rfl⟩
    rw [hW] at hsw
    have hWd : swF d = W := hW
    refine Ctr.intro Try.func40 rfl rfl (by decide +kernel) fun F hpre => ?_
    have hpre : CfR F.heap d y := hpre
    repeat' (first | (refine XL_id ?_; first | refine XL_nil ?_ | refine XL_guard_yes rfl rfl rfl ?_ | refine XL_guard_no rfl rfl rfl rfl rfl ?_ | (refine XG_box ?_; (refine XL_box rfl (fun _ => rfl) (fun bx => ?_); refine XL_nB (by repeat' (first | exact .nil | apply NL.cons)) ?_)) | (refine XG_load ?_; first | refine XL_loadW tt_ok 0 rfl rfl rfl rfl rfl rfl ?_ | refine XL_load tt_ok 0 rfl rfl rfl rfl rfl rfl ?_) | (refine XG_call ?_; first | refine XL_fn hmc rfl rfl (fun _ _ _ => trivial) ?_ | refine XL_fn hcc rfl rfl (fun _ _ _ => trivial) ?_ | refine XL_fn hsw rfl rfl (fun _ _ _ => trivial) ?_) | (refine XL_op tt_ok rfl rfl ?_; try (first | refine XL_int (wrap_i64 (by omega) (by omega)) ?_ | refine XL_dec_f (by omega) ?_ | refine XL_dec (fun _ => ?_) (fun _ => ?_)))) | (refine X_id ?_; first | refine X_cutD (c := .block 0 _) [] (fun (_ : Unit) => []) (fun _ => [blk bx (cfL d y) 28]) (fun _ => ∀ p, p < d.ps.length → partE d p = 0 → mostF d.cs (shF (Cof.get d.ps (p : Int))) ≤ d.sl) rfl (X_block (hold ?_)) (fun _ hj => ?_) | refine X_seq ?_ | (refine X_regionN (by repeat' (first | exact .nil | apply NL.cons)) ?_) | refine X_skip ?_ | refine X_ret ?_ | refine X_cond_t rfl ?_ | refine X_cond_f rfl ?_) | (refine Y_id ?_; first | refine Y_then ?_ | refine Y_then_ret ?_))
    all_goals first
      | exact Y_fn1 rfl rfl (bool_t (fun h => by have a := h.1; omega))
      | exact Y_fn1 rfl rfl (bool_t (fun h => by have a := h.2.1; omega))
      | exact Y_fn1 rfl rfl (bool_t (fun h => by have a := h.2.2.1; omega))
      | exact Y_fn1 rfl rfl (bool_t (fun h => by have a := (h.2.2.2 hm hc).1; rw [hWd] at a; omega))
      | exact Y_fn1 rfl rfl (bool_f (fun hh => hh ⟨by omega, by omega, by omega, fun _ _ => ⟨by rw [hWd]; omega, hj⟩⟩))
      | skip
    · intro _
      refine X_loopD [1] (fun (i : Nat) => [(5, .int .i64 i)]) (fun i => [blk bx (cfL d y) 28]) (fun i => i ≤ y.pm ∧ ∀ p, p < i → partE d p = 0 → mostF d.cs (shF (Cof.get d.ps (p : Int))) ≤ d.sl) (fun i => y.pm - i) 0 rfl ⟨Nat.zero_le _, fun j hj => by omega⟩ (by (repeat' (first | exact trivial | refine And.intro rfl ?_)); done) (fun h hs => hs) ?_
      intro i hi
      obtain ⟨hi, hx⟩ := hi
      by_cases hlt : i < y.pm
      · have hpt := rpart_spec d y hd hf hl i hlt (by omega)
        by_cases hz : partE d i = 0
        · rw [hz] at hpt
          have hnn : Nine (Cof.get d.ps (i : Int)) := (partE_zero hz).2.1
          have hsh := rshape_spec d y i hlt hnn
          have hmo := rmost_spec d.cs (shF (Cof.get d.ps (i : Int))) hc (shF_ok hnn)
          obtain ⟨M, hMo⟩ : ∃ M, mostF d.cs (shF (Cof.get d.ps (i : Int))) = M := ⟨_, rfl⟩
          rw [hMo] at hmo
          repeat' (first | (refine XL_id ?_; first | refine XL_nil ?_ | (refine XG_load ?_; first | refine XL_loadW tt_ok 0 rfl rfl rfl rfl rfl rfl ?_ | refine XL_load tt_ok 0 rfl rfl rfl rfl rfl rfl ?_) | (refine XG_call ?_; first | (refine XL_op tt_ok rfl rfl ?_) | refine XL_fn hpt rfl rfl (fun g hg hL => CfR.le hpre hg) ?_ | refine XL_fn hsh rfl rfl (fun g hg hL => (CfR.le hpre hFG).le hg) ?_ | refine XL_fn hmo rfl rfl (fun _ _ _ => trivial) ?_) | (refine XL_op tt_ok rfl rfl ?_; try (first | refine XL_int (wrap_i64 (by omega) (by omega)) ?_ | refine XL_dec_t (by omega) ?_ | refine XL_dec (fun _ => ?_) (fun _ => ?_)))) | (refine XD_id ?_; first | (refine XD_thaw thaw ?_; refine XD_nil ?_) | (refine XD_id ?_; (first | (refine XD_uL rfl ?_; first | refine XD_s rfl rfl rfl (XV_loadW tt_ok rfl (blk_at 0 rfl hM) rfl rfl rfl) rfl ?_ | refine XD_s rfl rfl rfl (XV_load tt_ok rfl (blk_at 0 rfl hM) rfl rfl rfl) rfl ?_) | (refine XD_u rfl rfl ?_; refine XD_s rfl rfl rfl (XV_op tt_ok rfl) rfl ?_))) | refine XD_m rfl rfl ?_) | (refine X_id ?_; first | (refine X_drawS (id := 12) [0, 1, 2, 3, 4, 5, 6, 7, 8, 9, 10] (fun | 4 => .m | 5 => .m | _ => .s) 8 (by repeat' (first | exact Split.nil | apply Split.blk)) mixed (by decide +kernel) ?_; intro G hFG hM thaw; show XD _ _ _ _ _ _ [0, 1, 2, 3, 4, 5, 6, 7, 8, 9, 10] _ _ _) | refine X_seq ?_ | (refine X_regionN (by repeat' (first | exact .nil | apply NL.cons)) ?_) | refine X_skip ?_ | refine X_ret ?_ | refine X_block ?_ | refine X_cond_t rfl ?_ | refine X_cond_f rfl ?_) | (refine Y_id ?_; first | refine Y_then ?_ | refine Y_then_ret ?_ | refine Y_block_normal ?_ | refine Y_block_ret ?_ | refine Y_m ?_))
          all_goals first
            | exact Y_fn1 rfl rfl (bool_t (fun h => by have a := (h.2.2.2 hm hc).2 i (by omega) hz; rw [hMo] at a; omega))
            | exact Y_again (i + 1) fun _ _ hf hs => ⟨⟨hlt, fun p hp hz2 => by by_cases hp2 : p < i; exact hx p hp2 hz2; obtain rfl : p = i := (by omega); rw [hMo]; omega⟩, by show y.pm - (i + 1) < y.pm - i; omega, hf.sub (by (repeat' (first | exact trivial | refine And.intro rfl ?_)); done), hs⟩
            | skip
          
        · repeat' (first | (refine XL_id ?_; first | refine XL_nil ?_ | (refine XG_load ?_; first | refine XL_loadW tt_ok 0 rfl rfl rfl rfl rfl rfl ?_ | refine XL_load tt_ok 0 rfl rfl rfl rfl rfl rfl ?_) | (refine XG_call ?_; first | (refine XL_op tt_ok rfl rfl ?_) | refine XL_fn hpt rfl rfl (fun g hg hL => CfR.le hpre hg) ?_) | (refine XL_op tt_ok rfl rfl ?_; try (first | refine XL_int (wrap_i64 (by omega) (by omega)) ?_ | refine XL_dec_t (by omega) ?_ | refine XL_dec_f (by omega) ?_))) | (refine X_id ?_; first | refine X_seq ?_ | (refine X_regionN (by repeat' (first | exact .nil | apply NL.cons)) ?_) | refine X_skip ?_ | refine X_block ?_ | refine X_cond_t rfl ?_ | refine X_cond_f rfl ?_) | (refine Y_id ?_; first | refine Y_then ?_ | refine Y_block_normal ?_))
          all_goals first
            | exact Y_again (i + 1) fun _ _ hf hs => ⟨⟨hlt, fun p hp hz2 => by by_cases hp2 : p < i; exact hx p hp2 hz2; obtain rfl : p = i := (by omega); exact absurd hz2 hz⟩, by show y.pm - (i + 1) < y.pm - i; omega, hf.sub (by (repeat' (first | exact trivial | refine And.intro rfl ?_)); done), hs⟩
            | skip
          
      · repeat' (first | (refine XL_id ?_; first | refine XL_nil ?_ | (refine XG_load ?_; refine XL_load tt_ok 0 rfl rfl rfl rfl rfl rfl ?_) | (refine XL_op tt_ok rfl rfl ?_; try (refine XL_dec_f (by omega) ?_))) | (refine X_id ?_; first | refine X_seq ?_ | (refine X_regionN (by repeat' (first | exact .nil | apply NL.cons)) ?_) | refine X_exit ?_ | refine X_cond_f rfl ?_) | (refine Y_id ?_; first | refine Y_then ?_ | refine Y_then_exit ?_ | refine Y_block_hit ?_))
        all_goals first
          | exact Y_again () fun _ _ hf hs => ⟨fun p hp hz => hx p (by omega) hz, hf.sub (by (repeat' (exact trivial)); done), hs⟩
          | (exfalso; omega)
          | skip
        
  · by_cases hm : MachP d
    · rw [decide_eq_false (fun h => h hm)] at hmc
      rw [costE_no (fun h => hb ⟨hm, h⟩)] at hcc
      refine Ctr.intro Try.func40 rfl rfl (by decide +kernel) fun F hpre => ?_
      repeat' (first | (refine XL_id ?_; first | refine XL_nil ?_ | refine XL_guard_yes rfl rfl rfl ?_ | refine XL_guard_no rfl rfl rfl rfl rfl ?_ | (refine XG_load ?_; first | refine XL_loadW tt_ok 0 rfl rfl rfl rfl rfl rfl ?_ | refine XL_load tt_ok 0 rfl rfl rfl rfl rfl rfl ?_) | (refine XG_box ?_; (refine XL_box rfl (fun _ => rfl) (fun _ => ?_); refine XL_nB (by repeat' (first | exact .nil | apply NL.cons)) ?_)) | (refine XG_call ?_; first | refine XL_fn hmc rfl rfl (fun _ _ _ => trivial) ?_ | refine XL_fn hcc rfl rfl (fun _ _ _ => trivial) ?_) | (refine XL_op tt_ok rfl rfl ?_; try (first | refine XL_dec_t (by omega) ?_ | refine XL_dec (fun _ => ?_) (fun _ => ?_)))) | (refine X_id ?_; first | refine X_seq ?_ | (refine X_regionN (by repeat' (first | exact .nil | apply NL.cons)) ?_) | refine X_skip ?_ | refine X_ret ?_ | refine X_cond_t rfl ?_ | refine X_cond_f rfl ?_) | (refine Y_id ?_; first | refine Y_then ?_ | refine Y_then_ret ?_))
      all_goals first
        | exact Y_fn1 rfl rfl (bool_t (fun h => by have a := h.1; omega))
        | exact Y_fn1 rfl rfl (bool_t (fun h => by have a := h.2.1; omega))
        | exact Y_fn1 rfl rfl (bool_t (fun h => by have a := h.2.2.1; omega))
        | exact Y_fn1 rfl rfl (bool_f (fun hh => hh ⟨by omega, by omega, by omega, fun a b => absurd ⟨a, b⟩ hb⟩))
        | skip
      
    · rw [decide_eq_true hm] at hmc
      refine Ctr.intro Try.func40 rfl rfl (by decide +kernel) fun F hpre => ?_
      repeat' (first | (refine XL_id ?_; first | refine XL_nil ?_ | refine XL_guard_yes rfl rfl rfl ?_ | refine XL_guard_no rfl rfl rfl rfl rfl ?_ | (refine XG_load ?_; first | refine XL_loadW tt_ok 0 rfl rfl rfl rfl rfl rfl ?_ | refine XL_load tt_ok 0 rfl rfl rfl rfl rfl rfl ?_) | (refine XG_box ?_; (refine XL_box rfl (fun _ => rfl) (fun _ => ?_); refine XL_nB (by repeat' (first | exact .nil | apply NL.cons)) ?_)) | (refine XG_call ?_; refine XL_fn hmc rfl rfl (fun _ _ _ => trivial) ?_) | (refine XL_op tt_ok rfl rfl ?_; try (refine XL_dec (fun _ => ?_) (fun _ => ?_)))) | (refine X_id ?_; first | refine X_seq ?_ | (refine X_regionN (by repeat' (first | exact .nil | apply NL.cons)) ?_) | refine X_skip ?_ | refine X_ret ?_ | refine X_cond_t rfl ?_ | refine X_cond_f rfl ?_) | (refine Y_id ?_; first | refine Y_then ?_ | refine Y_then_ret ?_))
      all_goals first
        | exact Y_fn1 rfl rfl (bool_t (fun h => by have a := h.1; omega))
        | exact Y_fn1 rfl rfl (bool_t (fun h => by have a := h.2.1; omega))
        | exact Y_fn1 rfl rfl (bool_t (fun h => by have a := h.2.2.1; omega))
        | exact Y_fn1 rfl rfl (bool_f (fun hh => hh ⟨by omega, by omega, by omega, fun a b => absurd ⟨a, b⟩ hb⟩))
        | skip
      
end Go.Proofs.Ytpokfingnflblaa
