/- The quotas of a part, its code and shape: the reference's. -/
import Derived.Test.YtpokfingnflblaaWg
import Derived.Test.YtpokfingnflblaaRb
set_option linter.unusedVariables false
namespace Go.Proofs.Ytpokfingnflblaa
open Go.RowKit Go.Cof

set_option maxHeartbeats 16000000 in
theorem rquotas_spec (d : Cd) (y : Ly) (hd : d.In) (hf : y.Fit) (hl : d.ps.length = y.pm) (p : Nat) (hp : p < y.pm) (hp8 : p < 8) (hc : ColP d p) : FnC Try.prog 67 [cfV d y, iV p] (fun h => CfR h d y) (.bool (decide (¬ QuoP d p))) := by
  have hmc := rmachine_spec d y hd hl
  have hsr := slF_rng d (p + 1)
  refine Ctr.intro Try.func67 rfl rfl (by decide +kernel) fun F hpre => ?_
  have hpre : CfR F.heap d y := hpre
  have r1 := hpre.ps
  have hdat := get_dat hpre hp
  have hcap := hf.cap
  have hml : (Cof.get y.ps (p : Int)).m = (Cof.get d.ps (p : Int)).xs.length := by rw [(hpre.xs _ (get_memN hpre hp)).1, hdat]
  repeat' (first | (refine XL_id ?_; first | refine XL_nil ?_ | refine XL_guard_yes rfl rfl rfl ?_ | refine XL_guard_no rfl rfl rfl rfl rfl ?_ | (refine XG_box ?_; (refine XL_box rfl (fun _ => rfl) (fun bx => ?_); refine XL_nB (by repeat' (first | exact .nil | apply NL.cons)) ?_)) | (refine XG_load ?_; first | refine XL_load tt_ok 0 rfl rfl rfl rfl rfl rfl ?_ | refine XL_elW tt_ok rfl (by assumption) rfl (by omega) (by omega) rfl rfl rfl rfl ?_) | (refine XG_idx ?_; refine XL_idx tt_ok rfl rfl rfl rfl rfl (by assumption) (by omega) (by omega) rfl ?_) | (refine XG_call ?_; (refine XL_fn (qwithin_spec _ _ _) rfl rfl (fun _ _ _ => trivial) ?_; refine XL_dec (fun _ => ?_) (fun _ => ?_))) | (refine XG_alloc ?_; (refine XL_alloc tt_ok rfl rfl (fun _ => rfl) (fun b => ?_); refine XL_nB (by repeat' (first | exact .nil | apply NL.cons)) ?_)) | (refine XG_store ?_; (refine XL_storeW tt_ok 0 rfl rfl rfl rfl rfl rfl rfl ?_; refine XL_nK 0 rfl (by repeat' (first | exact .nil | apply NL.cons)) ?_)) | (refine XL_op tt_ok rfl rfl ?_)) | (refine X_id ?_; first | refine X_cutD (c := .block 0 _) [2, 5] (fun (_ : Unit) => [(6, iV (slF d (p + 1)))]) (fun _ => [blk b (ptL (Cof.get y.ps (p : Int))) 41, blk bx (cfL d y) 28]) (fun _ => True) rfl (X_block (hold ?_)) (fun _ _ => hold ?_) | refine X_seq ?_ | (refine X_regionN (by repeat' (first | exact .nil | apply NL.cons)) ?_) | refine X_skip ?_ | refine X_ret ?_ | refine X_cond_t rfl ?_ | refine X_cond_f rfl ?_) | (refine Y_id ?_; first | refine Y_then ?_ | refine Y_then_ret ?_))
  all_goals first
    | exact Y_fn1 rfl rfl (bool_t (fun h => by have a := QuoP.nine hdat h; omega))
    | skip
  · intro _
    refine X_loopD [1, 2, 5] (fun (k : Nat) => [(7, .int .i64 k), (6, iV (slF d k))]) (fun _ => [blk b (ptL (Cof.get y.ps (p : Int))) 41, blk bx (cfL d y) 28]) (fun k => k ≤ p + 1) (fun k => p + 1 - k) 0 rfl (Nat.zero_le _) (by (repeat' (first | exact trivial | refine And.intro rfl ?_)); done) (fun h hs => hs) ?_
    intro k hk
    have hk : k ≤ p + 1 := hk
    have hks := slF_rng d k
    by_cases hkp : k < p + 1
    · have hkm : k < y.pm := by omega
      have hkd := get_dat hpre hkm
      by_cases hin : 1 ≤ (Cof.get y.ps (k : Int)).d.k ∧ (Cof.get y.ps (k : Int)).d.k ≤ 1024
      · obtain ⟨S1, hS1⟩ : ∃ S1, slF d (k + 1) = S1 := ⟨_, rfl⟩
        have hst : slF d k + (Cof.get y.ps (k : Int)).d.k = S1 := by rw [hkd] at hin ⊢; rw [← hS1]; exact slF_t hin
        repeat' (first | (refine XL_id ?_; first | refine XL_nil ?_ | (refine XG_load ?_; first | refine XL_load tt_ok 1 rfl rfl rfl rfl rfl rfl ?_ | refine XL_elf tt_ok rfl (by assumption) rfl (by omega) (by omega) rfl rfl rfl rfl ?_) | (refine XG_idx ?_; refine XL_idx tt_ok rfl rfl rfl rfl rfl (by assumption) (by omega) (by omega) rfl ?_) | (refine XG_call ?_; (refine XL_fn (qwithin_spec _ _ _) rfl rfl (fun _ _ _ => trivial) ?_; refine XL_dec_t (by omega) ?_)) | (refine XL_op tt_ok rfl rfl ?_; refine XL_int (Eq.trans (wrap_i64 (by omega) (by omega)) hst) ?_) | (refine XL_op tt_ok rfl rfl ?_; try (first | refine XL_int (wrap_i64 (by omega) (by omega)) ?_ | refine XL_dec_t (by omega) ?_))) | (refine X_id ?_; first | refine X_seq ?_ | (refine X_regionN (by repeat' (first | exact .nil | apply NL.cons)) ?_) | refine X_skip ?_ | refine X_block ?_ | refine X_cond_t rfl ?_) | (refine Y_id ?_; first | refine Y_then ?_ | refine Y_block_normal ?_))
        all_goals first
          | (subst hS1; exact Y_again (k + 1) fun _ _ hf hs => ⟨hkp, by show p + 1 - (k + 1) < p + 1 - k; omega, hf.sub (by (repeat' (first | exact trivial | refine And.intro rfl ?_)); done), hs⟩)
          | (exfalso; omega)
          | skip
        
      · have hst : slF d k = slF d (k + 1) := by rw [hkd] at hin; exact slF_f hin
        repeat' (first | (refine XL_id ?_; first | refine XL_nil ?_ | (refine XG_load ?_; first | refine XL_load tt_ok 1 rfl rfl rfl rfl rfl rfl ?_ | refine XL_elf tt_ok rfl (by assumption) rfl (by omega) (by omega) rfl rfl rfl rfl ?_) | (refine XG_idx ?_; refine XL_idx tt_ok rfl rfl rfl rfl rfl (by assumption) (by omega) (by omega) rfl ?_) | (refine XG_call ?_; (refine XL_fn (qwithin_spec _ _ _) rfl rfl (fun _ _ _ => trivial) ?_; refine XL_dec_f (by omega) ?_)) | (refine XL_op tt_ok rfl rfl ?_; try (first | refine XL_int (wrap_i64 (by omega) (by omega)) ?_ | refine XL_dec_t (by omega) ?_))) | (refine X_id ?_; first | refine X_seq ?_ | (refine X_regionN (by repeat' (first | exact .nil | apply NL.cons)) ?_) | refine X_skip ?_ | refine X_block ?_ | refine X_cond_t rfl ?_ | refine X_cond_f rfl ?_) | (refine Y_id ?_; first | refine Y_then ?_ | refine Y_block_normal ?_))
        all_goals first
          | (rw [hst]; exact Y_again (k + 1) fun _ _ hf hs => ⟨hkp, by show p + 1 - (k + 1) < p + 1 - k; omega, hf.sub (by (repeat' (first | exact trivial | refine And.intro rfl ?_)); done), hs⟩)
          | (exfalso; omega)
          | skip
        
    · obtain rfl : k = p + 1 := by omega
      repeat' (first | (refine XL_id ?_; first | refine XL_nil ?_ | (refine XL_op tt_ok rfl rfl ?_; try (refine XL_dec_f (by omega) ?_))) | (refine X_id ?_; first | refine X_seq ?_ | (refine X_regionN (by repeat' (first | exact .nil | apply NL.cons)) ?_) | refine X_exit ?_ | refine X_cond_f rfl ?_) | (refine Y_id ?_; first | refine Y_then ?_ | refine Y_then_exit ?_ | refine Y_block_hit ?_))
      all_goals first
        | exact Y_again () fun _ _ hf hs => ⟨trivial, hf.sub (by (repeat' (first | exact trivial | refine And.intro rfl ?_)); done), hs⟩
        | (exfalso; omega)
        | skip
      
  · intro _
    refine Y_then ?_
    by_cases hm : MachP d
    · have hr1 : 0 ≤ d.fr.tdiv d.co ∧ d.fr.tdiv d.co ≤ 4096 := eaF_rng hm
      have hr2 : 0 ≤ ((Cof.get y.ps (p : Int)).m : Int) * d.fr.tdiv d.co ∧ ((Cof.get y.ps (p : Int)).m : Int) * d.fr.tdiv d.co ≤ 65536 := by rw [hml]; exact toF_rng hm hc
      have hco := hm.co
      have hne : d.co ≠ 0 := by omega
      have him := imF_rng (Cof.get y.ps (p : Int)).d.o
      have hbig : QuoP d p → imF (Cof.get y.ps (p : Int)).d.o ≤ d.fr.tdiv d.co ∧ imF (Cof.get y.ps (p : Int)).d.o + (Cof.get y.ps (p : Int)).d.u + (Cof.get y.ps (p : Int)).d.t + (Cof.get y.ps (p : Int)).d.s + (Cof.get y.ps (p : Int)).d.r + (Cof.get y.ps (p : Int)).d.d ≤ ((Cof.get y.ps (p : Int)).m : Int) * d.fr.tdiv d.co := fun h => by rw [hml]; exact QuoP.big hdat hm h
      have hof : Nine (Cof.get y.ps (p : Int)).d → slF d (p + 1) ≤ 1024 → (imF (Cof.get y.ps (p : Int)).d.o ≤ d.fr.tdiv d.co ∧ imF (Cof.get y.ps (p : Int)).d.o + (Cof.get y.ps (p : Int)).d.u + (Cof.get y.ps (p : Int)).d.t + (Cof.get y.ps (p : Int)).d.s + (Cof.get y.ps (p : Int)).d.r + (Cof.get y.ps (p : Int)).d.d ≤ ((Cof.get y.ps (p : Int)).m : Int) * d.fr.tdiv d.co) → QuoP d p := fun a b c => QuoP.of hdat a b (fun _ => by rw [hml] at c; exact c)
      have hsh := @shl_im (Cof.get y.ps (p : Int)).d.o (by omega)
      obtain ⟨I, hI⟩ : ∃ I, imF (Cof.get y.ps (p : Int)).d.o = I := ⟨_, rfl⟩
      rw [hI] at him hsh hbig hof
      have hmc2 : FnC Try.prog 38 [cfV d y] (fun _ => True) (.bool false) := by rwa [decide_eq_false (fun h => h hm)] at hmc
      repeat' (first | (refine XL_id ?_; first | refine XL_nil ?_ | (refine XG_load ?_; refine XL_load tt_ok 0 rfl rfl rfl rfl rfl rfl ?_) | (refine XG_call ?_; refine XL_fn hmc2 rfl rfl (fun _ _ _ => trivial) ?_) | (refine XL_op tt_ok (opV_shl rfl rfl (by omega)) rfl ?_; refine XL_int hsh ?_) | (refine XL_op tt_ok rfl rfl ?_; try (refine XL_dec (fun _ => ?_) (fun _ => ?_)))) | (refine XD_id ?_; first | (refine XD_thaw thaw ?_; refine XD_nil ?_) | refine XD_no rfl rfl rfl rfl rfl rfl ?_ | (refine XD_id ?_; (first | (refine XD_uL rfl ?_; refine XD_s rfl rfl rfl (XV_loadW tt_ok rfl (blk_at 1 rfl hM) rfl rfl rfl) rfl ?_) | (refine XD_gL rfl ?_; first | refine XD_sy rfl rfl rfl rfl rfl (XV_load tt_ok rfl (blk_at 0 rfl hM) rfl rfl rfl) rfl ?_ | refine XD_sy rfl rfl rfl rfl rfl (XV_load tt_ok rfl (blk_at 1 rfl hM) rfl rfl rfl) rfl ?_) | (refine XD_u rfl rfl ?_; refine XD_s rfl rfl rfl (XV_op tt_ok rfl) rfl ?_) | (refine XD_g rfl rfl ?_; first | refine XD_sy rfl rfl rfl rfl rfl (XV_op tt_ok rfl) rfl ?_ | refine XD_sy rfl rfl rfl rfl rfl (XV_op tt_ok (opV_quo rfl rfl hne)) rfl ?_)); try (first | refine XD_int (wrap_i64 (by omega) (by omega)) ?_ | refine XD_dec (fun _ => ?_) (fun _ => ?_))) | refine XD_m rfl rfl ?_) | (refine X_id ?_; first | (refine X_drawS (id := 13) [0, 1, 2, 3, 4, 5, 6, 7, 8, 9, 10, 11, 12, 13, 14, 15, 16, 17, 18, 19, 20, 21, 22, 23, 24, 25, 26, 27, 28, 29, 30, 31, 32, 33, 34, 35, 36, 37, 38, 39, 40] (fun | 1 => .m | _ => .s) 8 (by repeat' (first | exact Split.nil | apply Split.blk)) mixed (by decide +kernel) ?_; intro G hFG hM thaw; show XD _ _ _ _ _ _ [0, 1, 2, 3, 4, 5, 6, 7, 8, 9, 10, 11, 12, 13, 14, 15, 16, 17, 18, 19, 20, 21, 22, 23, 24, 25, 26, 27, 28, 29, 30, 31, 32, 33, 34, 35, 36, 37, 38, 39, 40] _ _ _) | refine X_seq ?_ | (refine X_regionN (by repeat' (first | exact .nil | apply NL.cons)) ?_) | refine X_skip ?_ | refine X_ret ?_ | refine X_cond_t rfl ?_ | refine X_cond_f rfl ?_) | (refine Y_id ?_; first | refine Y_then ?_ | refine Y_then_ret ?_ | refine Y_m ?_))
      all_goals first
        | exact Y_fn1 rfl rfl (bool_f (fun hh => hh (hof ((Nine.iff _).2 (by omega)) (by omega) (by omega))))
        | exact Y_fn1 rfl rfl (bool_t (fun h => by have a := hbig h; omega))
        | exact Y_fn1 rfl rfl (bool_t (fun h => by have a := h.2.1; omega))
        | skip
      
    · have hmc2 : FnC Try.prog 38 [cfV d y] (fun _ => True) (.bool true) := by rwa [decide_eq_true hm] at hmc
      have hsh := @shl_im (Cof.get y.ps (p : Int)).d.o (by omega)
      repeat' (first | (refine XL_id ?_; first | refine XL_nil ?_ | (refine XG_load ?_; refine XL_load tt_ok 0 rfl rfl rfl rfl rfl rfl ?_) | (refine XG_call ?_; refine XL_fn hmc2 rfl rfl (fun _ _ _ => trivial) ?_) | (refine XL_op tt_ok (opV_shl rfl rfl (by omega)) rfl ?_; refine XL_int hsh ?_) | (refine XL_op tt_ok rfl rfl ?_; try (refine XL_dec (fun _ => ?_) (fun _ => ?_)))) | (refine XD_id ?_; first | (refine XD_thaw thaw ?_; refine XD_nil ?_) | refine XD_no rfl rfl rfl rfl rfl rfl ?_ | refine XD_nou rfl rfl rfl rfl rfl ?_ | (refine XD_id ?_; (first | (refine XD_uL rfl ?_; refine XD_s rfl rfl rfl (XV_loadW tt_ok rfl (blk_at 1 rfl hM) rfl rfl rfl) rfl ?_) | (refine XD_u rfl rfl ?_; refine XD_s rfl rfl rfl (XV_op tt_ok rfl) rfl ?_))) | refine XD_m rfl rfl ?_) | (refine X_id ?_; first | (refine X_drawS (id := 13) [0, 1, 2, 3, 4, 5, 6, 7, 8, 9, 10, 11, 12, 13, 14, 15, 16, 17, 18, 19, 20, 21, 22, 23, 24, 25, 26, 27, 28, 29, 30, 31, 32, 33, 34, 35, 36, 37, 38, 39, 40] (fun | 1 => .m | _ => .s) 8 (by repeat' (first | exact Split.nil | apply Split.blk)) mixed (by decide +kernel) ?_; intro G hFG hM thaw; show XD _ _ _ _ _ _ [0, 1, 2, 3, 4, 5, 6, 7, 8, 9, 10, 11, 12, 13, 14, 15, 16, 17, 18, 19, 20, 21, 22, 23, 24, 25, 26, 27, 28, 29, 30, 31, 32, 33, 34, 35, 36, 37, 38, 39, 40] _ _ _) | refine X_seq ?_ | (refine X_regionN (by repeat' (first | exact .nil | apply NL.cons)) ?_) | refine X_skip ?_ | refine X_ret ?_ | refine X_cond_t rfl ?_ | refine X_cond_f rfl ?_) | (refine Y_id ?_; first | refine Y_then ?_ | refine Y_then_ret ?_ | refine Y_m ?_))
      all_goals first
        | exact Y_fn1 rfl rfl (bool_f (fun hh => hh (QuoP.of hdat ((Nine.iff _).2 (by omega)) (by omega) (fun h => absurd h hm))))
        | exact Y_fn1 rfl rfl (bool_t (fun h => by have a := h.2.1; omega))
        | skip
      
theorem rpart_spec (d : Cd) (y : Ly) (hd : d.In) (hf : y.Fit) (hl : d.ps.length = y.pm) (p : Nat) (hp : p < y.pm) (hp8 : p < 8) : FnC Try.prog 42 [cfV d y, iV p] (fun h => CfR h d y) (iV (partE d p)) := by
  have h1 := rcolours_spec d y hf p hp
  have h2 := fun hc => rquotas_spec d y hd hf hl p hp hp8 hc
  unfold partE
  by_cases hc : ColP d p
  · rw [if_pos hc]
    rw [decide_eq_false (fun h => h hc)] at h1
    have h2 := h2 hc
    by_cases hq : QuoP d p
    · rw [if_pos hq]
      rw [decide_eq_false (fun h => h hq)] at h2
      refine Ctr.intro Try.func42 rfl rfl (by decide +kernel) fun F hpre => ?_
      repeat' (first | (refine XL_id ?_; first | refine XL_nil ?_ | (refine XG_load ?_; refine XL_loadW tt_ok 0 rfl rfl rfl rfl rfl rfl ?_) | (refine XG_box ?_; (refine XL_box rfl (fun _ => rfl) (fun _ => ?_); refine XL_nB (by repeat' (first | exact .nil | apply NL.cons)) ?_)) | (refine XG_call ?_; first | refine XL_fn h1 rfl rfl (fun g hg hL => CfR.le hpre hg) ?_ | refine XL_fn h2 rfl rfl (fun g hg hL => CfR.le hpre hg) ?_) | (refine XL_op tt_ok rfl rfl ?_)) | (refine X_id ?_; first | refine X_seq ?_ | (refine X_regionN (by repeat' (first | exact .nil | apply NL.cons)) ?_) | refine X_skip ?_ | refine X_ret ?_ | refine X_cond_f rfl ?_) | (refine Y_id ?_; refine Y_then ?_))
      all_goals exact Y_fn1 rfl rfl rfl
    · rw [if_neg hq]
      rw [decide_eq_true hq] at h2
      refine Ctr.intro Try.func42 rfl rfl (by decide +kernel) fun F hpre => ?_
      repeat' (first | (refine XL_id ?_; first | refine XL_nil ?_ | (refine XG_load ?_; refine XL_loadW tt_ok 0 rfl rfl rfl rfl rfl rfl ?_) | (refine XG_box ?_; (refine XL_box rfl (fun _ => rfl) (fun _ => ?_); refine XL_nB (by repeat' (first | exact .nil | apply NL.cons)) ?_)) | (refine XG_call ?_; first | refine XL_fn h1 rfl rfl (fun g hg hL => CfR.le hpre hg) ?_ | refine XL_fn h2 rfl rfl (fun g hg hL => CfR.le hpre hg) ?_) | (refine XL_op tt_ok rfl rfl ?_)) | (refine X_id ?_; first | refine X_seq ?_ | (refine X_regionN (by repeat' (first | exact .nil | apply NL.cons)) ?_) | refine X_skip ?_ | refine X_ret ?_ | refine X_cond_t rfl ?_ | refine X_cond_f rfl ?_) | (refine Y_id ?_; first | refine Y_then ?_ | refine Y_then_ret ?_))
      all_goals exact Y_fn1 rfl rfl rfl
  · rw [if_neg hc]
    rw [decide_eq_true hc] at h1
    refine Ctr.intro Try.func42 rfl rfl (by decide +kernel) fun F hpre => ?_
    repeat' (first | (refine XL_id ?_; first | refine XL_nil ?_ | (refine XG_load ?_; refine XL_loadW tt_ok 0 rfl rfl rfl rfl rfl rfl ?_) | (refine XG_box ?_; (refine XL_box rfl (fun _ => rfl) (fun _ => ?_); refine XL_nB (by repeat' (first | exact .nil | apply NL.cons)) ?_)) | (refine XG_call ?_; refine XL_fn h1 rfl rfl (fun g hg hL => CfR.le hpre hg) ?_) | (refine XL_op tt_ok rfl rfl ?_)) | (refine X_id ?_; first | refine X_seq ?_ | (refine X_regionN (by repeat' (first | exact .nil | apply NL.cons)) ?_) | refine X_ret ?_ | refine X_cond_t rfl ?_) | (refine Y_id ?_; first | refine Y_then ?_ | refine Y_then_ret ?_))
    all_goals exact Y_fn1 rfl rfl rfl
set_option maxHeartbeats 4000000 in
theorem rshape_spec (d : Cd) (y : Ly) (p : Nat) (hp : p < y.pm) (hn : Nine (Cof.get d.ps (p : Int))) : FnC Try.prog 50 [cfV d y, iV p] (fun h => CfR h d y) (shV (shF (Cof.get d.ps (p : Int)))) := by
  refine Ctr.intro Try.func50 rfl rfl (by decide +kernel) fun F hpre => ?_
  have hpre : CfR F.heap d y := hpre
  have r1 := hpre.ps
  have hdat := get_dat hpre hp
  rw [← hdat] at hn ⊢
  obtain ⟨h1, h2, h3, h4, h5, h6, h7⟩ := hn
  have hsh := @shl_im (Cof.get y.ps (p : Int)).d.o (by omega)
  repeat' (first | (refine XL_id ?_; first | refine XL_nil ?_ | (refine XG_load ?_; first | refine XL_load tt_ok 1 rfl rfl rfl rfl rfl rfl ?_ | refine XL_elW tt_ok rfl (by assumption) rfl (by omega) (by omega) rfl rfl rfl rfl ?_) | (refine XG_idx ?_; refine XL_idx tt_ok rfl rfl rfl rfl rfl (by assumption) (by omega) (by omega) rfl ?_) | (refine XG_box ?_; (refine XL_box rfl (fun _ => rfl) (fun _ => ?_); refine XL_nB (by repeat' (first | exact .nil | apply NL.cons)) ?_)) | (refine XG_alloc ?_; (refine XL_alloc tt_ok rfl rfl (fun _ => rfl) (fun b => ?_); refine XL_nB (by repeat' (first | exact .nil | apply NL.cons)) ?_)) | (refine XG_store ?_; first | (refine XL_storeW tt_ok 0 rfl rfl rfl rfl rfl rfl rfl ?_; refine XL_nK 0 rfl (by repeat' (first | exact .nil | apply NL.cons)) ?_) | (refine XL_storeW tt_ok 1 rfl rfl rfl rfl rfl rfl rfl ?_; refine XL_nK 1 rfl (by repeat' (first | exact .nil | apply NL.cons)) ?_)) | (refine XL_op tt_ok rfl rfl ?_)) | (refine XD_id ?_; first | refine XD_nil ?_ | (refine XD_id ?_; (first | (refine XD_uL rfl ?_; refine XD_s rfl rfl rfl (XV_load tt_ok rfl (blk_at 0 rfl hM) rfl rfl rfl) rfl ?_) | (refine XD_u rfl rfl ?_; first | refine XD_s rfl rfl rfl (XV_op tt_ok rfl) rfl ?_ | refine XD_s rfl rfl rfl (XV_build tt_ok rfl rfl rfl rfl rfl rfl) rfl ?_ | refine XD_s rfl rfl rfl (XV_op tt_ok (opV_shl rfl rfl (by omega))) rfl ?_)); try (refine XD_int (wrap_i64 (by omega) (by omega)) ?_)) | (refine XD_thaw thaw ?_; refine XD_l rfl rfl ?_)) | (refine X_id ?_; first | (refine X_drawS (id := 2) [0, 1, 2, 3, 4, 5, 6, 7, 8, 9, 10, 11, 12, 13, 14, 15, 16, 17, 18] (fun | 18 => .l | _ => .s) 8 (by repeat' (first | exact Split.nil | apply Split.blk)) mixed (by decide +kernel) ?_; intro G hFG hM thaw; show XD _ _ _ _ _ _ [0, 1, 2, 3, 4, 5, 6, 7, 8, 9, 10, 11, 12, 13, 14, 15, 16, 17, 18] _ _ _) | refine X_seq ?_ | (refine X_regionN (by repeat' (first | exact .nil | apply NL.cons)) ?_) | refine X_ret ?_) | (refine Y_id ?_; first | refine Y_then ?_ | refine Y_l ?_))
  all_goals first
    | exact Y_res1 rfl (.cell tt_ok 1 rfl rfl rfl rfl rfl) (L' := []) (fun _ _ => trivial) ⟨congrArg (fun z => Value.agg #[iV z, iV (Cof.get y.ps (p : Int)).d.u, iV (liF (Cof.get y.ps (p : Int)).d), iV (Cof.get y.ps (p : Int)).d.t]) hsh, rfl⟩
    | skip
  
end Go.Proofs.Ytpokfingnflblaa
