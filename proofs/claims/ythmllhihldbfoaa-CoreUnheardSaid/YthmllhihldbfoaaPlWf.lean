/- The quotas of a part, its shape: the program's. -/
import Derived.Test.YthmllhihldbfoaaPlWe
import Derived.Test.YthmllhihldbfoaaPlWc
set_option linter.unusedVariables false
namespace Go.Proofs.Ythmllhihldbfoaa.Pl
open Go.RowKit Go.Cof

theorem each_spec (d : Cd) (y : Ly) (hm : MachP d) : FnC Try.prog 68 [cfV d y] (fun _ => True) (iV (eaF d)) := by
  have hr : 0 ≤ d.fr.tdiv d.co ∧ d.fr.tdiv d.co ≤ 4096 := eaF_rng hm
  have hco := hm.co
  have e0 : IntKind.i64.wrap (d.fr.tdiv d.co) = eaF d := wrap_i64 (by omega) (by omega)
  have hne : d.co ≠ 0 := by omega
  refine Ctr.intro Try.func68 rfl rfl (by decide +kernel) fun F hpre => ?_
  repeat' (first | (refine XL_id ?_; first | refine XL_nil ?_ | (refine XG_load ?_; refine XL_load tt_ok 0 rfl rfl rfl rfl rfl rfl ?_) | (refine XG_box ?_; (refine XL_box rfl (fun _ => rfl) (fun _ => ?_); refine XL_nB (by repeat' (first | exact .nil | apply NL.cons)) ?_)) | (refine XL_op tt_ok (opV_quo rfl rfl hne) rfl ?_; refine XL_int e0 ?_) | (refine XL_op tt_ok rfl rfl ?_)) | (refine X_id ?_; first | refine X_seq ?_ | (refine X_regionN (by repeat' (first | exact .nil | apply NL.cons)) ?_) | refine X_ret ?_) | (refine Y_id ?_; refine Y_then ?_))
  all_goals first
    | exact Y_fn1 rfl rfl rfl
    | skip
  
theorem total_spec (d : Cd) (y : Ly) (hm : MachP d) (p : Nat) (hp : p < y.pm) (hc : ColP d p) : FnC Try.prog 69 [cfV d y, iV p] (fun h => CfR h d y) (iV (toF d p)) := by
  have hea := each_spec d y hm
  have hr := toF_rng hm hc
  refine Ctr.intro Try.func69 rfl rfl (by decide +kernel) fun F hpre => ?_
  have hpre : CfR F.heap d y := hpre
  have r1 := hpre.ps
  have hdat := get_dat hpre hp
  have hml : (Cof.get y.ps (p : Int)).m = (Cof.get d.ps (p : Int)).xs.length := by rw [(hpre.xs _ (get_memN hpre hp)).1, hdat]
  have e1 : ((Cof.get y.ps (p : Int)).m : Int) * eaF d = toF d p := by rw [hml]
  have e2 : IntKind.i64.wrap (((Cof.get y.ps (p : Int)).m : Int) * eaF d) = toF d p := by rw [e1]; exact wrap_i64 (by omega) (by omega)
  repeat' (first | (refine XL_id ?_; first | refine XL_nil ?_ | (refine XG_box ?_; (refine XL_box rfl (fun _ => rfl) (fun _ => ?_); refine XL_nB (by repeat' (first | exact .nil | apply NL.cons)) ?_)) | (refine XG_call ?_; refine XL_fn hea rfl rfl (fun _ _ _ => trivial) ?_) | (refine XL_op tt_ok rfl rfl ?_)) | (refine XD_id ?_; first | (refine XD_thaw thaw ?_; refine XD_nil ?_) | (refine XD_id ?_; (first | (refine XD_uL rfl ?_; first | refine XD_s rfl rfl rfl (XV_loadW tt_ok rfl (blk_at 0 rfl hM) rfl rfl rfl) rfl ?_ | refine XD_s rfl rfl rfl (XV_load tt_ok rfl (blk_at 0 rfl hM) rfl rfl rfl) rfl ?_ | refine XD_s rfl rfl rfl (XV_el tt_ok rfl (rdS.le (by assumption) hFG) rfl (by omega) (by omega) rfl rfl rfl) rfl ?_) | (refine XD_uI rfl ?_; refine XD_s rfl rfl rfl (XV_idx tt_ok rfl rfl rfl rfl rfl (rdS.le (by assumption) hFG) (by omega) (by omega)) rfl ?_) | (refine XD_u rfl rfl ?_; refine XD_s rfl rfl rfl (XV_op tt_ok rfl) rfl ?_)); try (refine XD_int (wrap_i64 (by omega) (by omega)) ?_)) | refine XD_m rfl rfl ?_) | (refine X_id ?_; first | (refine X_drawS (id := 1) [0, 1, 2, 3, 4, 5, 6, 7, 8, 9, 10] (fun | 8 => .m | _ => .s) 8 (by repeat' (first | exact Split.nil | apply Split.blk)) mixed (by decide +kernel) ?_; intro G hFG hM thaw; show XD _ _ _ _ _ _ [0, 1, 2, 3, 4, 5, 6, 7, 8, 9, 10] _ _ _) | refine X_seq ?_ | (refine X_regionN (by repeat' (exact .nil)) ?_) | refine X_ret ?_) | (refine Y_id ?_; first | refine Y_then ?_ | refine Y_m ?_))
  all_goals first
    | exact Y_fn1 rfl rfl (congrArg iV e1)
    | skip
  
theorem QuoP.of {d : Cd} {p : Nat} {x : Pd} (hx : x = Cof.get d.ps (p : Int)) (h1 : Nine x) (h2 : slF d (p + 1) ≤ 1024) (h3 : MachP d → imF x.o ≤ eaF d ∧ neF x ≤ toF d p) : QuoP d p := by subst hx; exact ⟨h1, h2, h3⟩
theorem QuoP.nine {d : Cd} {p : Nat} {x : Pd} (hx : x = Cof.get d.ps (p : Int)) (h : QuoP d p) : (0 ≤ x.o ∧ x.o ≤ 3) ∧ (2 ≤ x.u ∧ x.u ≤ 4096) ∧ (4 ≤ x.t ∧ x.t ≤ 4096) ∧ (1 ≤ x.s ∧ x.s ≤ 4096) ∧ (1 ≤ x.r ∧ x.r ≤ 4096) ∧ (1 ≤ x.d ∧ x.d ≤ 4096) ∧ (1 ≤ x.k ∧ x.k ≤ 1024) := by subst hx; exact (Nine.iff _).1 h.1
theorem QuoP.big {d : Cd} {p : Nat} {x : Pd} (hx : x = Cof.get d.ps (p : Int)) (hm : MachP d) (h : QuoP d p) : imF x.o ≤ eaF d ∧ neF x ≤ toF d p := by subst hx; exact h.2.2 hm
abbrev ptL (x : Pt) : List Value := [.slice x.A x.m x.c, iV x.d.o, iV x.d.u, iV x.d.t, iV x.d.s, iV x.d.r, iV x.d.d, iV x.d.k]
theorem slF_t {d : Cd} {k : Nat} (h : 1 ≤ (Cof.get d.ps (k : Int)).k ∧ (Cof.get d.ps (k : Int)).k ≤ 1024) : slF d k + (Cof.get d.ps (k : Int)).k = slF d (k + 1) := by show _ = slF d k + _; rw [if_pos h]
theorem slF_f {d : Cd} {k : Nat} (h : ¬ (1 ≤ (Cof.get d.ps (k : Int)).k ∧ (Cof.get d.ps (k : Int)).k ≤ 1024)) : slF d k = slF d (k + 1) := by show _ = slF d k + _; rw [if_neg h]; omega
set_option maxHeartbeats 16000000 in
theorem quotas_spec (d : Cd) (y : Ly) (hd : d.In) (hf : y.Fit) (hl : d.ps.length = y.pm) (p : Nat) (hp : p < y.pm) (hp8 : p < 8) (hc : ColP d p) : FnC Try.prog 61 [cfV d y, iV p] (fun h => CfR h d y) (.bool (decide (QuoP d p))) := by
  have hmc := machine_spec d y hd hl
  have hsr := slF_rng d (p + 1)
  refine Ctr.intro Try.func61 rfl rfl (by decide +kernel) fun F hpre => ?_
  have hpre : CfR F.heap d y := hpre
  have r1 := hpre.ps
  have hdat := get_dat hpre hp
  have hcap := hf.cap
  repeat' (first | (refine XL_id ?_; first | refine XL_nil ?_ | refine XL_guard_yes rfl rfl rfl ?_ | refine XL_guard_no rfl rfl rfl rfl rfl ?_ | refine XL_arrIx tt_ok rfl rfl rfl rfl rfl (by decide) (by decide) rfl rfl ?_ | (refine XG_box ?_; (refine XL_box rfl (fun _ => rfl) (fun bx => ?_); refine XL_nB (by repeat' (first | exact .nil | apply NL.cons)) ?_)) | (refine XG_slice ?_; refine XL_slice0 tt_ok rfl rfl rfl (cut_hiN (p := p + 1) (by omega)) rfl rfl rfl rfl ?_) | (refine XG_load ?_; first | refine XL_load tt_ok 0 rfl rfl rfl rfl rfl rfl ?_ | refine XL_load tt_ok 1 rfl rfl rfl rfl rfl rfl ?_ | refine XL_elW tt_ok rfl (by assumption) rfl (by omega) (by omega) rfl rfl rfl rfl ?_) | (refine XG_idx ?_; refine XL_idx tt_ok rfl rfl rfl rfl rfl (by assumption) (by omega) (by omega) rfl ?_) | (refine XG_build ?_; (refine XL_buildA tt_ok rfl rfl rfl rfl rfl rfl rfl ?_; refine XL_aggN (by repeat' (first | exact .nil | apply NL.cons)) ?_)) | (refine XG_call ?_; first | (refine XL_op tt_ok rfl rfl ?_) | (refine XL_fn (pwithin_spec _ _ _) rfl rfl (fun _ _ _ => trivial) ?_; refine XL_dec (fun _ => ?_) (fun _ => ?_))) | (refine XG_alloc ?_; (refine XL_alloc tt_ok rfl rfl (fun _ => rfl) (fun b => ?_); refine XL_nB (by repeat' (first | exact .nil | apply NL.cons)) ?_)) | (refine XG_store ?_; (refine XL_storeW tt_ok 0 rfl rfl rfl rfl rfl rfl rfl ?_; refine XL_nK 0 rfl (by repeat' (first | exact .nil | apply NL.cons)) ?_)) | (refine XL_op tt_ok rfl rfl ?_; try (first | refine XL_int (wrap_i64 (by omega) (by omega)) ?_ | refine XL_dec_t (by omega) ?_ | refine XL_dec_f (by omega) ?_))) | (refine X_id ?_; first | refine X_cutD (c := .block 2 _) [1, 2, 5] (fun (_ : Unit) => [(8, iV (slF d (p + 1)))]) (fun _ => [blk b (ptL (Cof.get y.ps (p : Int))) 81, blk bx (cfL d y) 28]) (fun _ => True) rfl (X_block (hold ?_)) (fun _ _ => hold ?_) | refine X_unroll 3 ?_ | refine X_seq ?_ | (refine X_regionN (by repeat' (first | exact .nil | apply NL.cons)) ?_) | refine X_skip ?_ | refine X_ret ?_ | refine X_exit ?_ | refine X_block ?_ | refine X_cond_t rfl ?_ | refine X_cond_f rfl ?_) | (refine Y_id ?_; first | refine Y_unroll ?_ | refine Y_then ?_ | refine Y_then_ret ?_ | refine Y_then_exit ?_ | refine Y_block_hit ?_ | refine Y_block_normal ?_ | refine Y_block_ret ?_))
  all_goals first
    | exact Y_fn1 rfl rfl (bool_f (fun h => by have a := QuoP.nine hdat h; omega))
    | skip
  · intro _
    have r3 := r1.take (p + 1) (by omega)
    clear r1
    refine X_loopD [1, 2, 5, 51, 52] (fun (k : Nat) => [(53, .int .i64 k), (8, iV (slF d k))]) (fun _ => [blk b (ptL (Cof.get y.ps (p : Int))) 81, blk bx (cfL d y) 28]) (fun k => k ≤ p + 1) (fun k => p + 1 - k) 0 rfl (Nat.zero_le _) (by (repeat' (first | exact trivial | refine And.intro rfl ?_)); done) (fun h hs => hs) ?_
    intro k hk
    have hk : k ≤ p + 1 := hk
    have hks := slF_rng d k
    by_cases hkp : k < p + 1
    · have hkm : k < y.pm := by omega
      have hkd := get_dat hpre hkm
      rw [← get_takeN y.ps hkp] at hkd
      by_cases hin : 1 ≤ (Cof.get (y.ps.take (p + 1)) (k : Int)).d.k ∧ (Cof.get (y.ps.take (p + 1)) (k : Int)).d.k ≤ 1024
      · obtain ⟨S1, hS1⟩ : ∃ S1, slF d (k + 1) = S1 := ⟨_, rfl⟩
        have hst : slF d k + (Cof.get (y.ps.take (p + 1)) (k : Int)).d.k = S1 := by rw [hkd] at hin ⊢; rw [← hS1]; exact slF_t hin
        repeat' (first | (refine XL_id ?_; first | refine XL_nil ?_ | (refine XG_load ?_; first | refine XL_load tt_ok 0 rfl rfl rfl rfl rfl rfl ?_ | refine XL_elW tt_ok rfl (by assumption) rfl (by omega) (by omega) rfl rfl rfl rfl ?_) | (refine XG_idx ?_; refine XL_idx tt_ok rfl rfl rfl rfl rfl (by assumption) (by omega) (by omega) rfl ?_) | (refine XG_call ?_; (refine XL_fn (pwithin_spec _ _ _) rfl rfl (fun _ _ _ => trivial) ?_; refine XL_dec_t (by omega) ?_)) | (refine XG_alloc ?_; (refine XL_alloc tt_ok rfl rfl (fun _ => rfl) (fun b => ?_); refine XL_nB (by repeat' (first | exact .nil | apply NL.cons)) ?_)) | (refine XG_store ?_; (refine XL_storeW tt_ok 0 rfl rfl rfl rfl rfl rfl rfl ?_; refine XL_nK 0 rfl (by repeat' (first | exact .nil | apply NL.cons)) ?_)) | (refine XL_op tt_ok rfl rfl ?_; refine XL_int (Eq.trans (wrap_i64 (by omega) (by omega)) hst) ?_) | (refine XL_op tt_ok rfl rfl ?_; try (first | refine XL_int (wrap_i64 (by omega) (by omega)) ?_ | refine XL_dec_t (by omega) ?_))) | (refine X_id ?_; first | refine X_seq ?_ | (refine X_regionN (by repeat' (first | exact .nil | apply NL.cons)) ?_) | refine X_skip ?_ | refine X_block ?_ | refine X_cond_t rfl ?_) | (refine Y_id ?_; first | refine Y_then ?_ | refine Y_block_normal ?_))
        all_goals first
          | (subst hS1; exact Y_again (k + 1) fun _ _ hf hs => ⟨hkp, by show p + 1 - (k + 1) < p + 1 - k; omega, hf.sub (by (repeat' (first | exact trivial | refine And.intro rfl ?_)); done), hs.imp fun h hs => stars_only [1, 1] rfl h hs⟩)
          | skip
        
      · have hst : slF d k = slF d (k + 1) := by rw [hkd] at hin; exact slF_f hin
        repeat' (first | (refine XL_id ?_; first | refine XL_nil ?_ | (refine XG_load ?_; first | refine XL_load tt_ok 0 rfl rfl rfl rfl rfl rfl ?_ | refine XL_elW tt_ok rfl (by assumption) rfl (by omega) (by omega) rfl rfl rfl rfl ?_) | (refine XG_idx ?_; refine XL_idx tt_ok rfl rfl rfl rfl rfl (by assumption) (by omega) (by omega) rfl ?_) | (refine XG_call ?_; (refine XL_fn (pwithin_spec _ _ _) rfl rfl (fun _ _ _ => trivial) ?_; refine XL_dec_f (by omega) ?_)) | (refine XG_alloc ?_; (refine XL_alloc tt_ok rfl rfl (fun _ => rfl) (fun b => ?_); refine XL_nB (by repeat' (first | exact .nil | apply NL.cons)) ?_)) | (refine XG_store ?_; (refine XL_storeW tt_ok 0 rfl rfl rfl rfl rfl rfl rfl ?_; refine XL_nK 0 rfl (by repeat' (first | exact .nil | apply NL.cons)) ?_)) | (refine XL_op tt_ok rfl rfl ?_; try (first | refine XL_int (wrap_i64 (by omega) (by omega)) ?_ | refine XL_dec_t (by omega) ?_))) | (refine X_id ?_; first | refine X_seq ?_ | (refine X_regionN (by repeat' (first | exact .nil | apply NL.cons)) ?_) | refine X_skip ?_ | refine X_block ?_ | refine X_cond_t rfl ?_ | refine X_cond_f rfl ?_) | (refine Y_id ?_; first | refine Y_then ?_ | refine Y_block_normal ?_))
        all_goals first
          | (rw [hst]; exact Y_again (k + 1) fun _ _ hf hs => ⟨hkp, by show p + 1 - (k + 1) < p + 1 - k; omega, hf.sub (by (repeat' (first | exact trivial | refine And.intro rfl ?_)); done), hs.imp fun h hs => stars_only [1, 1] rfl h hs⟩)
          | skip
        
    · obtain rfl : k = p + 1 := by omega
      repeat' (first | (refine XL_id ?_; first | refine XL_nil ?_ | (refine XL_op tt_ok rfl rfl ?_; try (refine XL_dec_f (by omega) ?_))) | (refine X_id ?_; first | refine X_seq ?_ | (refine X_regionN (by repeat' (first | exact .nil | apply NL.cons)) ?_) | refine X_exit ?_ | refine X_cond_f rfl ?_) | (refine Y_id ?_; first | refine Y_then ?_ | refine Y_then_exit ?_ | refine Y_block_hit ?_))
      all_goals first
        | exact Y_again () fun _ _ hf hs => ⟨trivial, hf.sub (by (repeat' (first | exact trivial | refine And.intro rfl ?_)); done), hs⟩
        | (exfalso; omega)
        | skip
      
  · intro _
    refine Y_then ?_
    by_cases hm : MachP d
    · have hea := each_spec d y hm
      have hto := total_spec d y hm p hp hc
      have hr1 := eaF_rng hm
      have hr2 := toF_rng hm hc
      have him := imF_rng (Cof.get y.ps (p : Int)).d.o
      have hsh := @shl_im (Cof.get y.ps (p : Int)).d.o (by omega)
      have hbig : QuoP d p → imF (Cof.get y.ps (p : Int)).d.o ≤ eaF d ∧ imF (Cof.get y.ps (p : Int)).d.o + (Cof.get y.ps (p : Int)).d.u + (Cof.get y.ps (p : Int)).d.t + (Cof.get y.ps (p : Int)).d.s + (Cof.get y.ps (p : Int)).d.r + (Cof.get y.ps (p : Int)).d.d ≤ toF d p := QuoP.big hdat hm
      have hof : Nine (Cof.get y.ps (p : Int)).d → slF d (p + 1) ≤ 1024 → (imF (Cof.get y.ps (p : Int)).d.o ≤ eaF d ∧ imF (Cof.get y.ps (p : Int)).d.o + (Cof.get y.ps (p : Int)).d.u + (Cof.get y.ps (p : Int)).d.t + (Cof.get y.ps (p : Int)).d.s + (Cof.get y.ps (p : Int)).d.r + (Cof.get y.ps (p : Int)).d.d ≤ toF d p) → QuoP d p := fun a b c => QuoP.of hdat a b (fun _ => c)
      obtain ⟨E, hE⟩ : ∃ E, eaF d = E := ⟨_, rfl⟩
      obtain ⟨T, hT⟩ : ∃ T, toF d p = T := ⟨_, rfl⟩
      obtain ⟨I, hI⟩ : ∃ I, imF (Cof.get y.ps (p : Int)).d.o = I := ⟨_, rfl⟩
      rw [hE] at hea hr1
      rw [hT] at hto hr2
      rw [hI] at him hsh
      rw [hE, hT, hI] at hbig hof
      rw [decide_eq_true hm] at hmc
      repeat' (first | (refine XL_id ?_; first | refine XL_nil ?_ | refine XL_guard_yes rfl rfl rfl ?_ | refine XL_guard_no rfl rfl rfl rfl rfl ?_ | (refine XG_load ?_; first | refine XL_loadW tt_ok 1 rfl rfl rfl rfl rfl rfl ?_ | refine XL_load tt_ok 0 rfl rfl rfl rfl rfl rfl ?_) | (refine XG_call ?_; first | (refine XL_fn (pwithin_spec _ _ _) rfl rfl (fun _ _ _ => trivial) ?_; refine XL_dec (fun _ => ?_) (fun _ => ?_)) | refine XL_fn hmc rfl rfl (fun _ _ _ => trivial) ?_ | refine XL_fn hea rfl rfl (fun _ _ _ => trivial) ?_ | refine XL_fn hto rfl rfl (fun g hg hL => (hpre.le hFG).le hg) ?_) | (refine XL_op tt_ok (opV_shl rfl rfl (by omega)) rfl ?_; refine XL_int hsh ?_) | (refine XL_op tt_ok rfl rfl ?_; try (refine XL_dec (fun _ => ?_) (fun _ => ?_)))) | (refine XD_id ?_; first | (refine XD_thaw thaw ?_; refine XD_nil ?_) | refine XD_no rfl rfl rfl rfl rfl rfl ?_ | (refine XD_id ?_; (first | (refine XD_uL rfl ?_; refine XD_s rfl rfl rfl (XV_loadW tt_ok rfl (blk_at 1 rfl hM) rfl rfl rfl) rfl ?_) | (refine XD_gL rfl ?_; first | refine XD_sy rfl rfl rfl rfl rfl (XV_load tt_ok rfl (blk_at 0 rfl hM) rfl rfl rfl) rfl ?_ | refine XD_sy rfl rfl rfl rfl rfl (XV_loadW tt_ok rfl (blk_at 1 rfl hM) rfl rfl rfl) rfl ?_) | (refine XD_u rfl rfl ?_; refine XD_s rfl rfl rfl (XV_op tt_ok rfl) rfl ?_) | (refine XD_g rfl rfl ?_; refine XD_sy rfl rfl rfl rfl rfl (XV_op tt_ok rfl) rfl ?_)); try (first | refine XD_int (wrap_i64 (by omega) (by omega)) ?_ | refine XD_dec (fun _ => ?_) (fun _ => ?_))) | refine XD_m rfl rfl ?_) | (refine X_id ?_; first | (refine X_drawS (id := 22) [0, 1, 2, 3, 4, 5, 6, 7, 8, 9, 10, 11, 12, 13, 14, 15, 16, 17, 18, 19, 20, 21, 22, 23, 24, 25, 26] (fun | 2 => .m | 23 => .m | _ => .s) 8 (by repeat' (first | exact Split.nil | apply Split.blk)) mixed (by decide +kernel) ?_; intro G hFG hM thaw; show XD _ _ _ _ _ _ [0, 1, 2, 3, 4, 5, 6, 7, 8, 9, 10, 11, 12, 13, 14, 15, 16, 17, 18, 19, 20, 21, 22, 23, 24, 25, 26] _ _ _) | refine X_seq ?_ | (refine X_regionN (by repeat' (first | exact .nil | apply NL.cons)) ?_) | refine X_skip ?_ | refine X_ret ?_ | refine X_cond_t rfl ?_ | refine X_cond_f rfl ?_) | (refine Y_id ?_; first | refine Y_then ?_ | refine Y_then_ret ?_ | refine Y_m ?_))
      all_goals first
        | exact Y_fn1 rfl rfl (bool_t (hof ((Nine.iff _).2 (by omega)) (by omega) (by omega)))
        | exact Y_fn1 rfl rfl (bool_f (fun h => by have a := hbig h; omega))
        | exact Y_fn1 rfl rfl (bool_f (fun h => by have a := h.2.1; omega))
        | exact Y_fn1 rfl rfl (bool_f (fun h => by have a := QuoP.nine hdat h; omega))
        | skip
      
    · rw [decide_eq_false hm] at hmc
      repeat' (first | (refine XL_id ?_; first | refine XL_nil ?_ | refine XL_guard_yes rfl rfl rfl ?_ | refine XL_guard_no rfl rfl rfl rfl rfl ?_ | (refine XG_load ?_; first | refine XL_loadW tt_ok 1 rfl rfl rfl rfl rfl rfl ?_ | refine XL_load tt_ok 0 rfl rfl rfl rfl rfl rfl ?_) | (refine XG_call ?_; first | (refine XL_fn (pwithin_spec _ _ _) rfl rfl (fun _ _ _ => trivial) ?_; refine XL_dec (fun _ => ?_) (fun _ => ?_)) | refine XL_fn hmc rfl rfl (fun _ _ _ => trivial) ?_) | (refine XL_op tt_ok rfl rfl ?_; try (refine XL_dec (fun _ => ?_) (fun _ => ?_)))) | (refine X_id ?_; first | refine X_seq ?_ | (refine X_regionN (by repeat' (first | exact .nil | apply NL.cons)) ?_) | refine X_skip ?_ | refine X_ret ?_ | refine X_cond_t rfl ?_ | refine X_cond_f rfl ?_) | (refine Y_id ?_; first | refine Y_then ?_ | refine Y_then_ret ?_))
      all_goals first
        | exact Y_fn1 rfl rfl (bool_t (QuoP.of hdat ((Nine.iff _).2 (by omega)) (by omega) (fun h => absurd h hm)))
        | exact Y_fn1 rfl rfl (bool_f (fun h => by have a := h.2.1; omega))
        | exact Y_fn1 rfl rfl (bool_f (fun h => by have a := QuoP.nine hdat h; omega))
        | skip
      
end Go.Proofs.Ythmllhihldbfoaa.Pl
