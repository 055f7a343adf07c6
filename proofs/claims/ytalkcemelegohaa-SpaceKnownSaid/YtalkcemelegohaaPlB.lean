/- The quotas of a part, its shape: the program's. A part's code and shape: the program's. Turns and slices: the program's. Slices: the program's. Check: the program's. May, there, Total, Shape, Limit, Owner: the program's. Total, Shape, Limit: the program's. -/
import Derived.Test.YtalkcemelegohaaPlA
set_option linter.unusedVariables false
set_option maxRecDepth 100000
namespace Go.Proofs.Ytalkcemelegohaa.Pl
open Go.RowKit Go.Cof Gx

theorem each_spec (d : Cd) (y : Ly) (hm : MachP d) : FnC Try.prog 135 [cfV d y] (fun _ => True) (iV (eaF d)) := by
  have hr : 0 ≤ d.fr.tdiv d.co ∧ d.fr.tdiv d.co ≤ 4096 := eaF_rng hm
  have hco := hm.co
  have e0 : IntKind.i64.wrap (d.fr.tdiv d.co) = eaF d := wrap_i64 (by omega) (by omega)
  have hne : d.co ≠ 0 := by omega
  refine Ctr.intro Try.func135 rfl rfl (by decide +kernel) fun F hpre => ?_
  repeat' (first | (refine XL_id ?_; first | refine XL_nil ?_ | (refine XG_load ?_; refine XL_load tt_ok 0 rfl rfl rfl rfl rfl rfl ?_) | (refine XG_box ?_; (refine XL_box rfl (fun _ => rfl) (fun _ => ?_); refine XL_nB (by repeat' (first | exact .nil | apply NL.cons)) ?_)) | (refine XL_op tt_ok (opV_quo rfl rfl hne) rfl ?_; refine XL_int e0 ?_) | (refine XL_op tt_ok rfl rfl ?_)) | (refine X_id ?_; first | refine X_seq ?_ | (refine X_regionN (by repeat' (first | exact .nil | apply NL.cons)) ?_) | refine X_ret ?_) | (refine Y_id ?_; refine Y_then ?_))
  all_goals first
    | exact Y_fn1 rfl rfl rfl
    | skip
  
theorem total_spec (d : Cd) (y : Ly) (hm : MachP d) (p : Nat) (hp : p < y.pm) (hc : ColP d p) : FnC Try.prog 136 [cfV d y, iV p] (fun h => CfR h d y) (iV (toF d p)) := by
  have hea := each_spec d y hm
  have hr := toF_rng hm hc
  refine Ctr.intro Try.func136 rfl rfl (by decide +kernel) fun F hpre => ?_
  have hpre : CfR F.heap d y := hpre
  have r1 := hpre.ps
  have hdat := get_dat hpre hp
  have hml : (Cof.get y.ps (p : Int)).m = (Cof.get d.ps (p : Int)).xs.length := by rw [(hpre.xs _ (get_memN hpre hp)).1, hdat]
  have e1 : ((Cof.get y.ps (p : Int)).m : Int) * eaF d = toF d p := by rw [hml]
  have e2 : IntKind.i64.wrap (((Cof.get y.ps (p : Int)).m : Int) * eaF d) = toF d p := by rw [e1]; exact wrap_i64 (by omega) (by omega)
  repeat' (first | (refine XL_id ?_; first | refine XL_nil ?_ | (refine XG_box ?_; (refine XL_box rfl (fun _ => rfl) (fun _ => ?_); refine XL_nB (by repeat' (first | exact .nil | apply NL.cons)) ?_)) | (refine XG_call ?_; refine XL_fn hea rfl rfl (fun _ _ _ => trivial) ?_) | (refine XL_op tt_ok rfl rfl ?_)) | (refine XD_id ?_; first | (refine XD_thaw thaw ?_; refine XD_nil ?_) | (refine XD_id ?_; (first | (refine XD_uL rfl ?_; first | refine XD_s rfl rfl rfl (XV_loadW tt_ok rfl (blk_at 0 rfl hM) rfl rfl rfl) rfl ?_ | refine XD_s rfl rfl rfl (XV_load tt_ok rfl (blk_at 0 rfl hM) rfl rfl rfl) rfl ?_ | refine XD_s rfl rfl rfl (XV_el tt_ok rfl (rdS.le (by assumption) hFG) rfl (by omega) (by omega) rfl rfl rfl) rfl ?_) | (refine XD_uI rfl ?_; refine XD_s rfl rfl rfl (XV_idx tt_ok rfl rfl rfl rfl rfl (rdS.le (by assumption) hFG) (by omega) (by omega)) rfl ?_) | (refine XD_u rfl rfl ?_; refine XD_s rfl rfl rfl (XV_op tt_ok rfl) rfl ?_)); try (refine XD_int (wrap_i64 (by omega) (by omega)) ?_)) | refine XD_m rfl rfl ?_) | (refine X_id ?_; first | (refine X_drawS (id := 1) [0, 1, 2, 3, 4, 5, 6, 7, 8, 9, 10] (fun | 8 => .m | _ => .s) 8 (by repeat' (first | exact Split.nil | apply Split.blk)) mixed (by decide +kernel) ?_; intro G hFG hM thaw; show XD _ _ _ _ _ _ [0, 1, 2, 3, 4, 5, 6, 7, 8, 9, 10] _ _ _) | refine X_seq ?_ | (refine X_regionN (by repeat' (exact .nil)) ?_) | refine X_ret ?_) | (refine Y_id ?_; first | refine Y_then ?_ | refine Y_m ?_))
  all_goals first
    | exact Y_fn1 rfl rfl (congrArg iV e1)
    | skip
  
theorem QuoP.of {d : Cd} {p : Nat} {x : Pd} (hx : x = Cof.get d.ps (p : Int)) (h1 : Nine x) (h2 : slF d (p + 1) ≤ 1024) (h3 : MachP d → imF x.o ≤ eaF d ∧ neF x ≤ toF d p) : QuoP d p := by subst hx; exact ⟨h1, h2, h3⟩
theorem QuoP.nine {d : Cd} {p : Nat} {x : Pd} (hx : x = Cof.get d.ps (p : Int)) (h : QuoP d p) : (0 ≤ x.o ∧ x.o ≤ 3) ∧ (2 ≤ x.u ∧ x.u ≤ 4096) ∧ (4 ≤ x.t ∧ x.t ≤ 4096) ∧ (1 ≤ x.s ∧ x.s ≤ 4096) ∧ (1 ≤ x.r ∧ x.r ≤ 4096) ∧ (1 ≤ x.d ∧ x.d ≤ 4096) ∧ (1 ≤ x.k ∧ x.k ≤ 1024) := by subst hx; exact (Nine.iff _).1 h.1
theorem QuoP.big {d : Cd} {p : Nat} {x : Pd} (hx : x = Cof.get d.ps (p : Int)) (hm : MachP d) (h : QuoP d p) : imF x.o ≤ eaF d ∧ neF x ≤ toF d p := by subst hx; exact h.2.2 hm
abbrev ptL (x : Pt) : List Value := [.slice x.A x.m x.c, iV x.d.o, iV x.d.u, iV x.d.t, iV x.d.s, iV x.d.r, iV x.d.d, iV x.d.k]
theorem slF_t {d : Cd} {k : Nat} (h : 1 ≤ (Cof.get d.ps (k : Int)).k ∧ (Cof.get d.ps (k : Int)).k ≤ 1024) : slF d k + (Cof.get d.ps (k : Int)).k = slF d (k + 1) := by show _ = slF d k + _; rw [if_pos h]
theorem slF_f {d : Cd} {k : Nat} (h : ¬ (1 ≤ (Cof.get d.ps (k : Int)).k ∧ (Cof.get d.ps (k : Int)).k ≤ 1024)) : slF d k = slF d (k + 1) := by show _ = slF d k + _; rw [if_neg h]; omega
set_option maxHeartbeats 16000000 in
theorem quotas_spec (d : Cd) (y : Ly) (hd : d.In) (hf : y.Fit) (hl : d.ps.length = y.pm) (p : Nat) (hp : p < y.pm) (hp8 : p < 8) (hc : ColP d p) : FnC Try.prog 129 [cfV d y, iV p] (fun h => CfR h d y) (.bool (decide (QuoP d p))) := by
  have hmc := machine_spec d y hd hl
  have hsr := slF_rng d (p + 1)
  refine Ctr.intro Try.func129 rfl rfl (by decide +kernel) fun F hpre => ?_
  have hpre : CfR F.heap d y := hpre
  have r1 := hpre.ps
  have hdat := get_dat hpre hp
  have hcap := hf.cap
  repeat' (first | (refine XL_id ?_; first | refine XL_nil ?_ | refine XL_guard_yes rfl rfl rfl ?_ | refine XL_guard_no rfl rfl rfl rfl rfl ?_ | refine XL_arrIx tt_ok rfl rfl rfl rfl rfl (by decide) (by decide) rfl rfl ?_ | (refine XG_box ?_; (refine XL_box rfl (fun _ => rfl) (fun bx => ?_); refine XL_nB (by repeat' (first | exact .nil | apply NL.cons)) ?_)) | (refine XG_slice ?_; refine XL_slice0 tt_ok rfl rfl rfl (cut_hiN (p := p + 1) (by omega)) rfl rfl rfl rfl ?_) | (refine XG_load ?_; first | refine XL_load tt_ok 0 rfl rfl rfl rfl rfl rfl ?_ | refine XL_load tt_ok 1 rfl rfl rfl rfl rfl rfl ?_ | refine XL_elW tt_ok rfl (by assumption) rfl (by omega) (by omega) rfl rfl rfl rfl ?_) | (refine XG_idx ?_; refine XL_idx tt_ok rfl rfl rfl rfl rfl (by assumption) (by omega) (by omega) rfl ?_) | (refine XG_build ?_; (refine XL_buildA tt_ok rfl rfl rfl rfl rfl rfl rfl ?_; refine XL_aggN (by repeat' (first | exact .nil | apply NL.cons)) ?_)) | (refine XG_call ?_; first | (refine XL_op tt_ok rfl rfl ?_) | (refine XL_fn (pwithin_spec _ _ _) rfl rfl (fun _ _ _ => trivial) ?_; refine XL_dec (fun _ => ?_) (fun _ => ?_))) | (refine XG_alloc ?_; (refine XL_alloc tt_ok rfl rfl (fun _ => rfl) (fun b => ?_); refine XL_nB (by repeat' (first | exact .nil | apply NL.cons)) ?_)) | (refine XG_store ?_; (refine XL_storeW tt_ok 0 rfl rfl rfl rfl rfl rfl rfl ?_; refine XL_nK 0 rfl (by repeat' (first | exact .nil | apply NL.cons)) ?_)) | (refine XL_op tt_ok rfl rfl ?_; try (first | refine XL_int (wrap_i64 (by omega) (by omega)) ?_ | refine XL_dec_t (by omega) ?_ | refine XL_dec_f (by omega) ?_))) | (refine X_id ?_; first | refine X_cutD (c := .block 2 _) [1, 2, 5] (fun (_ : Unit) => [(8, iV (slF d (p + 1)))]) (fun _ => [blk b (ptL (Cof.get y.ps (p : Int))) 107, blk bx (cfL d y) 65]) (fun _ => True) rfl (X_block (hold ?_)) (fun _ _ => hold ?_) | refine X_unroll 3 ?_ | refine X_seq ?_ | (refine X_regionN (by repeat' (first | exact .nil | apply NL.cons)) ?_) | refine X_skip ?_ | refine X_ret ?_ | refine X_exit ?_ | refine X_block ?_ | refine X_cond_t rfl ?_ | refine X_cond_f rfl ?_) | (refine Y_id ?_; first | refine Y_unroll ?_ | refine Y_then ?_ | refine Y_then_ret ?_ | refine Y_then_exit ?_ | refine Y_block_hit ?_ | refine Y_block_normal ?_ | refine Y_block_ret ?_))
  all_goals first
    | exact Y_fn1 rfl rfl (bool_f (fun h => by have a := QuoP.nine hdat h; omega))
    | skip
  · intro _
    have r3 := r1.take (p + 1) (by omega)
    clear r1
    refine X_loopD [1, 2, 5, 51, 52] (fun (k : Nat) => [(53, .int .i64 k), (8, iV (slF d k))]) (fun _ => [blk b (ptL (Cof.get y.ps (p : Int))) 107, blk bx (cfL d y) 65]) (fun k => k ≤ p + 1) (fun k => p + 1 - k) 0 rfl (Nat.zero_le _) (by (repeat' (first | exact trivial | refine And.intro rfl ?_)); done) (fun h hs => hs) ?_
    intro k hk
    have hk : k ≤ p + 1 := hk
    have hks := slF_rng d k
    by_cases hkp : k < p + 1
    · have hkm : k < y.pm := by omega
      have hkd := get_dat hpre hkm
      rw [← get_takeN y.ps hkp] at hkd
      by_cases hin : 1 ≤ (Cof.get (y.ps.take (p + 1)) (k : Int)).d.k ∧ (Cof.get (y.ps.take (p + 1)) (k : Int)).d.k ≤ 1024
      · obtain ⟨S1, hS1⟩ : ∃ S1, slF d (k + 1) = S1 := ⟨_, rfl⟩
        have hst : slF d k + (Cof.get (y.ps.take (p + 1)) (k : Int)).d.k = S1 := by rw [hkd] at hin ⊢; rw [← hS1]; exact slF_t hin
        repeat' (first | (refine XL_id ?_; first | refine XL_nil ?_ | (refine XG_load ?_; first | refine XL_load tt_ok 0 rfl rfl rfl rfl rfl rfl ?_ | refine XL_elW tt_ok rfl (by assumption) rfl (by omega) (by omega) rfl rfl rfl rfl ?_) | (refine XG_idx ?_; refine XL_idx tt_ok rfl rfl rfl rfl rfl (by assumption) (by omega) (by omega) rfl ?_) | (refine XG_call ?_; (refine XL_fn (pwithin_spec _ _ _) rfl rfl (fun _ _ _ => trivial) ?_; refine XL_dec_t (by omega) ?_)) | (refine XG_alloc ?_; (refine XL_alloc tt_ok rfl rfl (fun _ => rfl) (fun b => ?_); refine XL_nB (by repeat' (first | exact .nil | apply NL.cons)) ?_)) | (refine XG_store ?_; (refine XL_storeW tt_ok 0 rfl rfl rfl rfl rfl rfl rfl ?_; refine XL_nK 0 rfl (by repeat' (first | exact .nil | apply NL.cons)) ?_)) | (refine XL_op tt_ok rfl rfl ?_; refine XL_int (Eq.trans (wrap_i64 (by omega) (by omega)) hst) ?_) | (refine XL_op tt_ok rfl rfl ?_; try (first | refine XL_int (wrap_i64 (by omega) (by omega)) ?_ | refine XL_dec_t (by omega) ?_))) | (refine X_id ?_; first | refine X_seq ?_ | (refine X_regionN (by repeat' (first | exact .nil | apply NL.cons)) ?_) | refine X_skip ?_ | refine X_block ?_ | refine X_cond_t rfl ?_) | (refine Y_id ?_; first | refine Y_then ?_ | refine Y_block_normal ?_))
        all_goals first
          | (subst hS1; exact Y_again (k + 1) fun _ _ hf hs => ⟨hkp, by show p + 1 - (k + 1) < p + 1 - k; omega, hf.sub (by (repeat' (first | exact trivial | refine And.intro rfl ?_)); done), hs.imp fun h hs => stars_only [1, 1] rfl h hs⟩)
          | skip
        
      · have hst : slF d k = slF d (k + 1) := by rw [hkd] at hin; exact slF_f hin
        repeat' (first | (refine XL_id ?_; first | refine XL_nil ?_ | (refine XG_load ?_; first | refine XL_load tt_ok 0 rfl rfl rfl rfl rfl rfl ?_ | refine XL_elW tt_ok rfl (by assumption) rfl (by omega) (by omega) rfl rfl rfl rfl ?_) | (refine XG_idx ?_; refine XL_idx tt_ok rfl rfl rfl rfl rfl (by assumption) (by omega) (by omega) rfl ?_) | (refine XG_call ?_; (refine XL_fn (pwithin_spec _ _ _) rfl rfl (fun _ _ _ => trivial) ?_; refine XL_dec_f (by omega) ?_)) | (refine XG_alloc ?_; (refine XL_alloc tt_ok rfl rfl (fun _ => rfl) (fun b => ?_); refine XL_nB (by repeat' (first | exact .nil | apply NL.cons)) ?_)) | (refine XG_store ?_; (refine XL_storeW tt_ok 0 rfl rfl rfl rfl rfl rfl rfl ?_; refine XL_nK 0 rfl (by repeat' (first | exact .nil | apply NL.cons)) ?_)) | (refine XL_op tt_ok rfl rfl ?_; try (first | refine XL_int (wrap_i64 (by omega) (by omega)) ?_ | refine XL_dec_t (by omega) ?_))) | (refine X_id ?_; first | refine X_seq ?_ | (refine X_regionN (by repeat' (first | exact .nil | apply NL.cons)) ?_) | refine X_skip ?_ | refine X_block ?_ | refine X_cond_t rfl ?_ | refine X_cond_f rfl ?_) | (refine Y_id ?_; first | refine Y_then ?_ | refine Y_block_normal ?_))
        all_goals first
          | (rw [hst]; exact Y_again (k + 1) fun _ _ hf hs => ⟨hkp, by show p + 1 - (k + 1) < p + 1 - k; omega, hf.sub (by (repeat' (first | exact trivial | refine And.intro rfl ?_)); done), hs.imp fun h hs => stars_only [1, 1] rfl h hs⟩)
          | skip
        
    · obtain rfl : k = p + 1 := by omega
      repeat' (first | (refine XL_id ?_; first | refine XL_nil ?_ | (refine XL_op tt_ok rfl rfl ?_; try (refine XL_dec_f (by omega) ?_))) | (refine X_id ?_; first | refine X_seq ?_ | (refine X_regionN (by repeat' (first | exact .nil | apply NL.cons)) ?_) | refine X_exit ?_ | refine X_cond_f rfl ?_) | (refine Y_id ?_; first | refine Y_then ?_ | refine Y_then_exit ?_ | refine Y_block_hit ?_))
      all_goals first
        | exact Y_again () fun _ _ hf hs => ⟨trivial, hf.sub (by (repeat' (first | exact trivial | refine And.intro rfl ?_)); done), hs⟩
        | (exfalso; omega)
        | skip
      
  · intro _
    refine Y_then ?_
    by_cases hm : MachP d
    · have hea := each_spec d y hm
      have hto := total_spec d y hm p hp hc
      have hr1 := eaF_rng hm
      have hr2 := toF_rng hm hc
      have him := imF_rng (Cof.get y.ps (p : Int)).d.o
      have hsh := @shl_im (Cof.get y.ps (p : Int)).d.o (by omega)
      have hbig : QuoP d p → imF (Cof.get y.ps (p : Int)).d.o ≤ eaF d ∧ imF (Cof.get y.ps (p : Int)).d.o + (Cof.get y.ps (p : Int)).d.u + (Cof.get y.ps (p : Int)).d.t + (Cof.get y.ps (p : Int)).d.s + (Cof.get y.ps (p : Int)).d.r + (Cof.get y.ps (p : Int)).d.d ≤ toF d p := QuoP.big hdat hm
      have hof : Nine (Cof.get y.ps (p : Int)).d → slF d (p + 1) ≤ 1024 → (imF (Cof.get y.ps (p : Int)).d.o ≤ eaF d ∧ imF (Cof.get y.ps (p : Int)).d.o + (Cof.get y.ps (p : Int)).d.u + (Cof.get y.ps (p : Int)).d.t + (Cof.get y.ps (p : Int)).d.s + (Cof.get y.ps (p : Int)).d.r + (Cof.get y.ps (p : Int)).d.d ≤ toF d p) → QuoP d p := fun a b c => QuoP.of hdat a b (fun _ => c)
      obtain ⟨E, hE⟩ : ∃ E, eaF d = E := ⟨_, rfl⟩
      obtain ⟨T, hT⟩ : ∃ T, toF d p = T := ⟨_, rfl⟩
      obtain ⟨I, hI⟩ : ∃ I, imF (Cof.get y.ps (p : Int)).d.o = I := ⟨_, rfl⟩
      rw [hE] at hea hr1
      rw [hT] at hto hr2
      rw [hI] at him hsh
      rw [hE, hT, hI] at hbig hof
      rw [decide_eq_true hm] at hmc
      repeat' (first | (refine XL_id ?_; first | refine XL_nil ?_ | refine XL_guard_yes rfl rfl rfl ?_ | refine XL_guard_no rfl rfl rfl rfl rfl ?_ | (refine XG_load ?_; first | refine XL_loadW tt_ok 1 rfl rfl rfl rfl rfl rfl ?_ | refine XL_load tt_ok 0 rfl rfl rfl rfl rfl rfl ?_) | (refine XG_call ?_; first | (refine XL_fn (pwithin_spec _ _ _) rfl rfl (fun _ _ _ => trivial) ?_; refine XL_dec (fun _ => ?_) (fun _ => ?_)) | refine XL_fn hmc rfl rfl (fun _ _ _ => trivial) ?_ | refine XL_fn hea rfl rfl (fun _ _ _ => trivial) ?_ | refine XL_fn hto rfl rfl (fun g hg hL => (hpre.le hFG).le hg) ?_) | (refine XL_op tt_ok (opV_shl rfl rfl (by omega)) rfl ?_; refine XL_int hsh ?_) | (refine XL_op tt_ok rfl rfl ?_; try (refine XL_dec (fun _ => ?_) (fun _ => ?_)))) | (refine XD_id ?_; first | (refine XD_thaw thaw ?_; refine XD_nil ?_) | refine XD_no rfl rfl rfl rfl rfl rfl ?_ | (refine XD_id ?_; (first | (refine XD_uL rfl ?_; refine XD_s rfl rfl rfl (XV_loadW tt_ok rfl (blk_at 1 rfl hM) rfl rfl rfl) rfl ?_) | (refine XD_gL rfl ?_; first | refine XD_sy rfl rfl rfl rfl rfl (XV_load tt_ok rfl (blk_at 0 rfl hM) rfl rfl rfl) rfl ?_ | refine XD_sy rfl rfl rfl rfl rfl (XV_loadW tt_ok rfl (blk_at 1 rfl hM) rfl rfl rfl) rfl ?_) | (refine XD_u rfl rfl ?_; refine XD_s rfl rfl rfl (XV_op tt_ok rfl) rfl ?_) | (refine XD_g rfl rfl ?_; refine XD_sy rfl rfl rfl rfl rfl (XV_op tt_ok rfl) rfl ?_)); try (first | refine XD_int (wrap_i64 (by omega) (by omega)) ?_ | refine XD_dec (fun _ => ?_) (fun _ => ?_))) | refine XD_m rfl rfl ?_) | (refine X_id ?_; first | (refine X_drawS (id := 22) [0, 1, 2, 3, 4, 5, 6, 7, 8, 9, 10, 11, 12, 13, 14, 15, 16, 17, 18, 19, 20, 21, 22, 23, 24, 25, 26] (fun | 2 => .m | 23 => .m | _ => .s) 8 (by repeat' (first | exact Split.nil | apply Split.blk)) mixed (by decide +kernel) ?_; intro G hFG hM thaw; show XD _ _ _ _ _ _ [0, 1, 2, 3, 4, 5, 6, 7, 8, 9, 10, 11, 12, 13, 14, 15, 16, 17, 18, 19, 20, 21, 22, 23, 24, 25, 26] _ _ _) | refine X_seq ?_ | (refine X_regionN (by repeat' (first | exact .nil | apply NL.cons)) ?_) | refine X_skip ?_ | refine X_ret ?_ | refine X_cond_t rfl ?_ | refine X_cond_f rfl ?_) | (refine Y_id ?_; first | refine Y_then ?_ | refine Y_then_ret ?_ | refine Y_m ?_))
      all_goals first
        | exact Y_fn1 rfl rfl (bool_t (hof ((Nine.iff _).2 (by omega)) (by omega) (by omega)))
        | exact Y_fn1 rfl rfl (bool_f (fun h => by have a := hbig h; omega))
        | exact Y_fn1 rfl rfl (bool_f (fun h => by have a := h.2.1; omega))
        | exact Y_fn1 rfl rfl (bool_f (fun h => by have a := QuoP.nine hdat h; omega))
        | skip
      
    · rw [decide_eq_false hm] at hmc
      repeat' (first | (refine XL_id ?_; first | refine XL_nil ?_ | refine XL_guard_yes rfl rfl rfl ?_ | refine XL_guard_no rfl rfl rfl rfl rfl ?_ | (refine XG_load ?_; first | refine XL_loadW tt_ok 1 rfl rfl rfl rfl rfl rfl ?_ | refine XL_load tt_ok 0 rfl rfl rfl rfl rfl rfl ?_) | (refine XG_call ?_; first | (refine XL_fn (pwithin_spec _ _ _) rfl rfl (fun _ _ _ => trivial) ?_; refine XL_dec (fun _ => ?_) (fun _ => ?_)) | refine XL_fn hmc rfl rfl (fun _ _ _ => trivial) ?_) | (refine XL_op tt_ok rfl rfl ?_; try (refine XL_dec (fun _ => ?_) (fun _ => ?_)))) | (refine X_id ?_; first | refine X_seq ?_ | (refine X_regionN (by repeat' (first | exact .nil | apply NL.cons)) ?_) | refine X_skip ?_ | refine X_ret ?_ | refine X_cond_t rfl ?_ | refine X_cond_f rfl ?_) | (refine Y_id ?_; first | refine Y_then ?_ | refine Y_then_ret ?_))
      all_goals first
        | exact Y_fn1 rfl rfl (bool_t (QuoP.of hdat ((Nine.iff _).2 (by omega)) (by omega) (fun h => absurd h hm)))
        | exact Y_fn1 rfl rfl (bool_f (fun h => by have a := h.2.1; omega))
        | exact Y_fn1 rfl rfl (bool_f (fun h => by have a := QuoP.nine hdat h; omega))
        | skip
      
end Go.Proofs.Ytalkcemelegohaa.Pl
set_option linter.unusedVariables false
set_option maxRecDepth 100000
namespace Go.Proofs.Ytalkcemelegohaa.Pl
open Go.RowKit Go.Cof Gx

abbrev liF (x : Pd) : Int := if 16 * x.d < x.u + x.k - 1 then 16 * x.d else x.u + x.k - 1
abbrev shF (x : Pd) : Sh := ⟨imF x.o, x.u, liF x, x.t⟩
theorem shF_ok {x : Pd} (h : Nine x) : ShP (shF x) := by
  obtain ⟨h1, h2, h3, h4, h5, h6, h7⟩ := h
  refine ⟨imF_rng x.o, h2, ?_, ?_⟩
  · show 1 ≤ liF x ∧ liF x ≤ 5120
    unfold liF
    split <;> omega
  · show 1 ≤ x.t ∧ x.t ≤ 4096
    omega
theorem part_spec (d : Cd) (y : Ly) (hd : d.In) (hf : y.Fit) (hl : d.ps.length = y.pm) (p : Nat) (hp : p < y.pm) (hp8 : p < 8) : FnC Try.prog 121 [cfV d y, iV p] (fun h => CfR h d y) (iV (partE d p)) := by
  have h1 := colours_spec d y hf p hp
  have h2 := fun hc => quotas_spec d y hd hf hl p hp hp8 hc
  unfold partE
  by_cases hc : ColP d p
  · rw [if_pos hc]
    rw [decide_eq_true hc] at h1
    have h2 := h2 hc
    by_cases hq : QuoP d p
    · rw [if_pos hq]
      rw [decide_eq_true hq] at h2
      refine Ctr.intro Try.func121 rfl rfl (by decide +kernel) fun F hpre => ?_
      repeat' (first | (refine XL_id ?_; first | refine XL_nil ?_ | (refine XG_load ?_; refine XL_loadW tt_ok 0 rfl rfl rfl rfl rfl rfl ?_) | (refine XG_box ?_; (refine XL_box rfl (fun _ => rfl) (fun _ => ?_); refine XL_nB (by repeat' (first | exact .nil | apply NL.cons)) ?_)) | (refine XG_call ?_; first | refine XL_fn h1 rfl rfl (fun g hg hL => CfR.le hpre hg) ?_ | refine XL_fn h2 rfl rfl (fun g hg hL => CfR.le hpre hg) ?_) | (refine XL_op tt_ok rfl rfl ?_)) | (refine X_id ?_; first | refine X_seq ?_ | (refine X_regionN (by repeat' (first | exact .nil | apply NL.cons)) ?_) | refine X_skip ?_ | refine X_ret ?_ | refine X_block ?_ | refine X_cond_f rfl ?_) | (refine Y_id ?_; first | refine Y_then ?_ | refine Y_block_normal ?_))
      all_goals exact Y_fn1 rfl rfl rfl
    · rw [if_neg hq]
      rw [decide_eq_false hq] at h2
      refine Ctr.intro Try.func121 rfl rfl (by decide +kernel) fun F hpre => ?_
      repeat' (first | (refine XL_id ?_; first | refine XL_nil ?_ | (refine XG_load ?_; refine XL_loadW tt_ok 0 rfl rfl rfl rfl rfl rfl ?_) | (refine XG_box ?_; (refine XL_box rfl (fun _ => rfl) (fun _ => ?_); refine XL_nB (by repeat' (first | exact .nil | apply NL.cons)) ?_)) | (refine XG_call ?_; first | refine XL_fn h1 rfl rfl (fun g hg hL => CfR.le hpre hg) ?_ | refine XL_fn h2 rfl rfl (fun g hg hL => CfR.le hpre hg) ?_) | (refine XL_op tt_ok rfl rfl ?_)) | (refine X_id ?_; first | refine X_seq ?_ | (refine X_regionN (by repeat' (first | exact .nil | apply NL.cons)) ?_) | refine X_ret ?_ | refine X_block ?_ | refine X_cond_t rfl ?_ | refine X_cond_f rfl ?_) | (refine Y_id ?_; first | refine Y_then ?_ | refine Y_then_ret ?_ | refine Y_block_ret ?_))
      all_goals exact Y_fn1 rfl rfl rfl
  · rw [if_neg hc]
    rw [decide_eq_false hc] at h1
    refine Ctr.intro Try.func121 rfl rfl (by decide +kernel) fun F hpre => ?_
    repeat' (first | (refine XL_id ?_; first | refine XL_nil ?_ | (refine XG_load ?_; refine XL_loadW tt_ok 0 rfl rfl rfl rfl rfl rfl ?_) | (refine XG_box ?_; (refine XL_box rfl (fun _ => rfl) (fun _ => ?_); refine XL_nB (by repeat' (first | exact .nil | apply NL.cons)) ?_)) | (refine XG_call ?_; refine XL_fn h1 rfl rfl (fun g hg hL => CfR.le hpre hg) ?_) | (refine XL_op tt_ok rfl rfl ?_)) | (refine X_id ?_; first | refine X_seq ?_ | (refine X_regionN (by repeat' (first | exact .nil | apply NL.cons)) ?_) | refine X_ret ?_ | refine X_block ?_ | refine X_cond_t rfl ?_) | (refine Y_id ?_; first | refine Y_then ?_ | refine Y_then_ret ?_ | refine Y_block_ret ?_))
    all_goals exact Y_fn1 rfl rfl rfl
set_option maxHeartbeats 4000000 in
theorem shape_spec (d : Cd) (y : Ly) (p : Nat) (hp : p < y.pm) (hn : Nine (Cof.get d.ps (p : Int))) : FnC Try.prog 95 [cfV d y, iV p] (fun h => CfR h d y) (shV (shF (Cof.get d.ps (p : Int)))) := by
  refine Ctr.intro Try.func95 rfl rfl (by decide +kernel) fun F hpre => ?_
  have hpre : CfR F.heap d y := hpre
  have r1 := hpre.ps
  have hdat := get_dat hpre hp
  rw [← hdat] at hn ⊢
  obtain ⟨h1, h2, h3, h4, h5, h6, h7⟩ := hn
  have hsh := @shl_im (Cof.get y.ps (p : Int)).d.o (by omega)
  repeat' (first | (refine XL_id ?_; first | refine XL_nil ?_ | (refine XG_load ?_; first | refine XL_load tt_ok 1 rfl rfl rfl rfl rfl rfl ?_ | refine XL_elW tt_ok rfl (by assumption) rfl (by omega) (by omega) rfl rfl rfl rfl ?_) | (refine XG_idx ?_; refine XL_idx tt_ok rfl rfl rfl rfl rfl (by assumption) (by omega) (by omega) rfl ?_) | (refine XG_box ?_; (refine XL_box rfl (fun _ => rfl) (fun _ => ?_); refine XL_nB (by repeat' (first | exact .nil | apply NL.cons)) ?_)) | (refine XG_alloc ?_; (refine XL_alloc tt_ok rfl rfl (fun _ => rfl) (fun b => ?_); refine XL_nB (by repeat' (first | exact .nil | apply NL.cons)) ?_)) | (refine XG_store ?_; first | (refine XL_storeW tt_ok 0 rfl rfl rfl rfl rfl rfl rfl ?_; refine XL_nK 0 rfl (by repeat' (first | exact .nil | apply NL.cons)) ?_) | (refine XL_storeW tt_ok 1 rfl rfl rfl rfl rfl rfl rfl ?_; refine XL_nK 1 rfl (by repeat' (first | exact .nil | apply NL.cons)) ?_)) | (refine XL_op tt_ok rfl rfl ?_)) | (refine XD_id ?_; first | refine XD_nil ?_ | (refine XD_id ?_; (first | (refine XD_uL rfl ?_; refine XD_s rfl rfl rfl (XV_load tt_ok rfl (blk_at 0 rfl hM) rfl rfl rfl) rfl ?_) | (refine XD_u rfl rfl ?_; first | refine XD_s rfl rfl rfl (XV_op tt_ok rfl) rfl ?_ | refine XD_s rfl rfl rfl (XV_build tt_ok rfl rfl rfl rfl rfl rfl) rfl ?_ | refine XD_s rfl rfl rfl (XV_op tt_ok (opV_shl rfl rfl (by omega))) rfl ?_)); try (refine XD_int (wrap_i64 (by omega) (by omega)) ?_)) | (refine XD_thaw thaw ?_; refine XD_l rfl rfl ?_)) | (refine X_id ?_; first | (refine X_drawS (id := 3) [0, 1, 2, 3, 4, 5, 6, 7, 8, 9, 10, 11, 12, 13, 14, 15, 16, 17, 18, 19] (fun | 19 => .l | _ => .s) 8 (by repeat' (first | exact Split.nil | apply Split.blk)) mixed (by decide +kernel) ?_; intro G hFG hM thaw; show XD _ _ _ _ _ _ [0, 1, 2, 3, 4, 5, 6, 7, 8, 9, 10, 11, 12, 13, 14, 15, 16, 17, 18, 19] _ _ _) | refine X_seq ?_ | (refine X_regionN (by repeat' (first | exact .nil | apply NL.cons)) ?_) | refine X_ret ?_) | (refine Y_id ?_; first | refine Y_then ?_ | refine Y_l ?_))
  all_goals first
    | exact Y_res1 rfl (.cell tt_ok 1 rfl rfl rfl rfl rfl) (L' := []) (fun _ _ => trivial) ⟨congrArg (fun z => Value.agg #[iV z, iV (Cof.get y.ps (p : Int)).d.u, iV (liF (Cof.get y.ps (p : Int)).d), iV (Cof.get y.ps (p : Int)).d.t]) hsh, rfl⟩
    | skip
  
end Go.Proofs.Ytalkcemelegohaa.Pl
set_option linter.unusedVariables false
set_option maxRecDepth 100000
namespace Go.Proofs.Ytalkcemelegohaa.Pl
open Go.RowKit Go.Cof Gx

/-- A search with a closure over one box. -/
theorem indexF_spec {f : Nat} {bx : Nat} {cs : List Value} {et : TypeId} (A : Option Addr) (m c : Nat) (xs : List Int) (q : Int → Bool) (hm : m ≤ 9223372036854775807) (hq : ∀ v, v ∈ xs → FnC Try.prog f [iV v, ptr bx] (fun h => blk bx cs et h) (.bool (q v))) :
    FnC Try.prog 133 [.slice A m c, .func (.func f) #[] #[ptr bx]] (fun h => rdS encN h A m xs ∧ blk bx cs et h) (iV (idxI q xs)) := by
  refine Ctr.intro Try.func133 rfl rfl (by decide +kernel) fun F hpre => ?_
  obtain ⟨r1, hb⟩ := hpre
  have hlen := r1.1
  have hfl := firstQ_le q xs
  repeat' (first | (refine XL_id ?_; first | refine XL_nil ?_ | (refine XL_op tt_ok rfl rfl ?_)) | (refine X_id ?_; first | refine X_seq ?_ | (refine X_regionN (by repeat' (exact .nil)) ?_) | refine X_block ?_) | (refine Y_id ?_; refine Y_then ?_))
  refine X_loopD [0, 1, 7] (fun (i : Nat) => [(8, .int .i64 i)]) (fun _ => []) (fun i => i ≤ m ∧ ∀ j : Nat, j < i → q (Cof.get xs j) = false) (fun i => m - i) 0 rfl ⟨Nat.zero_le _, fun j hj => by omega⟩ (by (repeat' (first | exact trivial | refine And.intro rfl ?_)); done) (fun _ h => h) ?_
  intro i hi
  obtain ⟨hi, hx⟩ := hi
  by_cases hlt : i < m
  · have hcl := hq (Cof.get xs (i : Int)) (get_mem' (by omega) (by omega))
    cases hqi : q (Cof.get xs (i : Int)) with
    | true =>
      rw [hqi] at hcl
      have e := firstQ_eq (q := q) (i := i) (by omega) hx (fun _ => hqi)
      repeat' (first | (refine XL_id ?_; first | refine XL_nil ?_ | (refine XG_load ?_; refine XL_el tt_ok rfl (by assumption) rfl (by omega) (by omega) rfl rfl rfl rfl ?_) | (refine XG_idx ?_; refine XL_idx tt_ok rfl rfl rfl rfl rfl (by assumption) (by omega) (by omega) rfl ?_) | (refine XG_call ?_; refine XL_fnV hcl rfl rfl rfl rfl (fun g hg hL => blk_le hb hg) ?_) | (refine XL_op tt_ok rfl rfl ?_; try (refine XL_dec_t (by omega) ?_))) | (refine X_id ?_; first | refine X_seq ?_ | (refine X_regionN (by repeat' (exact .nil)) ?_) | refine X_skip ?_ | refine X_ret ?_ | refine X_block ?_ | refine X_cond_t rfl ?_) | (refine Y_id ?_; first | refine Y_then ?_ | refine Y_then_ret ?_ | refine Y_block_ret ?_))
      all_goals first
        | exact Y_fn1 rfl rfl (by unfold idxI; rw [e, if_pos (by omega)])
        | (exfalso; omega)
        | skip
      
    | false =>
      rw [hqi] at hcl
      repeat' (first | (refine XL_id ?_; first | refine XL_nil ?_ | (refine XG_load ?_; refine XL_el tt_ok rfl (by assumption) rfl (by omega) (by omega) rfl rfl rfl rfl ?_) | (refine XG_idx ?_; refine XL_idx tt_ok rfl rfl rfl rfl rfl (by assumption) (by omega) (by omega) rfl ?_) | (refine XG_call ?_; refine XL_fnV hcl rfl rfl rfl rfl (fun g hg hL => blk_le hb hg) ?_) | (refine XL_op tt_ok rfl rfl ?_; try (first | refine XL_int (wrap_i64 (by omega) (by omega)) ?_ | refine XL_dec_t (by omega) ?_))) | (refine X_id ?_; first | refine X_seq ?_ | (refine X_regionN (by repeat' (exact .nil)) ?_) | refine X_skip ?_ | refine X_block ?_ | refine X_cond_t rfl ?_ | refine X_cond_f rfl ?_) | (refine Y_id ?_; first | refine Y_then ?_ | refine Y_block_normal ?_))
      all_goals first
        | exact Y_again (i + 1) fun _ _ hf hs => ⟨⟨by omega, fun j hj => by
            by_cases hj2 : j < i
            · exact hx j hj2
            · obtain rfl : j = i := by omega
              exact hqi⟩, by omega, hf.sub (by (repeat' (first | exact trivial | refine And.intro rfl ?_)); done), hs⟩
        | (exfalso; omega)
        | skip
      
  · obtain rfl : i = m := by omega
    have e := firstQ_eq (q := q) (l := xs) (i := i) (by omega) hx (fun _ => by omega)
    repeat' (first | (refine XL_id ?_; first | refine XL_nil ?_ | (refine XL_op tt_ok rfl rfl ?_; try (refine XL_dec_f (by omega) ?_))) | (refine X_id ?_; first | refine X_seq ?_ | (refine X_regionN (by repeat' (exact .nil)) ?_) | refine X_ret ?_ | refine X_exit ?_ | refine X_cond_f rfl ?_) | (refine Y_id ?_; first | refine Y_then ?_ | refine Y_then_exit ?_ | refine Y_block_hit ?_))
    exact Y_fn1 rfl rfl (by unfold idxI; rw [e, if_neg (by omega)])
theorem containsF_spec {f : Nat} {bx : Nat} {cs : List Value} {et : TypeId} (A : Option Addr) (m c : Nat) (xs : List Int) (q : Int → Bool) (hm : m ≤ 9223372036854775807) (hq : ∀ v, v ∈ xs → FnC Try.prog f [iV v, ptr bx] (fun h => blk bx cs et h) (.bool (q v))) :
    FnC Try.prog 126 [.slice A m c, .func (.func f) #[] #[ptr bx]] (fun h => rdS encN h A m xs ∧ blk bx cs et h) (.bool (decide (0 ≤ idxI q xs))) := by
  have hix := indexF_spec A m c xs q hm hq
  refine Ctr.intro Try.func126 rfl rfl (by decide +kernel) fun F hpre => ?_
  obtain ⟨r1, hb⟩ := hpre
  repeat' (first | (refine XL_id ?_; first | refine XL_nil ?_ | (refine XG_call ?_; refine XL_fn hix rfl rfl (fun g hg hL => ⟨r1.le hg, blk_le hb hg⟩) ?_) | (refine XL_op tt_ok rfl rfl ?_; try (refine XL_dec (fun _ => ?_) (fun _ => ?_)))) | (refine X_id ?_; first | refine X_seq ?_ | (refine X_regionN (by repeat' (exact .nil)) ?_) | refine X_ret ?_) | (refine Y_id ?_; refine Y_then ?_))
  all_goals first
    | exact Y_fn1 rfl rfl rfl
    | (refine Y_fn1 rfl rfl ?_; first | exact bool_t (by omega) | exact bool_f (by omega))
    | skip
  
def qT (n : Nat) (v : Int) : Bool := decide (¬ (0 ≤ v ∧ v ≤ (n : Int) - 1))
def TurP (d : Cd) : Prop := (1 ≤ d.tn.length ∧ d.tn.length ≤ 64) ∧ ∀ v, v ∈ d.tn → 0 ≤ v ∧ v < (d.ps.length : Int)
instance (d : Cd) : Decidable (TurP d) := inferInstanceAs (Decidable (_ ∧ ∀ v, v ∈ d.tn → _))
theorem cloT_spec (d : Cd) (y : Ly) (hl : y.pm ≤ 9223372036854775807) (v : Int) (bx : Nat) : FnC Try.prog 127 [iV v, ptr bx] (fun h => blk bx (cfL d y) 65 h) (.bool (qT y.pm v)) := by
  refine Ctr.intro Try.func127 rfl rfl (by decide +kernel) fun F hpre => ?_
  have hb : blk bx (cfL d y) 65 F.heap := hpre
  unfold qT
  repeat' (first | (refine XL_id ?_; first | refine XL_nil ?_ | (refine XG_load ?_; refine XL_loadF tt_ok rfl (by assumption) rfl rfl rfl rfl ?_) | (refine XG_call ?_; first | (refine XL_op tt_ok rfl rfl ?_) | (refine XL_fn (pwithin_spec _ _ _) rfl rfl (fun _ _ _ => trivial) ?_; refine XL_dec (fun _ => ?_) (fun _ => ?_))) | (refine XL_op tt_ok rfl rfl ?_; try (refine XL_int (wrap_i64 (by omega) (by omega)) ?_))) | (refine X_id ?_; first | refine X_seq ?_ | (refine X_regionN (by repeat' (exact .nil)) ?_) | refine X_ret ?_) | (refine Y_id ?_; refine Y_then ?_))
  all_goals first
    | (refine Y_fn1 rfl rfl ?_; first | exact bool_t (by omega) | exact bool_f (by omega))
    | skip
  
theorem turned_spec (d : Cd) (y : Ly) (hf : y.Fit) (hl : d.ps.length = y.pm) : FnC Try.prog 120 [cfV d y] (fun h => CfR h d y) (.bool (decide (TurP d))) := by
  have hcap := hf.cap
  have htf := hf.t
  refine Ctr.intro Try.func120 rfl rfl (by decide +kernel) fun F hpre => ?_
  have hpre : CfR F.heap d y := hpre
  have hcl := fun bx => containsF_spec y.tA y.tm y.tc d.tn (qT y.pm) (by omega) (fun v _ => cloT_spec d y (by omega) v bx)
  have htl := hpre.tn.1
  have hfl := firstQ_le (qT y.pm) d.tn
  have hno := firstQ_none (q := qT y.pm) (l := d.tn)
  have hall : firstQ (qT y.pm) d.tn = d.tn.length ↔ ∀ v, v ∈ d.tn → 0 ≤ v ∧ v < (d.ps.length : Int) := by
    rw [hno]
    constructor
    · intro h v hv
      have := of_decide_eq_false (h v hv)
      omega
    · intro h v hv
      have := h v hv
      exact decide_eq_false (by omega)
  have hix : 0 ≤ idxI (qT y.pm) d.tn ↔ ¬ firstQ (qT y.pm) d.tn = d.tn.length := by
    unfold idxI
    split <;> omega
  repeat' (first | (refine XL_id ?_; first | refine XL_nil ?_ | refine XL_guard_yes rfl rfl rfl ?_ | refine XL_guard_no rfl rfl rfl rfl rfl ?_ | (refine XG_box ?_; (refine XL_box rfl (fun _ => rfl) (fun bx => ?_); refine XL_nB (by repeat' (first | exact .nil | apply NL.cons)) ?_)) | (refine XG_load ?_; refine XL_load tt_ok 0 rfl rfl rfl rfl rfl rfl ?_) | (refine XG_call ?_; first | (refine XL_op tt_ok rfl rfl ?_) | (refine XL_fn (pwithin_spec _ _ _) rfl rfl (fun _ _ _ => trivial) ?_; refine XL_dec (fun _ => ?_) (fun _ => ?_)) | (refine XL_fn (hcl bx) rfl rfl (fun g hg hL => ⟨hpre.tn.le hg, blk_at 0 rfl hL⟩) ?_; refine XL_dec (fun _ => ?_) (fun _ => ?_))) | (refine XL_op tt_ok rfl rfl ?_)) | (refine X_id ?_; first | refine X_seq ?_ | (refine X_regionN (by repeat' (first | exact .nil | apply NL.cons)) ?_) | refine X_ret ?_) | (refine Y_id ?_; refine Y_then ?_))
  all_goals first
    | exact Y_fn1 rfl rfl (bool_t ⟨by omega, hall.1 (by omega)⟩)
    | exact Y_fn1 rfl rfl (bool_f (fun h => by have a := hall.2 h.2; omega))
    | exact Y_fn1 rfl rfl (bool_f (fun h => by have a := h.1; omega))
    | skip
  
end Go.Proofs.Ytalkcemelegohaa.Pl
set_option linter.unusedVariables false
set_option maxRecDepth 100000
namespace Go.Proofs.Ytalkcemelegohaa.Pl
open Go.RowKit Go.Cof Gx

abbrev swF (d : Cd) : Int := (d.ls * d.lw + d.tl) * d.cs.st
def SliP (d : Cd) : Prop := (1 ≤ d.sl ∧ d.sl ≤ 4194304) ∧ d.pd ≤ 4194304 ∧ d.fi < 1099511627776 ∧ (MachP d → CostP d.cs → swF d ≤ d.pd ∧ ∀ p, p < d.ps.length → partE d p = 0 → mostF d.cs (shF (Cof.get d.ps (p : Int))) ≤ d.sl)
instance (d : Cd) : Decidable (SliP d) := inferInstanceAs (Decidable (_ ∧ _ ∧ _ ∧ (_ → _ → _ ∧ ∀ p, p < _ → _ → _)))
theorem partE_zero {d : Cd} {p : Nat} (h : partE d p = 0) : ColP d p ∧ QuoP d p := by
  unfold partE at h
  split at h
  · split at h
    · exact ⟨by assumption, by assumption⟩
    · exact absurd h (by decide)
  · exact absurd h (by decide)
theorem lw_rng {d : Cd} (hm : MachP d) : 0 ≤ d.ls * d.lw ∧ d.ls * d.lw ≤ 65536 := by
  have h1 := hm.ls
  have h2 := hm.lw
  exact ⟨Int.mul_nonneg (by omega) (by omega), Int.le_trans (Int.mul_le_mul h1.2 h2.2 (by omega) (by decide)) (by decide)⟩
set_option maxHeartbeats 16000000 in
theorem sliced_spec (d : Cd) (y : Ly) (hd : d.In) (hf : y.Fit) (hl : d.ps.length = y.pm) : FnC Try.prog 119 [cfV d y] (fun h => CfR h d y) (.bool (decide (SliP d))) := by
  have hmc := machine_spec d y hd hl
  have hcc := ccheck_spec d.cs hd.cs
  by_cases hb : MachP d ∧ CostP d.cs
  · obtain ⟨hm, hc⟩ := hb
    rw [decide_eq_true hm] at hmc
    rw [costE_ok hc] at hcc
    have hlw := lw_rng hm
    have htl := hm.tl
    have hps := hm.ps
    have hsw := switch_spec d.cs hd.cs (d.ls * d.lw) d.tl hc hlw (by omega)
    obtain ⟨W, hW⟩ : ∃ W, (d.ls * d.lw + d.tl) * d.cs.st = W := ⟨_, rfl⟩
    rw [hW] at hsw
    have hWd : swF d = W := hW
    refine Ctr.intro Try.func119 rfl rfl (by decide +kernel) fun F hpre => ?_
    have hpre : CfR F.heap d y := hpre
    repeat' (first | (refine XL_id ?_; first | refine XL_nil ?_ | refine XL_guard_yes rfl rfl rfl ?_ | refine XL_guard_no rfl rfl rfl rfl rfl ?_ | (refine XG_box ?_; (refine XL_box rfl (fun _ => rfl) (fun bx => ?_); refine XL_nB (by repeat' (first | exact .nil | apply NL.cons)) ?_)) | (refine XG_load ?_; first | refine XL_loadW tt_ok 0 rfl rfl rfl rfl rfl rfl ?_ | refine XL_load tt_ok 0 rfl rfl rfl rfl rfl rfl ?_) | (refine XG_call ?_; first | (refine XL_op tt_ok rfl rfl ?_) | refine XL_fn hmc rfl rfl (fun _ _ _ => trivial) ?_ | refine XL_fn hcc rfl rfl (fun _ _ _ => trivial) ?_ | refine XL_fn hsw rfl rfl (fun _ _ _ => trivial) ?_) | (refine XL_op tt_ok rfl rfl ?_; try (first | refine XL_int (wrap_i64 (by omega) (by omega)) ?_ | refine XL_dec_f (by omega) ?_ | refine XL_dec (fun _ => ?_) (fun _ => ?_)))) | (refine X_id ?_; first | refine X_cutD (c := .block 0 _) [] (fun (_ : Unit) => []) (fun _ => [blk bx (cfL d y) 65]) (fun _ => ∀ p, p < d.ps.length → partE d p = 0 → mostF d.cs (shF (Cof.get d.ps (p : Int))) ≤ d.sl) rfl (X_block (hold ?_)) (fun _ hj => ?_) | refine X_seq ?_ | (refine X_regionN (by repeat' (first | exact .nil | apply NL.cons)) ?_) | refine X_skip ?_ | refine X_ret ?_ | refine X_cond_t rfl ?_ | refine X_cond_f rfl ?_) | (refine Y_id ?_; first | refine Y_then ?_ | refine Y_then_ret ?_))
    all_goals first
      | exact Y_fn1 rfl rfl (bool_f (fun h => by have a := h.1; omega))
      | exact Y_fn1 rfl rfl (bool_f (fun h => by have a := h.2.1; omega))
      | exact Y_fn1 rfl rfl (bool_f (fun h => by have a := h.2.2.1; omega))
      | exact Y_fn1 rfl rfl (bool_f (fun h => by have a := (h.2.2.2 hm hc).1; rw [hWd] at a; omega))
      | exact Y_fn1 rfl rfl (bool_t ⟨by omega, by omega, by omega, fun _ _ => ⟨by rw [hWd]; omega, hj⟩⟩)
      | skip
    · intro _
      refine X_loopD [1, 58] (fun (i : Nat) => [(59, .int .i64 i)]) (fun i => [blk bx (cfL d y) 65]) (fun i => i ≤ y.pm ∧ ∀ p, p < i → partE d p = 0 → mostF d.cs (shF (Cof.get d.ps (p : Int))) ≤ d.sl) (fun i => y.pm - i) 0 rfl ⟨Nat.zero_le _, fun j hj => by omega⟩ (by (repeat' (first | exact trivial | refine And.intro rfl ?_)); done) (fun h hs => hs) ?_
      intro i hi
      obtain ⟨hi, hx⟩ := hi
      by_cases hlt : i < y.pm
      · have hpt := part_spec d y hd hf hl i hlt (by omega)
        by_cases hz : partE d i = 0
        · rw [hz] at hpt
          have hnn : Nine (Cof.get d.ps (i : Int)) := (partE_zero hz).2.1
          have hsh := shape_spec d y i hlt hnn
          have hmo := most_spec d.cs (shF (Cof.get d.ps (i : Int))) hd.cs hc (shF_ok hnn)
          obtain ⟨M, hMo⟩ : ∃ M, mostF d.cs (shF (Cof.get d.ps (i : Int))) = M := ⟨_, rfl⟩
          rw [hMo] at hmo
          repeat' (first | (refine XL_id ?_; first | refine XL_nil ?_ | refine XL_guard_yes rfl rfl rfl ?_ | (refine XG_load ?_; first | refine XL_loadW tt_ok 0 rfl rfl rfl rfl rfl rfl ?_ | refine XL_load tt_ok 0 rfl rfl rfl rfl rfl rfl ?_) | (refine XG_call ?_; first | refine XL_fn hpt rfl rfl (fun g hg hL => CfR.le hpre hg) ?_ | refine XL_fn hsh rfl rfl (fun g hg hL => (CfR.le hpre hFG).le hg) ?_ | refine XL_fn hmo rfl rfl (fun _ _ _ => trivial) ?_) | (refine XL_op tt_ok rfl rfl ?_; try (first | refine XL_int (wrap_i64 (by omega) (by omega)) ?_ | refine XL_dec_t (by omega) ?_ | refine XL_dec_f (by omega) ?_ | refine XL_dec (fun _ => ?_) (fun _ => ?_)))) | (refine XD_id ?_; first | (refine XD_thaw thaw ?_; refine XD_nil ?_) | (refine XD_id ?_; (first | (refine XD_uL rfl ?_; first | refine XD_s rfl rfl rfl (XV_loadW tt_ok rfl (blk_at 0 rfl hM) rfl rfl rfl) rfl ?_ | refine XD_s rfl rfl rfl (XV_load tt_ok rfl (blk_at 0 rfl hM) rfl rfl rfl) rfl ?_) | (refine XD_u rfl rfl ?_; refine XD_s rfl rfl rfl (XV_op tt_ok rfl) rfl ?_))) | refine XD_m rfl rfl ?_) | (refine X_id ?_; first | (refine X_drawS (id := 12) [0, 1, 2, 3, 4, 5, 6, 7, 8, 9, 10] (fun | 4 => .m | 5 => .m | _ => .s) 8 (by repeat' (first | exact Split.nil | apply Split.blk)) mixed (by decide +kernel) ?_; intro G hFG hM thaw; show XD _ _ _ _ _ _ [0, 1, 2, 3, 4, 5, 6, 7, 8, 9, 10] _ _ _) | refine X_seq ?_ | (refine X_regionN (by repeat' (first | exact .nil | apply NL.cons)) ?_) | refine X_skip ?_ | refine X_ret ?_ | refine X_block ?_ | refine X_cond_t rfl ?_ | refine X_cond_f rfl ?_) | (refine Y_id ?_; first | refine Y_then ?_ | refine Y_then_ret ?_ | refine Y_block_normal ?_ | refine Y_block_ret ?_ | refine Y_m ?_))
          all_goals first
            | exact Y_fn1 rfl rfl (bool_f (fun h => by have a := (h.2.2.2 hm hc).2 i (by omega) hz; rw [hMo] at a; omega))
            | exact Y_again (i + 1) fun _ _ hf hs => ⟨⟨hlt, fun p hp hz2 => by by_cases hp2 : p < i; exact hx p hp2 hz2; obtain rfl : p = i := (by omega); rw [hMo]; omega⟩, by show y.pm - (i + 1) < y.pm - i; omega, hf.sub (by (repeat' (first | exact trivial | refine And.intro rfl ?_)); done), hs⟩
            | skip
          
        · repeat' (first | (refine XL_id ?_; first | refine XL_nil ?_ | (refine XG_load ?_; refine XL_loadW tt_ok 0 rfl rfl rfl rfl rfl rfl ?_) | (refine XG_call ?_; refine XL_fn hpt rfl rfl (fun g hg hL => CfR.le hpre hg) ?_) | (refine XL_op tt_ok rfl rfl ?_; try (first | refine XL_int (wrap_i64 (by omega) (by omega)) ?_ | refine XL_dec_t (by omega) ?_))) | (refine X_id ?_; first | refine X_seq ?_ | (refine X_regionN (by repeat' (first | exact .nil | apply NL.cons)) ?_) | refine X_skip ?_ | refine X_exit ?_ | refine X_block ?_ | refine X_cond_t rfl ?_) | (refine Y_id ?_; first | refine Y_then ?_ | refine Y_then_exit ?_ | refine Y_block_hit ?_))
          all_goals first
            | exact Y_again (i + 1) fun _ _ hf hs => ⟨⟨hlt, fun p hp hz2 => by by_cases hp2 : p < i; exact hx p hp2 hz2; obtain rfl : p = i := (by omega); exact absurd hz2 hz⟩, by show y.pm - (i + 1) < y.pm - i; omega, hf.sub (by (repeat' (first | exact trivial | refine And.intro rfl ?_)); done), hs⟩
            | skip
          
      · repeat' (first | (refine XL_id ?_; first | refine XL_nil ?_ | (refine XL_op tt_ok rfl rfl ?_; try (refine XL_dec_f (by omega) ?_))) | (refine X_id ?_; first | refine X_seq ?_ | (refine X_regionN (by repeat' (first | exact .nil | apply NL.cons)) ?_) | refine X_exit ?_ | refine X_cond_f rfl ?_) | (refine Y_id ?_; first | refine Y_then ?_ | refine Y_then_exit ?_ | refine Y_block_hit ?_))
        all_goals first
          | exact Y_again () fun _ _ hf hs => ⟨fun p hp hz => hx p (by omega) hz, hf.sub (by (repeat' (exact trivial)); done), hs⟩
          | (exfalso; omega)
          | skip
        
  · by_cases hm : MachP d
    · rw [decide_eq_true hm] at hmc
      rw [costE_no (fun h => hb ⟨hm, h⟩)] at hcc
      refine Ctr.intro Try.func119 rfl rfl (by decide +kernel) fun F hpre => ?_
      repeat' (first | (refine XL_id ?_; first | refine XL_nil ?_ | refine XL_guard_yes rfl rfl rfl ?_ | refine XL_guard_no rfl rfl rfl rfl rfl ?_ | (refine XG_load ?_; first | refine XL_loadW tt_ok 0 rfl rfl rfl rfl rfl rfl ?_ | refine XL_load tt_ok 0 rfl rfl rfl rfl rfl rfl ?_) | (refine XG_box ?_; (refine XL_box rfl (fun _ => rfl) (fun _ => ?_); refine XL_nB (by repeat' (first | exact .nil | apply NL.cons)) ?_)) | (refine XG_call ?_; first | refine XL_fn hmc rfl rfl (fun _ _ _ => trivial) ?_ | refine XL_fn hcc rfl rfl (fun _ _ _ => trivial) ?_) | (refine XL_op tt_ok rfl rfl ?_; try (first | refine XL_dec_t (by omega) ?_ | refine XL_dec (fun _ => ?_) (fun _ => ?_)))) | (refine X_id ?_; first | refine X_seq ?_ | (refine X_regionN (by repeat' (first | exact .nil | apply NL.cons)) ?_) | refine X_skip ?_ | refine X_ret ?_ | refine X_cond_t rfl ?_ | refine X_cond_f rfl ?_) | (refine Y_id ?_; first | refine Y_then ?_ | refine Y_then_ret ?_))
      all_goals first
        | exact Y_fn1 rfl rfl (bool_f (fun h => by have a := h.1; omega))
        | exact Y_fn1 rfl rfl (bool_f (fun h => by have a := h.2.1; omega))
        | exact Y_fn1 rfl rfl (bool_f (fun h => by have a := h.2.2.1; omega))
        | exact Y_fn1 rfl rfl (bool_t ⟨by omega, by omega, by omega, fun a b => absurd ⟨a, b⟩ hb⟩)
        | skip
      
    · rw [decide_eq_false hm] at hmc
      refine Ctr.intro Try.func119 rfl rfl (by decide +kernel) fun F hpre => ?_
      repeat' (first | (refine XL_id ?_; first | refine XL_nil ?_ | refine XL_guard_yes rfl rfl rfl ?_ | refine XL_guard_no rfl rfl rfl rfl rfl ?_ | (refine XG_load ?_; first | refine XL_loadW tt_ok 0 rfl rfl rfl rfl rfl rfl ?_ | refine XL_load tt_ok 0 rfl rfl rfl rfl rfl rfl ?_) | (refine XG_box ?_; (refine XL_box rfl (fun _ => rfl) (fun _ => ?_); refine XL_nB (by repeat' (first | exact .nil | apply NL.cons)) ?_)) | (refine XG_call ?_; refine XL_fn hmc rfl rfl (fun _ _ _ => trivial) ?_) | (refine XL_op tt_ok rfl rfl ?_; try (refine XL_dec (fun _ => ?_) (fun _ => ?_)))) | (refine X_id ?_; first | refine X_seq ?_ | (refine X_regionN (by repeat' (first | exact .nil | apply NL.cons)) ?_) | refine X_skip ?_ | refine X_ret ?_ | refine X_cond_t rfl ?_ | refine X_cond_f rfl ?_) | (refine Y_id ?_; first | refine Y_then ?_ | refine Y_then_ret ?_))
      all_goals first
        | exact Y_fn1 rfl rfl (bool_f (fun h => by have a := h.1; omega))
        | exact Y_fn1 rfl rfl (bool_f (fun h => by have a := h.2.1; omega))
        | exact Y_fn1 rfl rfl (bool_f (fun h => by have a := h.2.2.1; omega))
        | exact Y_fn1 rfl rfl (bool_t ⟨by omega, by omega, by omega, fun a b => absurd ⟨a, b⟩ hb⟩)
        | skip
      
end Go.Proofs.Ytalkcemelegohaa.Pl
set_option linter.unusedVariables false
set_option maxRecDepth 100000
namespace Go.Proofs.Ytalkcemelegohaa.Pl
open Go.RowKit Go.Cof Gx

structure Fl where
  e : Int
  a : Int
deriving DecidableEq
instance : Inhabited Fl := ⟨⟨0, 0⟩⟩
def encFl : Enc Fl := ⟨fun x => [iV x.e, iV x.a], 2, fun _ => rfl, by decide, fun x u hu => by simp at hu; rcases hu with rfl | rfl <;> rfl⟩
def nt (b : Bool) (e a : Int) (l : List Fl) : List Fl := if b then l else l ++ [⟨e, a⟩]
theorem nt_len (b : Bool) (e a : Int) (l : List Fl) : (nt b e a l).length ≤ l.length + 1 := by
  unfold nt
  split
  · omega
  · simp
def partsF (d : Cd) : Nat → List Fl
  | 0 => nt (decide (TurP d)) 112 3 (nt (decide (SliP d)) 113 2 (nt (decide (CostP d.cs)) 100 1 (nt (decide (MachP d)) 114 0 [])))
  | n + 1 => nt (decide (partE d n = 0)) (partE d n) (4 + n) (partsF d n)
theorem partsF_len (d : Cd) : ∀ n, (partsF d n).length ≤ n + 4
  | 0 => by
    unfold partsF
    have h1 := nt_len (decide (MachP d)) 114 0 []
    have h2 := nt_len (decide (CostP d.cs)) 100 1 (nt (decide (MachP d)) 114 0 [])
    have h3 := nt_len (decide (SliP d)) 113 2 (nt (decide (CostP d.cs)) 100 1 (nt (decide (MachP d)) 114 0 []))
    have h4 := nt_len (decide (TurP d)) 112 3 (nt (decide (SliP d)) 113 2 (nt (decide (CostP d.cs)) 100 1 (nt (decide (MachP d)) 114 0 [])))
    simp at h1
    omega
  | n + 1 => by
    have h1 := partsF_len d n
    have h2 := nt_len (decide (partE d n = 0)) (partE d n) (4 + n) (partsF d n)
    unfold partsF
    omega
def chkF (d : Cd) : List Fl := partsF d (min d.ps.length 8)
abbrev outB (p : Nat) (A : Option Addr) (m c : Nat) : HProp := blk p [.slice A m c] 153
def isOut (p : Nat) (l : List Fl) : HProp := fun g => ∃ x : Option Addr × Nat, True ∧ stars [outB p x.1 l.length x.2, own encFl x.1 l.length x.2 l] g
theorem isOut_mk {p : Nat} {A : Option Addr} {m c : Nat} {l l' : List Fl} (hl : l = l') (hm : m = l'.length) : ∀ g, stars [outB p A m c, own encFl A m c l] g → isOut p l' g := fun g hs => by
  subst hl hm
  exact ⟨(A, c), trivial, hs⟩
set_option maxHeartbeats 4000000 in
theorem note_spec (p : Nat) (l : List Fl) (b : Bool) (e a : Int) (hl : l.length ≤ 100) : Ctr Try.prog 116 [bV b, iV e, iV a, ptr p] (fun _ => True) [isOut p l] (fun v L => v = .tuple #[] ∧ L = [isOut p (nt b e a l)]) := by
  cases b with
  | true =>
    refine Ctr.intro Try.func116 rfl rfl (by decide +kernel) fun F hpre => ?_
    repeat' (first | (refine XL_id ?_; first | refine XL_nil ?_ | (refine XL_op tt_ok rfl rfl ?_; try (refine XL_dec_t (by omega) ?_))) | (refine X_id ?_; first | refine X_seq ?_ | (refine X_regionN (by repeat' (first | exact .nil | apply NL.cons)) ?_) | refine X_skip ?_ | refine X_cond_f rfl ?_) | (refine Y_id ?_; refine Y_then ?_))
    all_goals first
      | exact Y_end0 rfl (fun _ h => h) ⟨rfl, rfl⟩
      | skip
    
  | false =>
    refine Ctr.intro Try.func116 rfl rfl (by decide +kernel) fun F hpre => ?_
    refine X_openp 0 rfl (fun _ h => h) fun x _ => ?_
    obtain ⟨A, c⟩ := x
    dsimp only
    repeat' (first | (refine XL_id ?_; first | refine XL_nil ?_ | (refine XG_load ?_; refine XL_load tt_ok 0 rfl rfl rfl rfl rfl rfl ?_) | (refine XG_build ?_; (refine XL_build tt_ok rfl rfl rfl rfl rfl rfl rfl ?_; refine XL_aggN (by repeat' (first | exact .nil | apply NL.cons)) ?_)) | (refine XG_call ?_; (refine XL_app1 (E := encFl) tt_ok 2 0 ⟨e, a⟩ rfl rfl rfl rfl rfl rfl rfl rfl rfl rfl rfl (by show (_ : Nat) * 16 ≤ _; omega) (by omega) (fun _ _ => rfl) (fun A2 c2 => ?_))) | (refine XG_lit ?_; (refine XL_lit tt_ok rfl rfl rfl rfl rfl rfl rfl rfl rfl (fun _ => rfl) (fun b => ?_); refine XL_nB (by repeat' (first | exact .nil | apply NL.cons)) ?_)) | (refine XG_store ?_; (refine XL_store tt_ok 1 rfl rfl rfl rfl rfl rfl rfl rfl ?_; refine XL_nK 1 rfl (by repeat' (first | exact .nil | apply NL.cons)) ?_)) | (refine XL_op tt_ok rfl rfl ?_; try (refine XL_dec_t (by omega) ?_))) | (refine X_id ?_; first | refine X_seq ?_ | (refine X_regionN (by repeat' (first | exact .nil | apply NL.cons)) ?_) | refine X_cond_t rfl ?_) | (refine Y_id ?_; refine Y_then ?_))
    all_goals first
      | exact Y_end0 rfl (stars_fin [1, 1] rfl (isOut_mk (l' := nt false e a l) rfl (by simp [nt]))) ⟨rfl, rfl⟩
      | skip
    
theorem isOut_nil {p : Nat} : ∀ g, stars [outB p none 0 0] g → isOut p [] g := fun g hs => ⟨(none, 0), trivial, by
  obtain ⟨g1, g2, d, a, b, hA, hB⟩ := hs
  exact ⟨g1, g2, d, a, b, hA, stars_new (own_nil encFl _) hB⟩⟩
theorem XL_boolE {P : Program} {F : Frz} {n : Nat} {ops : Array Oper} {l : List Oper} {Q : Exit → Act → World → Prop} {e : Env} {L : List HProp} {j : Nat} {b b' : Bool} (h : b = b') (k : XL P F n ops l Q ((j, .bool b') :: e) L) : XL P F n ops l Q ((j, .bool b) :: e) L := h ▸ k
set_option maxHeartbeats 8000000 in
theorem check_spec (d : Cd) (y : Ly) (hd : d.In) (hf : y.Fit) (hl : d.ps.length = y.pm) : Ctr Try.prog 114 [cfV d y] (fun h => CfR h d y) [] (fun v L => ∃ A c, v = .slice A (chkF d).length c ∧ L = [own encFl A (chkF d).length c (chkF d)]) := by
  have hmc := machine_spec d y hd hl
  have hcc := ccheck_spec d.cs hd.cs
  have hsl := sliced_spec d y hd hf hl
  have htu := turned_spec d y hf hl
  have hcap := hf.cap
  obtain ⟨l1, hl1⟩ : ∃ l, nt (decide (MachP d)) 114 0 [] = l := ⟨_, rfl⟩
  obtain ⟨l2, hl2⟩ : ∃ l, nt (decide (CostP d.cs)) 100 1 l1 = l := ⟨_, rfl⟩
  obtain ⟨l3, hl3⟩ : ∃ l, nt (decide (SliP d)) 113 2 l2 = l := ⟨_, rfl⟩
  obtain ⟨l4, hl4⟩ : ∃ l, nt (decide (TurP d)) 112 3 l3 = l := ⟨_, rfl⟩
  have hp0 : partsF d 0 = l4 := by unfold partsF; rw [hl1, hl2, hl3, hl4]
  have hn1 : l1.length ≤ 1 := by rw [← hl1]; exact nt_len _ _ _ []
  have hn2 : l2.length ≤ 2 := by have := nt_len (decide (CostP d.cs)) 100 1 l1; rw [hl2] at this; omega
  have hn3 : l3.length ≤ 3 := by have := nt_len (decide (SliP d)) 113 2 l2; rw [hl3] at this; omega
  have t1 := fun p => note_spec p [] (decide (MachP d)) 114 0 (by decide)
  have t2 := fun p => note_spec p l1 (decide (CostP d.cs)) 100 1 (by omega)
  have t3 := fun p => note_spec p l2 (decide (SliP d)) 113 2 (by omega)
  have t4 := fun p => note_spec p l3 (decide (TurP d)) 112 3 (by omega)
  rw [hl1] at t1
  rw [hl2] at t2
  rw [hl3] at t3
  rw [hl4] at t4
  have hce : decide (costE d.cs = 0) = decide (CostP d.cs) := by
    by_cases h : CostP d.cs
    · rw [costE_ok h, decide_eq_true h]; rfl
    · rw [costE_no h, decide_eq_false h]; rfl
  obtain ⟨m8, hm8⟩ : ∃ m8 : Nat, m8 = min d.ps.length 8 := ⟨_, rfl⟩
  have hmn : (if (8 : Int) < (y.pm : Int) then 8 else (y.pm : Int)) = (m8 : Int) := by split <;> omega
  have hck : chkF d = partsF d m8 := by unfold chkF; rw [hm8]
  refine Ctr.intro Try.func114 rfl rfl (by decide +kernel) fun F hpre => ?_
  have hpre : CfR F.heap d y := hpre
  repeat' (first | (refine XL_id ?_; first | refine XL_nil ?_ | (refine XL_mem (fun h hs => stars_shut isOut_nil (stars_take [0] rfl hs)) ?_; refine XL_callV [0] (t1 _) rfl rfl rfl rfl (fun _ => rfl) (fun _ _ _ => trivial) (fun v L hv => ?_); obtain ⟨rfl, rfl⟩ := hv) | (refine XG_box ?_; (refine XL_box rfl (fun _ => rfl) (fun bx => ?_); refine XL_nB (by repeat' (first | exact .nil | apply NL.cons)) ?_)) | (refine XG_load ?_; first | refine XL_loadW tt_ok 1 rfl rfl rfl rfl rfl rfl ?_ | refine XL_load tt_ok 1 rfl rfl rfl rfl rfl rfl ?_) | (refine XG_call ?_; first | (refine XL_op tt_ok rfl rfl ?_; refine XL_int hmn ?_) | (refine XL_op tt_ok rfl rfl ?_) | refine XL_fn hmc rfl rfl (fun _ _ _ => trivial) ?_ | refine XL_fn hcc rfl rfl (fun _ _ _ => trivial) ?_ | refine XL_fn hsl rfl rfl (fun g hg hL => CfR.le hpre hg) ?_ | refine XL_fn htu rfl rfl (fun g hg hL => CfR.le hpre hg) ?_ | (refine XL_callV [0] (t2 _) rfl rfl rfl rfl (fun _ => rfl) (fun _ _ _ => trivial) (fun v L hv => ?_); obtain ⟨rfl, rfl⟩ := hv) | (refine XL_callV [0] (t3 _) rfl rfl rfl rfl (fun _ => rfl) (fun _ _ _ => trivial) (fun v L hv => ?_); obtain ⟨rfl, rfl⟩ := hv) | (refine XL_callV [0] (t4 _) rfl rfl rfl rfl (fun _ => rfl) (fun _ _ _ => trivial) (fun v L hv => ?_); obtain ⟨rfl, rfl⟩ := hv)) | (refine XG_alloc ?_; (refine XL_alloc tt_ok rfl rfl (fun _ => rfl) (fun b => ?_); refine XL_nB (by repeat' (first | exact .nil | apply NL.cons)) ?_)) | (refine XL_op tt_ok rfl rfl ?_; refine XL_boolE hce ?_) | (refine XL_op tt_ok rfl rfl ?_)) | (refine X_id ?_; first | refine X_cutD (c := .block 0 _) [3] (fun (_ : Unit) => []) (fun _ => [isOut b (chkF d)]) (fun _ => True) rfl (X_block (hold ?_)) (fun _ _ => hold ?_) | refine X_seq ?_ | (refine X_regionN (by repeat' (first | exact .nil | apply NL.cons)) ?_)) | (refine Y_id ?_; refine Y_then ?_))
  · intro _
    refine X_loopD [1, 3, 4, 29] (fun (i : Nat) => [(30, .int .i64 i)]) (fun i => [isOut b (partsF d i), blk bx (cfL d y) 65]) (fun i => i ≤ m8) (fun i => m8 - i) 0 rfl (Nat.zero_le _) (by (repeat' (first | exact trivial | refine And.intro rfl ?_)); done) (fun h hs => by rw [hp0]; exact hs) ?_
    intro i hi
    have hi : i ≤ m8 := hi
    by_cases hlt : i < m8
    · have hpt := part_spec d y hd hf hl i (by omega) (by omega)
      obtain ⟨B, hB⟩ : ∃ B, decide (partE d i = 0) = B := ⟨_, rfl⟩
      have tn := fun p => note_spec p (partsF d i) B (partE d i) (4 + i) (by have := partsF_len d i; omega)
      have hst : nt B (partE d i) (4 + i) (partsF d i) = partsF d (i + 1) := by rw [← hB]; rfl
      rw [hst] at tn
      repeat' (first | (refine XL_id ?_; first | refine XL_nil ?_ | (refine XG_load ?_; refine XL_loadW tt_ok 1 rfl rfl rfl rfl rfl rfl ?_) | (refine XG_call ?_; first | refine XL_fn hpt rfl rfl (fun g hg hL => CfR.le hpre hg) ?_ | (refine XL_callV [0] (tn _) rfl rfl rfl rfl (fun _ => rfl) (fun _ _ _ => trivial) (fun v L hv => ?_); obtain ⟨rfl, rfl⟩ := hv)) | (refine XL_op tt_ok rfl rfl ?_; refine XL_boolE hB ?_) | (refine XL_op tt_ok rfl rfl ?_; try (first | refine XL_int (wrap_i64 (by omega) (by omega)) ?_ | refine XL_dec_t (by omega) ?_))) | (refine X_id ?_; first | refine X_seq ?_ | (refine X_regionN (by repeat' (first | exact .nil | apply NL.cons)) ?_) | refine X_skip ?_ | refine X_block ?_ | refine X_cond_t rfl ?_) | (refine Y_id ?_; first | refine Y_then ?_ | refine Y_block_normal ?_))
      all_goals first
        | exact Y_again (i + 1) fun _ _ hf hs => ⟨hlt, by show m8 - (i + 1) < m8 - i; omega, hf.sub (by (repeat' (first | exact trivial | refine And.intro rfl ?_)); done), hs⟩
        | (exfalso; omega)
        | skip
      
    · obtain rfl : i = m8 := by omega
      repeat' (first | (refine XL_id ?_; first | refine XL_nil ?_ | (refine XL_op tt_ok rfl rfl ?_; try (refine XL_dec_f (by omega) ?_))) | (refine X_id ?_; first | refine X_seq ?_ | (refine X_regionN (by repeat' (first | exact .nil | apply NL.cons)) ?_) | refine X_exit ?_ | refine X_cond_f rfl ?_) | (refine Y_id ?_; first | refine Y_then ?_ | refine Y_then_exit ?_ | refine Y_block_hit ?_))
      all_goals first
        | (rw [hck]; exact Y_again () fun _ _ hf hs => ⟨trivial, hf.sub (by (repeat' (first | exact trivial | refine And.intro rfl ?_)); done), hs.imp fun h hs => stars_only [0] rfl h hs⟩)
        | (exfalso; omega)
        | skip
      
  · intro _
    refine Y_then ?_
    refine X_openp 0 rfl (fun _ h => h) fun x _ => ?_
    obtain ⟨A, c⟩ := x
    dsimp only
    repeat' (first | (refine XL_id ?_; first | refine XL_nil ?_ | (refine XG_load ?_; refine XL_load tt_ok 0 rfl rfl rfl rfl rfl rfl ?_) | (refine XL_op tt_ok rfl rfl ?_)) | (refine X_id ?_; first | refine X_seq ?_ | (refine X_regionN (by repeat' (first | exact .nil | apply NL.cons)) ?_) | refine X_ret ?_) | (refine Y_id ?_; refine Y_then ?_))
    all_goals first
      | exact Y_ret1 rfl rfl (fun h hs => stars_only [1] rfl h hs) ⟨_, _, rfl, rfl⟩
      | skip
    
end Go.Proofs.Ytalkcemelegohaa.Pl
set_option linter.unusedVariables false
set_option maxRecDepth 100000
namespace Go.Proofs.Ytalkcemelegohaa.Pl
open Go.RowKit Go.Cof Gx

def MayP (d : Cd) : Prop := chkF d = []
instance (d : Cd) : Decidable (MayP d) := inferInstanceAs (Decidable (_ = _))
theorem may_spec (d : Cd) (y : Ly) (hd : d.In) (hf : y.Fit) (hl : d.ps.length = y.pm) : FnC Try.prog 108 [cfV d y] (fun h => CfR h d y) (.bool (decide (MayP d))) := by
  have hck := check_spec d y hd hf hl
  refine Ctr.intro Try.func108 rfl rfl (by decide +kernel) fun F hpre => ?_
  repeat' (first | (refine XL_id ?_; first | refine XL_nil ?_ | (refine XG_load ?_; refine XL_loadW tt_ok 0 rfl rfl rfl rfl rfl rfl ?_) | (refine XG_box ?_; (refine XL_box rfl (fun _ => rfl) (fun _ => ?_); refine XL_nB (by repeat' (first | exact .nil | apply NL.cons)) ?_)) | (refine XG_call ?_; first | (refine XL_op tt_ok rfl rfl ?_) | (refine XL_callK [] hck rfl rfl (fun _ => rfl) (fun g hg hL => CfR.le hpre hg) (fun u L hv => ?_); obtain ⟨A1, c1, rfl, rfl⟩ := hv)) | (refine XL_op tt_ok rfl rfl ?_; try (refine XL_dec (fun _ => ?_) (fun _ => ?_)))) | (refine X_id ?_; first | refine X_seq ?_ | (refine X_regionN (by repeat' (first | exact .nil | apply NL.cons)) ?_) | refine X_ret ?_) | (refine Y_id ?_; refine Y_then ?_))
  all_goals first
    | exact Y_fn1 rfl rfl (bool_t (List.length_eq_zero_iff.1 (by omega)))
    | exact Y_fn1 rfl rfl (bool_f (fun h => by have a := List.length_eq_zero_iff.2 (show chkF d = [] from h); omega))
    | skip
  
theorem MayP.noNt {b : Bool} {e a : Int} {l : List Fl} (h : nt b e a l = []) : b = true ∧ l = [] := by
  unfold nt at h
  split at h
  · exact ⟨by assumption, h⟩
  · simp at h
theorem parts_nil {d : Cd} : ∀ {n : Nat}, partsF d n = [] → (partsF d 0 = []) ∧ ∀ p, p < n → partE d p = 0
  | 0, h => ⟨h, fun p hp => by omega⟩
  | n + 1, h => by
    obtain ⟨h1, h2⟩ := MayP.noNt (show nt (decide (partE d n = 0)) (partE d n) (4 + n) (partsF d n) = [] from h)
    obtain ⟨h3, h4⟩ := parts_nil h2
    exact ⟨h3, fun p hp => by by_cases hp2 : p < n; exact h4 p hp2; obtain rfl : p = n := (by omega); exact of_decide_eq_true h1⟩
structure MayF (d : Cd) : Prop where
  mach : MachP d
  cost : CostP d.cs
  sli : SliP d
  tur : TurP d
  part : ∀ p, p < d.ps.length → ColP d p ∧ QuoP d p
theorem MayP.all {d : Cd} (h : MayP d) : MayF d := by
  obtain ⟨h0, hp⟩ := parts_nil (show partsF d (min d.ps.length 8) = [] from h)
  obtain ⟨a1, h1⟩ := MayP.noNt (show nt (decide (TurP d)) 112 3 _ = [] from h0)
  obtain ⟨a2, h2⟩ := MayP.noNt h1
  obtain ⟨a3, h3⟩ := MayP.noNt h2
  obtain ⟨a4, h4⟩ := MayP.noNt h3
  have hm : MachP d := of_decide_eq_true a4
  have hps := hm.ps
  exact ⟨hm, of_decide_eq_true a3, of_decide_eq_true a2, of_decide_eq_true a1, fun p hp2 => partE_zero (hp p (by omega))⟩
def thE (d : Cd) (p : Int) : Int := if MayP d then if 0 ≤ p ∧ p < (d.ps.length : Int) then 0 else 270 else 5
theorem there_spec (d : Cd) (y : Ly) (hd : d.In) (hf : y.Fit) (hl : d.ps.length = y.pm) (p : Int) : FnC Try.prog 94 [cfV d y, iV p] (fun h => CfR h d y) (iV (thE d p)) := by
  have hma := may_spec d y hd hf hl
  have hcap := hf.cap
  unfold thE
  by_cases h : MayP d
  · rw [if_pos h]
    rw [decide_eq_true h] at hma
    by_cases h2 : 0 ≤ p ∧ p < (d.ps.length : Int)
    · rw [if_pos h2]
      refine Ctr.intro Try.func94 rfl rfl (by decide +kernel) fun F hpre => ?_
      repeat' (first | (refine XL_id ?_; first | refine XL_nil ?_ | refine XL_guard_yes rfl rfl rfl ?_ | (refine XG_load ?_; first | refine XL_loadW tt_ok 0 rfl rfl rfl rfl rfl rfl ?_ | refine XL_load tt_ok 0 rfl rfl rfl rfl rfl rfl ?_) | (refine XG_box ?_; (refine XL_box rfl (fun _ => rfl) (fun _ => ?_); refine XL_nB (by repeat' (first | exact .nil | apply NL.cons)) ?_)) | (refine XG_call ?_; first | (refine XL_op tt_ok rfl rfl ?_) | refine XL_fn hma rfl rfl (fun g hg hL => CfR.le hpre hg) ?_) | (refine XL_op tt_ok rfl rfl ?_; try (refine XL_dec_f (by omega) ?_))) | (refine X_id ?_; first | refine X_seq ?_ | (refine X_regionN (by repeat' (first | exact .nil | apply NL.cons)) ?_) | refine X_skip ?_ | refine X_ret ?_ | refine X_block ?_ | refine X_cond_f rfl ?_) | (refine Y_id ?_; first | refine Y_then ?_ | refine Y_block_normal ?_))
      all_goals first
        | exact Y_fn1 rfl rfl rfl
        | (exfalso; omega)
        | skip
      
    · rw [if_neg h2]
      refine Ctr.intro Try.func94 rfl rfl (by decide +kernel) fun F hpre => ?_
      repeat' (first | (refine XL_id ?_; first | refine XL_nil ?_ | refine XL_guard_yes rfl rfl rfl ?_ | refine XL_guard_no rfl rfl rfl rfl rfl ?_ | (refine XG_load ?_; first | refine XL_loadW tt_ok 0 rfl rfl rfl rfl rfl rfl ?_ | refine XL_load tt_ok 0 rfl rfl rfl rfl rfl rfl ?_) | (refine XG_box ?_; (refine XL_box rfl (fun _ => rfl) (fun _ => ?_); refine XL_nB (by repeat' (first | exact .nil | apply NL.cons)) ?_)) | (refine XG_call ?_; first | (refine XL_op tt_ok rfl rfl ?_) | refine XL_fn hma rfl rfl (fun g hg hL => CfR.le hpre hg) ?_) | (refine XL_op tt_ok rfl rfl ?_; try (first | refine XL_dec_t (by omega) ?_ | refine XL_dec (fun _ => ?_) (fun _ => ?_)))) | (refine X_id ?_; first | refine X_seq ?_ | (refine X_regionN (by repeat' (first | exact .nil | apply NL.cons)) ?_) | refine X_ret ?_ | refine X_block ?_ | refine X_cond_t rfl ?_ | refine X_cond_f rfl ?_) | (refine Y_id ?_; first | refine Y_then ?_ | refine Y_then_ret ?_ | refine Y_block_ret ?_))
      all_goals first
        | exact Y_fn1 rfl rfl rfl
        | (exfalso; omega)
        | skip
      
  · rw [if_neg h]
    rw [decide_eq_false h] at hma
    refine Ctr.intro Try.func94 rfl rfl (by decide +kernel) fun F hpre => ?_
    repeat' (first | (refine XL_id ?_; first | refine XL_nil ?_ | (refine XG_load ?_; refine XL_loadW tt_ok 0 rfl rfl rfl rfl rfl rfl ?_) | (refine XG_box ?_; (refine XL_box rfl (fun _ => rfl) (fun _ => ?_); refine XL_nB (by repeat' (first | exact .nil | apply NL.cons)) ?_)) | (refine XG_call ?_; refine XL_fn hma rfl rfl (fun g hg hL => CfR.le hpre hg) ?_) | (refine XL_op tt_ok rfl rfl ?_)) | (refine X_id ?_; first | refine X_seq ?_ | (refine X_regionN (by repeat' (first | exact .nil | apply NL.cons)) ?_) | refine X_ret ?_ | refine X_block ?_ | refine X_cond_t rfl ?_) | (refine Y_id ?_; first | refine Y_then ?_ | refine Y_then_ret ?_ | refine Y_block_ret ?_))
    all_goals first
      | exact Y_fn1 rfl rfl rfl
      | skip
    
end Go.Proofs.Ytalkcemelegohaa.Pl
set_option linter.unusedVariables false
set_option maxRecDepth 100000
namespace Go.Proofs.Ytalkcemelegohaa.Pl
open Go.RowKit Go.Cof Gx

def sh0 : Sh := ⟨0, 0, 0, 0⟩
theorem thE_zero {d : Cd} {p : Int} (h : thE d p = 0) : MayF d ∧ ∃ n : Nat, p = n ∧ n < d.ps.length := by
  unfold thE at h
  split at h
  · rename_i hm
    split at h
    · rename_i hp
      exact ⟨MayP.all hm, p.toNat, by omega, by omega⟩
    · exact absurd h (by decide)
  · exact absurd h (by decide)
def totE (d : Cd) (p : Int) : Int := if thE d p = 0 then toF d p.toNat else 0
def shpE (d : Cd) (p : Int) : Sh := if thE d p = 0 then shF (Cof.get d.ps p) else sh0
theorem Shape_spec (d : Cd) (y : Ly) (hd : d.In) (hf : y.Fit) (hl : d.ps.length = y.pm) (p : Int) : FnC Try.prog 88 [cfV d y, iV p] (fun h => CfR h d y) (.tuple #[shV (shpE d p), iV (thE d p)]) := by
  have hth := there_spec d y hd hf hl p
  unfold shpE
  by_cases h : thE d p = 0
  · obtain ⟨hm, n, rfl, hn⟩ := thE_zero h
    rw [if_pos h]
    rw [h] at hth ⊢
    have hsh := shape_spec d y n (by omega) (hm.part n hn).2.1
    obtain ⟨S, hS⟩ : ∃ S, shF (Cof.get d.ps (n : Int)) = S := ⟨_, rfl⟩
    rw [hS] at hsh ⊢
    refine Ctr.intro Try.func88 rfl rfl (by decide +kernel) fun F hpre => ?_
    repeat' (first | (refine XL_id ?_; first | refine XL_nil ?_ | (refine XG_load ?_; refine XL_loadW tt_ok 1 rfl rfl rfl rfl rfl rfl ?_) | (refine XG_box ?_; (refine XL_box rfl (fun _ => rfl) (fun _ => ?_); refine XL_nB (by repeat' (first | exact .nil | apply NL.cons)) ?_)) | (refine XG_call ?_; first | refine XL_fn hth rfl rfl (fun g hg hL => CfR.le hpre hg) ?_ | refine XL_fn hsh rfl rfl (fun g hg hL => CfR.le hpre hg) ?_) | (refine XG_alloc ?_; (refine XL_alloc tt_ok rfl rfl (fun _ => rfl) (fun b => ?_); refine XL_nB (by repeat' (first | exact .nil | apply NL.cons)) ?_)) | (refine XG_store ?_; (refine XL_storeW tt_ok 0 rfl rfl rfl rfl rfl rfl rfl ?_; refine XL_nK 0 rfl (by repeat' (first | exact .nil | apply NL.cons)) ?_)) | (refine XL_op tt_ok rfl rfl ?_; try (refine XL_dec_f (by omega) ?_))) | (refine X_id ?_; first | refine X_seq ?_ | (refine X_regionN (by repeat' (first | exact .nil | apply NL.cons)) ?_) | refine X_skip ?_ | refine X_ret ?_ | refine X_cond_f rfl ?_) | (refine Y_id ?_; refine Y_then ?_))
    all_goals first
      | exact Y_res2 rfl (.cell tt_ok 0 rfl rfl rfl rfl rfl) (.tmp rfl) (L' := []) (fun _ _ => trivial) ⟨rfl, rfl⟩
      | (exfalso; omega)
      | skip
    
  · rw [if_neg h]
    obtain ⟨E, hE⟩ : ∃ E, thE d p = E := ⟨_, rfl⟩
    rw [hE] at h hth ⊢
    refine Ctr.intro Try.func88 rfl rfl (by decide +kernel) fun F hpre => ?_
    repeat' (first | (refine XL_id ?_; first | refine XL_nil ?_ | (refine XG_load ?_; refine XL_loadW tt_ok 1 rfl rfl rfl rfl rfl rfl ?_) | (refine XG_box ?_; (refine XL_box rfl (fun _ => rfl) (fun _ => ?_); refine XL_nB (by repeat' (first | exact .nil | apply NL.cons)) ?_)) | (refine XG_build ?_; (refine XL_build tt_ok rfl rfl rfl rfl rfl rfl rfl ?_; refine XL_aggN (by repeat' (first | exact .nil | apply NL.cons)) ?_)) | (refine XG_call ?_; refine XL_fn hth rfl rfl (fun g hg hL => CfR.le hpre hg) ?_) | (refine XG_alloc ?_; (refine XL_alloc tt_ok rfl rfl (fun _ => rfl) (fun b => ?_); refine XL_nB (by repeat' (first | exact .nil | apply NL.cons)) ?_)) | (refine XG_store ?_; (refine XL_storeW tt_ok 0 rfl rfl rfl rfl rfl rfl rfl ?_; refine XL_nK 0 rfl (by repeat' (first | exact .nil | apply NL.cons)) ?_)) | (refine XL_op tt_ok rfl rfl ?_; try (refine XL_dec_t (by omega) ?_))) | (refine X_id ?_; first | refine X_seq ?_ | (refine X_regionN (by repeat' (first | exact .nil | apply NL.cons)) ?_) | refine X_ret ?_ | refine X_cond_t rfl ?_) | (refine Y_id ?_; first | refine Y_then ?_ | refine Y_then_ret ?_))
    all_goals first
      | exact Y_res2 rfl (.cell tt_ok 0 rfl rfl rfl rfl rfl) (.tmp rfl) (L' := []) (fun _ _ => trivial) ⟨rfl, rfl⟩
      | (exfalso; omega)
      | skip
    
theorem Limit_spec (d : Cd) (y : Ly) (hd : d.In) (hf : y.Fit) (hl : d.ps.length = y.pm) (p : Int) : FnC Try.prog 63 [cfV d y, iV p] (fun h => CfR h d y) (.tuple #[iV (shpE d p).li, iV (thE d p)]) := by
  have hsh := Shape_spec d y hd hf hl p
  obtain ⟨S, hS⟩ : ∃ S, shpE d p = S := ⟨_, rfl⟩
  rw [hS] at hsh ⊢
  refine Ctr.intro Try.func63 rfl rfl (by decide +kernel) fun F hpre => ?_
  repeat' (first | (refine XL_id ?_; first | refine XL_nil ?_ | (refine XG_load ?_; first | refine XL_loadW tt_ok 0 rfl rfl rfl rfl rfl rfl ?_ | refine XL_load tt_ok 0 rfl rfl rfl rfl rfl rfl ?_) | (refine XG_box ?_; (refine XL_box rfl (fun _ => rfl) (fun _ => ?_); refine XL_nB (by repeat' (first | exact .nil | apply NL.cons)) ?_)) | (refine XG_call ?_; refine XL_fn hsh rfl rfl (fun g hg hL => CfR.le hpre hg) ?_) | (refine XG_alloc ?_; (refine XL_alloc tt_ok rfl rfl (fun _ => rfl) (fun b => ?_); refine XL_nB (by repeat' (first | exact .nil | apply NL.cons)) ?_)) | (refine XG_store ?_; (refine XL_storeW tt_ok 0 rfl rfl rfl rfl rfl rfl rfl ?_; refine XL_nK 0 rfl (by repeat' (first | exact .nil | apply NL.cons)) ?_)) | (refine XL_op tt_ok rfl rfl ?_)) | (refine X_id ?_; first | refine X_seq ?_ | (refine X_regionN (by repeat' (first | exact .nil | apply NL.cons)) ?_) | refine X_ret ?_) | (refine Y_id ?_; refine Y_then ?_))
  all_goals first
    | exact Y_fn2 rfl rfl rfl rfl
    | skip
  
end Go.Proofs.Ytalkcemelegohaa.Pl
