/- Configurations compared. -/
import Derived.Test.YtpokfingnflblaaSc
set_option linter.unusedVariables false
namespace Go.Proofs.Ytpokfingnflblaa
open Go.RowKit Go.Cof

def encCs : Enc Cs := ⟨csL, 6, fun _ => rfl, by decide, fun x u hu => by simp at hu; rcases hu with rfl | rfl | rfl | rfl | rfl | rfl <;> rfl⟩
theorem eqCs : EqE Try.prog Tt 24 encCs := EqE.ofT tt_ok [24] (by decide +kernel) (by kernel_rfl) 3 rfl fun a b => by
  show some (decide (a.l1 = b.l1) && (decide (a.ll = b.ll) && (decide (a.ms = b.ms) && (decide (a.fa = b.fa) && (decide (a.st = b.st) && (decide (a.di = b.di) && true)))))) = _
  refine congrArg some ?_
  obtain ⟨a1, a2, a3, a4, a5, a6⟩ := a
  obtain ⟨b1, b2, b3, b4, b5, b6⟩ := b
  by_cases h1 : a1 = b1 <;> by_cases h2 : a2 = b2 <;> by_cases h3 : a3 = b3 <;> by_cases h4 : a4 = b4 <;> by_cases h5 : a5 = b5 <;> by_cases h6 : a6 = b6 <;> simp [h1, h2, h3, h4, h5, h6]
theorem Pd.ext_all {a b : Pd} (h1 : a.o = b.o) (h2 : a.u = b.u) (h3 : a.t = b.t) (h4 : a.s = b.s) (h5 : a.r = b.r) (h6 : a.d = b.d) (h7 : a.k = b.k) (h8 : a.xs = b.xs) : a = b := by
  cases a; cases b; simp_all
theorem Cd.ext_all {d e : Cd} (h1 : d.fr = e.fr) (h2 : d.co = e.co) (h3 : d.wa = e.wa) (h4 : d.ls = e.ls) (h5 : d.lw = e.lw) (h6 : d.tl = e.tl) (h7 : d.cs = e.cs) (h8 : d.sl = e.sl) (h9 : d.pd = e.pd) (h10 : d.fi = e.fi) (h11 : d.tn = e.tn) (h12 : d.ps = e.ps) : d = e := by
  cases d; cases e; simp_all
set_option maxHeartbeats 16000000 in
theorem Same_spec (d e : Cd) (y z : Ly) (hf : y.Fit) (hg : z.Fit) : FnC Try.prog 13 [cfV d y, cfV e z] (fun h => CfR h d y ∧ CfR h e z) (.bool (decide (d = e))) := by
  have hft := hf.t
  have hgt := hg.t
  have hei := eqInts_spec y.tA z.tA y.tm y.tc z.tm z.tc d.tn e.tn (by omega) (by omega)
  refine Ctr.intro Try.func13 rfl rfl (by decide +kernel) fun F hpre => ?_
  have hpre : CfR F.heap d y ∧ CfR F.heap e z := hpre
  obtain ⟨p1, p2⟩ := hpre
  have hl1 := p1.len
  have hl2 := p2.len
  repeat' (first | (refine XL_id ?_; first | (refine XL_neq (a := d.cs) (b := e.cs) eqCs rfl rfl rfl ?_; refine XL_dec (fun _ => ?_) (fun _ => ?_)) | refine XL_nil ?_ | refine XL_guard_yes rfl rfl rfl ?_ | refine XL_guard_no rfl rfl rfl rfl rfl ?_ | (refine XG_load ?_; first | refine XL_load tt_ok 0 rfl rfl rfl rfl rfl rfl ?_ | refine XL_load tt_ok 1 rfl rfl rfl rfl rfl rfl ?_) | (refine XG_box ?_; (refine XL_box rfl (fun _ => rfl) (fun _ => ?_); refine XL_nB (by repeat' (first | exact .nil | apply NL.cons)) ?_)) | (refine XG_call ?_; first | (refine XL_op tt_ok rfl rfl ?_) | (refine XL_fn hei rfl rfl (fun g hg hL => ⟨p1.tn.le hg, p2.tn.le hg⟩) ?_; refine XL_dec (fun _ => ?_) (fun _ => ?_))) | (refine XL_op tt_ok rfl rfl ?_; try (refine XL_dec (fun _ => ?_) (fun _ => ?_)))) | (refine X_id ?_; first | refine X_block (hold ?_) | refine X_seq ?_ | (refine X_regionN (by repeat' (first | exact .nil | apply NL.cons)) ?_) | refine X_skip ?_ | refine X_ret ?_ | refine X_cond_t rfl ?_ | refine X_cond_f rfl ?_) | (refine Y_id ?_; first | refine Y_then ?_ | refine Y_then_ret ?_))
  all_goals first
    | exact Y_fn1 rfl rfl (bool_f (fun h => absurd (congrArg Cd.fr h) (by assumption)))
    | exact Y_fn1 rfl rfl (bool_f (fun h => absurd (congrArg Cd.co h) (by assumption)))
    | exact Y_fn1 rfl rfl (bool_f (fun h => absurd (congrArg Cd.wa h) (by assumption)))
    | exact Y_fn1 rfl rfl (bool_f (fun h => absurd (congrArg Cd.ls h) (by assumption)))
    | exact Y_fn1 rfl rfl (bool_f (fun h => absurd (congrArg Cd.lw h) (by assumption)))
    | exact Y_fn1 rfl rfl (bool_f (fun h => absurd (congrArg Cd.tl h) (by assumption)))
    | exact Y_fn1 rfl rfl (bool_f (fun h => absurd (congrArg Cd.cs h) (by assumption)))
    | exact Y_fn1 rfl rfl (bool_f (fun h => absurd (congrArg Cd.sl h) (by assumption)))
    | exact Y_fn1 rfl rfl (bool_f (fun h => absurd (congrArg Cd.pd h) (by assumption)))
    | exact Y_fn1 rfl rfl (bool_f (fun h => absurd (congrArg Cd.fi h) (by assumption)))
    | exact Y_fn1 rfl rfl (bool_f (fun h => absurd (congrArg Cd.tn h) (by assumption)))
    | exact Y_fn1 rfl rfl (bool_f (fun h => by have a := congrArg Cd.ps h; rw [a] at hl1; omega))
    | skip
  intro _
  have r1 := p1.ps
  have r2 := p2.ps
  have hyp := hf.p
  have hpp : y.pm = z.pm := by omega
  refine X_loopD [2, 3] (fun (i : Nat) => [(5, .int .i64 i)]) (fun _ => [_, _]) (fun i => i ≤ y.pm ∧ ∀ j : Nat, j < i → Cof.get d.ps (j : Int) = Cof.get e.ps (j : Int)) (fun i => y.pm - i) 0 rfl ⟨Nat.zero_le _, fun j hj => by omega⟩ (by (repeat' (first | exact trivial | refine And.intro rfl ?_)); done) (fun h hs => hs) ?_
  intro i hi
  obtain ⟨hi, hx⟩ := hi
  by_cases hlt : i < y.pm
  · have hlz : i < z.pm := by omega
    have hd1 := get_dat p1 hlt
    have hd2 := get_dat p2 hlz
    have rx1 := p1.xs _ (get_memN p1 hlt)
    have rx2 := p2.xs _ (get_memN p2 hlz)
    have hf1 := hf.x _ (get_memN p1 hlt)
    have hf2 := hg.x _ (get_memN p2 hlz)
    have heq : d = e → (Cof.get y.ps (i : Int)).d = (Cof.get z.ps (i : Int)).d := fun h => by rw [hd1, hd2, h]
    have hei2 := eqInts_spec (Cof.get y.ps (i : Int)).A (Cof.get z.ps (i : Int)).A (Cof.get y.ps (i : Int)).m (Cof.get y.ps (i : Int)).c (Cof.get z.ps (i : Int)).m (Cof.get z.ps (i : Int)).c (Cof.get y.ps (i : Int)).d.xs (Cof.get z.ps (i : Int)).d.xs (by omega) (by omega)
    repeat' (first | (refine XL_id ?_; first | refine XL_nil ?_ | refine XL_guard_yes rfl rfl rfl ?_ | refine XL_guard_no rfl rfl rfl rfl rfl ?_ | (refine XG_load ?_; first | refine XL_load tt_ok 0 rfl rfl rfl rfl rfl rfl ?_ | refine XL_load tt_ok 1 rfl rfl rfl rfl rfl rfl ?_) | (refine XG_call ?_; first | (refine XL_op tt_ok rfl rfl ?_) | (refine XL_fn hei2 rfl rfl (fun g hg hL => ⟨rx1.le hg, rx2.le hg⟩) ?_; refine XL_dec (fun _ => ?_) (fun _ => ?_))) | (refine XG_alloc ?_; (refine XL_alloc tt_ok rfl rfl (fun _ => rfl) (fun b => ?_); refine XL_nB (by repeat' (first | exact .nil | apply NL.cons)) ?_)) | (refine XG_store ?_; first | (refine XL_storeW tt_ok 0 rfl rfl rfl rfl rfl rfl rfl ?_; refine XL_nK 0 rfl (by repeat' (first | exact .nil | apply NL.cons)) ?_) | (refine XL_storeW tt_ok 1 rfl rfl rfl rfl rfl rfl rfl ?_; refine XL_nK 1 rfl (by repeat' (first | exact .nil | apply NL.cons)) ?_)) | (refine XL_op tt_ok rfl rfl ?_; try (first | refine XL_int (wrap_i64 (by omega) (by omega)) ?_ | refine XL_dec_t (by omega) ?_ | refine XL_dec (fun _ => ?_) (fun _ => ?_)))) | (refine XD_id ?_; first | refine XD_nil ?_ | (refine XD_id ?_; (first | (refine XD_uL rfl ?_; first | refine XD_s rfl rfl rfl (XV_load tt_ok rfl (blk_at 0 rfl hM) rfl rfl rfl) rfl ?_ | refine XD_s rfl rfl rfl (XV_load tt_ok rfl (blk_at 1 rfl hM) rfl rfl rfl) rfl ?_ | refine XD_s rfl rfl rfl (XV_elW tt_ok rfl (rdS.le (by assumption) hFG) rfl (by omega) (by omega) rfl rfl rfl) rfl ?_) | (refine XD_uI rfl ?_; refine XD_s rfl rfl rfl (XV_idx tt_ok rfl rfl rfl rfl rfl (rdS.le (by assumption) hFG) (by omega) (by omega)) rfl ?_) | (refine XD_u rfl rfl ?_; refine XD_s rfl rfl rfl (XV_op tt_ok rfl) rfl ?_))) | refine XD_m rfl rfl ?_ | (refine XD_thaw thaw ?_; refine XD_l rfl rfl ?_)) | (refine X_id ?_; first | (refine X_drawW (id := 8) ⟨[0, 1, 2, 3, 4, 5, 6, 7, 8, 9], 10, [11, 12, 13]⟩ ⟨[0, 1, 2, 3, 4, 5, 6, 7, 8, 9], 11, [10, 12, 13]⟩ (fun | 10 => .m | 11 => .m | 12 => .m | 13 => .l | _ => .s) 8 (by repeat' (first | exact Split.nil | apply Split.blk)) mixed (by decide +kernel) ?_ ?_ <;> (intro G hFG hM thaw; (first | show XD _ _ _ _ _ _ [0, 1, 2, 3, 4, 5, 6, 7, 8, 9, 10, 11, 12, 13] _ _ _ | show XD _ _ _ _ _ _ [0, 1, 2, 3, 4, 5, 6, 7, 8, 9, 11, 10, 12, 13] _ _ _))) | refine X_seq ?_ | (refine X_regionN (by repeat' (first | exact .nil | apply NL.cons)) ?_) | refine X_skip ?_ | refine X_ret ?_ | refine X_block ?_ | refine X_cond_t rfl ?_ | refine X_cond_f rfl ?_) | (refine Y_id ?_; first | refine Y_then ?_ | refine Y_then_ret ?_ | refine Y_block_normal ?_ | refine Y_block_ret ?_ | refine Y_m ?_ | refine Y_l ?_))
    all_goals first
      | exact Y_fn1 rfl rfl (bool_f (fun h => absurd (congrArg Pd.xs (heq h)) (by assumption)))
      | exact Y_fn1 rfl rfl (bool_f (fun h => absurd (congrArg Pd.o (heq h)) (by assumption)))
      | exact Y_fn1 rfl rfl (bool_f (fun h => absurd (congrArg Pd.u (heq h)) (by assumption)))
      | exact Y_fn1 rfl rfl (bool_f (fun h => absurd (congrArg Pd.t (heq h)) (by assumption)))
      | exact Y_fn1 rfl rfl (bool_f (fun h => absurd (congrArg Pd.s (heq h)) (by assumption)))
      | exact Y_fn1 rfl rfl (bool_f (fun h => absurd (congrArg Pd.r (heq h)) (by assumption)))
      | exact Y_fn1 rfl rfl (bool_f (fun h => absurd (congrArg Pd.d (heq h)) (by assumption)))
      | exact Y_fn1 rfl rfl (bool_f (fun h => absurd (congrArg Pd.k (heq h)) (by assumption)))
      | exact Y_again (i + 1) fun _ _ hf hs => ⟨⟨hlt, fun j hj => by by_cases hj2 : j < i; exact hx j hj2; obtain rfl : j = i := (by omega); rw [← hd1, ← hd2]; exact Pd.ext_all (Decidable.of_not_not (by assumption)) (Decidable.of_not_not (by assumption)) (Decidable.of_not_not (by assumption)) (Decidable.of_not_not (by assumption)) (Decidable.of_not_not (by assumption)) (Decidable.of_not_not (by assumption)) (Decidable.of_not_not (by assumption)) (by assumption)⟩, by show y.pm - (i + 1) < y.pm - i; omega, hf.sub (by (repeat' (first | exact trivial | refine And.intro rfl ?_)); done), hs.imp fun h hs => stars_only [2, 2] rfl h hs⟩
      | skip
    
  · have hps : d.ps = e.ps := get_ext (by omega) fun j hj => hx j (by omega)
    repeat' (first | (refine XL_id ?_; first | refine XL_nil ?_ | (refine XG_load ?_; refine XL_load tt_ok 1 rfl rfl rfl rfl rfl rfl ?_) | (refine XL_op tt_ok rfl rfl ?_; try (refine XL_dec_f (by omega) ?_))) | (refine X_id ?_; first | refine X_seq ?_ | (refine X_regionN (by repeat' (first | exact .nil | apply NL.cons)) ?_) | refine X_ret ?_ | refine X_exit ?_ | refine X_cond_f rfl ?_) | (refine Y_id ?_; first | refine Y_then ?_ | refine Y_then_exit ?_ | refine Y_block_hit ?_))
    all_goals first
      | exact Y_fn1 rfl rfl (bool_t (Cd.ext_all (Decidable.of_not_not (by assumption)) (Decidable.of_not_not (by assumption)) (Decidable.of_not_not (by assumption)) (Decidable.of_not_not (by assumption)) (Decidable.of_not_not (by assumption)) (Decidable.of_not_not (by assumption)) (Decidable.of_not_not (by assumption)) (Decidable.of_not_not (by assumption)) (Decidable.of_not_not (by assumption)) (Decidable.of_not_not (by assumption)) (by assumption) hps))
      | (exfalso; omega)
      | skip
    
end Go.Proofs.Ytpokfingnflblaa
