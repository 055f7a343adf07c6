/- New: a core made. -/
import Derived.Test.YthmllhihldbfoaaCe
set_option linter.unusedVariables false
namespace Go.Proofs.Ythmllhihldbfoaa
open Go.RowKit Go.Cof

theorem pw16 {c : Int} (h1 : 1 ≤ c) (h2 : c ≤ 16) (hp : Pl.pw c) : bits .and .i64 (c * 16) (c * 16 - 1) = 0 := by
  have h : c = 1 ∨ c = 2 ∨ c = 3 ∨ c = 4 ∨ c = 5 ∨ c = 6 ∨ c = 7 ∨ c = 8 ∨ c = 9 ∨ c = 10 ∨ c = 11 ∨ c = 12 ∨ c = 13 ∨ c = 14 ∨ c = 15 ∨ c = 16 := by omega
  rcases h with rfl | rfl | rfl | rfl | rfl | rfl | rfl | rfl | rfl | rfl | rfl | rfl | rfl | rfl | rfl | rfl <;> first | decide +kernel | exact absurd hp (by unfold Pl.pw; decide +kernel)
theorem cnewI_spec (n w : Int) (h1 : 1 ≤ n) (h2 : n ≤ 4096) (hp : bits .and .i64 n (n - 1) = 0) (hw1 : 1 ≤ w) (hw2 : w ≤ 16) : Ctr Try.prog 22 [iV n, iV w] (fun _ => True) [] (fun v L => ∃ p, v = .tuple #[ptr p, iV 0] ∧ L = [isCa p n.toNat w.toNat (List.replicate n.toNat [])]) := by
  obtain ⟨a, rfl⟩ := Int.eq_ofNat_of_zero_le (show 0 ≤ n by omega)
  obtain ⟨b, rfl⟩ := Int.eq_ofNat_of_zero_le (show 0 ≤ w by omega)
  exact cnew_spec a b (by omega) (by omega) hp (by omega) (by omega)
theorem fnewI_drop (n : Int) (h1 : 1 ≤ n) (h2 : n ≤ 4096) : Ctr Try.prog 19 [iV n] (fun _ => True) [] (fun v L => ∃ p, v = .tuple #[ptr p, iV 0] ∧ L = []) := by
  obtain ⟨a, rfl⟩ := Int.eq_ofNat_of_zero_le (show 0 ≤ n by omega)
  exact fnew_drop a (by omega) (by omega)
theorem dnewI_drop (n : Int) (h1 : 0 ≤ n) (h2 : n ≤ 1024) : Ctr Try.prog 21 [iV n] (fun _ => True) [] (fun v L => ∃ p, v = .tuple #[ptr p, iV 0] ∧ L = []) := by
  obtain ⟨a, rfl⟩ := Int.eq_ofNat_of_zero_le h1
  exact dnew_drop a (by omega)
theorem note_spec (b : Nat) : Ctr Try.prog 18 [iV 0, ptr b] (fun _ => True) [blk b [iV 0] 32] (fun v L => v = .tuple #[] ∧ L = [blk b [iV 0] 32]) := by
  refine Ctr.intro Try.func18 rfl rfl (by decide +kernel) fun F hpre => ?_
  repeat' (first | (refine XL_id ?_; first | refine XL_nil ?_ | (refine XG_load ?_; refine XL_load tt_ok 0 rfl rfl rfl rfl rfl rfl ?_) | (refine XG_store ?_; (refine XL_store tt_ok 0 rfl rfl rfl rfl rfl rfl rfl rfl ?_; refine XL_nK 0 rfl (by repeat' (first | exact .nil | apply NL.cons)) ?_)) | (refine XL_op tt_ok rfl rfl ?_; try (refine XL_dec_t (by omega) ?_))) | (refine X_id ?_; first | refine X_seq ?_ | (refine X_regionN (by repeat' (first | exact .nil | apply NL.cons)) ?_) | refine X_cond_t rfl ?_) | (refine Y_id ?_; refine Y_then ?_))
  all_goals first
    | exact Y_end0 rfl (fun g hg => hg) ⟨rfl, rfl⟩
    | exact Y_ret0 rfl (fun g hg => hg) ⟨rfl, rfl⟩
    | (exfalso; omega)
    | skip
  
theorem smF_sl {d : Pl.Cd} (h : Pl.MayF d) : ∀ n : Nat, n ≤ d.ps.length → Pl.smF d.ps n = Pl.slF d n
  | 0, _ => rfl
  | n + 1, hn => by
    have hk := h.k n (by omega)
    rw [Pl.smF, Pl.slF, smF_sl h n (by omega), if_pos hk]
theorem smF_top {d : Pl.Cd} (h : Pl.MayF d) : 0 ≤ Pl.smF d.ps d.ps.length ∧ Pl.smF d.ps d.ps.length ≤ 1024 := by
  have hp := h.mach.ps
  obtain ⟨n, hn⟩ : ∃ n, d.ps.length = n + 1 := ⟨d.ps.length - 1, by omega⟩
  have h1 := (h.part n (by omega)).2.2.1
  have h2 := Pl.slF_rng d (n + 1)
  rw [hn, smF_sl h (n + 1) (by omega)]
  exact ⟨h2.1, h1⟩
set_option maxRecDepth 100000 in
set_option maxHeartbeats 8000000 in
theorem conew_ok (d : Pl.Cd) (y : Pl.Ly) (hd : d.In) (hf : y.Fit) (hl : d.ps.length = y.pm) (hM : Pl.MayP d) : Ctr Try.prog 6 [Pl.cfV d y] (fun h => Pl.CfR h d y) [] (fun v L => ∃ h, v = .tuple #[ptr h, iV 0] ∧ L = [isCo h d ⟨List.replicate d.ls.toNat [], List.replicate (d.co * 16).toNat [], 0⟩ []]) := by
  have hmf := hM.all
  have hm := hmf.mach
  obtain ⟨m1, m2, m3, m4, m5, m6, m7, m8, m9, m10⟩ := hm
  have hma := Pl.may_spec d y hd hf hl
  rw [decide_eq_true hM] at hma
  have hsl := Pl.Slots_spec d y hd hf hl
  obtain ⟨s1, s2⟩ := smF_top hmf
  have hse : Pl.sltE d = (Pl.smF d.ps d.ps.length, 0) := if_pos hM
  obtain ⟨S, hS⟩ : ∃ S, Pl.smF d.ps d.ps.length = S := ⟨_, rfl⟩
  rw [hS] at hse s1 s2
  rw [hse] at hsl
  have hc2 := pw16 m1.1 m1.2 m2
  refine Ctr.intro Try.func6 rfl rfl (by decide +kernel) fun F hpre => ?_
  repeat' (first | (refine XL_id ?_; first | refine XL_nil ?_ | (refine XG_box ?_; (refine XL_box rfl (fun _ => rfl) (fun bx => ?_); refine XL_nB (by repeat' (first | exact .nil | apply NL.cons)) ?_)) | (refine XG_load ?_; first | refine XL_loadW tt_ok 0 rfl rfl rfl rfl rfl rfl ?_ | refine XL_loadW tt_ok 1 rfl rfl rfl rfl rfl rfl ?_ | refine XL_load tt_ok 0 rfl rfl rfl rfl rfl rfl ?_ | refine XL_load tt_ok 2 rfl rfl rfl rfl rfl rfl ?_ | refine XL_load tt_ok 3 rfl rfl rfl rfl rfl rfl ?_ | refine XL_load tt_ok 4 rfl rfl rfl rfl rfl rfl ?_) | (refine XG_build ?_; (refine XL_build tt_ok rfl rfl rfl rfl rfl rfl rfl ?_; refine XL_aggN (by repeat' (first | exact .nil | apply NL.cons)) ?_)) | (refine XG_call ?_; first | refine XL_fn hma rfl rfl (fun g hg hL => hpre.le hg) ?_ | refine XL_fn hsl rfl rfl (fun g hg hL => hpre.le hg) ?_ | (refine XL_callK [] (fnewI_drop d.fr m3.1 m3.2) rfl rfl (fun _ => rfl) (fun _ _ _ => trivial) (fun u L hv => ?_); obtain ⟨pm, rfl, rfl⟩ := hv) | (refine XL_callK [] (dnewI_drop S s1 s2) rfl rfl (fun _ => rfl) (fun _ _ _ => trivial) (fun u L hv => ?_); obtain ⟨pd, rfl, rfl⟩ := hv) | (refine XL_callK [] (Tl.new_ok d.tl m9.1 m9.2) rfl rfl (fun _ => rfl) (fun _ _ _ => trivial) (fun u L hv => ?_); obtain ⟨pt, rfl, rfl⟩ := hv) | (refine XL_callK [] (cnewI_spec d.ls d.lw m5.1 m5.2 m6 m8.1 m8.2) rfl rfl (fun _ => rfl) (fun _ _ _ => trivial) (fun u L hv => ?_); obtain ⟨p1, rfl, rfl⟩ := hv) | (refine XL_callK [] (cnewI_spec (d.co * 16) d.wa (by omega) (by omega) hc2 m7.1 m7.2) rfl rfl (fun _ => rfl) (fun _ _ _ => trivial) (fun u L hv => ?_); obtain ⟨p2, rfl, rfl⟩ := hv) | (refine XL_callV [0] (note_spec _) rfl rfl rfl rfl (fun _ => rfl) (fun _ _ _ => trivial) (fun u L hv => ?_); obtain ⟨rfl, rfl⟩ := hv) | (refine XL_callV [1] (note_spec _) rfl rfl rfl rfl (fun _ => rfl) (fun _ _ _ => trivial) (fun u L hv => ?_); obtain ⟨rfl, rfl⟩ := hv)) | (refine XG_alloc ?_; (refine XL_alloc tt_ok rfl rfl (fun _ => rfl) (fun b => ?_); refine XL_nB (by repeat' (first | exact .nil | apply NL.cons)) ?_)) | (refine XG_store ?_; first | (refine XL_store tt_ok 0 rfl rfl rfl rfl rfl rfl rfl rfl ?_; refine XL_nK 0 rfl (by repeat' (first | exact .nil | apply NL.cons)) ?_) | (refine XL_store tt_ok 1 rfl rfl rfl rfl rfl rfl rfl rfl ?_; refine XL_nK 1 rfl (by repeat' (first | exact .nil | apply NL.cons)) ?_) | (refine XL_store tt_ok 2 rfl rfl rfl rfl rfl rfl rfl rfl ?_; refine XL_nK 2 rfl (by repeat' (first | exact .nil | apply NL.cons)) ?_) | (refine XL_store tt_ok 3 rfl rfl rfl rfl rfl rfl rfl rfl ?_; refine XL_nK 3 rfl (by repeat' (first | exact .nil | apply NL.cons)) ?_) | (refine XL_store tt_ok 4 rfl rfl rfl rfl rfl rfl rfl rfl ?_; refine XL_nK 4 rfl (by repeat' (first | exact .nil | apply NL.cons)) ?_)) | (refine XL_op tt_ok rfl rfl ?_; try (first | refine XL_int (shl8_u64 (by omega) (by omega)) ?_ | refine XL_int (wrap_i64 (by omega) (by omega)) ?_ | refine XL_int (wrap_u64 (by omega) (by omega)) ?_ | refine XL_dec_f (by omega) ?_))) | (refine X_id ?_; first | (refine X_regionEN (id := 0) [0] rfl (by repeat' (exact .nil)) ?_) | (refine X_regionEN (id := 1) [1] rfl (by repeat' (first | exact .nil | apply NL.cons)) ?_) | (refine X_regionEN (id := 3) [1] rfl (by repeat' (first | exact .nil | apply NL.cons)) ?_) | (refine X_regionEN (id := 4) [1, 4] rfl (by repeat' (first | exact .nil | apply NL.cons)) ?_) | (refine X_regionEN (id := 5) [1, 4, 5, 6] rfl (by repeat' (first | exact .nil | apply NL.cons)) ?_) | (refine X_regionEN (id := 6) [1, 4, 5, 6, 7] rfl (by repeat' (first | exact .nil | apply NL.cons)) ?_) | (refine X_regionEN (id := 7) [1, 4, 5, 6, 7, 8] rfl (by repeat' (first | exact .nil | apply NL.cons)) ?_) | (refine X_regionEN (id := 8) [1, 4, 5, 6, 7, 8] rfl (by repeat' (first | exact .nil | apply NL.cons)) ?_) | (refine X_regionEN (id := 9) [1, 4, 5, 6, 7, 8] rfl (by repeat' (first | exact .nil | apply NL.cons)) ?_) | (refine X_regionEN (id := 10) [1, 4, 5, 6, 7, 8] rfl (by repeat' (first | exact .nil | apply NL.cons)) ?_) | (refine X_regionEN (id := 11) [1, 4, 5, 6, 7, 8] rfl (by repeat' (first | exact .nil | apply NL.cons)) ?_) | (refine X_regionEN (id := 12) [1, 4, 6, 7, 8] rfl (by repeat' (first | exact .nil | apply NL.cons)) ?_) | (refine X_regionEN (id := 13) [1, 4, 6, 7, 8] rfl (by repeat' (first | exact .nil | apply NL.cons)) ?_) | (refine X_regionEN (id := 14) [1, 4, 6, 7, 8] rfl (by repeat' (first | exact .nil | apply NL.cons)) ?_) | (refine X_regionEN (id := 15) [1, 4, 6, 7, 8] rfl (by repeat' (first | exact .nil | apply NL.cons)) ?_) | (refine X_regionEN (id := 16) [4, 6, 7, 8] rfl (by repeat' (first | exact .nil | apply NL.cons)) ?_) | (refine X_regionEN (id := 17) [4, 6] rfl (by repeat' (first | exact .nil | apply NL.cons)) ?_) | (refine X_regionEN (id := 19) [4] rfl (by repeat' (first | exact .nil | apply NL.cons)) ?_) | refine X_seq ?_ | refine X_skip ?_ | refine X_ret ?_ | refine X_cond_f rfl ?_) | (refine Y_id ?_; refine Y_then ?_))
  all_goals first
    | exact Y_ret2 rfl rfl rfl (stars_fin [4, 2, 1, 1] rfl (fun g hg => ⟨⟨pm, pt, pd, p1, p2⟩, hg⟩)) ⟨_, rfl, rfl⟩
    | (exfalso; omega)
    | skip
  
theorem conew_no (d : Pl.Cd) (y : Pl.Ly) (hd : d.In) (hf : y.Fit) (hl : d.ps.length = y.pm) (hM : ¬ Pl.MayP d) : FnC Try.prog 6 [Pl.cfV d y] (fun h => Pl.CfR h d y) (.tuple #[.pointer none, iV 5]) := by
  have hma := Pl.may_spec d y hd hf hl
  rw [decide_eq_false hM] at hma
  refine Ctr.intro Try.func6 rfl rfl (by decide +kernel) fun F hpre => ?_
  repeat' (first | (refine XL_id ?_; first | refine XL_nil ?_ | (refine XG_load ?_; refine XL_loadW tt_ok 0 rfl rfl rfl rfl rfl rfl ?_) | (refine XG_box ?_; (refine XL_box rfl (fun _ => rfl) (fun _ => ?_); refine XL_nB (by repeat' (first | exact .nil | apply NL.cons)) ?_)) | (refine XG_call ?_; refine XL_fn hma rfl rfl (fun g hg hL => hpre.le hg) ?_) | (refine XL_op tt_ok rfl rfl ?_)) | (refine X_id ?_; first | refine X_seq ?_ | (refine X_regionN (by repeat' (first | exact .nil | apply NL.cons)) ?_) | refine X_ret ?_ | refine X_cond_t rfl ?_) | (refine Y_id ?_; first | refine Y_then ?_ | refine Y_then_ret ?_))
  all_goals first
    | exact Y_fn2 rfl rfl rfl rfl
    | skip
  
end Go.Proofs.Ythmllhihldbfoaa
