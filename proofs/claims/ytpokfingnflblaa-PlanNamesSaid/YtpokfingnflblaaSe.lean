/- The chapter's configuration; a program that refuses everything is not awake. -/
import Derived.Test.YtpokfingnflblaaSd
import Derived.Test.YtpokfingnflblaaWn
set_option linter.unusedVariables false
namespace Go.Proofs.Ytpokfingnflblaa
open Go.RowKit Go.Cof

theorem cf_at {L : List HProp} (k : Nat) {d : Cd} {y : Ly} (hk : L[k]? = some (isCf d y)) {g : Hp} (h : stars L g) : CfR g d y := let ⟨_, hl, hb⟩ := at_mem k hk h; (isCf_R hb).le hl
theorem isCf_fit {d : Cd} {y : Ly} {h : Hp} (hs : isCf d y h) : y.Fit ∧ d.ps.length = y.pm := ⟨hs.1.2, (isCf_R hs).len⟩
def usD : Cd := ⟨64, 4, 2, 4, 2, 4, ⟨1, 4, 10, 5, 1, 20⟩, 4000, 20, 0, [0, 1], [⟨1, 4, 8, 1, 1, 1, 3, [0, 1]⟩, ⟨0, 2, 6, 1, 1, 1, 3, [2]⟩]⟩
abbrev usQ (b1 b2 : Nat) : List Pt := [⟨some ⟨b1, 0, none⟩, 2, 2, ⟨1, 4, 8, 1, 1, 1, 3, [0, 1]⟩⟩, ⟨some ⟨b2, 0, none⟩, 1, 1, ⟨0, 2, 6, 1, 1, 1, 3, [2]⟩⟩]
theorem isCf_lit {bt bp b1 b2 : Nat} {e1 e2 e3 : TypeId} {h : Hp} (hs : stars [blk bt [iV 0, iV 1] e1, blk bp (flat encPt (usQ b1 b2)) e2, blk b1 [iV 0, iV 1] e1, blk b2 [iV 2] e3] h) : isCf usD ⟨some ⟨bt, 0, none⟩, 2, 2, some ⟨bp, 0, none⟩, 2, 2, usQ b1 b2⟩ h := by
  refine isCf_mk (d := usD) rfl (by show 2 * 8 ≤ _; decide) (by show 2 * 80 ≤ _; decide) (fun p hp => ?_) h ?_
  · rcases List.mem_cons.1 hp with rfl | hp
    · show 2 * 8 ≤ _; decide
    · obtain rfl := List.mem_singleton.1 hp
      show 1 * 8 ≤ _; decide
  · have h1 := stars_conv (k := 0) (B := own encN (some ⟨bt, 0, none⟩) 2 2 [0, 1]) rfl (fun _ o => own_of_blk o rfl rfl (by decide)) hs
    have h2 := stars_conv (k := 1) (B := own encPt (some ⟨bp, 0, none⟩) 2 2 (usQ b1 b2)) rfl (fun _ o => own_of_blk o rfl rfl (by decide)) h1
    have h3 := stars_conv (k := 2) (B := own encN (some ⟨b1, 0, none⟩) 2 2 [0, 1]) rfl (fun _ o => own_of_blk o rfl rfl (by decide)) h2
    have h4 := stars_conv (k := 3) (B := own encN (some ⟨b2, 0, none⟩) 1 1 [2]) rfl (fun _ o => own_of_blk o rfl rfl (by decide)) h3
    have h5 : stars (allC (usQ b1 b2) :: [own encN (some ⟨bt, 0, none⟩) 2 2 [0, 1], own encPt (some ⟨bp, 0, none⟩) 2 2 (usQ b1 b2)]) h := stars_fold (stars_take [2, 2] rfl h4)
    exact stars_take [1, 1] rfl h5
theorem usual_spec : Ctr Try.prog 30 [] (fun _ => True) [] (fun v L => ∃ y, v = cfV usD y ∧ L = [isCf usD y]) := by
  refine Ctr.intro Try.func30 rfl rfl (by decide +kernel) fun F hpre => ?_
  repeat' (first | (refine XL_id ?_; first | refine XL_nil ?_ | (refine XG_build ?_; (refine XL_build tt_ok rfl rfl rfl rfl rfl rfl rfl ?_; refine XL_aggN (by repeat' (first | exact .nil | apply NL.cons)) ?_)) | (refine XG_alloc ?_; (refine XL_alloc tt_ok rfl rfl (fun _ => rfl) (fun b => ?_); refine XL_nB (by repeat' (first | exact .nil | apply NL.cons)) ?_)) | (refine XG_lit ?_; (refine XL_lit tt_ok rfl rfl rfl rfl rfl rfl rfl rfl rfl (fun _ => rfl) (fun b => ?_); refine XL_nB (by repeat' (first | exact .nil | apply NL.cons)) ?_)) | (refine XG_store ?_; (refine XL_storeW tt_ok 4 rfl rfl rfl rfl rfl rfl rfl ?_; refine XL_nK 4 rfl (by repeat' (first | exact .nil | apply NL.cons)) ?_))) | (refine X_id ?_; first | refine X_seq ?_ | (refine X_regionN (by repeat' (first | exact .nil | apply NL.cons)) ?_) | refine X_ret ?_) | (refine Y_id ?_; refine Y_then ?_))
  all_goals first
    | exact Y_res1 rfl (.cell tt_ok 4 rfl rfl rfl rfl rfl) (stars_fin [3, 0, 1, 0] rfl (fun h hs => isCf_lit hs)) ⟨_, rfl, rfl⟩
    | skip
  
def usE : Cd := ⟨64, 4, 2, 4, 2, 4, ⟨1, 4, 10, 5, 1, 20⟩, 4000, 11, 0, [0, 1], [⟨1, 4, 8, 1, 1, 1, 3, [0, 1]⟩, ⟨0, 2, 6, 1, 1, 1, 3, [2]⟩]⟩
theorem usD_in : usD.In := by
  refine ⟨by decide, by decide, by decide, by decide, by decide, by decide, ⟨by decide, by decide, by decide, by decide, by decide, by decide⟩, by decide, by decide, by decide, by decide, fun p hp => ?_⟩
  rcases List.mem_cons.1 hp with rfl | hp
  · exact ⟨by decide, by decide, by decide, by decide, by decide, by decide, by decide, by decide⟩
  · obtain rfl := List.mem_singleton.1 hp
    exact ⟨by decide, by decide, by decide, by decide, by decide, by decide, by decide, by decide⟩
theorem usE_in : usE.In := ⟨usD_in.fr, usD_in.co, usD_in.wa, usD_in.ls, usD_in.lw, usD_in.tl, usD_in.cs, usD_in.sl, by decide, usD_in.fi, usD_in.tn, usD_in.ps⟩
theorem usD_may : MayP usD := by decide +kernel
theorem usE_chk : chkF usE = [⟨113, 2⟩] := by decide +kernel
theorem usD_th0 : thE usD 0 = 0 := by decide +kernel
theorem usD_th1 : thE usD 1 = 0 := by decide +kernel
theorem usD_tot : totE usD 0 = 32 := by decide +kernel
theorem usD_lim : (shpE usD 1).li = 4 := by decide +kernel
theorem awT (y : Ly) (hf : y.Fit) (hl : usD.ps.length = y.pm) : FnC Try.prog 20 [cfV usD y, iV 0] (fun h => CfR h usD y) (.tuple #[iV 32, iV 0]) := by
  have h := Total_spec usD y usD_in hf hl 0
  rw [usD_tot, usD_th0] at h
  exact h
theorem awL (y : Ly) (hf : y.Fit) (hl : usD.ps.length = y.pm) : FnC Try.prog 21 [cfV usD y, iV 1] (fun h => CfR h usD y) (.tuple #[iV 4, iV 0]) := by
  have h := Limit_spec usD y usD_in hf hl 1
  rw [usD_lim, usD_th1] at h
  exact h
theorem awC (y : Ly) (hf : y.Fit) (hl : usE.ps.length = y.pm) : Ctr Try.prog 9 [cfV usE y] (fun h => CfR h usE y) [] (fun v L => ∃ A c, v = .slice A 1 c ∧ L = [own encFl A 1 c [⟨113, 2⟩]]) := by
  have h := check_spec usE y usE_in hf hl
  rw [usE_chk] at h
  exact h
theorem usE_R {h : Hp} {y : Ly} (r : CfR h usD y) : CfR h usE y := ⟨r.tn, r.ps, r.xs, r.eq⟩
set_option maxHeartbeats 8000000 in
theorem awake_spec : FnC Try.prog 14 [] (fun _ => True) (.bool true) := by
  refine Ctr.intro Try.func14 rfl rfl (by decide +kernel) fun F hpre => ?_
  repeat' (first | (refine XL_id ?_; first | refine XL_nil ?_ | refine XL_guard_yes rfl rfl rfl ?_ | (refine XL_eq (a := ⟨113, 2⟩) (b := ⟨113, 2⟩) eqFl rfl rfl rfl ?_; refine XL_dec_t rfl ?_) | (refine XG_load ?_; first | refine XL_loadW tt_ok 0 rfl rfl rfl rfl rfl rfl ?_ | refine XL_loadW tt_ok 3 rfl rfl rfl rfl rfl rfl ?_ | refine XL_eloW tt_ok 0 rfl rfl rfl (by omega) (by omega) rfl rfl rfl rfl ?_) | (refine XG_idx ?_; refine XL_idxo tt_ok 0 rfl rfl rfl rfl rfl rfl (by omega) (by omega) rfl ?_) | (refine XG_build ?_; (refine XL_build tt_ok rfl rfl rfl rfl rfl rfl rfl ?_; refine XL_aggN (by repeat' (first | exact .nil | apply NL.cons)) ?_)) | (refine XG_call ?_; first | (refine XL_op tt_ok rfl rfl ?_) | (refine XL_callK [] usual_spec rfl rfl (fun _ => rfl) (fun _ _ _ => trivial) (fun u L hv => ?_); obtain ⟨y2, rfl, rfl⟩ := hv; refine XL_fact 0 rfl (fun h hs => isCf_fit hs) (fun hfit => ?_); obtain ⟨hf2, hl2⟩ := hfit) | refine XL_fn (awT y2 hf2 hl2) rfl rfl (fun g hg hL => cf_at 1 rfl hL) ?_ | refine XL_fn (awL y2 hf2 hl2) rfl rfl (fun g hg hL => cf_at 1 rfl hL) ?_ | (refine XL_callK [] (awC y2 hf2 hl2) rfl rfl (fun _ => rfl) (fun g hg hL => usE_R (cf_at 1 rfl hL)) (fun u L hv => ?_); obtain ⟨A1, c1, rfl, rfl⟩ := hv) | (refine XL_fn (may_spec usD _ usD_in (by assumption) (by assumption)) rfl rfl (fun g hg hL => by exact cf_at 4 rfl hL) ?_; refine XL_dec_t usD_may ?_)) | (refine XG_alloc ?_; (refine XL_alloc tt_ok rfl rfl (fun _ => rfl) (fun b => ?_); refine XL_nB (by repeat' (first | exact .nil | apply NL.cons)) ?_)) | (refine XG_store ?_; first | (refine XL_storeW tt_ok 0 rfl rfl rfl rfl rfl rfl rfl ?_; refine XL_nK 0 rfl (by repeat' (first | exact .nil | apply NL.cons)) ?_) | (refine XL_store tt_ok 0 rfl rfl rfl rfl rfl rfl rfl rfl ?_; refine XL_nK 0 rfl (by repeat' (first | exact .nil | apply NL.cons)) ?_)) | (refine XL_op tt_ok rfl rfl ?_; try (refine XL_dec_t (by omega) ?_))) | (refine X_id ?_; first | refine X_seq ?_ | (refine X_regionN (by repeat' (first | exact .nil | apply NL.cons)) ?_) | refine X_ret ?_) | (refine Y_id ?_; refine Y_then ?_))
  all_goals first
    | exact Y_fn1 rfl rfl rfl
    | skip
  
end Go.Proofs.Ytpokfingnflblaa
