/- PlanChecks: of every configuration what is wrong, thing by thing. -/
import Derived.Test.YtpokfingnflblaaSe
import Derived.Test.YtpokfingnflblaaRe
set_option linter.unusedVariables false
namespace Go.Proofs.Ytpokfingnflblaa
open Go.RowKit Go.Cof

theorem place_at {q n sz f i : Nat} (h : n = i) : ((bs (some (⟨q, 0, none⟩ : Addr))).add (n * sz)).add f = ⟨q, i * sz + f, none⟩ := by
  subst h
  show ((⟨q, 0, none⟩ : Addr).add _).add _ = _
  rw [Addr.add_lit, Addr.add_lit, Nat.zero_add]
theorem chkF_len (d : Cd) : (chkF d).length ≤ 12 := by
  have := partsF_len d (min d.ps.length 8)
  unfold chkF
  omega
theorem may_len (d : Cd) : decide (MayP d) = decide (((chkF d).length : Int) = 0) := by
  refine decide_eq_decide.2 ⟨fun h => ?_, fun h => ?_⟩
  · rw [show chkF d = [] from h]; rfl
  · exact List.length_eq_zero_iff.1 (by omega)
set_option maxHeartbeats 8000000 in
theorem planChecks_walk (d : Cd) (y : Ly) (hd : d.In) (hf : y.Fit) : FnC Try.prog 3 [cfV d y] (fun h => CfR h d y) (.bool true) := by
  refine Ctr.intro Try.func3 rfl rfl (by decide +kernel) fun F hpre => ?_
  have hpre : CfR F.heap d y := hpre
  have hl := hpre.len
  have hlen := chkF_len d
  have hmay : ∀ y', y'.Fit → d.ps.length = y'.pm → FnC Try.prog 12 [cfV d y'] (fun h => CfR h d y') (.bool (decide (((chkF d).length : Int) = 0))) := fun y' h1 h2 => by
    rw [← may_len]; exact may_spec d y' hd h1 h2
  repeat' (first | (refine XL_id ?_; first | refine XL_nil ?_ | refine XL_guard_yes rfl rfl rfl ?_ | (refine XG_load ?_; first | refine XL_loadW tt_ok 0 rfl rfl rfl rfl rfl rfl ?_ | refine XL_loadW tt_ok 3 rfl rfl rfl rfl rfl rfl ?_ | refine XL_loadW tt_ok 4 rfl rfl rfl rfl rfl rfl ?_ | refine XL_loadW tt_ok 5 rfl rfl rfl rfl rfl rfl ?_) | (refine XG_box ?_; (refine XL_box rfl (fun _ => rfl) (fun _ => ?_); refine XL_nB (by repeat' (first | exact .nil | apply NL.cons)) ?_)) | (refine XG_call ?_; first | (refine XL_op tt_ok rfl rfl ?_) | (refine XL_callK [] (copy_spec d y hf) rfl rfl (fun _ => rfl) (fun g hg hL => hpre.le hg) (fun u L hv => ?_); obtain ⟨y2, rfl, rfl⟩ := hv; refine XL_fact 0 rfl (fun h hs => isCf_fit hs) (fun hfit => ?_); obtain ⟨hf2, hl2⟩ := hfit) | (refine XL_callK [] (check_spec d y2 hd hf2 hl2) rfl rfl (fun _ => rfl) (fun g hg hL => cf_at 1 rfl (stars_up hM hg)) (fun u L hv => ?_); obtain ⟨A1, c1, rfl, rfl⟩ := hv) | (refine XL_callK [] (rcheckC_spec d y hd hf hl) rfl rfl (fun _ => rfl) (fun g hg hL => hpre.le hg) (fun u L hv => ?_); obtain ⟨A3, c3, rfl, rfl⟩ := hv) | (refine XL_fn (same_spec _ A3 _ _ _ c3 (chkF d) (chkF d) (by omega) (by omega)) rfl rfl (fun g hg hL => ⟨(by exact rd_at 2 rfl hL), rd_at 0 rfl hL⟩) ?_; refine XL_dec_t rfl ?_) | (refine XL_fn (hmay y2 hf2 hl2) rfl rfl (fun g hg hL => by exact cf_at 4 rfl hL) ?_; refine XL_dec (fun _ => ?_) (fun _ => ?_)) | (refine XL_fn (Same_spec d d y2 y hf2 hf) rfl rfl (fun g hg hL => ⟨by exact cf_at 4 rfl hL, hpre.le hg⟩) ?_; refine XL_dec_t rfl ?_)) | (refine XG_alloc ?_; (refine XL_alloc tt_ok rfl rfl (fun _ => rfl) (fun b => ?_); refine XL_nB (by repeat' (first | exact .nil | apply NL.cons)) ?_)) | (refine XG_store ?_; (refine XL_storeW tt_ok 0 rfl rfl rfl rfl rfl rfl rfl ?_; refine XL_nK 0 rfl (by repeat' (first | exact .nil | apply NL.cons)) ?_)) | (refine XL_op tt_ok rfl rfl ?_; try (first | refine XL_dec_t (by omega) ?_ | refine XL_dec_f (by omega) ?_))) | (refine XD_id ?_; first | (refine XD_thaw thaw ?_; refine XD_nil ?_) | (refine XD_id ?_; (first | (refine XD_uL rfl ?_; refine XD_s rfl rfl rfl (XV_loadW tt_ok rfl (blk_at 0 rfl hM) rfl rfl rfl) rfl ?_) | (refine XD_u rfl rfl ?_; refine XD_s rfl rfl rfl (XV_op tt_ok rfl) rfl ?_))) | refine XD_m rfl rfl ?_) | (refine X_id ?_; first | (refine X_drawS (id := 2) [0, 2, 1, 3, 4, 5] (fun | 1 => .m | 3 => .m | _ => .s) 8 (by (repeat apply Split.blk); apply Split.frz; repeat' (first | exact Split.nil | apply Split.blk)) mixed (by decide +kernel) ?_; intro G hFG hM thaw; show XD _ _ _ _ _ _ [0, 2, 1, 3, 4, 5] _ _ _) | refine X_block (hold ?_) | refine X_seq ?_ | (refine X_regionN (by repeat' (first | exact .nil | apply NL.cons)) ?_) | refine X_skip ?_ | refine X_cond_f rfl ?_) | (refine Y_id ?_; first | refine Y_then ?_ | refine Y_m ?_))
  all_goals intro _
  all_goals refine X_loopD2 [3, 4, 5, 6] (fun (i : Nat) (zs : List Fl) => [(7, .int .i64 i)]) (fun _ zs => [own encFl _ (chkF d).length _ zs, _, _, _, _, _]) (fun i zs => i ≤ (chkF d).length) (fun i _ => (chkF d).length - i) 0 (chkF d) rfl (Nat.zero_le _) (by (repeat' (first | exact trivial | refine And.intro rfl ?_)); done) (stars_only [2, 0, 0, 0, 0, 0] rfl) ?_
  all_goals intro i zs hi
  all_goals have hi : i ≤ (chkF d).length := hi
  all_goals by_cases hlt : i < (chkF d).length
  case pos | pos =>
    refine X_fact 0 rfl (fun _ o => own_some o (by omega)) fun hq => ?_
    obtain ⟨q, rfl⟩ := hq
    repeat' (first | (refine XL_id ?_; first | refine XL_nil ?_ | (refine XG_idx ?_; refine XL_idxo tt_ok 0 rfl rfl rfl rfl rfl rfl (by omega) (by omega) rfl ?_) | (refine XG_store ?_; refine XL_put (i := i) (f := 1) (x' := { zs.getD i default with a := -9 }) tt_ok 0 rfl rfl (place_at (by omega)) rfl rfl rfl rfl (by omega) rfl rfl rfl ?_) | (refine XL_op tt_ok rfl rfl ?_; try (first | refine XL_int (wrap_i64 (by omega) (by omega)) ?_ | refine XL_dec_t (by omega) ?_))) | (refine X_id ?_; first | refine X_seq ?_ | (refine X_regionN (by repeat' (first | exact .nil | apply NL.cons)) ?_) | refine X_skip ?_ | refine X_block ?_ | refine X_cond_t rfl ?_) | (refine Y_id ?_; first | refine Y_then ?_ | refine Y_block_normal ?_))
    all_goals first
      | exact Y_again (i + 1, _) fun _ _ hf hs => ⟨by show i + 1 ≤ (chkF d).length; omega, by show (chkF d).length - (i + 1) < (chkF d).length - i; omega, hf.sub (by (repeat' (first | exact trivial | refine And.intro rfl ?_)); done), hs⟩
      | skip
    
  all_goals
    repeat' (first | (refine XL_id ?_; first | refine XL_nil ?_ | refine XL_guard_yes rfl rfl rfl ?_ | (refine XG_load ?_; refine XL_loadW tt_ok 3 rfl rfl rfl rfl rfl rfl ?_) | (refine XG_call ?_; first | (refine XL_op tt_ok rfl rfl ?_) | (refine XL_callK [] (check_spec d y2 hd hf2 hl2) rfl rfl (fun _ => rfl) (fun g hg hL => by exact cf_at 4 rfl hL) (fun u L hv => ?_); obtain ⟨A5, c5, rfl, rfl⟩ := hv) | (refine XL_fn (same_spec _ A3 _ _ _ c3 (chkF d) (chkF d) (by omega) (by omega)) rfl rfl (fun g hg hL => ⟨(by first | exact rd_at 0 rfl hL | exact rd_at 2 rfl hL), (by first | exact rd_at 1 rfl hL | exact rd_at 2 rfl hL)⟩) ?_; refine XL_dec_t rfl ?_) | refine XL_fn awake_spec rfl rfl (fun _ _ _ => trivial) ?_) | (refine XL_op tt_ok rfl rfl ?_; try (refine XL_dec_f (by omega) ?_))) | (refine X_id ?_; first | refine X_seq ?_ | (refine X_regionN (by repeat' (first | exact .nil | apply NL.cons)) ?_) | refine X_ret ?_ | refine X_exit ?_ | refine X_cond_f rfl ?_) | (refine Y_id ?_; first | refine Y_then ?_ | refine Y_then_exit ?_ | refine Y_block_hit ?_))
  all_goals first
    | exact Y_fn1 rfl rfl rfl
    | (exfalso; omega)
    | skip
  
end Go.Proofs.Ytpokfingnflblaa
