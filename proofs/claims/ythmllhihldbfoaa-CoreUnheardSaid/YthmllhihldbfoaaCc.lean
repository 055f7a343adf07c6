/- Colours, costs, lines; a memory and a device of which nothing is kept. -/
import Derived.Test.YthmllhihldbfoaaCb
import Derived.Test.YthmllhihldbfoaaPlWm
set_option linter.unusedVariables false
namespace Go.Proofs.Ythmllhihldbfoaa
open Go.RowKit Go.Cof

theorem cowithin_spec (x a b : Int) : FnC Try.prog 27 [iV x, iV a, iV b] (fun _ => True) (.bool (decide (a ≤ x ∧ x ≤ b))) := by
  refine Ctr.intro Try.func27 rfl rfl (by decide +kernel) fun F hpre => ?_
  repeat' (first | (refine XL_id ?_; first | refine XL_nil ?_ | refine XL_guard_yes rfl rfl rfl ?_ | refine XL_guard_no rfl rfl rfl rfl rfl ?_ | (refine XL_op tt_ok rfl rfl ?_; try (refine XL_dec (fun _ => ?_) (fun _ => ?_)))) | (refine X_id ?_; first | refine X_seq ?_ | (refine X_regionN (by repeat' (exact .nil)) ?_) | refine X_ret ?_) | (refine Y_id ?_; refine Y_then ?_))
  all_goals (refine Y_fn1 rfl rfl ?_)
  all_goals (first | exact bool_t (by omega) | exact bool_f (by omega))
theorem comay_spec (x : Int) : FnC Try.prog 28 [iV x] (fun _ => True) (.bool (decide (1 ≤ x ∧ x ≤ 16))) := by
  have hw := cowithin_spec x 1 16
  by_cases h : 1 ≤ x ∧ x ≤ 16
  · rw [decide_eq_true h] at hw ⊢
    refine Ctr.intro Try.func28 rfl rfl (by decide +kernel) fun F hpre => ?_
    repeat' (first | (refine XL_id ?_; first | refine XL_nil ?_ | (refine XG_call ?_; refine XL_fn hw rfl rfl (fun _ _ _ => trivial) ?_) | (refine XL_op tt_ok rfl rfl ?_; try (refine XL_dec_t (by omega) ?_))) | (refine X_id ?_; first | refine X_seq ?_ | (refine X_regionN (by repeat' (exact .nil)) ?_) | refine X_ret ?_) | (refine Y_id ?_; refine Y_then ?_))
    all_goals first
      | exact Y_fn1 rfl rfl rfl
      | skip
    
  · rw [decide_eq_false h] at hw ⊢
    refine Ctr.intro Try.func28 rfl rfl (by decide +kernel) fun F hpre => ?_
    repeat' (first | (refine XL_id ?_; first | refine XL_nil ?_ | (refine XG_call ?_; refine XL_fn hw rfl rfl (fun _ _ _ => trivial) ?_) | (refine XL_op tt_ok rfl rfl ?_)) | (refine X_id ?_; first | refine X_seq ?_ | (refine X_regionN (by repeat' (exact .nil)) ?_) | refine X_ret ?_) | (refine Y_id ?_; refine Y_then ?_))
    all_goals first
      | exact Y_fn1 rfl rfl rfl
      | skip
    
theorem of_spec (f co : Int) (h0 : 0 ≤ f) (h1 : f < 4096) (h2 : 1 ≤ co) (h3 : co ≤ 16) : FnC Try.prog 11 [iV f, iV co] (fun _ => True) (.tuple #[iV (f % co), iV 0]) := by
  have hw := cowithin_spec f 0 4095
  rw [decide_eq_true (show 0 ≤ f ∧ f ≤ 4095 by omega)] at hw
  have hm := comay_spec co
  rw [decide_eq_true (show 1 ≤ co ∧ co ≤ 16 by omega)] at hm
  refine Ctr.intro Try.func11 rfl rfl (by decide +kernel) fun F hpre => ?_
  repeat' (first | (refine XL_id ?_; first | refine XL_nil ?_ | refine XL_guard_yes rfl rfl rfl ?_ | (refine XG_call ?_; first | refine XL_fn hw rfl rfl (fun _ _ _ => trivial) ?_ | refine XL_fn hm rfl rfl (fun _ _ _ => trivial) ?_) | (refine XL_op tt_ok (opV_rem rfl rfl (by omega)) rfl ?_; refine XL_int (Int.tmod_eq_emod_of_nonneg h0) ?_) | (refine XL_op tt_ok rfl rfl ?_)) | (refine X_id ?_; first | refine X_seq ?_ | (refine X_regionN (by repeat' (exact .nil)) ?_) | refine X_skip ?_ | refine X_ret ?_ | refine X_cond_f rfl ?_) | (refine Y_id ?_; refine Y_then ?_))
  all_goals first
    | exact Y_fn2 rfl rfl rfl rfl
    | (exfalso; omega)
    | skip
  
def setF (co pa : Int) : Int := pa / 256 % co * 16 + pa % 256 / 16
theorem setF_rng {co pa : Int} (h2 : 1 ≤ co) (h0 : 0 ≤ pa) : 0 ≤ setF co pa ∧ setF co pa < co * 16 := by
  unfold setF
  have h1 := Int.emod_nonneg (pa / 256) (show co ≠ 0 by omega)
  have h2 := Int.emod_lt_of_pos (pa / 256) (show 0 < co by omega)
  constructor <;> omega
theorem set_spec (pa co : Int) (h0 : 0 ≤ pa) (h1 : pa < 1048576) (h2 : 1 ≤ co) (h3 : co ≤ 16) : FnC Try.prog 46 [uV pa, iV co] (fun _ => True) (.tuple #[iV (setF co pa), iV 0]) := by
  have hm := comay_spec co
  rw [decide_eq_true (show 1 ≤ co ∧ co ≤ 16 by omega)] at hm
  have hr := setF_rng h2 h0
  unfold setF at hr ⊢
  have h4 := Int.emod_nonneg (pa / 256) (show co ≠ 0 by omega)
  have h5 := Int.emod_lt_of_pos (pa / 256) (show 0 < co by omega)
  have e1 : (pa / 256).tmod co = pa / 256 % co := Int.tmod_eq_emod_of_nonneg (by omega)
  obtain ⟨y, hy⟩ : ∃ y, pa / 256 % co = y := ⟨_, rfl⟩
  rw [hy] at e1 h4 h5 hr ⊢
  refine Ctr.intro Try.func46 rfl rfl (by decide +kernel) fun F hpre => ?_
  repeat' (first | (refine XL_id ?_; first | refine XL_nil ?_ | (refine XG_call ?_; refine XL_fn hm rfl rfl (fun _ _ _ => trivial) ?_) | (refine XL_op tt_ok (opV_rem rfl rfl (by omega)) rfl ?_; refine XL_int e1 ?_) | (refine XL_op tt_ok rfl rfl ?_; try (first | refine XL_int (shr8) ?_ | refine XL_int (wrap_i64 (by omega) (by omega)) ?_ | refine XL_int (quo_u64 (by omega) (by omega) (by omega)) ?_ | refine XL_int (rem_pos (by omega)) ?_ | refine XL_dec_f (by omega) ?_))) | (refine X_id ?_; first | refine X_seq ?_ | (refine X_regionN (by repeat' (exact .nil)) ?_) | refine X_skip ?_ | refine X_ret ?_ | refine X_cond_f rfl ?_) | (refine Y_id ?_; refine Y_then ?_))
  all_goals first
    | exact Y_fn2 rfl rfl rfl rfl
    | (exfalso; omega)
    | skip
  
theorem line_spec (pa : Int) (h0 : 0 ≤ pa) (h1 : pa < 1048576) : FnC Try.prog 44 [uV pa] (fun _ => True) (.tuple #[iV (pa / 16), iV 0]) := by
  refine Ctr.intro Try.func44 rfl rfl (by decide +kernel) fun F hpre => ?_
  have e1 : pa / 2 ^ min (20 : Int).toNat IntKind.u64.bits = 0 := by
    show pa / 1048576 = 0; omega
  have e2 : pa / 2 ^ min (4 : Int).toNat IntKind.u64.bits = pa / 16 := rfl
  repeat' (first | (refine XL_id ?_; first | refine XL_nil ?_ | (refine XL_op tt_ok rfl rfl ?_; refine XL_int e1 ?_) | (refine XL_op tt_ok rfl rfl ?_; refine XL_int e2 ?_) | (refine XL_op tt_ok rfl rfl ?_; try (first | refine XL_int (wrap_i64 (by omega) (by omega)) ?_ | refine XL_dec_f (by omega) ?_))) | (refine X_id ?_; first | refine X_seq ?_ | (refine X_regionN (by repeat' (exact .nil)) ?_) | refine X_skip ?_ | refine X_ret ?_ | refine X_cond_f rfl ?_) | (refine Y_id ?_; refine Y_then ?_))
  all_goals first
    | exact Y_fn2 rfl rfl rfl rfl
    | (exfalso; omega)
    | skip
  
theorem csIn {x : Pl.Cs} (h : Pl.CostP x) : x.In := by
  obtain ⟨a, b, c, d, e, f, g⟩ := h
  exact ⟨⟨by omega, by omega⟩, ⟨by omega, by omega⟩, ⟨by omega, by omega⟩, ⟨by omega, by omega⟩, ⟨by omega, by omega⟩, ⟨by omega, by omega⟩⟩
def cstF (x : Pl.Cs) (b1 b2 : Bool) : Int := if b1 then x.l1 else if b2 then x.ll else x.ms
theorem costT_spec (x : Pl.Cs) (b1 b2 : Bool) (hc : Pl.CostP x) : FnC Try.prog 47 [Pl.csV x, .agg #[.bool b1, .bool b2]] (fun _ => True) (.tuple #[uV (cstF x b1 b2), iV 0]) := by
  have hck := Pl.ccheck_spec x (csIn hc)
  rw [Pl.costE_ok hc] at hck
  refine Ctr.intro Try.func47 rfl rfl (by decide +kernel) fun F hpre => ?_
  cases b1 <;> cases b2
  all_goals
    repeat' (first | (refine XL_id ?_; first | refine XL_nil ?_ | (refine XG_box ?_; (refine XL_box rfl (fun _ => rfl) (fun bx => ?_); refine XL_nB (by repeat' (first | exact .nil | apply NL.cons)) ?_)) | (refine XG_load ?_; first | refine XL_loadW tt_ok 1 rfl rfl rfl rfl rfl rfl ?_ | refine XL_load tt_ok 0 rfl rfl rfl rfl rfl rfl ?_ | refine XL_load tt_ok 1 rfl rfl rfl rfl rfl rfl ?_) | (refine XG_call ?_; refine XL_fn hck rfl rfl (fun _ _ _ => trivial) ?_) | (refine XL_op tt_ok rfl rfl ?_; try (first | refine XL_dec_t (by omega) ?_ | refine XL_dec_f (by omega) ?_))) | (refine X_id ?_; first | refine X_seq ?_ | (refine X_regionN (by repeat' (first | exact .nil | apply NL.cons)) ?_) | refine X_skip ?_ | refine X_ret ?_ | refine X_block ?_ | refine X_cond_t rfl ?_ | refine X_cond_f rfl ?_) | (refine Y_id ?_; first | refine Y_then ?_ | refine Y_then_ret ?_ | refine Y_block_normal ?_ | refine Y_block_ret ?_))
  all_goals first
    | exact Y_fn2 rfl rfl rfl rfl
    | (exfalso; omega)
    | skip
  
theorem switch_spec (x : Pl.Cs) (n t : Int) (hc : Pl.CostP x) (h1 : 0 ≤ n ∧ n ≤ 65536) (h2 : 0 ≤ t ∧ t ≤ 64) : FnC Try.prog 32 [Pl.csV x, iV n, iV t] (fun _ => True) (.tuple #[uV ((n + t) * x.st), iV 0]) := by
  have hck := Pl.ccheck_spec x (csIn hc)
  rw [Pl.costE_ok hc] at hck
  have hw1 := Pl.cwithin_spec n 0 65536
  rw [decide_eq_true (show 0 ≤ n ∧ n ≤ 65536 from h1)] at hw1
  have hw2 := Pl.cwithin_spec t 0 64
  rw [decide_eq_true (show 0 ≤ t ∧ t ≤ 64 from h2)] at hw2
  have hst := hc.st
  have hp1 : 0 ≤ (n + t) * x.st := Int.mul_nonneg (by omega) (by omega)
  have hp2 : (n + t) * x.st ≤ 65600 * 65536 := Int.mul_le_mul (by omega) hst.2 (by omega) (by omega)
  have e1 : IntKind.u64.wrap ((n + t) * x.st) = (n + t) * x.st := wrap_u64 hp1 (by omega)
  refine Ctr.intro Try.func32 rfl rfl (by decide +kernel) fun F hpre => ?_
  repeat' (first | (refine XL_id ?_; first | refine XL_nil ?_ | refine XL_guard_yes rfl rfl rfl ?_ | (refine XG_box ?_; (refine XL_box rfl (fun _ => rfl) (fun bx => ?_); refine XL_nB (by repeat' (first | exact .nil | apply NL.cons)) ?_)) | (refine XG_load ?_; first | refine XL_loadW tt_ok 0 rfl rfl rfl rfl rfl rfl ?_ | refine XL_load tt_ok 0 rfl rfl rfl rfl rfl rfl ?_) | (refine XG_call ?_; first | refine XL_fn hck rfl rfl (fun _ _ _ => trivial) ?_ | refine XL_fn hw1 rfl rfl (fun _ _ _ => trivial) ?_ | refine XL_fn hw2 rfl rfl (fun _ _ _ => trivial) ?_) | (refine XL_op tt_ok rfl rfl ?_; refine XL_int e1 ?_) | (refine XL_op tt_ok rfl rfl ?_; try (first | refine XL_int (wrap_i64 (by omega) (by omega)) ?_ | refine XL_int (wrap_u64 (by omega) (by omega)) ?_ | refine XL_dec_f (by omega) ?_))) | (refine X_id ?_; first | refine X_seq ?_ | (refine X_regionN (by repeat' (first | exact .nil | apply NL.cons)) ?_) | refine X_skip ?_ | refine X_ret ?_ | refine X_cond_f rfl ?_) | (refine Y_id ?_; refine Y_then ?_))
  all_goals first
    | exact Y_fn2 rfl rfl rfl rfl
    | (exfalso; omega)
    | skip
  
/-! a memory, a device: made, and let go -/
set_option maxHeartbeats 4000000 in
theorem fnew_drop (n : Nat) (h1 : 1 ≤ n) (h2 : n ≤ 4096) : Ctr Try.prog 19 [iV n] (fun _ => True) [] (fun v L => ∃ p, v = .tuple #[ptr p, iV 0] ∧ L = []) := by
  refine Ctr.intro Try.func19 rfl rfl (by decide +kernel) fun F hpre => ?_
  have e0 : ((n : Int) * 256).toNat = n * 256 := by omega
  repeat' (first | (refine XL_id ?_; first | refine XL_nil ?_ | refine XL_guard_yes rfl rfl rfl ?_ | (refine XG_box ?_; (refine XL_box rfl (fun _ => rfl) (fun bx => ?_); refine XL_nB (by repeat' (first | exact .nil | apply NL.cons)) ?_)) | (refine XG_build ?_; (refine XL_build tt_ok rfl rfl rfl rfl rfl rfl rfl ?_; refine XL_aggN (by repeat' (first | exact .nil | apply NL.cons)) ?_)) | (refine XG_make ?_; (refine XL_make (Go.Cof.encI .u8) (0 : Int) tt_ok rfl rfl rfl rfl rfl rfl rfl rfl (by omega) (by omega) (by show (1 : Int) * _ ≤ _; omega) (by omega) (fun _ => rfl) (fun g => ?_); rw [e0])) | (refine XL_op tt_ok rfl rfl ?_; try (first | refine XL_int (wrap_i64 (by omega) (by omega)) ?_ | refine XL_dec_f (by omega) ?_))) | (refine X_id ?_; first | refine X_block (id := 0) (hold ?_) | refine X_seq ?_ | (refine X_regionN (by repeat' (first | exact .nil | apply NL.cons)) ?_) | refine X_skip ?_ | refine X_cond_f rfl ?_) | (refine Y_id ?_; refine Y_then ?_))
  all_goals first
    | (exfalso; omega)
    | skip
  intro _
  refine X_loopD4 [4, 17] (fun (i : Nat) (A : Option Addr) (c : Nat) (qs : List (In Int)) => [(18, .int .i64 i)]) (fun i A c qs => [own (encIn Int) A i c qs, blk bx [.slice (some ⟨g, 0, none⟩) (n * 256) (n * 256), .slice A i c] 97]) (fun i _ _ _ => i ≤ n) (fun i _ _ _ => n - i) 0 none 0 [] rfl (Nat.zero_le _) (by (repeat' (first | exact trivial | refine And.intro rfl ?_)); done) (fun h hs => stars_new (own_nil _ _) (stars_only [0] rfl h hs)) ?_
  intro i A c qs hi
  replace hi : i ≤ n := hi
  by_cases hlt : i < n
  · repeat' (first | (refine XL_id ?_; first | refine XL_nil ?_ | (refine XG_call ?_; (refine XL_app1 (E := encIn Int) tt_ok 1 0 (⟨_, _, _, []⟩ : In Int) rfl rfl rfl rfl rfl rfl rfl rfl rfl rfl rfl (by show (_ : Nat) * 24 ≤ _; omega) (by omega) (fun _ _ => rfl) (fun A3 c3 => ?_))) | (refine XG_lit ?_; (refine XL_lit tt_ok rfl rfl rfl rfl rfl rfl rfl rfl rfl (fun _ => rfl) (fun b => ?_); refine XL_nB (by repeat' (first | exact .nil | apply NL.cons)) ?_)) | (refine XG_store ?_; (refine XL_store tt_ok 2 rfl rfl rfl rfl rfl rfl rfl rfl ?_; refine XL_nK 2 rfl (by repeat' (first | exact .nil | apply NL.cons)) ?_)) | (refine XL_op tt_ok rfl rfl ?_; try (first | refine XL_int (wrap_i64 (by omega) (by omega)) ?_ | refine XL_dec_t (by omega) ?_))) | (refine XD_id ?_; first | refine XD_nil ?_ | (refine XD_id ?_; (first | (refine XD_uL rfl ?_; refine XD_s rfl rfl rfl (XV_load tt_ok rfl (blk_at 0 rfl hM) rfl rfl rfl) rfl ?_) | (refine XD_u rfl rfl ?_; first | refine XD_s rfl rfl rfl (XV_op tt_ok rfl) rfl ?_ | refine XD_s rfl rfl rfl (XV_slicel tt_ok rfl rfl rfl rfl (.lohimx (by omega) (by omega) (by omega) (by omega)) (by omega) rfl rfl rfl) rfl ?_)); try (refine XD_int (wrap_i64 (by omega) (by omega)) ?_)) | refine XD_m rfl rfl ?_ | (refine XD_thaw thaw ?_; refine XD_l rfl rfl ?_)) | (refine X_id ?_; first | (refine X_drawS (id := 7) [0, 1, 2, 3, 4, 5, 6, 7, 8, 9, 10, 11, 12, 13, 14, 15, 16, 17, 18, 19, 20, 21, 22] (fun | 18 => .m | 19 => .m | 22 => .l | _ => .s) 8 (by (repeat apply Split.blk); apply Split.keep; repeat' (first | exact Split.nil | apply Split.blk)) mixed (by decide +kernel) ?_; intro G hFG hM thaw; show XD _ _ _ _ _ _ [0, 1, 2, 3, 4, 5, 6, 7, 8, 9, 10, 11, 12, 13, 14, 15, 16, 17, 18, 19, 20, 21, 22] _ _ _) | refine X_seq ?_ | (refine X_regionN (by repeat' (first | exact .nil | apply NL.cons)) ?_) | refine X_skip ?_ | refine X_block ?_ | refine X_cond_t rfl ?_) | (refine Y_id ?_; first | refine Y_then ?_ | refine Y_block_normal ?_ | refine Y_m ?_ | refine Y_l ?_))
    all_goals first
      | exact Y_again (i + 1, A3, c3, _) fun _ _ hf hs => ⟨hlt, by show n - (i + 1) < n - i; omega, hf.sub (by (repeat' (first | exact trivial | refine And.intro rfl ?_)); done), hs.imp fun g hg => stars_only [1, 1] rfl g hg⟩
      | (exfalso; omega)
      | skip
    
  · repeat' (first | (refine XL_id ?_; first | refine XL_nil ?_ | (refine XL_op tt_ok rfl rfl ?_; try (refine XL_dec_f (by omega) ?_))) | (refine X_id ?_; first | refine X_seq ?_ | (refine X_regionN (by repeat' (first | exact .nil | apply NL.cons)) ?_) | refine X_ret ?_ | refine X_exit ?_ | refine X_cond_f rfl ?_) | (refine Y_id ?_; first | refine Y_then ?_ | refine Y_then_exit ?_ | refine Y_block_hit ?_))
    all_goals first
      | exact Y_ret2 rfl rfl rfl (L' := []) (fun _ _ => trivial) ⟨_, rfl, rfl⟩
      | (exfalso; omega)
      | skip
    
theorem dnew_drop (n : Nat) (h : n ≤ 1024) : Ctr Try.prog 21 [iV n] (fun _ => True) [] (fun v L => ∃ p, v = .tuple #[ptr p, iV 0] ∧ L = []) := by
  refine Ctr.intro Try.func21 rfl rfl (by decide +kernel) fun F hpre => ?_
  repeat' (first | (refine XL_id ?_; first | refine XL_nil ?_ | refine XL_guard_yes rfl rfl rfl ?_ | refine XL_mkMap (κ := Int) (β := Int) (Kk.int .i64 Try.underlying3) (fun x => iV x) (fun _ => rfl) (fun mb => ?_) | (refine XG_box ?_; (refine XL_box rfl (fun _ => rfl) (fun _ => ?_); refine XL_nB (by repeat' (first | exact .nil | apply NL.cons)) ?_)) | (refine XG_build ?_; (refine XL_build tt_ok rfl rfl rfl rfl rfl rfl rfl ?_; refine XL_aggN (by repeat' (first | exact .nil | apply NL.cons)) ?_)) | (refine XL_op tt_ok rfl rfl ?_; try (refine XL_dec_f (by omega) ?_))) | (refine X_id ?_; first | refine X_seq ?_ | (refine X_regionN (by repeat' (exact .nil)) ?_) | refine X_skip ?_ | refine X_ret ?_ | refine X_cond_f rfl ?_) | (refine Y_id ?_; refine Y_then ?_))
  all_goals first
    | exact Y_ret2 rfl rfl rfl (L' := []) (fun _ _ => trivial) ⟨_, rfl, rfl⟩
    | (exfalso; omega)
    | skip
  
end Go.Proofs.Ythmllhihldbfoaa
