/- Walks of the reference's functions: perm, pages, Check, part, between, count. Walks of the reference's joined, with, Put, Cut, Protect. Walks of the reference's with, Put, Cut, Protect. -/
import Derived.Test.YtalkcemelegohaaVmB
import Derived.Test.YtalkcemelegohaaSlS
set_option linter.unusedVariables false
set_option maxRecDepth 100000
namespace Go.Proofs.Ytalkcemelegohaa.Vm
open Go.RowKit Go.Cof

theorem within_spec (x a b : Int) : FnC Try.prog 42 [.int .i64 x, .int .i64 a, .int .i64 b] (fun _ => True) (.bool (decide (a ≤ x ∧ x ≤ b))) := by
  refine Ctr.intro Try.func42 rfl rfl (by decide +kernel) fun F hpre => ?_
  repeat' (first | (refine XL_id ?_; first | refine XL_nil ?_ | refine XL_guard_yes rfl rfl rfl ?_ | refine XL_guard_no rfl rfl rfl rfl rfl ?_ | (refine XL_op tt_ok rfl rfl ?_; try (refine XL_dec (fun _ => ?_) (fun _ => ?_)))) | (refine X_id ?_; first | refine X_seq ?_ | (refine X_regionN (by repeat' (exact .nil)) ?_) | refine X_ret ?_) | (refine Y_id ?_; refine Y_then ?_))
  all_goals (refine Y_fn1 rfl rfl ?_)
  all_goals (first | exact bool_t (by omega) | exact bool_f (by omega))
theorem rperm_spec (m : Int) : FnC Try.prog 73 [.int .u8 m] (fun _ => True) (.bool (prm m)) := by
  refine Ctr.intro Try.func73 rfl rfl (by decide +kernel) fun F hpre => ?_
  repeat' (first | (refine XL_id ?_; first | refine XL_nil ?_ | refine XL_guard_yes rfl rfl rfl ?_ | refine XL_guard_no rfl rfl rfl rfl rfl ?_ | (refine XL_op tt_ok rfl rfl ?_; try (refine XL_dec (fun _ => ?_) (fun _ => ?_)))) | (refine X_id ?_; first | refine X_seq ?_ | (refine X_regionN (by repeat' (exact .nil)) ?_) | refine X_ret ?_) | (refine Y_id ?_; refine Y_then ?_))
  all_goals (refine Y_fn1 rfl rfl ?_)
  all_goals (first | exact bool_t (by omega) | exact bool_f (by omega))
theorem rpages_spec (p n : Int) (h1 : -9223372036854775808 ≤ p) (h2 : p ≤ 9223372036854775807) : FnC Try.prog 72 [.int .i64 p, .int .i64 n] (fun _ => True) (.bool (pgs p n)) := by
  refine Ctr.intro Try.func72 rfl rfl (by decide +kernel) fun F hpre => ?_
  repeat' (first | (refine XL_id ?_; first | refine XL_nil ?_ | refine XL_guard_yes rfl rfl rfl ?_ | refine XL_guard_no rfl rfl rfl rfl rfl ?_ | (refine XG_call ?_; (refine XL_fn (within_spec _ _ _) rfl rfl (fun _ _ _ => trivial) ?_; refine XL_dec (fun _ => ?_) (fun _ => ?_))) | (refine XL_op tt_ok rfl rfl ?_; try (refine XL_int (wrap_i64 (by omega) (by omega)) ?_))) | (refine X_id ?_; first | refine X_seq ?_ | (refine X_regionN (by repeat' (exact .nil)) ?_) | refine X_ret ?_) | (refine Y_id ?_; refine Y_then ?_))
  all_goals (refine Y_fn1 rfl rfl ?_)
  all_goals (first | exact bool_t (by omega) | exact bool_f (by omega))
set_option maxRecDepth 100000 in
set_option maxHeartbeats 4000000 in
theorem rcheck_spec (A : Option Addr) (m c : Nat) (l : List Rg) (hm : m ≤ 9223372036854775807) (hl : ∀ r ∈ l, r.In) : FnC Try.prog 41 [.slice A m c] (fun h => rdS encRg h A m l) (.int .i64 (checkE l)) := by
  refine Ctr.intro Try.func41 rfl rfl (by decide +kernel) fun F hpre => ?_
  have r1 : rdS encRg F.heap A m l := hpre
  have hlen := r1.1
  repeat' (first | (refine XL_id ?_; first | refine XL_nil ?_ | (refine XG_call ?_; (refine XL_op tt_ok rfl rfl ?_)) | (refine XL_op tt_ok rfl rfl ?_; try (refine XL_dec (fun _ => ?_) (fun _ => ?_)))) | (refine X_id ?_; first | refine X_seq ?_ | (refine X_regionN (by repeat' (exact .nil)) ?_) | refine X_skip ?_ | refine X_ret ?_ | refine X_block ?_ | refine X_cond_t rfl ?_ | refine X_cond_f rfl ?_) | (refine Y_id ?_; first | refine Y_then ?_ | refine Y_then_ret ?_))
  · exact Y_fn1 rfl rfl (by rw [checkE_few (by omega)])
  refine X_loopD [0] (fun (i : Nat) => [(3, .int .i64 i)]) (fun _ => []) (fun i => i ≤ m ∧ ∀ j : Nat, j < i → okAt l j = true) (fun i => m - i) 0 rfl ⟨Nat.zero_le _, fun j hj => by omega⟩ (by (repeat' (first | exact trivial | refine And.intro rfl ?_)); done) (fun _ h => h) ?_
  intro i hi
  obtain ⟨hi, hx⟩ := hi
  by_cases hlt : i < m
  · have hin := hl _ (get_mem (l := l) (i := (i : Int)) (by omega) (by omega))
    have k1 := hin.p; have k2 := hin.n; have k3 := hin.m
    have kp : 0 < i → (Cof.get l ((i : Int) - 1)).Ok := fun h0 => by
      have := okAt_rg (hx (i - 1) (by omega))
      rwa [show ((i - 1 : Nat) : Int) = (i : Int) - 1 from by omega] at this
    have kq : 0 < i → (Cof.get l ((i : Int) - 1)).p + (Cof.get l ((i : Int) - 1)).n ≤ 1048576 ∧ 1 ≤ (Cof.get l ((i : Int) - 1)).p ∧ 1 ≤ (Cof.get l ((i : Int) - 1)).n := fun h0 => ⟨(kp h0).e, (kp h0).p, (kp h0).n⟩
    have ee : (Cof.get l ((i : Int) - 1)).end = (Cof.get l ((i : Int) - 1)).p + (Cof.get l ((i : Int) - 1)).n := rfl
    repeat' (first | (refine XL_id ?_; first | refine XL_nil ?_ | refine XL_guard_yes rfl rfl rfl ?_ | (refine XG_call ?_; first | (refine XL_op tt_ok rfl rfl ?_) | (refine XL_fn (rperm_spec _) rfl rfl (fun _ _ _ => trivial) ?_; refine XL_bool (fun _ => ?_) (fun _ => ?_)) | (refine XL_fn (rpages_spec _ _ (by omega) (by omega)) rfl rfl (fun _ _ _ => trivial) ?_; refine XL_bool (fun _ => ?_) (fun _ => ?_))) | (refine XL_op tt_ok rfl rfl ?_; try (first | refine XL_int (wrap_i64 (by omega) (by omega)) ?_ | refine XL_dec_t (by omega) ?_ | refine XL_dec (fun _ => ?_) (fun _ => ?_)))) | (refine XD_id ?_; first | (refine XD_thaw thaw ?_; refine XD_nil ?_) | refine XD_no rfl rfl rfl rfl rfl rfl ?_ | refine XD_nou rfl rfl rfl rfl rfl ?_ | (refine XD_id ?_; (first | (refine XD_uL rfl ?_; first | refine XD_s rfl rfl rfl (XV_el tt_ok rfl (rdS.le (by assumption) hFG) rfl (by omega) (by omega) rfl rfl rfl) rfl ?_ | refine XD_s rfl rfl rfl (XV_elf tt_ok rfl (rdS.le (by assumption) hFG) rfl (by omega) (by omega) rfl rfl rfl) rfl ?_) | (refine XD_uI rfl ?_; refine XD_s rfl rfl rfl (XV_idx tt_ok rfl rfl rfl rfl rfl (rdS.le (by assumption) hFG) (by omega) (by omega)) rfl ?_) | (refine XD_gL rfl ?_; first | refine XD_sy rfl rfl rfl rfl rfl (XV_el tt_ok rfl (rdS.le (by assumption) hFG) rfl (by omega) (by omega) rfl rfl rfl) rfl ?_ | refine XD_sy rfl rfl rfl rfl rfl (XV_elf tt_ok rfl (rdS.le (by assumption) hFG) rfl (by omega) (by omega) rfl rfl rfl) rfl ?_) | (refine XD_gI rfl ?_; refine XD_sy rfl rfl rfl rfl rfl (XV_idx tt_ok rfl rfl rfl rfl rfl (rdS.le (by assumption) hFG) (by omega) (by omega)) rfl ?_) | (refine XD_u rfl rfl ?_; refine XD_s rfl rfl rfl (XV_op tt_ok rfl) rfl ?_) | (refine XD_g rfl rfl ?_; refine XD_sy rfl rfl rfl rfl rfl (XV_op tt_ok rfl) rfl ?_)); try (first | refine XD_int (wrap_i64 (by omega) (by omega)) ?_ | refine XD_dec (fun _ => ?_) (fun _ => ?_))) | refine XD_m rfl rfl ?_) | (refine X_id ?_; first | (refine X_drawS (id := 6) [0, 1, 2, 3, 4, 5, 6, 7, 8, 9, 10, 11, 12, 13, 14, 15, 16, 17, 18, 19, 20] (fun | 10 => .m | 18 => .m | _ => .s) 8 (by repeat' (exact Split.nil)) mixed (by decide +kernel) ?_; intro G hFG hM thaw; show XD _ _ _ _ _ _ [0, 1, 2, 3, 4, 5, 6, 7, 8, 9, 10, 11, 12, 13, 14, 15, 16, 17, 18, 19, 20] _ _ _) | (refine X_drawS (id := 9) [0, 1, 2, 3, 4, 5, 6, 7, 8, 9, 10, 11, 12, 13] (fun _ => .s) 8 (by repeat' (exact Split.nil)) mixed (by decide +kernel) ?_; intro G hFG hM thaw; show XD _ _ _ _ _ _ [0, 1, 2, 3, 4, 5, 6, 7, 8, 9, 10, 11, 12, 13] _ _ _) | (refine X_drawS (id := 10) [0, 1, 2, 3, 4, 5, 6, 7, 8, 9, 10, 11, 12, 13, 14, 15, 16, 17, 18, 19, 20, 21, 22, 23, 24, 25, 26, 27, 28, 29] (fun _ => .s) 8 (by repeat' (exact Split.nil)) mixed (by decide +kernel) ?_; intro G hFG hM thaw; show XD _ _ _ _ _ _ [0, 1, 2, 3, 4, 5, 6, 7, 8, 9, 10, 11, 12, 13, 14, 15, 16, 17, 18, 19, 20, 21, 22, 23, 24, 25, 26, 27, 28, 29] _ _ _) | refine X_seq ?_ | (refine X_regionN (by repeat' (exact .nil)) ?_) | refine X_skip ?_ | refine X_ret ?_ | refine X_block ?_ | refine X_cond_t rfl ?_ | refine X_cond_f rfl ?_) | (refine Y_id ?_; first | refine Y_then ?_ | refine Y_then_ret ?_ | refine Y_block_normal ?_ | refine Y_block_ret ?_ | refine Y_m ?_))
    all_goals first
      | exact Y_fn1 rfl rfl (by rw [checkE_bad (i := i) (by omega) (by omega) (okAt_bad (by omega) (by omega))])
      | exact Y_fn1 rfl rfl (by rw [checkE_bad (i := i) (by omega) (by omega) (by simp [okAt, *]; done)])
      | exact Y_again (i + 1) fun _ _ hf hs => ⟨⟨by omega, upto_succ hx (okAt_good (by assumption) (by assumption) (by omega))⟩, by omega, hf.sub (by (repeat' (first | exact trivial | refine And.intro rfl ?_)); done), hs.imp fun _ _ => trivial⟩
      | skip
    
  · repeat' (first | (refine XL_id ?_; first | refine XL_nil ?_ | (refine XG_call ?_; (refine XL_op tt_ok rfl rfl ?_)) | (refine XL_op tt_ok rfl rfl ?_; try (refine XL_dec_f (by omega) ?_))) | (refine X_id ?_; first | refine X_seq ?_ | (refine X_regionN (by repeat' (exact .nil)) ?_) | refine X_ret ?_ | refine X_exit ?_ | refine X_cond_f rfl ?_) | (refine Y_id ?_; first | refine Y_then ?_ | refine Y_then_exit ?_ | refine Y_block_hit ?_))
    exact Y_fn1 rfl rfl (by rw [checkE_ok (by omega) (fun j hj => hx j (by omega))])
/-- What of a region lies from a page up to another one. -/
def partR (from_ to : Int) (r : Rg) : Option Rg :=
  if (if from_ > r.p then from_ else r.p) ≥ (if to < r.end then to else r.end) then none else some ⟨if from_ > r.p then from_ else r.p, (if to < r.end then to else r.end) - (if from_ > r.p then from_ else r.p), r.m⟩
def betw (l : List Rg) (from_ to : Int) : List Rg := l.filterMap (partR from_ to)
def partV_ (x : Option Rg) : Value := match x with | none => .tuple #[rgV ⟨0, 0, 0⟩, .bool false] | some r => .tuple #[rgV r, .bool true]
theorem part_none {from_ to : Int} {r : Rg} (h : (if from_ > r.p then from_ else r.p) ≥ (if to < r.end then to else r.end)) : partR from_ to r = none := if_pos h
theorem part_some {from_ to : Int} {r : Rg} (h : ¬ (if from_ > r.p then from_ else r.p) ≥ (if to < r.end then to else r.end)) : partR from_ to r = some ⟨if from_ > r.p then from_ else r.p, (if to < r.end then to else r.end) - (if from_ > r.p then from_ else r.p), r.m⟩ := if_neg h
theorem part_spec (r : Rg) (from_ to : Int) (h : r.Ok) (h1 : 0 ≤ from_) (h2 : from_ ≤ 2097152) (h3 : 0 ≤ to) (h4 : to ≤ 4194304) : FnC Try.prog 96 [rgV r, .int .i64 from_, .int .i64 to] (fun _ => True) (partV_ (partR from_ to r)) := by
  have q1 := h.p; have q2 := h.n; have q3 := h.e; have ee : r.end = r.p + r.n := rfl
  by_cases hc : (if from_ > r.p then from_ else r.p) ≥ (if to < r.end then to else r.end)
  · rw [part_none hc]
    rw [ee] at hc
    refine Ctr.intro Try.func96 rfl rfl (by decide +kernel) fun F hpre => ?_
    repeat' (first | (refine XL_id ?_; first | refine XL_nil ?_ | (refine XG_load ?_; refine XL_load tt_ok 1 rfl rfl rfl rfl rfl rfl ?_) | (refine XG_box ?_; (refine XL_box rfl (fun _ => rfl) (fun _ => ?_); refine XL_nB (by repeat' (first | exact .nil | apply NL.cons)) ?_)) | (refine XG_build ?_; (refine XL_build tt_ok rfl rfl rfl rfl rfl rfl rfl ?_; refine XL_aggN (by repeat' (first | exact .nil | apply NL.cons)) ?_)) | (refine XG_alloc ?_; (refine XL_alloc tt_ok rfl rfl (fun _ => rfl) (fun b => ?_); refine XL_nB (by repeat' (first | exact .nil | apply NL.cons)) ?_)) | (refine XG_store ?_; (refine XL_storeW tt_ok 0 rfl rfl rfl rfl rfl rfl rfl ?_; refine XL_nK 0 rfl (by repeat' (first | exact .nil | apply NL.cons)) ?_)) | (refine XL_op tt_ok rfl rfl ?_; try (first | refine XL_int (wrap_i64 (by omega) (by omega)) ?_ | refine XL_dec_t (by omega) ?_))) | (refine X_id ?_; first | refine X_seq ?_ | (refine X_regionN (by repeat' (first | exact .nil | apply NL.cons)) ?_) | refine X_ret ?_ | refine X_cond_t rfl ?_) | (refine Y_id ?_; first | refine Y_then ?_ | refine Y_then_ret ?_))
    all_goals (try (exfalso; omega))
    exact Y_res2 rfl (.cell tt_ok 0 rfl rfl rfl rfl rfl) (.tmp rfl) (L' := []) (fun _ _ => trivial) ⟨rfl, rfl⟩
  · rw [part_some hc]
    rw [ee] at hc ⊢
    refine Ctr.intro Try.func96 rfl rfl (by decide +kernel) fun F hpre => ?_
    repeat' (first | (refine XL_id ?_; first | refine XL_nil ?_ | (refine XG_load ?_; refine XL_load tt_ok 1 rfl rfl rfl rfl rfl rfl ?_) | (refine XG_box ?_; (refine XL_box rfl (fun _ => rfl) (fun _ => ?_); refine XL_nB (by repeat' (first | exact .nil | apply NL.cons)) ?_)) | (refine XG_build ?_; (refine XL_build tt_ok rfl rfl rfl rfl rfl rfl rfl ?_; refine XL_aggN (by repeat' (first | exact .nil | apply NL.cons)) ?_)) | (refine XG_alloc ?_; (refine XL_alloc tt_ok rfl rfl (fun _ => rfl) (fun b => ?_); refine XL_nB (by repeat' (first | exact .nil | apply NL.cons)) ?_)) | (refine XG_store ?_; (refine XL_storeW tt_ok 0 rfl rfl rfl rfl rfl rfl rfl ?_; refine XL_nK 0 rfl (by repeat' (first | exact .nil | apply NL.cons)) ?_)) | (refine XL_op tt_ok rfl rfl ?_; try (first | refine XL_int (wrap_i64 (by omega) (by omega)) ?_ | refine XL_dec_t (by omega) ?_ | refine XL_dec_f (by omega) ?_))) | (refine X_id ?_; first | refine X_seq ?_ | (refine X_regionN (by repeat' (first | exact .nil | apply NL.cons)) ?_) | refine X_skip ?_ | refine X_ret ?_ | refine X_cond_f rfl ?_) | (refine Y_id ?_; refine Y_then ?_))
    all_goals (try (exfalso; omega))
    exact Y_res2 rfl (.cell tt_ok 0 rfl rfl rfl rfl rfl) (.tmp rfl) (L' := []) (fun _ _ => trivial) ⟨rfl, rfl⟩
theorem betw_take (l : List Rg) (from_ to : Int) (i : Nat) (h : i < l.length) : betw (l.take (i + 1)) from_ to = betw (l.take i) from_ to ++ (partR from_ to (Cof.get l i)).toList := by
  unfold betw
  rw [take_snoc _ _ h, List.filterMap_append]
  cases hp : partR from_ to (Cof.get l i) <;> simp [hp]
theorem betw_length (l : List Rg) (from_ to : Int) : (betw l from_ to).length ≤ l.length := List.length_filterMap_le _ _
set_option maxRecDepth 100000 in
set_option maxHeartbeats 4000000 in
theorem between_spec (A : Option Addr) (m c : Nat) (l : List Rg) (from_ to : Int) (hm : m ≤ 1024) (hl : ∀ r ∈ l, r.Ok) (h1 : 0 ≤ from_) (h2 : from_ ≤ 2097152) (h3 : 0 ≤ to) (h4 : to ≤ 4194304) :
    Ctr Try.prog 90 [.slice A m c, .int .i64 from_, .int .i64 to] (fun h => rdS encRg h A m l) [] (fun v L => ∃ o : Ow Rg, o.xs = betw l from_ to ∧ o.m = o.xs.length ∧ v = o.v ∧ L = [o.own encRg]) := by
  refine Ctr.intro Try.func90 rfl rfl (by decide +kernel) fun F hpre => ?_
  have r1 : rdS encRg F.heap A m l := hpre
  have hlen := r1.1
  repeat' (first | (refine XL_id ?_; first | refine XL_nil ?_ | (refine XL_op tt_ok rfl rfl ?_)) | (refine X_id ?_; first | refine X_seq ?_ | (refine X_regionN (by repeat' (exact .nil)) ?_) | refine X_block ?_) | (refine Y_id ?_; refine Y_then ?_))
  refine X_loopD2 [0, 1, 2] (fun (i : Nat) (o : Ow Rg) => [(8, .int .i64 i), (7, o.v)]) (fun _ o => [o.own encRg]) (fun i o => i ≤ m ∧ o.xs = betw (l.take i) from_ to ∧ o.m = o.xs.length) (fun i _ => m - i) 0 ⟨none, 0, 0, []⟩ rfl ⟨Nat.zero_le _, rfl, rfl⟩ (by (repeat' (first | exact trivial | refine And.intro rfl ?_)); done) (fun _ h => fin_nil encRg _ h) ?_
  intro i o hi
  obtain ⟨hi, ho, hom⟩ := hi
  have hol := betw_length (l.take i) from_ to
  rw [← ho, List.length_take] at hol
  by_cases hlt : i < m
  · have hok := hl _ (get_mem (l := l) (i := (i : Int)) (by omega) (by omega))
    have hs := part_spec _ from_ to hok h1 h2 h3 h4
    have hb := betw_take l from_ to i (by omega)
    cases hp : partR from_ to (Cof.get l i) with
    | none =>
      rw [hp] at hs hb
      repeat' (first | (refine XL_id ?_; first | refine XL_nil ?_ | (refine XG_load ?_; refine XL_elW tt_ok rfl (by assumption) rfl (by omega) (by omega) rfl rfl rfl rfl ?_) | (refine XG_idx ?_; refine XL_idx tt_ok rfl rfl rfl rfl rfl (by assumption) (by omega) (by omega) rfl ?_) | (refine XG_call ?_; first | (refine XL_op tt_ok rfl rfl ?_) | refine XL_fn hs rfl rfl (fun _ _ _ => trivial) ?_) | (refine XG_alloc ?_; (refine XL_alloc tt_ok rfl rfl (fun _ => rfl) (fun b => ?_); refine XL_nB (by repeat' (first | exact .nil | apply NL.cons)) ?_)) | (refine XG_store ?_; (refine XL_storeW tt_ok 0 rfl rfl rfl rfl rfl rfl rfl ?_; refine XL_nK 0 rfl (by repeat' (first | exact .nil | apply NL.cons)) ?_)) | (refine XL_op tt_ok rfl rfl ?_; try (first | refine XL_int (wrap_i64 (by omega) (by omega)) ?_ | refine XL_dec_t (by omega) ?_))) | (refine X_id ?_; first | refine X_seq ?_ | (refine X_regionN (by repeat' (first | exact .nil | apply NL.cons)) ?_) | refine X_skip ?_ | refine X_block ?_ | refine X_cond_t rfl ?_ | refine X_cond_f rfl ?_) | (refine Y_id ?_; first | refine Y_then ?_ | refine Y_block_normal ?_))
      exact Y_again (i + 1, o) fun _ _ hf hs => ⟨⟨by show i + 1 ≤ m; omega, by rw [ho, hb]; simp, hom⟩, by show m - (i + 1) < m - i; omega, hf.sub (by (repeat' (first | exact trivial | refine And.intro rfl ?_)); done), hs.imp fun h hs => stars_only [1] rfl h hs⟩
    | some r =>
      rw [hp] at hs hb
      repeat' (first | (refine XL_id ?_; first | refine XL_nil ?_ | (refine XG_load ?_; first | refine XL_loadW tt_ok 0 rfl rfl rfl rfl rfl rfl ?_ | refine XL_elW tt_ok rfl (by assumption) rfl (by omega) (by omega) rfl rfl rfl rfl ?_) | (refine XG_idx ?_; refine XL_idx tt_ok rfl rfl rfl rfl rfl (by assumption) (by omega) (by omega) rfl ?_) | (refine XG_call ?_; first | (refine XL_op tt_ok rfl rfl ?_) | refine XL_fn hs rfl rfl (fun _ _ _ => trivial) ?_ | (refine XL_app1 tt_ok 2 0 r rfl rfl rfl rfl rfl rfl rfl rfl rfl rfl rfl (by show (_ : Nat) * 24 ≤ _; omega) (by omega) (fun _ _ => rfl) (fun A2 c2 => ?_))) | (refine XG_alloc ?_; (refine XL_alloc tt_ok rfl rfl (fun _ => rfl) (fun b => ?_); refine XL_nB (by repeat' (first | exact .nil | apply NL.cons)) ?_)) | (refine XG_lit ?_; (refine XL_lit tt_ok rfl rfl rfl rfl rfl rfl rfl rfl rfl (fun _ => rfl) (fun b => ?_); refine XL_nB (by repeat' (first | exact .nil | apply NL.cons)) ?_)) | (refine XG_store ?_; (refine XL_storeW tt_ok 0 rfl rfl rfl rfl rfl rfl rfl ?_; refine XL_nK 0 rfl (by repeat' (first | exact .nil | apply NL.cons)) ?_)) | (refine XL_op tt_ok rfl rfl ?_; try (first | refine XL_int (wrap_i64 (by omega) (by omega)) ?_ | refine XL_dec_t (by omega) ?_))) | (refine X_id ?_; first | refine X_seq ?_ | (refine X_regionN (by repeat' (first | exact .nil | apply NL.cons)) ?_) | refine X_skip ?_ | refine X_block ?_ | refine X_cond_t rfl ?_) | (refine Y_id ?_; first | refine Y_then ?_ | refine Y_block_normal ?_))
      exact Y_again (i + 1, ⟨A2, _, c2, _⟩) fun _ _ hf hs => ⟨⟨by show i + 1 ≤ m; omega, by rw [ho, hb]; rfl, by simp [hom]⟩, by show m - (i + 1) < m - i; omega, hf.sub (by (repeat' (first | exact trivial | refine And.intro rfl ?_)); done), hs.imp fun h hs => stars_only [2] rfl h hs⟩
  · rw [List.take_of_length_le (by omega)] at ho
    repeat' (first | (refine XL_id ?_; first | refine XL_nil ?_ | (refine XL_op tt_ok rfl rfl ?_; try (refine XL_dec_f (by omega) ?_))) | (refine X_id ?_; first | refine X_seq ?_ | (refine X_regionN (by repeat' (first | exact .nil | apply NL.cons)) ?_) | refine X_ret ?_ | refine X_exit ?_ | refine X_cond_f rfl ?_) | (refine Y_id ?_; first | refine Y_then ?_ | refine Y_then_exit ?_ | refine Y_block_hit ?_))
    exact Y_ret1 rfl rfl (stars_only [0] rfl) ⟨o, ho, hom, rfl, rfl⟩
set_option maxRecDepth 100000 in
set_option maxHeartbeats 4000000 in
theorem count_spec (A : Option Addr) (m c : Nat) (l : List Rg) (hm : m ≤ 1024) (hl : ∀ r ∈ l, r.Ok) :
    FnC Try.prog 83 [.slice A m c] (fun h => rdS encRg h A m l) (.int .i64 (l.foldl (fun s r => s + r.n) 0)) := by
  refine Ctr.intro Try.func83 rfl rfl (by decide +kernel) fun F hpre => ?_
  have r1 : rdS encRg F.heap A m l := hpre
  have hlen := r1.1
  repeat' (first | (refine XL_id ?_; first | refine XL_nil ?_ | (refine XL_op tt_ok rfl rfl ?_)) | (refine X_id ?_; first | refine X_seq ?_ | (refine X_regionN (by repeat' (exact .nil)) ?_) | refine X_block ?_) | (refine Y_id ?_; refine Y_then ?_))
  refine X_loopD2 [0] (fun (i : Nat) (p : Int) => [(4, .int .i64 i), (3, .int .i64 p)]) (fun _ _ => []) (fun i p => i ≤ m ∧ p = (l.take i).foldl (fun s r => s + r.n) 0) (fun i _ => m - i) 0 0 rfl ⟨Nat.zero_le _, rfl⟩ (by (repeat' (first | exact trivial | refine And.intro rfl ?_)); done) (fun _ h => h) ?_
  intro i p hi
  obtain ⟨hi, hp⟩ := hi
  have hs := sum_num (l.take i) 0 fun x hx => hl x (List.mem_of_mem_take hx)
  rw [← hp, List.length_take] at hs
  by_cases hlt : i < m
  · have okr : (Cof.get l i).Ok := hl _ (get_mem (by omega) (by omega))
    have q1 := okr.p; have q2 := okr.n; have q3 := okr.e
    repeat' (first | (refine XL_id ?_; first | refine XL_nil ?_ | (refine XG_load ?_; refine XL_elf tt_ok rfl (by assumption) rfl (by omega) (by omega) rfl rfl rfl rfl ?_) | (refine XG_idx ?_; refine XL_idx tt_ok rfl rfl rfl rfl rfl (by assumption) (by omega) (by omega) rfl ?_) | (refine XL_op tt_ok rfl rfl ?_; try (first | refine XL_int (wrap_i64 (by omega) (by omega)) ?_ | refine XL_dec_t (by omega) ?_))) | (refine X_id ?_; first | refine X_seq ?_ | (refine X_regionN (by repeat' (exact .nil)) ?_) | refine X_skip ?_ | refine X_block ?_ | refine X_cond_t rfl ?_) | (refine Y_id ?_; first | refine Y_then ?_ | refine Y_block_normal ?_))
    exact Y_again (i + 1, _) fun _ _ hf hs => ⟨⟨by show i + 1 ≤ m; omega, by rw [take_fold _ _ _ _ (by omega), ← hp]⟩, by show m - (i + 1) < m - i; omega, hf.sub (by (repeat' (first | exact trivial | refine And.intro rfl ?_)); done), trivial_parts hs⟩
  · rw [List.take_of_length_le (by omega)] at hp
    repeat' (first | (refine XL_id ?_; first | refine XL_nil ?_ | (refine XL_op tt_ok rfl rfl ?_; try (refine XL_dec_f (by omega) ?_))) | (refine X_id ?_; first | refine X_seq ?_ | (refine X_regionN (by repeat' (exact .nil)) ?_) | refine X_ret ?_ | refine X_exit ?_ | refine X_cond_f rfl ?_) | (refine Y_id ?_; first | refine Y_then ?_ | refine Y_then_exit ?_ | refine Y_block_hit ?_))
    exact Y_fn1 rfl rfl (by rw [hp])
end Go.Proofs.Ytalkcemelegohaa.Vm
set_option linter.unusedVariables false
set_option maxRecDepth 100000
namespace Go.Proofs.Ytalkcemelegohaa.Vm
open Go.RowKit Go.Cof

set_option maxRecDepth 100000 in
set_option maxHeartbeats 4000000 in
theorem joined_spec (A : Option Addr) (m c : Nat) (l : List Rg) (hm : m ≤ 4096) (hl : ∀ r ∈ l, r.Ok) :
    Ctr Try.prog 97 [.slice A m c] (fun h => rdS encRg h A m l) [] (LRes encRg (fewP (l.foldl addR [])).1 (.int .i64 (fewP (l.foldl addR [])).2)) := by
  refine Ctr.intro Try.func97 rfl rfl (by decide +kernel) fun F hpre => ?_
  have r1 : rdS encRg F.heap A m l := hpre
  have hlen := r1.1
  repeat' (first | (refine XL_id ?_; first | refine XL_nil ?_ | (refine XL_op tt_ok rfl rfl ?_)) | (refine X_id ?_; first | refine X_seq ?_ | (refine X_regionN (by repeat' (exact .nil)) ?_) | refine X_block ?_) | (refine Y_id ?_; refine Y_then ?_))
  refine X_loopD4 [0] (fun (i : Nat) (A1 : Option Addr) (c1 : Nat) (xs : List Rg) => [(5, .int .i64 i), (4, .slice A1 xs.length c1)]) (fun _ A1 c1 xs => [own encRg A1 xs.length c1 xs]) (fun i _ _ xs => i ≤ m ∧ xs = (l.take i).foldl addR []) (fun i _ _ _ => m - i) 0 none 0 [] rfl ⟨Nat.zero_le _, rfl⟩ (by (repeat' (first | exact trivial | refine And.intro rfl ?_)); done) (fun _ h => fin_nil encRg _ h) ?_
  rintro i A1 c1 xs ⟨hi, ho⟩
  have hol := fold_length (l.take i) []
  rw [← ho, List.length_take] at hol
  have hol : xs.length ≤ m := by simp only [List.length_nil] at hol; omega
  have okx : ∀ x ∈ xs, x.Ok := by rw [ho]; exact fold_ok (fun _ h => by cases h) fun x hx => hl x (List.mem_of_mem_take hx)
  by_cases hlt : i < m
  · have okr := hl _ (get_mem (l := l) (i := (i : Int)) (by omega) (by omega))
    have q1 := okr.p; have q2 := okr.n; have q3 := okr.e
    have hw : (l.take (i + 1)).foldl addR [] = addR xs (Cof.get l i) := by rw [take_fold _ _ _ _ (by omega), ← ho]
    by_cases h0 : xs.length = 0
    · have hj : ¬ joins xs (Cof.get l i) := fun h => by have := h.1; omega
      have hw2 : addR xs (Cof.get l i) = xs ++ [Cof.get l i] := if_neg hj
      repeat' (first | (refine XL_id ?_; first | refine XL_nil ?_ | (refine XG_load ?_; refine XL_elW tt_ok rfl (by assumption) rfl (by omega) (by omega) rfl rfl rfl rfl ?_) | (refine XG_idx ?_; refine XL_idx tt_ok rfl rfl rfl rfl rfl (by assumption) (by omega) (by omega) rfl ?_) | (refine XG_call ?_; first | (refine XL_op tt_ok rfl rfl ?_) | (refine XL_app1 tt_ok 1 0 (Cof.get l i) rfl rfl rfl rfl rfl rfl rfl rfl rfl rfl rfl (by show (_ : Nat) * 24 ≤ _; omega) (by omega) (fun _ _ => rfl) (fun A2 c2 => ?_))) | (refine XG_lit ?_; (refine XL_lit tt_ok rfl rfl rfl rfl rfl rfl rfl rfl rfl (fun _ => rfl) (fun b => ?_); refine XL_nB (by repeat' (first | exact .nil | apply NL.cons)) ?_)) | (refine XL_op tt_ok rfl rfl ?_; try (first | refine XL_int (wrap_i64 (by omega) (by omega)) ?_ | refine XL_dec_t (by omega) ?_))) | (refine XD_id ?_; first | (refine XD_thaw thaw ?_; refine XD_nil ?_) | refine XD_no rfl rfl rfl rfl rfl rfl ?_ | (refine XD_id ?_; ((refine XD_u rfl rfl ?_; refine XD_s rfl rfl rfl (XV_op tt_ok rfl) rfl ?_)); try (refine XD_dec_f (by omega) ?_))) | (refine X_id ?_; first | (refine X_drawS (id := 6) [0, 1, 2, 3, 4, 5, 6, 7, 8, 9, 10, 11, 12, 13, 14, 15, 16, 17, 18, 19, 20, 21, 22, 23, 24, 25, 26, 27, 28, 29, 30, 31, 32, 33, 34, 35, 36] (fun _ => .s) 8 (by (repeat apply Split.blk); apply Split.frz; repeat' (exact Split.nil)) mixed (by decide +kernel) ?_; intro G hFG hM thaw; show XD _ _ _ _ _ _ [0, 1, 2, 3, 4, 5, 6, 7, 8, 9, 10, 11, 12, 13, 14, 15, 16, 17, 18, 19, 20, 21, 22, 23, 24, 25, 26, 27, 28, 29, 30, 31, 32, 33, 34, 35, 36] _ _ _) | refine X_seq ?_ | (refine X_regionN (by repeat' (first | exact .nil | apply NL.cons)) ?_) | refine X_skip ?_ | refine X_block ?_ | refine X_cond_t rfl ?_ | refine X_cond_f rfl ?_) | (refine Y_id ?_; first | refine Y_then ?_ | refine Y_block_normal ?_))
      exact Y_again (i + 1, A2, c2, xs ++ [Cof.get l i]) fun _ _ hf hs => ⟨⟨by show i + 1 ≤ m; omega, by rw [hw, hw2]⟩, by show m - (i + 1) < m - i; omega, by rw [app_len]; exact hf.sub (by (repeat' (first | exact trivial | refine And.intro rfl ?_)); done), by rw [app_len]; exact hs.imp fun h hs => stars_only [1] rfl h hs⟩
    · have okl := okx _ (lastR_mem (l := xs) (by omega))
      have k1 : 1 ≤ (Cof.get xs ((xs.length : Int) - 1)).p := okl.p
      have k2 : 1 ≤ (Cof.get xs ((xs.length : Int) - 1)).n := okl.n
      have k3 : (Cof.get xs ((xs.length : Int) - 1)).p + (Cof.get xs ((xs.length : Int) - 1)).n ≤ 1048576 := okl.e
      refine X_fact 0 rfl (fun _ o => own_some o (by show 0 < xs.length; omega)) fun hq => ?_
      obtain ⟨q, rfl⟩ := hq
      by_cases hj : joins xs (Cof.get l i)
      · have e1 : (Cof.get xs ((xs.length : Int) - 1)).p + (Cof.get xs ((xs.length : Int) - 1)).n = (Cof.get l i).p := hj.2.1
        have e2 : (Cof.get xs ((xs.length : Int) - 1)).m = (Cof.get l i).m := hj.2.2
        have hw2 : addR xs (Cof.get l i) = xs.set (xs.length - 1) ⟨(lastR xs).p, (lastR xs).n + (Cof.get l i).n, (lastR xs).m⟩ := if_pos hj
        repeat' (first | (refine XL_id ?_; first | refine XL_nil ?_ | (refine XG_store ?_; refine XL_put (i := xs.length - 1) (f := 1) (x' := (⟨(lastR xs).p, (lastR xs).n + (Cof.get l i).n, (lastR xs).m⟩ : Rg)) tt_ok 0 rfl rfl (el_at (by omega)) rfl rfl rfl rfl (by omega) rfl rfl (put_rg (i := xs.length - 1) (by omega)) ?_) | (refine XL_op tt_ok rfl rfl ?_; try (first | refine XL_int (wrap_i64 (by omega) (by omega)) ?_ | refine XL_dec_t (by omega) ?_))) | (refine XD_id ?_; first | (refine XD_thaw thaw ?_; refine XD_nil ?_) | refine XD_nil ?_ | (refine XD_id ?_; (first | (refine XD_uL rfl ?_; first | refine XD_s rfl rfl rfl (XV_elf tt_ok rfl (rdS.le (by assumption) hFG) rfl (by omega) (by omega) rfl rfl rfl) rfl ?_ | refine XD_s rfl rfl rfl (XV_elf tt_ok rfl (rd_at 0 rfl hM) rfl (by omega) (by omega) rfl rfl rfl) rfl ?_) | (refine XD_uI rfl ?_; first | refine XD_s rfl rfl rfl (XV_idx tt_ok rfl rfl rfl rfl rfl (rdS.le (by assumption) hFG) (by omega) (by omega)) rfl ?_ | refine XD_s rfl rfl rfl (XV_idx tt_ok rfl rfl rfl rfl rfl (rd_at 0 rfl hM) (by omega) (by omega)) rfl ?_) | (refine XD_gL rfl ?_; first | refine XD_sy rfl rfl rfl rfl rfl (XV_el tt_ok rfl (rdS.le (by assumption) hFG) rfl (by omega) (by omega) rfl rfl rfl) rfl ?_ | refine XD_sy rfl rfl rfl rfl rfl (XV_elf tt_ok rfl (rdS.le (by assumption) hFG) rfl (by omega) (by omega) rfl rfl rfl) rfl ?_ | refine XD_sy rfl rfl rfl rfl rfl (XV_el tt_ok rfl (rd_at 0 rfl hM) rfl (by omega) (by omega) rfl rfl rfl) rfl ?_ | refine XD_sy rfl rfl rfl rfl rfl (XV_elf tt_ok rfl (rd_at 0 rfl hM) rfl (by omega) (by omega) rfl rfl rfl) rfl ?_) | (refine XD_gI rfl ?_; first | refine XD_sy rfl rfl rfl rfl rfl (XV_idx tt_ok rfl rfl rfl rfl rfl (rdS.le (by assumption) hFG) (by omega) (by omega)) rfl ?_ | refine XD_sy rfl rfl rfl rfl rfl (XV_idx tt_ok rfl rfl rfl rfl rfl (rd_at 0 rfl hM) (by omega) (by omega)) rfl ?_) | (refine XD_u rfl rfl ?_; refine XD_s rfl rfl rfl (XV_op tt_ok rfl) rfl ?_) | (refine XD_g rfl rfl ?_; refine XD_sy rfl rfl rfl rfl rfl (XV_op tt_ok rfl) rfl ?_)); try (first | refine XD_int (wrap_i64 (by omega) (by omega)) ?_ | refine XD_dec_t (by omega) ?_)) | (refine XD_thaw thaw ?_; refine XD_l rfl rfl ?_)) | (refine X_id ?_; first | (refine X_drawS (id := 6) [0, 1, 2, 3, 4, 5, 6, 7, 8, 9, 10, 11, 12, 13, 14, 15, 16, 17, 18, 19, 20, 21, 22, 23, 24, 25, 26, 27, 28, 29, 30, 31, 32, 33, 34, 35, 36] (fun _ => .s) 8 (by (repeat apply Split.blk); apply Split.frz; repeat' (exact Split.nil)) mixed (by decide +kernel) ?_; intro G hFG hM thaw; show XD _ _ _ _ _ _ [0, 1, 2, 3, 4, 5, 6, 7, 8, 9, 10, 11, 12, 13, 14, 15, 16, 17, 18, 19, 20, 21, 22, 23, 24, 25, 26, 27, 28, 29, 30, 31, 32, 33, 34, 35, 36] _ _ _) | (refine X_drawS (id := 7) [0, 1, 2, 3, 4, 5, 6, 7, 8, 9, 10, 11, 12, 13, 14] (fun | 14 => .l | _ => .s) 8 (by (repeat apply Split.blk); apply Split.frz; repeat' (exact Split.nil)) mixed (by decide +kernel) ?_; intro G hFG hM thaw; show XD _ _ _ _ _ _ [0, 1, 2, 3, 4, 5, 6, 7, 8, 9, 10, 11, 12, 13, 14] _ _ _) | refine X_seq ?_ | (refine X_regionN (by repeat' (first | exact .nil | apply NL.cons)) ?_) | refine X_skip ?_ | refine X_block ?_ | refine X_cond_t rfl ?_) | (refine Y_id ?_; first | refine Y_then ?_ | refine Y_block_normal ?_ | refine Y_l ?_))
        all_goals first
          | exact Y_again (i + 1, some ⟨q, 0, none⟩, c1, xs.set (xs.length - 1) ⟨(lastR xs).p, (lastR xs).n + (Cof.get l i).n, (lastR xs).m⟩) fun _ _ hf hs => ⟨⟨by show i + 1 ≤ m; omega, by rw [hw, hw2]⟩, by show m - (i + 1) < m - i; omega, by rw [List.length_set]; exact hf.sub (by (repeat' (first | exact trivial | refine And.intro rfl ?_)); done), by rw [List.length_set]; exact hs.imp fun h hs => stars_only [0] rfl h hs⟩
          | skip
        
      · have hw2 : addR xs (Cof.get l i) = xs ++ [Cof.get l i] := if_neg hj
        repeat' (first | (refine XL_id ?_; first | refine XL_nil ?_ | (refine XG_load ?_; refine XL_elW tt_ok rfl (by assumption) rfl (by omega) (by omega) rfl rfl rfl rfl ?_) | (refine XG_idx ?_; refine XL_idx tt_ok rfl rfl rfl rfl rfl (by assumption) (by omega) (by omega) rfl ?_) | (refine XG_call ?_; first | (refine XL_op tt_ok rfl rfl ?_) | (refine XL_app1 tt_ok 1 0 (Cof.get l i) rfl rfl rfl rfl rfl rfl rfl rfl rfl rfl rfl (by show (_ : Nat) * 24 ≤ _; omega) (by omega) (fun _ _ => rfl) (fun A2 c2 => ?_))) | (refine XG_lit ?_; (refine XL_lit tt_ok rfl rfl rfl rfl rfl rfl rfl rfl rfl (fun _ => rfl) (fun b => ?_); refine XL_nB (by repeat' (first | exact .nil | apply NL.cons)) ?_)) | (refine XL_op tt_ok rfl rfl ?_; try (first | refine XL_int (wrap_i64 (by omega) (by omega)) ?_ | refine XL_dec_t (by omega) ?_))) | (refine XD_id ?_; first | (refine XD_thaw thaw ?_; refine XD_nil ?_) | refine XD_no rfl rfl rfl rfl rfl rfl ?_ | (refine XD_id ?_; (first | (refine XD_uL rfl ?_; first | refine XD_s rfl rfl rfl (XV_elf tt_ok rfl (rdS.le (by assumption) hFG) rfl (by omega) (by omega) rfl rfl rfl) rfl ?_ | refine XD_s rfl rfl rfl (XV_elf tt_ok rfl (rd_at 0 rfl hM) rfl (by omega) (by omega) rfl rfl rfl) rfl ?_) | (refine XD_uI rfl ?_; first | refine XD_s rfl rfl rfl (XV_idx tt_ok rfl rfl rfl rfl rfl (rdS.le (by assumption) hFG) (by omega) (by omega)) rfl ?_ | refine XD_s rfl rfl rfl (XV_idx tt_ok rfl rfl rfl rfl rfl (rd_at 0 rfl hM) (by omega) (by omega)) rfl ?_) | (refine XD_gL rfl ?_; first | refine XD_sy rfl rfl rfl rfl rfl (XV_el tt_ok rfl (rdS.le (by assumption) hFG) rfl (by omega) (by omega) rfl rfl rfl) rfl ?_ | refine XD_sy rfl rfl rfl rfl rfl (XV_elf tt_ok rfl (rdS.le (by assumption) hFG) rfl (by omega) (by omega) rfl rfl rfl) rfl ?_ | refine XD_sy rfl rfl rfl rfl rfl (XV_el tt_ok rfl (rd_at 0 rfl hM) rfl (by omega) (by omega) rfl rfl rfl) rfl ?_ | refine XD_sy rfl rfl rfl rfl rfl (XV_elf tt_ok rfl (rd_at 0 rfl hM) rfl (by omega) (by omega) rfl rfl rfl) rfl ?_) | (refine XD_gI rfl ?_; first | refine XD_sy rfl rfl rfl rfl rfl (XV_idx tt_ok rfl rfl rfl rfl rfl (rdS.le (by assumption) hFG) (by omega) (by omega)) rfl ?_ | refine XD_sy rfl rfl rfl rfl rfl (XV_idx tt_ok rfl rfl rfl rfl rfl (rd_at 0 rfl hM) (by omega) (by omega)) rfl ?_) | (refine XD_u rfl rfl ?_; refine XD_s rfl rfl rfl (XV_op tt_ok rfl) rfl ?_) | (refine XD_g rfl rfl ?_; refine XD_sy rfl rfl rfl rfl rfl (XV_op tt_ok rfl) rfl ?_)); try (first | refine XD_int (wrap_i64 (by omega) (by omega)) ?_ | refine XD_dec_t (by omega) ?_ | refine XD_dec (fun _ => ?_) (fun _ => ?_))) | (refine XD_thaw thaw ?_; refine XD_l rfl rfl ?_)) | (refine X_id ?_; first | (refine X_drawS (id := 6) [0, 1, 2, 3, 4, 5, 6, 7, 8, 9, 10, 11, 12, 13, 14, 15, 16, 17, 18, 19, 20, 21, 22, 23, 24, 25, 26, 27, 28, 29, 30, 31, 32, 33, 34, 35, 36] (fun _ => .s) 8 (by (repeat apply Split.blk); apply Split.frz; repeat' (exact Split.nil)) mixed (by decide +kernel) ?_; intro G hFG hM thaw; show XD _ _ _ _ _ _ [0, 1, 2, 3, 4, 5, 6, 7, 8, 9, 10, 11, 12, 13, 14, 15, 16, 17, 18, 19, 20, 21, 22, 23, 24, 25, 26, 27, 28, 29, 30, 31, 32, 33, 34, 35, 36] _ _ _) | (refine X_drawS (id := 7) [0, 1, 2, 3, 4, 5, 6, 7, 8, 9, 10, 11, 12, 13, 14] (fun | 14 => .l | _ => .s) 8 (by (repeat apply Split.blk); apply Split.frz; repeat' (exact Split.nil)) mixed (by decide +kernel) ?_; intro G hFG hM thaw; show XD _ _ _ _ _ _ [0, 1, 2, 3, 4, 5, 6, 7, 8, 9, 10, 11, 12, 13, 14] _ _ _) | refine X_seq ?_ | (refine X_regionN (by repeat' (first | exact .nil | apply NL.cons)) ?_) | refine X_skip ?_ | refine X_block ?_ | refine X_cond_t rfl ?_ | refine X_cond_f rfl ?_) | (refine Y_id ?_; first | refine Y_then ?_ | refine Y_block_normal ?_))
        all_goals first
          | exact Y_again (i + 1, A2, c2, xs ++ [Cof.get l i]) fun _ _ hf hs => ⟨⟨by show i + 1 ≤ m; omega, by rw [hw, hw2]⟩, by show m - (i + 1) < m - i; omega, by rw [app_len]; exact hf.sub (by (repeat' (first | exact trivial | refine And.intro rfl ?_)); done), by rw [app_len]; exact hs.imp fun h hs => stars_only [1] rfl h hs⟩
          | exact absurd ⟨by omega, by assumption, by assumption⟩ hj
          | skip
        
  · rw [List.take_of_length_le (by omega)] at ho
    rcases Nat.lt_or_ge 1024 xs.length with hfw | hfw
    · rw [fewP_yes (by rw [← ho]; exact hfw)]
      repeat' (first | (refine XL_id ?_; first | refine XL_nil ?_ | (refine XL_op tt_ok rfl rfl ?_; try (first | refine XL_dec_t (by omega) ?_ | refine XL_dec_f (by omega) ?_))) | (refine X_id ?_; first | refine X_seq ?_ | (refine X_regionN (by repeat' (first | exact .nil | apply NL.cons)) ?_) | refine X_ret ?_ | refine X_exit ?_ | refine X_cond_t rfl ?_ | refine X_cond_f rfl ?_) | (refine Y_id ?_; first | refine Y_then ?_ | refine Y_then_ret ?_ | refine Y_then_exit ?_ | refine Y_block_hit ?_))
      all_goals (try (exfalso; omega))
      exact Y_ret2 rfl rfl rfl (fin_nil encRg) (LRes.none _)
    · rw [fewP_no (by rw [← ho]; exact hfw)]
      repeat' (first | (refine XL_id ?_; first | refine XL_nil ?_ | (refine XL_op tt_ok rfl rfl ?_; try (refine XL_dec_f (by omega) ?_))) | (refine X_id ?_; first | refine X_seq ?_ | (refine X_regionN (by repeat' (first | exact .nil | apply NL.cons)) ?_) | refine X_skip ?_ | refine X_ret ?_ | refine X_exit ?_ | refine X_cond_f rfl ?_) | (refine Y_id ?_; first | refine Y_then ?_ | refine Y_then_exit ?_ | refine Y_block_hit ?_))
      all_goals (try (exfalso; omega))
      exact Y_ret2 rfl rfl rfl (stars_only [0] rfl) ⟨⟨A1, _, c1, xs⟩, ho, rfl, rfl, rfl⟩
end Go.Proofs.Ytalkcemelegohaa.Vm
set_option linter.unusedVariables false
set_option maxRecDepth 100000
namespace Go.Proofs.Ytalkcemelegohaa.Vm
open Go.RowKit Go.Cof

theorem partR_ok {from_ to : Int} {r x : Rg} (h : r.Ok) (h1 : partR from_ to r = some x) : x.Ok := by
  have q1 := h.p; have q2 := h.n; have q3 := h.e; have ee : r.end = r.p + r.n := rfl
  by_cases hc : (if from_ > r.p then from_ else r.p) ≥ (if to < r.end then to else r.end)
  · rw [part_none hc] at h1; cases h1
  · rw [part_some hc] at h1
    cases h1
    exact ⟨by show 1 ≤ if from_ > r.p then from_ else r.p; omega, by show 1 ≤ (if to < r.end then to else r.end) - (if from_ > r.p then from_ else r.p); omega, by show (if from_ > r.p then from_ else r.p) + ((if to < r.end then to else r.end) - (if from_ > r.p then from_ else r.p)) ≤ _; omega, h.m⟩
theorem betw_ok {l : List Rg} {from_ to : Int} (hl : ∀ r ∈ l, r.Ok) : ∀ x ∈ betw l from_ to, x.Ok := fun x hx => by
  obtain ⟨r, hr, h⟩ := List.mem_filterMap.1 hx
  exact partR_ok (hl r hr) h
def withP (l : List Rg) (p n : Int) (ins : List Rg) : List Rg × Int := fewP ((betw l 0 p ++ ins ++ betw l (p + n) 1048576).foldl addR [])
set_option maxRecDepth 100000 in
set_option maxHeartbeats 4000000 in
theorem with_spec (A B : Option Addr) (m c m' c' : Nat) (l ins : List Rg) (p n : Int) (hm : m ≤ 1024) (hm' : m' ≤ 1024) (hl : ∀ r ∈ l, r.Ok) (hi : ∀ r ∈ ins, r.Ok) (h1 : 1 ≤ p) (h2 : 1 ≤ n) (h3 : p + n ≤ 1048576) :
    Ctr Try.prog 91 [.slice A m c, spV p n, .slice B m' c'] (fun h => rdS encRg h A m l ∧ rdS encRg h B m' ins) [] (LRes encRg (withP l p n ins).1 (.int .i64 (withP l p n ins).2)) := by
  refine Ctr.intro Try.func91 rfl rfl (by decide +kernel) fun F hpre => ?_
  have r1 : rdS encRg F.heap A m l := hpre.1
  have r2 : rdS encRg F.heap B m' ins := hpre.2
  have hlen := r1.1
  have hlen2 := r2.1
  have b1 := betw_length l 0 p
  have b2 := betw_length l (p + n) 1048576
  have okx : ∀ r ∈ betw l 0 p ++ ins ++ betw l (p + n) 1048576, r.Ok := fun r hr => by
    rcases List.mem_append.1 hr with h | h
    · rcases List.mem_append.1 h with h | h
      · exact betw_ok hl r h
      · exact hi r h
    · exact betw_ok hl r h
  repeat' (first | (refine XL_id ?_; first | refine XL_nil ?_ | (refine XG_load ?_; first | refine XL_load tt_ok 0 rfl rfl rfl rfl rfl rfl ?_ | refine XL_load tt_ok 1 rfl rfl rfl rfl rfl rfl ?_) | (refine XG_box ?_; (refine XL_box rfl (fun _ => rfl) (fun _ => ?_); refine XL_nB (by repeat' (first | exact .nil | apply NL.cons)) ?_)) | (refine XG_call ?_; first | (refine XL_callK [] (between_spec A m c l 0 p hm hl (by omega) (by omega) (by omega) (by omega)) rfl rfl (fun _ => rfl) (fun g hg hL => r1.le hg) (fun u L hv => ?_); obtain ⟨o, ho1, ho2, rfl, rfl⟩ := hv) | (refine XL_callK [] (between_spec A m c l (p + n) 1048576 hm hl (by omega) (by omega) (by omega) (by omega)) rfl rfl (fun _ => rfl) (fun g hg hL => r1.le hg) (fun u L hv => ?_); obtain ⟨o2, ho3, ho4, rfl, rfl⟩ := hv) | (refine XL_appF tt_ok 0 rfl rfl r2 rfl rfl rfl rfl rfl rfl rfl (by show (_ : Nat) * 24 ≤ _; rw [ho2, ho1]; omega) (by rw [ho2, ho1]; omega) (fun _ _ => rfl) (fun A1 c1 => ?_)) | (refine XL_appO tt_ok 1 0 rfl rfl rfl rfl rfl rfl rfl rfl rfl rfl (by show (_ : Nat) * 24 ≤ _; rw [ho2, ho1, ho4, ho3]; omega) (by rw [ho2, ho1, ho4, ho3]; omega) (fun _ _ => rfl) (fun A3 c3 => ?_)) | (refine XL_callK [] (joined_spec A3 _ c3 (o.xs ++ ins ++ o2.xs) (by rw [ho2, ho1, ho4, ho3]; omega) (by rw [ho1, ho3]; exact okx)) rfl rfl (fun _ => rfl) (fun g hg hL => rd_at 1 rfl hL) (fun u L hv => ?_); obtain ⟨o3, ho5, ho6, rfl, rfl⟩ := hv)) | (refine XL_op tt_ok rfl rfl ?_; try (refine XL_int (wrap_i64 (by omega) (by omega)) ?_))) | (refine X_id ?_; first | refine X_seq ?_ | (refine X_regionN (by repeat' (first | exact .nil | apply NL.cons)) ?_) | refine X_ret ?_) | (refine Y_id ?_; refine Y_then ?_))
  exact Y_ret2 rfl rfl rfl (stars_only [0] rfl) ⟨o3, by rw [ho5, ho1, ho3]; rfl, ho6, by rw [ho1, ho3]; rfl, rfl⟩
def rputP (l : List Rg) (r : Rg) : List Rg × Int :=
  if checkE l ≠ 0 then ([], checkE l) else if pgs r.p r.n = false ∨ prm r.m = false then ([], 2) else
  if 0 < (betw l r.p r.end).length then ([], 171) else withP l r.p r.n [r]
def rcutP (l : List Rg) (p n : Int) : List Rg × Int :=
  if checkE l ≠ 0 then ([], checkE l) else if pgs p n = false then ([], 2) else withP l p n []
def rprotP (l : List Rg) (p n m : Int) : List Rg × Int :=
  if checkE l ≠ 0 then ([], checkE l) else if pgs p n = false ∨ prm m = false then ([], 2) else
  if ¬ (betw l p (p + n)).foldl (fun s r => s + r.n) 0 = n then ([], 170) else withP l p n [⟨p, n, m⟩]
theorem rputP_1 {l : List Rg} {r : Rg} (h : ¬ checkE l = 0) : rputP l r = ([], checkE l) := by unfold rputP; rw [if_pos h]
theorem rputP_2 {l : List Rg} {r : Rg} (h : ¬ ¬ checkE l = 0) (h1 : pgs r.p r.n = false) : rputP l r = ([], 2) := by unfold rputP; rw [if_neg h, if_pos (.inl h1)]
theorem rputP_2' {l : List Rg} {r : Rg} (h : ¬ ¬ checkE l = 0) (h1 : prm r.m = false) : rputP l r = ([], 2) := by unfold rputP; rw [if_neg h, if_pos (.inr h1)]
theorem rputP_3 {l : List Rg} {r : Rg} (h : ¬ ¬ checkE l = 0) (h1 : pgs r.p r.n = true) (h2 : prm r.m = true) (h3 : 0 < (betw l r.p r.end).length) : rputP l r = ([], 171) := by unfold rputP; rw [if_neg h, if_neg (by simp [h1, h2]), if_pos h3]
theorem rputP_4 {l : List Rg} {r : Rg} (h : ¬ ¬ checkE l = 0) (h1 : pgs r.p r.n = true) (h2 : prm r.m = true) (h3 : ¬ 0 < (betw l r.p r.end).length) : rputP l r = withP l r.p r.n [r] := by unfold rputP; rw [if_neg h, if_neg (by simp [h1, h2]), if_neg h3]
theorem rcutP_1 {l : List Rg} {p n : Int} (h : ¬ checkE l = 0) : rcutP l p n = ([], checkE l) := by unfold rcutP; rw [if_pos h]
theorem rcutP_2 {l : List Rg} {p n : Int} (h : ¬ ¬ checkE l = 0) (h1 : pgs p n = false) : rcutP l p n = ([], 2) := by unfold rcutP; rw [if_neg h, if_pos h1]
theorem rcutP_4 {l : List Rg} {p n : Int} (h : ¬ ¬ checkE l = 0) (h1 : pgs p n = true) : rcutP l p n = withP l p n [] := by unfold rcutP; rw [if_neg h, if_neg (by simp [h1])]
theorem rprotP_1 {l : List Rg} {p n m : Int} (h : ¬ checkE l = 0) : rprotP l p n m = ([], checkE l) := by unfold rprotP; rw [if_pos h]
theorem rprotP_2 {l : List Rg} {p n m : Int} (h : ¬ ¬ checkE l = 0) (h1 : pgs p n = false) : rprotP l p n m = ([], 2) := by unfold rprotP; rw [if_neg h, if_pos (.inl h1)]
theorem rprotP_2' {l : List Rg} {p n m : Int} (h : ¬ ¬ checkE l = 0) (h1 : prm m = false) : rprotP l p n m = ([], 2) := by unfold rprotP; rw [if_neg h, if_pos (.inr h1)]
theorem rprotP_3 {l : List Rg} {p n m : Int} (h : ¬ ¬ checkE l = 0) (h1 : pgs p n = true) (h2 : prm m = true) (h3 : ¬ (betw l p (p + n)).foldl (fun s r => s + r.n) 0 = n) : rprotP l p n m = ([], 170) := by unfold rprotP; rw [if_neg h, if_neg (by simp [h1, h2]), if_pos h3]
theorem rprotP_4 {l : List Rg} {p n m : Int} (h : ¬ ¬ checkE l = 0) (h1 : pgs p n = true) (h2 : prm m = true) (h3 : ¬ ¬ (betw l p (p + n)).foldl (fun s r => s + r.n) 0 = n) : rprotP l p n m = withP l p n [⟨p, n, m⟩] := by unfold rprotP; rw [if_neg h, if_neg (by simp [h1, h2]), if_neg h3]
set_option maxRecDepth 100000 in
set_option maxHeartbeats 4000000 in
theorem rput_spec (A : Option Addr) (m c : Nat) (l : List Rg) (r : Rg) (hm : m ≤ 9223372036854775807) (hl : ∀ r ∈ l, r.In) (hr : r.In) :
    Ctr Try.prog 77 [.slice A m c, rgV r] (fun h => rdS encRg h A m l) [] (LRes encRg (rputP l r).1 (.int .i64 (rputP l r).2)) := by
  refine Ctr.intro Try.func77 rfl rfl (by decide +kernel) fun F hpre => ?_
  have r1 : rdS encRg F.heap A m l := hpre
  have hlen := r1.1
  have q1 := hr.p; have q2 := hr.n; have q3 := hr.m; have ee : r.end = r.p + r.n := rfl
  have gd : checkE l = 0 → m ≤ 1024 ∧ ∀ r ∈ l, r.Ok := fun h => by have := checkE_good h; exact ⟨by omega, this.2⟩
  have wr : pgs r.p r.n = true → IntKind.i64.wrap (r.p + r.n) = r.end := fun h => by have := pgs_rng h; exact wrap_i64 (by omega) (by omega)
  repeat' (first | (refine XL_id ?_; first | refine XL_nil ?_ | refine XL_guard_yes rfl rfl rfl ?_ | refine XL_guard_no rfl rfl rfl rfl rfl ?_ | refine XL_int (wr (by assumption)) ?_ | (refine XG_load ?_; first | refine XL_loadW tt_ok 1 rfl rfl rfl rfl rfl rfl ?_ | refine XL_load tt_ok 0 rfl rfl rfl rfl rfl rfl ?_ | refine XL_load tt_ok 1 rfl rfl rfl rfl rfl rfl ?_) | (refine XG_box ?_; (refine XL_box rfl (fun _ => rfl) (fun _ => ?_); refine XL_nB (by repeat' (first | exact .nil | apply NL.cons)) ?_)) | (refine XG_build ?_; (refine XL_build tt_ok rfl rfl rfl rfl rfl rfl rfl ?_; refine XL_aggN (by repeat' (first | exact .nil | apply NL.cons)) ?_)) | (refine XG_call ?_; first | (refine XL_op tt_ok rfl rfl ?_) | (refine XL_callK [] (between_spec A m c l r.p r.end (gd (by omega)).1 (gd (by omega)).2 (by have := pgs_rng (p := r.p) (n := r.n) (by assumption); omega) (by have := pgs_rng (p := r.p) (n := r.n) (by assumption); omega) (by have := pgs_rng (p := r.p) (n := r.n) (by assumption); omega) (by have := pgs_rng (p := r.p) (n := r.n) (by assumption); omega)) rfl rfl (fun _ => rfl) (fun g hg hL => r1.le (Hp.le.trans (by exact Hp.le_refl _) hg)) (fun u L hv => ?_); obtain ⟨o, ho1, ho2, rfl, rfl⟩ := hv; have ho7 := ho2; rw [ho1] at ho7) | (refine XL_callK [] (with_spec A _ m c 1 1 l [r] _ _ (gd (by omega)).1 (by omega) (gd (by omega)).2 (one_ok (pgs_ok (by assumption) (by assumption))) (pgs_rng (by assumption)).1 (by have := pgs_rng (p := r.p) (n := r.n) (by assumption); omega) (by have := pgs_rng (p := r.p) (n := r.n) (by assumption); omega)) rfl rfl (fun _ => rfl) (fun g hg hL => ⟨r1.le (Hp.le.trans (by exact Hp.le_refl _) hg), blk_rdS (blk_at 0 rfl hL) rfl rfl⟩) (fun u L hv => ?_); obtain ⟨o, ho1, ho2, rfl, rfl⟩ := hv) | refine XL_fn (rcheck_spec _ _ _ _ (by omega) (by assumption)) rfl rfl (fun g hg _ => rdS.le (by assumption) hg) ?_ | (refine XL_fn (rpages_spec _ _ (by omega) (by omega)) rfl rfl (fun _ _ _ => trivial) ?_; refine XL_bool (fun _ => ?_) (fun _ => ?_)) | (refine XL_fn (rperm_spec _) rfl rfl (fun _ _ _ => trivial) ?_; refine XL_bool (fun _ => ?_) (fun _ => ?_))) | (refine XG_lit ?_; (refine XL_lit tt_ok rfl rfl rfl rfl rfl rfl rfl rfl rfl (fun _ => rfl) (fun b => ?_); refine XL_nB (by repeat' (first | exact .nil | apply NL.cons)) ?_)) | (refine XL_op tt_ok rfl rfl ?_; try (refine XL_dec (fun _ => ?_) (fun _ => ?_)))) | (refine X_id ?_; first | refine X_seq ?_ | (refine X_regionN (by repeat' (first | exact .nil | apply NL.cons)) ?_) | refine X_skip ?_ | refine X_ret ?_ | refine X_cond_t rfl ?_ | refine X_cond_f rfl ?_) | (refine Y_id ?_; first | refine Y_then ?_ | refine Y_then_ret ?_))
  all_goals first
    | exact Y_ret2 rfl rfl rfl (fin_nil encRg) (LRes.at (rputP_1 (by assumption)) (LRes.none _))
    | exact Y_ret2 rfl rfl rfl (fin_nil encRg) (LRes.at (rputP_2 (by assumption) (by assumption)) (LRes.none _))
    | exact Y_ret2 rfl rfl rfl (fin_nil encRg) (LRes.at (rputP_2' (by assumption) (by assumption)) (LRes.none _))
    | exact Y_ret2 rfl rfl rfl (fin_nil encRg) (LRes.at (rputP_3 (by assumption) (by assumption) (by assumption) (by omega)) (LRes.none _))
    | exact Y_ret2 rfl rfl rfl (stars_fin1 0 rfl) (LRes.at (rputP_4 (by assumption) (by assumption) (by assumption) (by omega)) ⟨o, ho1, ho2, rfl, rfl⟩)
    | skip
  
theorem sum_betw_num {l : List Rg} {p q : Int} (h : l.length ≤ 1024) (hl : ∀ r ∈ l, r.Ok) : (betw l p q).length ≤ 1024 ∧ ∀ r ∈ betw l p q, r.Ok := ⟨Nat.le_trans (betw_length _ _ _) h, betw_ok hl⟩
set_option maxRecDepth 100000 in
set_option maxHeartbeats 4000000 in
theorem rcut_spec (A : Option Addr) (m c : Nat) (l : List Rg) (p n : Int) (hm : m ≤ 9223372036854775807) (hl : ∀ r ∈ l, r.In) (q1 : -9223372036854775808 ≤ p ∧ p ≤ 9223372036854775807) :
    Ctr Try.prog 79 [.slice A m c, spV p n] (fun h => rdS encRg h A m l) [] (LRes encRg (rcutP l p n).1 (.int .i64 (rcutP l p n).2)) := by
  refine Ctr.intro Try.func79 rfl rfl (by decide +kernel) fun F hpre => ?_
  have r1 : rdS encRg F.heap A m l := hpre
  have hlen := r1.1
  have gd : checkE l = 0 → m ≤ 1024 ∧ ∀ r ∈ l, r.Ok := fun h => by have := checkE_good h; exact ⟨by omega, this.2⟩
  repeat' (first | (refine XL_id ?_; first | refine XL_nil ?_ | (refine XG_load ?_; first | refine XL_loadW tt_ok 0 rfl rfl rfl rfl rfl rfl ?_ | refine XL_load tt_ok 0 rfl rfl rfl rfl rfl rfl ?_) | (refine XG_box ?_; (refine XL_box rfl (fun _ => rfl) (fun _ => ?_); refine XL_nB (by repeat' (first | exact .nil | apply NL.cons)) ?_)) | (refine XG_call ?_; first | (refine XL_callK [] (with_spec A _ m c 0 0 l [] _ _ (gd (by omega)).1 (by omega) (gd (by omega)).2 (fun _ h => by cases h) (pgs_rng (by assumption)).1 (by have := pgs_rng (p := p) (n := n) (by assumption); omega) (by have := pgs_rng (p := p) (n := n) (by assumption); omega)) rfl rfl (fun _ => rfl) (fun g hg hL => ⟨r1.le hg, rdS.nil _ _ _⟩) (fun u L hv => ?_); obtain ⟨o, ho1, ho2, rfl, rfl⟩ := hv) | refine XL_fn (rcheck_spec _ _ _ _ (by omega) (by assumption)) rfl rfl (fun g hg _ => rdS.le (by assumption) hg) ?_ | (refine XL_fn (rpages_spec _ _ (by omega) (by omega)) rfl rfl (fun _ _ _ => trivial) ?_; refine XL_bool (fun _ => ?_) (fun _ => ?_))) | (refine XL_op tt_ok rfl rfl ?_; try (refine XL_dec (fun _ => ?_) (fun _ => ?_)))) | (refine X_id ?_; first | refine X_seq ?_ | (refine X_regionN (by repeat' (first | exact .nil | apply NL.cons)) ?_) | refine X_skip ?_ | refine X_ret ?_ | refine X_cond_t rfl ?_ | refine X_cond_f rfl ?_) | (refine Y_id ?_; first | refine Y_then ?_ | refine Y_then_ret ?_))
  all_goals first
    | exact Y_ret2 rfl rfl rfl (fin_nil encRg) (LRes.at (rcutP_1 (by assumption)) (LRes.none _))
    | exact Y_ret2 rfl rfl rfl (fin_nil encRg) (LRes.at (rcutP_2 (by assumption) (by assumption)) (LRes.none _))
    | exact Y_ret2 rfl rfl rfl (stars_fin1 0 rfl) (LRes.at (rcutP_4 (by assumption) (by assumption)) ⟨o, ho1, ho2, rfl, rfl⟩)
    | skip
  
set_option maxRecDepth 100000 in
set_option maxHeartbeats 4000000 in
theorem rprot_spec (A : Option Addr) (m c : Nat) (l : List Rg) (p n q : Int) (hm : m ≤ 9223372036854775807) (hl : ∀ r ∈ l, r.In) (q1 : -9223372036854775808 ≤ p ∧ p ≤ 9223372036854775807) :
    Ctr Try.prog 80 [.slice A m c, spV p n, .int .u8 q] (fun h => rdS encRg h A m l) [] (LRes encRg (rprotP l p n q).1 (.int .i64 (rprotP l p n q).2)) := by
  refine Ctr.intro Try.func80 rfl rfl (by decide +kernel) fun F hpre => ?_
  have r1 : rdS encRg F.heap A m l := hpre
  have hlen := r1.1
  have gd : checkE l = 0 → m ≤ 1024 ∧ ∀ r ∈ l, r.Ok := fun h => by have := checkE_good h; exact ⟨by omega, this.2⟩
  have wr : pgs p n = true → IntKind.i64.wrap (p + n) = p + n := fun h => by have := pgs_rng h; exact wrap_i64 (by omega) (by omega)
  repeat' (first | (refine XL_id ?_; first | refine XL_nil ?_ | refine XL_guard_yes rfl rfl rfl ?_ | refine XL_guard_no rfl rfl rfl rfl rfl ?_ | (refine XG_load ?_; first | refine XL_loadW tt_ok 1 rfl rfl rfl rfl rfl rfl ?_ | refine XL_load tt_ok 0 rfl rfl rfl rfl rfl rfl ?_ | refine XL_load tt_ok 1 rfl rfl rfl rfl rfl rfl ?_) | (refine XG_box ?_; (refine XL_box rfl (fun _ => rfl) (fun _ => ?_); refine XL_nB (by repeat' (first | exact .nil | apply NL.cons)) ?_)) | (refine XG_build ?_; (refine XL_build tt_ok rfl rfl rfl rfl rfl rfl rfl ?_; refine XL_aggN (by repeat' (first | exact .nil | apply NL.cons)) ?_)) | (refine XG_call ?_; first | (refine XL_callK [] (between_spec A m c l p (p + n) (gd (by omega)).1 (gd (by omega)).2 (by have := pgs_rng (p := p) (n := n) (by assumption); omega) (by have := pgs_rng (p := p) (n := n) (by assumption); omega) (by have := pgs_rng (p := p) (n := n) (by assumption); omega) (by have := pgs_rng (p := p) (n := n) (by assumption); omega)) rfl rfl (fun _ => rfl) (fun g hg hL => r1.le (Hp.le.trans (by exact hFG) hg)) (fun u L hv => ?_); obtain ⟨o, ho1, ho2, rfl, rfl⟩ := hv; have ho7 := ho2; rw [ho1] at ho7; have hb := sum_betw_num (p := p) (q := p + n) (by have := (gd (by omega)).1; omega : l.length ≤ 1024) (gd (by omega)).2) | (refine XL_fn (count_spec _ _ _ (betw l p (p + n)) (by rw [ho7]; exact hb.1) hb.2) rfl rfl (fun g hg hL => by rw [← ho1]; exact rd_at 0 rfl hL) ?_) | (refine XL_callK [] (with_spec A _ m c 1 1 l [⟨p, n, q⟩] _ _ (gd (by omega)).1 (by omega) (gd (by omega)).2 (one_ok (pgs_ok (by assumption) (by assumption))) (pgs_rng (by assumption)).1 (by have := pgs_rng (p := p) (n := n) (by assumption); omega) (by have := pgs_rng (p := p) (n := n) (by assumption); omega)) rfl rfl (fun _ => rfl) (fun g hg hL => ⟨r1.le (Hp.le.trans (by exact Hp.le_refl _) hg), blk_rdS (blk_at 0 rfl hL) rfl rfl⟩) (fun u L hv => ?_); obtain ⟨o, ho1, ho2, rfl, rfl⟩ := hv) | refine XL_fn (rcheck_spec _ _ _ _ (by omega) (by assumption)) rfl rfl (fun g hg _ => rdS.le (by assumption) hg) ?_ | (refine XL_fn (rpages_spec _ _ (by omega) (by omega)) rfl rfl (fun _ _ _ => trivial) ?_; refine XL_bool (fun _ => ?_) (fun _ => ?_)) | (refine XL_fn (rperm_spec _) rfl rfl (fun _ _ _ => trivial) ?_; refine XL_bool (fun _ => ?_) (fun _ => ?_))) | (refine XG_lit ?_; (refine XL_lit tt_ok rfl rfl rfl rfl rfl rfl rfl rfl rfl (fun _ => rfl) (fun b => ?_); refine XL_nB (by repeat' (first | exact .nil | apply NL.cons)) ?_)) | (refine XL_op tt_ok rfl rfl ?_; try (refine XL_dec (fun _ => ?_) (fun _ => ?_)))) | (refine XD_id ?_; first | refine XD_int (wr (by assumption)) ?_ | (refine XD_thaw thaw ?_; refine XD_nil ?_) | (refine XD_id ?_; (first | (refine XD_uL rfl ?_; refine XD_s rfl rfl rfl (XV_load tt_ok rfl (blk_at 0 rfl hM) rfl rfl rfl) rfl ?_) | (refine XD_u rfl rfl ?_; refine XD_s rfl rfl rfl (XV_op tt_ok rfl) rfl ?_)); try (refine XD_dec (fun _ => ?_) (fun _ => ?_))) | refine XD_m rfl rfl ?_) | (refine X_id ?_; first | (refine X_drawS (id := 6) [0, 1, 2, 3, 4, 5, 6, 7, 10, 11, 8, 9, 12] (fun | 8 => .m | 9 => .m | _ => .s) 8 (by repeat' (first | exact Split.nil | apply Split.blk)) mixed (by decide +kernel) ?_; intro G hFG hM thaw; show XD _ _ _ _ _ _ [0, 1, 2, 3, 4, 5, 6, 7, 10, 11, 8, 9, 12] _ _ _) | refine X_seq ?_ | (refine X_regionN (by repeat' (first | exact .nil | apply NL.cons)) ?_) | refine X_skip ?_ | refine X_ret ?_ | refine X_cond_t rfl ?_ | refine X_cond_f rfl ?_) | (refine Y_id ?_; first | refine Y_then ?_ | refine Y_then_ret ?_ | refine Y_m ?_))
  all_goals first
    | exact Y_ret2 rfl rfl rfl (fin_nil encRg) (LRes.at (rprotP_1 (by assumption)) (LRes.none _))
    | exact Y_ret2 rfl rfl rfl (fin_nil encRg) (LRes.at (rprotP_2 (by assumption) (by assumption)) (LRes.none _))
    | exact Y_ret2 rfl rfl rfl (fin_nil encRg) (LRes.at (rprotP_2' (by assumption) (by assumption)) (LRes.none _))
    | exact Y_ret2 rfl rfl rfl (fin_nil encRg) (LRes.at (rprotP_3 (by assumption) (by assumption) (by assumption) (by assumption)) (LRes.none _))
    | exact Y_ret2 rfl rfl rfl (stars_fin1 0 rfl) (LRes.at (rprotP_4 (by assumption) (by assumption) (by assumption) (by assumption)) ⟨o, ho1, ho2, rfl, rfl⟩)
    | skip
  
end Go.Proofs.Ytalkcemelegohaa.Vm
