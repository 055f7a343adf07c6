/- Walks of the reference's functions: perm, pages, Check, part, between, count. -/
import Derived.Test.YtpkffgbcebjhaaaWj
set_option linter.unusedVariables false
namespace Go.Proofs.Ytpkffgbcebjhaaa
open Go.RowKit Go.Cof

theorem within_spec (x a b : Int) : FnC Try.prog 48 [.int .i64 x, .int .i64 a, .int .i64 b] (fun _ => True) (.bool (decide (a ≤ x ∧ x ≤ b))) := by
  refine Ctr.intro Try.func48 rfl rfl (by decide +kernel) fun F hpre => ?_
  repeat' (first | (refine XL_id ?_; first | refine XL_nil ?_ | refine XL_guard_yes rfl rfl rfl ?_ | refine XL_guard_no rfl rfl rfl rfl rfl ?_ | (refine XL_op tt_ok rfl rfl ?_; try (refine XL_dec (fun _ => ?_) (fun _ => ?_)))) | (refine X_id ?_; first | refine X_seq ?_ | refine X_region ?_ | refine X_ret ?_) | (refine Y_id ?_; refine Y_then ?_))
  all_goals (refine Y_fn1 rfl rfl ?_)
  all_goals (first | exact bool_t (by omega) | exact bool_f (by omega))
theorem rperm_spec (m : Int) : FnC Try.prog 41 [.int .u8 m] (fun _ => True) (.bool (prm m)) := by
  refine Ctr.intro Try.func41 rfl rfl (by decide +kernel) fun F hpre => ?_
  repeat' (first | (refine XL_id ?_; first | refine XL_nil ?_ | refine XL_guard_yes rfl rfl rfl ?_ | refine XL_guard_no rfl rfl rfl rfl rfl ?_ | (refine XL_op tt_ok rfl rfl ?_; try (refine XL_dec (fun _ => ?_) (fun _ => ?_)))) | (refine X_id ?_; first | refine X_seq ?_ | refine X_region ?_ | refine X_ret ?_) | (refine Y_id ?_; refine Y_then ?_))
  all_goals (refine Y_fn1 rfl rfl ?_)
  all_goals (first | exact bool_t (by omega) | exact bool_f (by omega))
theorem rpages_spec (p n : Int) (h1 : -9223372036854775808 ≤ p) (h2 : p ≤ 9223372036854775807) : FnC Try.prog 40 [.int .i64 p, .int .i64 n] (fun _ => True) (.bool (pgs p n)) := by
  refine Ctr.intro Try.func40 rfl rfl (by decide +kernel) fun F hpre => ?_
  repeat' (first | (refine XL_id ?_; first | refine XL_nil ?_ | refine XL_guard_yes rfl rfl rfl ?_ | refine XL_guard_no rfl rfl rfl rfl rfl ?_ | (refine XG_call ?_; (refine XL_fn (within_spec _ _ _) rfl rfl (fun _ _ _ => trivial) ?_; refine XL_dec (fun _ => ?_) (fun _ => ?_))) | (refine XL_op tt_ok rfl rfl ?_; try (refine XL_int (wrap_i64 (by omega) (by omega)) ?_))) | (refine X_id ?_; first | refine X_seq ?_ | refine X_region ?_ | refine X_ret ?_) | (refine Y_id ?_; refine Y_then ?_))
  all_goals (refine Y_fn1 rfl rfl ?_)
  all_goals (first | exact bool_t (by omega) | exact bool_f (by omega))
set_option maxRecDepth 100000 in
set_option maxHeartbeats 4000000 in
theorem rcheck_spec (A : Option Addr) (m c : Nat) (l : List Rg) (hm : m ≤ 9223372036854775807) (hl : ∀ r ∈ l, r.In) : FnC Try.prog 13 [.slice A m c] (fun h => rdS encRg h A m l) (.int .i64 (checkE l)) := by
  refine Ctr.intro Try.func13 rfl rfl (by decide +kernel) fun F hpre => ?_
  have r1 : rdS encRg F.heap A m l := hpre
  have hlen := r1.1
  repeat' (first | (refine XL_id ?_; first | refine XL_nil ?_ | (refine XG_call ?_; (refine XL_op tt_ok rfl rfl ?_)) | (refine XL_op tt_ok rfl rfl ?_; try (refine XL_dec (fun _ => ?_) (fun _ => ?_)))) | (refine X_id ?_; first | refine X_seq ?_ | refine X_region ?_ | refine X_skip ?_ | refine X_ret ?_ | refine X_block ?_ | refine X_cond_t rfl ?_ | refine X_cond_f rfl ?_) | (refine Y_id ?_; first | refine Y_then ?_ | refine Y_then_ret ?_))
  · exact Y_fn1 rfl rfl (by rw [checkE_few (by omega)])
  refine X_loopD [0] (fun (i : Nat) => [(3, .int .i64 i)]) (fun _ => []) (fun i => i ≤ m ∧ ∀ j : Nat, j < i → okAt l j = true) (fun i => m - i) 0 rfl ⟨Nat.zero_le _, fun j hj => by omega⟩ (by (repeat' (first | exact trivial | refine And.intro rfl ?_)); done) (fun _ h => h) ?_
  intro i hi
  obtain ⟨hi, hx⟩ := hi
  by_cases hlt : i < m
  · have hin := hl _ (get_mem (l := l) (i := (i : Int)) (by omega) (by omega))
    have k1 := hin.p; have k2 := hin.n; have k3 := hin.m
    have kp : 0 < i → (Cof.get l ((i : Int) - 1)).Ok := fun h0 => by
      have := okAt_rg (hx (i - 1) (by omega))
      rwa [show ((i - 1 : Nat) : Int) = (i : Int) - 1 from by omega] at this
    have kq : 0 < i → (Cof.get l ((i : Int) - 1)).p + (Cof.get l ((i : Int) - 1)).n ≤ 1048576 ∧ 1 ≤ (Cof.get l ((i : Int) - 1)).p ∧ 1 ≤ (Cof.get l ((i : Int) - 1)).n := fun h0 => ⟨(kp h0).e, (kp h0).p, (kp h0).n⟩
    have ee : (Cof.get l ((i : Int) - 1)).end = (Cof.get l ((i : Int) - 1)).p + (Cof.get l ((i : Int) - 1)).n := rfl
    repeat' (first | (refine XL_id ?_; first | refine XL_nil ?_ | refine XL_guard_yes rfl rfl rfl ?_ | (refine XG_call ?_; first | (refine XL_op tt_ok rfl rfl ?_) | (refine XL_fn (rperm_spec _) rfl rfl (fun _ _ _ => trivial) ?_; refine XL_bool (fun _ => ?_) (fun _ => ?_)) | (refine XL_fn (rpages_spec _ _ (by omega) (by omega)) rfl rfl (fun _ _ _ => trivial) ?_; refine XL_bool (fun _ => ?_) (fun _ => ?_))) | (refine XL_op tt_ok rfl rfl ?_; try (first | refine XL_int (wrap_i64 (by omega) (by omega)) ?_ | refine XL_dec_t (by omega) ?_ | refine XL_dec (fun _ => ?_) (fun _ => ?_)))) | (refine XD_id ?_; first | (refine XD_thaw thaw ?_; refine XD_nil ?_) | refine XD_no rfl rfl rfl rfl rfl rfl ?_ | refine XD_nou rfl rfl rfl rfl rfl ?_ | (refine XD_id ?_; (first | (refine XD_uL rfl ?_; first | refine XD_s rfl rfl rfl (XV_el tt_ok rfl (rdS.le (by assumption) hFG) rfl (by omega) (by omega) rfl rfl rfl) rfl ?_ | refine XD_s rfl rfl rfl (XV_elf tt_ok rfl (rdS.le (by assumption) hFG) rfl (by omega) (by omega) rfl rfl rfl) rfl ?_) | (refine XD_uI rfl ?_; refine XD_s rfl rfl rfl (XV_idx tt_ok rfl rfl rfl rfl rfl (rdS.le (by assumption) hFG) (by omega) (by omega)) rfl ?_) | (refine XD_gL rfl ?_; first | refine XD_sy rfl rfl rfl rfl rfl (XV_el tt_ok rfl (rdS.le (by assumption) hFG) rfl (by omega) (by omega) rfl rfl rfl) rfl ?_ | refine XD_sy rfl rfl rfl rfl rfl (XV_elf tt_ok rfl (rdS.le (by assumption) hFG) rfl (by omega) (by omega) rfl rfl rfl) rfl ?_) | (refine XD_gI rfl ?_; refine XD_sy rfl rfl rfl rfl rfl (XV_idx tt_ok rfl rfl rfl rfl rfl (rdS.le (by assumption) hFG) (by omega) (by omega)) rfl ?_) | (refine XD_u rfl rfl ?_; refine XD_s rfl rfl rfl (XV_op tt_ok rfl) rfl ?_) | (refine XD_g rfl rfl ?_; refine XD_sy rfl rfl rfl rfl rfl (XV_op tt_ok rfl) rfl ?_)); try (first | refine XD_int (wrap_i64 (by omega) (by omega)) ?_ | refine XD_dec (fun _ => ?_) (fun _ => ?_))) | refine XD_m rfl rfl ?_) | (refine X_id ?_; first | (refine X_drawS (id := 6) [0, 1, 2, 3, 4, 5, 6, 7, 8, 9, 10, 11, 12, 13, 14, 15, 16, 17, 18, 19, 20] (fun | 10 => .m | 18 => .m | _ => .s) 8 (by repeat' (exact Split.nil)) mixed (by decide +kernel) ?_; intro G hFG hM thaw; show XD _ _ _ _ _ _ [0, 1, 2, 3, 4, 5, 6, 7, 8, 9, 10, 11, 12, 13, 14, 15, 16, 17, 18, 19, 20] _ _ _) | (refine X_drawS (id := 9) [0, 1, 2, 3, 4, 5, 6, 7, 8, 9, 10, 11, 12, 13] (fun _ => .s) 8 (by repeat' (exact Split.nil)) mixed (by decide +kernel) ?_; intro G hFG hM thaw; show XD _ _ _ _ _ _ [0, 1, 2, 3, 4, 5, 6, 7, 8, 9, 10, 11, 12, 13] _ _ _) | (refine X_drawS (id := 10) [0, 1, 2, 3, 4, 5, 6, 7, 8, 9, 10, 11, 12, 13, 14, 15, 16, 17, 18, 19, 20, 21, 22, 23, 24, 25, 26, 27, 28, 29] (fun _ => .s) 8 (by repeat' (exact Split.nil)) mixed (by decide +kernel) ?_; intro G hFG hM thaw; show XD _ _ _ _ _ _ [0, 1, 2, 3, 4, 5, 6, 7, 8, 9, 10, 11, 12, 13, 14, 15, 16, 17, 18, 19, 20, 21, 22, 23, 24, 25, 26, 27, 28, 29] _ _ _) | refine X_seq ?_ | refine X_region ?_ | refine X_skip ?_ | refine X_ret ?_ | refine X_block ?_ | refine X_cond_t rfl ?_ | refine X_cond_f rfl ?_) | (refine Y_id ?_; first | refine Y_then ?_ | refine Y_then_ret ?_ | refine Y_block_normal ?_ | refine Y_block_ret ?_ | refine Y_m ?_))
    all_goals first
      | exact Y_fn1 rfl rfl (by rw [checkE_bad (i := i) (by omega) (by omega) (okAt_bad (by omega) (by omega))])
      | exact Y_fn1 rfl rfl (by rw [checkE_bad (i := i) (by omega) (by omega) (by simp [okAt, *]; done)])
      | exact Y_again (i + 1) fun _ _ hf hs => ⟨⟨by omega, upto_succ hx (okAt_good (by assumption) (by assumption) (by omega))⟩, by omega, hf.sub (by (repeat' (first | exact trivial | refine And.intro rfl ?_)); done), hs.imp fun _ _ => trivial⟩
      | skip
    
  · repeat' (first | (refine XL_id ?_; first | refine XL_nil ?_ | (refine XG_call ?_; (refine XL_op tt_ok rfl rfl ?_)) | (refine XL_op tt_ok rfl rfl ?_; try (refine XL_dec_f (by omega) ?_))) | (refine X_id ?_; first | refine X_seq ?_ | refine X_region ?_ | refine X_ret ?_ | refine X_exit ?_ | refine X_cond_f rfl ?_) | (refine Y_id ?_; first | refine Y_then ?_ | refine Y_then_exit ?_ | refine Y_block_hit ?_))
    exact Y_fn1 rfl rfl (by rw [checkE_ok (by omega) (fun j hj => hx j (by omega))])
/-- What of a region lies from a page up to another one. -/
def partR (from_ to : Int) (r : Rg) : Option Rg :=
  if (if from_ > r.p then from_ else r.p) ≥ (if to < r.end then to else r.end) then none else some ⟨if from_ > r.p then from_ else r.p, (if to < r.end then to else r.end) - (if from_ > r.p then from_ else r.p), r.m⟩
def betw (l : List Rg) (from_ to : Int) : List Rg := l.filterMap (partR from_ to)
def partV_ (x : Option Rg) : Value := match x with | none => .tuple #[rgV ⟨0, 0, 0⟩, .bool false] | some r => .tuple #[rgV r, .bool true]
theorem part_none {from_ to : Int} {r : Rg} (h : (if from_ > r.p then from_ else r.p) ≥ (if to < r.end then to else r.end)) : partR from_ to r = none := if_pos h
theorem part_some {from_ to : Int} {r : Rg} (h : ¬ (if from_ > r.p then from_ else r.p) ≥ (if to < r.end then to else r.end)) : partR from_ to r = some ⟨if from_ > r.p then from_ else r.p, (if to < r.end then to else r.end) - (if from_ > r.p then from_ else r.p), r.m⟩ := if_neg h
theorem part_spec (r : Rg) (from_ to : Int) (h : r.Ok) (h1 : 0 ≤ from_) (h2 : from_ ≤ 2097152) (h3 : 0 ≤ to) (h4 : to ≤ 4194304) : FnC Try.prog 50 [rgV r, .int .i64 from_, .int .i64 to] (fun _ => True) (partV_ (partR from_ to r)) := by
  have q1 := h.p; have q2 := h.n; have q3 := h.e; have ee : r.end = r.p + r.n := rfl
  by_cases hc : (if from_ > r.p then from_ else r.p) ≥ (if to < r.end then to else r.end)
  · rw [part_none hc]
    rw [ee] at hc
    refine Ctr.intro Try.func50 rfl rfl (by decide +kernel) fun F hpre => ?_
    repeat' (first | (refine XL_id ?_; first | refine XL_nil ?_ | (refine XG_load ?_; refine XL_load tt_ok 1 rfl rfl rfl rfl rfl rfl ?_) | (refine XG_box ?_; refine XL_box rfl (fun _ => rfl) (fun _ => ?_)) | (refine XG_build ?_; refine XL_build tt_ok rfl rfl rfl rfl rfl rfl rfl ?_) | (refine XG_alloc ?_; refine XL_alloc tt_ok rfl rfl (fun _ => rfl) (fun b => ?_)) | (refine XG_store ?_; refine XL_storeW tt_ok 0 rfl rfl rfl rfl rfl rfl rfl ?_) | (refine XL_op tt_ok rfl rfl ?_; try (first | refine XL_int (wrap_i64 (by omega) (by omega)) ?_ | refine XL_dec_t (by omega) ?_))) | (refine X_id ?_; first | refine X_seq ?_ | refine X_region ?_ | refine X_ret ?_ | refine X_cond_t rfl ?_) | (refine Y_id ?_; first | refine Y_then ?_ | refine Y_then_ret ?_))
    all_goals (try (exfalso; omega))
    exact Y_res2 rfl (.cell tt_ok 0 rfl rfl rfl rfl rfl) (.tmp rfl) (L' := []) (fun _ _ => trivial) ⟨rfl, rfl⟩
  · rw [part_some hc]
    rw [ee] at hc ⊢
    refine Ctr.intro Try.func50 rfl rfl (by decide +kernel) fun F hpre => ?_
    repeat' (first | (refine XL_id ?_; first | refine XL_nil ?_ | (refine XG_load ?_; refine XL_load tt_ok 1 rfl rfl rfl rfl rfl rfl ?_) | (refine XG_box ?_; refine XL_box rfl (fun _ => rfl) (fun _ => ?_)) | (refine XG_build ?_; refine XL_build tt_ok rfl rfl rfl rfl rfl rfl rfl ?_) | (refine XG_alloc ?_; refine XL_alloc tt_ok rfl rfl (fun _ => rfl) (fun b => ?_)) | (refine XG_store ?_; refine XL_storeW tt_ok 0 rfl rfl rfl rfl rfl rfl rfl ?_) | (refine XL_op tt_ok rfl rfl ?_; try (first | refine XL_int (wrap_i64 (by omega) (by omega)) ?_ | refine XL_dec_t (by omega) ?_ | refine XL_dec_f (by omega) ?_))) | (refine X_id ?_; first | refine X_seq ?_ | refine X_region ?_ | refine X_skip ?_ | refine X_ret ?_ | refine X_cond_f rfl ?_) | (refine Y_id ?_; refine Y_then ?_))
    all_goals (try (exfalso; omega))
    exact Y_res2 rfl (.cell tt_ok 0 rfl rfl rfl rfl rfl) (.tmp rfl) (L' := []) (fun _ _ => trivial) ⟨rfl, rfl⟩
theorem betw_take (l : List Rg) (from_ to : Int) (i : Nat) (h : i < l.length) : betw (l.take (i + 1)) from_ to = betw (l.take i) from_ to ++ (partR from_ to (Cof.get l i)).toList := by
  unfold betw
  rw [take_snoc _ _ h, List.filterMap_append]
  cases hp : partR from_ to (Cof.get l i) <;> simp [hp]
theorem betw_length (l : List Rg) (from_ to : Int) : (betw l from_ to).length ≤ l.length := List.length_filterMap_le _ _
set_option maxRecDepth 100000 in
set_option maxHeartbeats 4000000 in
theorem between_spec (A : Option Addr) (m c : Nat) (l : List Rg) (from_ to : Int) (hm : m ≤ 1024) (hl : ∀ r ∈ l, r.Ok) (h1 : 0 ≤ from_) (h2 : from_ ≤ 2097152) (h3 : 0 ≤ to) (h4 : to ≤ 4194304) :
    Ctr Try.prog 44 [.slice A m c, .int .i64 from_, .int .i64 to] (fun h => rdS encRg h A m l) [] (fun v L => ∃ o : Ow Rg, o.xs = betw l from_ to ∧ o.m = o.xs.length ∧ v = o.v ∧ L = [o.own encRg]) := by
  refine Ctr.intro Try.func44 rfl rfl (by decide +kernel) fun F hpre => ?_
  have r1 : rdS encRg F.heap A m l := hpre
  have hlen := r1.1
  repeat' (first | (refine XL_id ?_; first | refine XL_nil ?_ | (refine XL_op tt_ok rfl rfl ?_)) | (refine X_id ?_; first | refine X_seq ?_ | refine X_region ?_ | refine X_block ?_) | (refine Y_id ?_; refine Y_then ?_))
  refine X_loopD2 [0, 1, 2] (fun (i : Nat) (o : Ow Rg) => [(8, .int .i64 i), (7, o.v)]) (fun _ o => [o.own encRg]) (fun i o => i ≤ m ∧ o.xs = betw (l.take i) from_ to ∧ o.m = o.xs.length) (fun i _ => m - i) 0 ⟨none, 0, 0, []⟩ rfl ⟨Nat.zero_le _, rfl, rfl⟩ (by (repeat' (first | exact trivial | refine And.intro rfl ?_)); done) (fun _ h => fin_nil encRg _ h) ?_
  intro i o hi
  obtain ⟨hi, ho, hom⟩ := hi
  have hol := betw_length (l.take i) from_ to
  rw [← ho, List.length_take] at hol
  by_cases hlt : i < m
  · have hok := hl _ (get_mem (l := l) (i := (i : Int)) (by omega) (by omega))
    have hs := part_spec _ from_ to hok h1 h2 h3 h4
    have hb := betw_take l from_ to i (by omega)
    cases hp : partR from_ to (Cof.get l i) with
    | none =>
      rw [hp] at hs hb
      repeat' (first | (refine XL_id ?_; first | refine XL_nil ?_ | (refine XG_load ?_; refine XL_elW tt_ok rfl (by assumption) rfl (by omega) (by omega) rfl rfl rfl rfl ?_) | (refine XG_idx ?_; refine XL_idx tt_ok rfl rfl rfl rfl rfl (by assumption) (by omega) (by omega) rfl ?_) | (refine XG_call ?_; first | (refine XL_op tt_ok rfl rfl ?_) | refine XL_fn hs rfl rfl (fun _ _ _ => trivial) ?_) | (refine XG_alloc ?_; refine XL_alloc tt_ok rfl rfl (fun _ => rfl) (fun b => ?_)) | (refine XG_store ?_; refine XL_storeW tt_ok 0 rfl rfl rfl rfl rfl rfl rfl ?_) | (refine XL_op tt_ok rfl rfl ?_; try (first | refine XL_int (wrap_i64 (by omega) (by omega)) ?_ | refine XL_dec_t (by omega) ?_))) | (refine X_id ?_; first | refine X_seq ?_ | refine X_region ?_ | refine X_skip ?_ | refine X_block ?_ | refine X_cond_t rfl ?_ | refine X_cond_f rfl ?_) | (refine Y_id ?_; first | refine Y_then ?_ | refine Y_block_normal ?_))
      exact Y_again (i + 1, o) fun _ _ hf hs => ⟨⟨by show i + 1 ≤ m; omega, by rw [ho, hb]; simp, hom⟩, by show m - (i + 1) < m - i; omega, hf.sub (by (repeat' (first | exact trivial | refine And.intro rfl ?_)); done), hs.imp fun h hs => stars_only [1] rfl h hs⟩
    | some r =>
      rw [hp] at hs hb
      repeat' (first | (refine XL_id ?_; first | refine XL_nil ?_ | (refine XG_load ?_; first | refine XL_loadW tt_ok 0 rfl rfl rfl rfl rfl rfl ?_ | refine XL_elW tt_ok rfl (by assumption) rfl (by omega) (by omega) rfl rfl rfl rfl ?_) | (refine XG_idx ?_; refine XL_idx tt_ok rfl rfl rfl rfl rfl (by assumption) (by omega) (by omega) rfl ?_) | (refine XG_call ?_; first | (refine XL_op tt_ok rfl rfl ?_) | refine XL_fn hs rfl rfl (fun _ _ _ => trivial) ?_ | (refine XL_app1 tt_ok 2 0 r rfl rfl rfl rfl rfl rfl rfl rfl rfl rfl rfl (by show (_ : Nat) * 24 ≤ _; omega) (by omega) (fun _ _ => rfl) (fun A2 c2 => ?_))) | (refine XG_alloc ?_; refine XL_alloc tt_ok rfl rfl (fun _ => rfl) (fun b => ?_)) | (refine XG_lit ?_; refine XL_lit tt_ok rfl rfl rfl rfl rfl rfl rfl rfl rfl (fun _ => rfl) (fun b => ?_)) | (refine XG_store ?_; refine XL_storeW tt_ok 0 rfl rfl rfl rfl rfl rfl rfl ?_) | (refine XL_op tt_ok rfl rfl ?_; try (first | refine XL_int (wrap_i64 (by omega) (by omega)) ?_ | refine XL_dec_t (by omega) ?_))) | (refine X_id ?_; first | refine X_seq ?_ | refine X_region ?_ | refine X_skip ?_ | refine X_block ?_ | refine X_cond_t rfl ?_) | (refine Y_id ?_; first | refine Y_then ?_ | refine Y_block_normal ?_))
      exact Y_again (i + 1, ⟨A2, _, c2, _⟩) fun _ _ hf hs => ⟨⟨by show i + 1 ≤ m; omega, by rw [ho, hb]; rfl, by simp [hom]⟩, by show m - (i + 1) < m - i; omega, hf.sub (by (repeat' (first | exact trivial | refine And.intro rfl ?_)); done), hs.imp fun h hs => stars_only [2] rfl h hs⟩
  · rw [List.take_of_length_le (by omega)] at ho
    repeat' (first | (refine XL_id ?_; first | refine XL_nil ?_ | (refine XL_op tt_ok rfl rfl ?_; try (refine XL_dec_f (by omega) ?_))) | (refine X_id ?_; first | refine X_seq ?_ | refine X_region ?_ | refine X_ret ?_ | refine X_exit ?_ | refine X_cond_f rfl ?_) | (refine Y_id ?_; first | refine Y_then ?_ | refine Y_then_exit ?_ | refine Y_block_hit ?_))
    exact Y_ret1 rfl rfl (stars_only [0] rfl) ⟨o, ho, hom, rfl, rfl⟩
set_option maxRecDepth 100000 in
set_option maxHeartbeats 4000000 in
theorem count_spec (A : Option Addr) (m c : Nat) (l : List Rg) (hm : m ≤ 1024) (hl : ∀ r ∈ l, r.Ok) :
    FnC Try.prog 46 [.slice A m c] (fun h => rdS encRg h A m l) (.int .i64 (l.foldl (fun s r => s + r.n) 0)) := by
  refine Ctr.intro Try.func46 rfl rfl (by decide +kernel) fun F hpre => ?_
  have r1 : rdS encRg F.heap A m l := hpre
  have hlen := r1.1
  repeat' (first | (refine XL_id ?_; first | refine XL_nil ?_ | (refine XL_op tt_ok rfl rfl ?_)) | (refine X_id ?_; first | refine X_seq ?_ | refine X_region ?_ | refine X_block ?_) | (refine Y_id ?_; refine Y_then ?_))
  refine X_loopD2 [0] (fun (i : Nat) (p : Int) => [(4, .int .i64 i), (3, .int .i64 p)]) (fun _ _ => []) (fun i p => i ≤ m ∧ p = (l.take i).foldl (fun s r => s + r.n) 0) (fun i _ => m - i) 0 0 rfl ⟨Nat.zero_le _, rfl⟩ (by (repeat' (first | exact trivial | refine And.intro rfl ?_)); done) (fun _ h => h) ?_
  intro i p hi
  obtain ⟨hi, hp⟩ := hi
  have hs := sum_num (l.take i) 0 fun x hx => hl x (List.mem_of_mem_take hx)
  rw [← hp, List.length_take] at hs
  by_cases hlt : i < m
  · have okr : (Cof.get l i).Ok := hl _ (get_mem (by omega) (by omega))
    have q1 := okr.p; have q2 := okr.n; have q3 := okr.e
    repeat' (first | (refine XL_id ?_; first | refine XL_nil ?_ | (refine XG_load ?_; refine XL_elf tt_ok rfl (by assumption) rfl (by omega) (by omega) rfl rfl rfl rfl ?_) | (refine XG_idx ?_; refine XL_idx tt_ok rfl rfl rfl rfl rfl (by assumption) (by omega) (by omega) rfl ?_) | (refine XL_op tt_ok rfl rfl ?_; try (first | refine XL_int (wrap_i64 (by omega) (by omega)) ?_ | refine XL_dec_t (by omega) ?_))) | (refine X_id ?_; first | refine X_seq ?_ | refine X_region ?_ | refine X_skip ?_ | refine X_block ?_ | refine X_cond_t rfl ?_) | (refine Y_id ?_; first | refine Y_then ?_ | refine Y_block_normal ?_))
    exact Y_again (i + 1, _) fun _ _ hf hs => ⟨⟨by show i + 1 ≤ m; omega, by rw [take_fold _ _ _ _ (by omega), ← hp]⟩, by show m - (i + 1) < m - i; omega, hf.sub (by (repeat' (first | exact trivial | refine And.intro rfl ?_)); done), trivial_parts hs⟩
  · rw [List.take_of_length_le (by omega)] at hp
    repeat' (first | (refine XL_id ?_; first | refine XL_nil ?_ | (refine XL_op tt_ok rfl rfl ?_; try (refine XL_dec_f (by omega) ?_))) | (refine X_id ?_; first | refine X_seq ?_ | refine X_region ?_ | refine X_ret ?_ | refine X_exit ?_ | refine X_cond_f rfl ?_) | (refine Y_id ?_; first | refine Y_then ?_ | refine Y_then_exit ?_ | refine Y_block_hit ?_))
    exact Y_fn1 rfl rfl (by rw [hp])
end Go.Proofs.Ytpkffgbcebjhaaa
