/- Regions, as numbers. Walks of the program's small functions. Walks of the program's first and Check. Walk of the program's Check. Walk of the program's add. What changed does; the walk of few. Walk of changed. -/
import Derived.Test.YtalkcemelegohaaSlS
import Derived.Test.YtalkcemelegohaaTab
set_option linter.unusedVariables false
set_option maxRecDepth 100000
namespace Go.Proofs.Ytalkcemelegohaa.Vm
open Go.RowKit Go.Cof

/-- A region: its first page, how many, its permission. -/
structure Rg where
  p : Int
  n : Int
  m : Int
  deriving DecidableEq, Inhabited
def encRg : Enc Rg := ⟨fun x => [.int .i64 x.p, .int .i64 x.n, .int .u8 x.m], 3, fun _ => rfl, by decide, fun x u hu => by simp at hu; rcases hu with rfl | rfl | rfl <;> rfl⟩
def Rg.end (r : Rg) : Int := r.p + r.n
/-- The numbers that its type lets in. -/
structure Rg.In (r : Rg) : Prop where
  p : -9223372036854775808 ≤ r.p ∧ r.p ≤ 9223372036854775807
  n : -9223372036854775808 ≤ r.n ∧ r.n ≤ 9223372036854775807
  m : 0 ≤ r.m ∧ r.m < 256
def pgs (p n : Int) : Bool := decide (1 ≤ p ∧ p < 1048576 ∧ 1 ≤ n ∧ n ≤ 1048576 - p)
def prm (m : Int) : Bool := decide (m = 0 ∨ m = 1 ∨ m = 3)
/-- Does b follow a in the one form? -/
def follows (a b : Rg) : Bool := !decide (b.p < a.end ∨ a.end = b.p ∧ a.m = b.m)
def okAt (l : List Rg) (i : Nat) : Bool := pgs (Cof.get l i).p (Cof.get l i).n && prm (Cof.get l i).m && (decide (i = 0) || follows (Cof.get l ((i : Int) - 1)) (Cof.get l i))
def checkE (l : List Rg) : Int := if 1024 < l.length then 3 else if (List.range l.length).all (okAt l) then 0 else 2
end Go.Proofs.Ytalkcemelegohaa.Vm
set_option linter.unusedVariables false
set_option maxRecDepth 100000
namespace Go.Proofs.Ytalkcemelegohaa.Vm
open Go.RowKit Go.Cof

theorem pages_spec (p n : Int) (h1 : -9223372036854775808 ≤ p) (h2 : p ≤ 9223372036854775807) : FnC Try.prog 68 [.int .i64 p, .int .i64 n] (fun _ => True) (.bool (pgs p n)) := by
  refine Ctr.intro Try.func68 rfl rfl (by decide +kernel) fun F hpre => ?_
  repeat' (first | (refine XL_id ?_; first | refine XL_nil ?_ | refine XL_guard_yes rfl rfl rfl ?_ | refine XL_guard_no rfl rfl rfl rfl rfl ?_ | (refine XL_op tt_ok rfl rfl ?_; try (first | refine XL_int (wrap_i64 (by omega) (by omega)) ?_ | refine XL_dec (fun _ => ?_) (fun _ => ?_)))) | (refine X_id ?_; first | refine X_seq ?_ | (refine X_regionN (by repeat' (exact .nil)) ?_) | refine X_ret ?_) | (refine Y_id ?_; refine Y_then ?_))
  all_goals (refine Y_fn1 rfl rfl ?_)
  all_goals (first | exact bool_t (by omega) | exact bool_f (by omega))
theorem perms_spec (m : Int) : FnC Try.prog 69 [.int .u8 m] (fun _ => True) (.bool (prm m)) := by
  refine Ctr.intro Try.func69 rfl rfl (by decide +kernel) fun F hpre => ?_
  repeat' (first | (refine XL_id ?_; first | refine XL_nil ?_ | refine XL_guard_yes rfl rfl rfl ?_ | refine XL_guard_no rfl rfl rfl rfl rfl ?_ | (refine XL_op tt_ok rfl rfl ?_; try (refine XL_dec (fun _ => ?_) (fun _ => ?_)))) | (refine X_id ?_; first | refine X_seq ?_ | (refine X_regionN (by repeat' (exact .nil)) ?_) | refine X_ret ?_) | (refine Y_id ?_; refine Y_then ?_))
  all_goals (refine Y_fn1 rfl rfl ?_)
  all_goals (first | exact bool_t (by omega) | exact bool_f (by omega))
abbrev rgV (r : Rg) : Value := .agg #[.int .i64 r.p, .int .i64 r.n, .int .u8 r.m]
theorem end_spec (r : Rg) (h1 : -9223372036854775808 ≤ r.p + r.n) (h2 : r.p + r.n ≤ 9223372036854775807) : FnC Try.prog 67 [rgV r] (fun _ => True) (.int .i64 r.end) := by
  refine Ctr.intro Try.func67 rfl rfl (by decide +kernel) fun F hpre => ?_
  repeat' (first | (refine XL_id ?_; first | refine XL_nil ?_ | (refine XG_load ?_; refine XL_load tt_ok 0 rfl rfl rfl rfl rfl rfl ?_) | (refine XG_box ?_; (refine XL_box rfl (fun _ => rfl) (fun _ => ?_); refine XL_nB (by repeat' (first | exact .nil | apply NL.cons)) ?_)) | (refine XL_op tt_ok rfl rfl ?_; try (refine XL_int (wrap_i64 (by omega) (by omega)) ?_))) | (refine X_id ?_; first | refine X_seq ?_ | (refine X_regionN (by repeat' (first | exact .nil | apply NL.cons)) ?_) | refine X_ret ?_) | (refine Y_id ?_; refine Y_then ?_))
  exact Y_fn1 rfl rfl rfl
end Go.Proofs.Ytalkcemelegohaa.Vm
set_option linter.unusedVariables false
set_option maxRecDepth 100000
namespace Go.Proofs.Ytalkcemelegohaa.Vm
open Go.RowKit Go.Cof

structure Rg.Ok (r : Rg) : Prop where
  p : 1 ≤ r.p
  n : 1 ≤ r.n
  e : r.p + r.n ≤ 1048576
  m : r.m = 0 ∨ r.m = 1 ∨ r.m = 3
theorem get_mem {α : Type} [Inhabited α] {l : List α} {i : Int} (h0 : 0 ≤ i) (h1 : i < l.length) : Cof.get l i ∈ l := List.mem_of_getElem? (Cof.get_some h0 h1)
def firstN (l : List Rg) (page : Int) : Nat := (l.takeWhile fun r => decide (r.end ≤ page)).length
theorem firstN_eq : ∀ {l : List Rg} {page : Int} {i : Nat}, i ≤ l.length → (∀ j : Nat, j < i → (Cof.get l j).end ≤ page) → (i < l.length → page < (Cof.get l i).end) → firstN l page = i
  | [], page, i, h, _, _ => by simp at h; subst h; rfl
  | r :: l, page, 0, _, _, h => by
    have := h (by simp)
    have e : (Cof.get (r :: l) ((0 : Nat) : Int)) = r := rfl
    rw [e] at this
    unfold firstN
    rw [List.takeWhile_cons, if_neg (by simpa using this)]
    rfl
  | r :: l, page, i + 1, h, h1, h2 => by
    have h3 := h1 0 (by omega)
    have e : (Cof.get (r :: l) ((0 : Nat) : Int)) = r := rfl
    rw [e] at h3
    have eg : ∀ j : Nat, Cof.get (r :: l) ((j + 1 : Nat) : Int) = Cof.get l (j : Int) := fun j => by
      unfold Cof.get
      rw [Int.toNat_natCast, Int.toNat_natCast]
      rfl
    have := firstN_eq (l := l) (page := page) (i := i) (by simp at h; omega) (fun j hj => by rw [← eg]; exact h1 (j + 1) (by omega)) (fun hi => by rw [← eg]; exact h2 (by simp; omega))
    unfold firstN at this ⊢
    rw [List.takeWhile_cons, if_pos (by simpa using h3), List.length_cons, this]
theorem first_spec (A : Option Addr) (m c : Nat) (l : List Rg) (page : Int) (hm : m ≤ 9223372036854775807) (hl : ∀ r ∈ l, r.Ok) : FnC Try.prog 66 [.slice A m c, .int .i64 page] (fun h => rdS encRg h A m l) (.int .i64 (firstN l page)) := by
  refine Ctr.intro Try.func66 rfl rfl (by decide +kernel) fun F hpre => ?_
  have r1 : rdS encRg F.heap A m l := hpre
  have hlen := r1.1
  repeat' (first | (refine XL_id ?_; first | refine XL_nil ?_ | (refine XL_op tt_ok rfl rfl ?_)) | (refine X_id ?_; first | refine X_seq ?_ | (refine X_regionN (by repeat' (exact .nil)) ?_) | refine X_block ?_) | (refine Y_id ?_; refine Y_then ?_))
  refine X_loop (ι := Nat) (fun i => [(0, .slice A m c), (1, .int .i64 page), (5, .int .i64 i)]) (fun _ => []) (fun i => i ≤ m ∧ ∀ j : Nat, j < i → (Cof.get l j).end ≤ page) (fun i => m - i) 0 ⟨Nat.zero_le _, fun j hj => by omega⟩ (by (repeat' (first | exact trivial | refine And.intro rfl ?_)); done) (fun _ h => h) ?_
  intro i hi
  obtain ⟨hi, hx⟩ := hi
  by_cases hlt : i < m
  · have ok := hl _ (get_mem (l := l) (i := (i : Int)) (by omega) (by omega))
    have k1 := ok.p; have k2 := ok.n; have k3 := ok.e
    repeat' (first | (refine XL_id ?_; first | refine XL_nil ?_ | refine XL_guard_yes rfl rfl rfl ?_ | (refine XG_load ?_; refine XL_elW tt_ok rfl (by assumption) rfl (by omega) (by omega) rfl rfl rfl rfl ?_) | (refine XG_idx ?_; refine XL_idx tt_ok rfl rfl rfl rfl rfl (by assumption) (by omega) (by omega) rfl ?_) | (refine XG_call ?_; first | (refine XL_op tt_ok rfl rfl ?_) | refine XL_fn (end_spec (Cof.get l i) (by omega) (by omega)) rfl rfl (fun _ _ _ => trivial) ?_) | (refine XL_op tt_ok rfl rfl ?_; try (first | refine XL_int (wrap_i64 (by omega) (by omega)) ?_ | refine XL_dec_t (by omega) ?_ | refine XL_dec (fun _ => ?_) (fun _ => ?_)))) | (refine X_id ?_; first | refine X_seq ?_ | (refine X_regionN (by repeat' (exact .nil)) ?_) | refine X_skip ?_ | refine X_ret ?_ | refine X_exit ?_ | refine X_block ?_ | refine X_cond_t rfl ?_ | refine X_cond_f rfl ?_) | (refine Y_id ?_; first | refine Y_then ?_ | refine Y_then_exit ?_ | refine Y_block_hit ?_ | refine Y_block_normal ?_))
    · exact Y_again (i + 1) fun _ _ hf hs => ⟨⟨by omega, fun j hj => by
        by_cases hj2 : j < i
        · exact hx j hj2
        · obtain rfl : j = i := by omega
          assumption⟩, by omega, hf.sub (by (repeat' (first | exact trivial | refine And.intro rfl ?_)); done), hs⟩
    · exact Y_fn1 rfl rfl (by rw [firstN_eq (i := i) (by omega) hx (fun _ => by omega)])
  · repeat' (first | (refine XL_id ?_; first | refine XL_nil ?_ | refine XL_guard_no rfl rfl rfl rfl rfl ?_ | (refine XG_call ?_; (refine XL_op tt_ok rfl rfl ?_)) | (refine XL_op tt_ok rfl rfl ?_; try (refine XL_dec_f (by omega) ?_))) | (refine X_id ?_; first | refine X_seq ?_ | (refine X_regionN (by repeat' (exact .nil)) ?_) | refine X_ret ?_ | refine X_exit ?_ | refine X_cond_f rfl ?_) | (refine Y_id ?_; first | refine Y_then ?_ | refine Y_then_exit ?_ | refine Y_block_hit ?_))
    exact Y_fn1 rfl rfl (by rw [firstN_eq (i := i) (by omega) hx (fun _ => by omega)])
end Go.Proofs.Ytalkcemelegohaa.Vm
set_option linter.unusedVariables false
set_option maxRecDepth 100000
namespace Go.Proofs.Ytalkcemelegohaa.Vm
open Go.RowKit Go.Cof

theorem okAt_rg {l : List Rg} {i : Nat} (h : okAt l i = true) : (Cof.get l (i : Int)).Ok := by
  simp only [okAt, Bool.and_eq_true, pgs, prm, decide_eq_true_eq] at h
  obtain ⟨⟨⟨h1, h2, h3, h4⟩, h5⟩, _⟩ := h
  exact ⟨h1, h3, by omega, h5⟩
theorem checkE_few {l : List Rg} (h : 1024 < l.length) : checkE l = 3 := by unfold checkE; rw [if_pos h]
theorem checkE_bad {l : List Rg} {i : Nat} (h : ¬ 1024 < l.length) (hi : i < l.length) (hb : okAt l i = false) : checkE l = 2 := by
  unfold checkE
  rw [if_neg h, if_neg]
  intro ha
  have := List.all_eq_true.1 ha i (List.mem_range.2 hi)
  rw [hb] at this
  cases this
theorem checkE_ok {l : List Rg} (h : ¬ 1024 < l.length) (ha : ∀ i : Nat, i < l.length → okAt l i = true) : checkE l = 0 := by
  unfold checkE
  rw [if_neg h, if_pos (List.all_eq_true.2 fun i hi => ha i (List.mem_range.1 hi))]
theorem okAt_bad {l : List Rg} {i : Nat} (h0 : 0 < i) (h : (Cof.get l i).p < (Cof.get l ((i : Int) - 1)).end ∨ (Cof.get l ((i : Int) - 1)).end = (Cof.get l i).p ∧ (Cof.get l ((i : Int) - 1)).m = (Cof.get l i).m) : okAt l i = false := by
  have e1 : decide (i = 0) = false := decide_eq_false (by omega)
  have e2 : follows (Cof.get l ((i : Int) - 1)) (Cof.get l i) = false := by unfold follows; rw [decide_eq_true h]; rfl
  simp [okAt, e1, e2]
theorem okAt_good {l : List Rg} {i : Nat} (hp : pgs (Cof.get l i).p (Cof.get l i).n = true) (hq : prm (Cof.get l i).m = true) (h : i = 0 ∨ ¬ ((Cof.get l i).p < (Cof.get l ((i : Int) - 1)).end ∨ (Cof.get l ((i : Int) - 1)).end = (Cof.get l i).p ∧ (Cof.get l ((i : Int) - 1)).m = (Cof.get l i).m)) : okAt l i = true := by
  unfold okAt
  rw [hp, hq]
  rcases h with h | h
  · rw [decide_eq_true h]; rfl
  · have e2 : follows (Cof.get l ((i : Int) - 1)) (Cof.get l i) = true := by unfold follows; rw [decide_eq_false h]; rfl
    rw [e2]; simp
theorem upto_succ {p : Nat → Prop} {i : Nat} (h : ∀ j, j < i → p j) (hi : p i) : ∀ j, j < i + 1 → p j := fun j hj => by
  by_cases hj2 : j < i
  · exact h j hj2
  · obtain rfl : j = i := by omega
    exact hi
set_option maxHeartbeats 4000000 in
theorem check_spec (A : Option Addr) (m c : Nat) (l : List Rg) (hm : m ≤ 9223372036854775807) (hl : ∀ r ∈ l, r.In) : FnC Try.prog 40 [.slice A m c] (fun h => rdS encRg h A m l) (.int .i64 (checkE l)) := by
  refine Ctr.intro Try.func40 rfl rfl (by decide +kernel) fun F hpre => ?_
  have r1 : rdS encRg F.heap A m l := hpre
  have hlen := r1.1
  by_cases hf : 1024 < m
  · repeat' (first | (refine XL_id ?_; first | refine XL_nil ?_ | (refine XG_call ?_; (refine XL_op tt_ok rfl rfl ?_)) | (refine XL_op tt_ok rfl rfl ?_; try (refine XL_dec_t (by omega) ?_))) | (refine X_id ?_; first | refine X_seq ?_ | (refine X_regionN (by repeat' (exact .nil)) ?_) | refine X_ret ?_ | refine X_cond_t rfl ?_) | (refine Y_id ?_; first | refine Y_then ?_ | refine Y_then_ret ?_))
    all_goals (try (exfalso; omega))
    exact Y_fn1 rfl rfl (by rw [checkE_few (by omega)])
  repeat' (first | (refine XL_id ?_; first | refine XL_nil ?_ | (refine XG_call ?_; (refine XL_op tt_ok rfl rfl ?_)) | (refine XL_op tt_ok rfl rfl ?_; try (refine XL_dec_f (by omega) ?_))) | (refine X_id ?_; first | refine X_seq ?_ | (refine X_regionN (by repeat' (exact .nil)) ?_) | refine X_skip ?_ | refine X_block ?_ | refine X_cond_f rfl ?_) | (refine Y_id ?_; refine Y_then ?_))
  all_goals (try (exfalso; omega))
  refine X_loop (ι := Nat) (fun i => [(0, .slice A m c), (8, .slice A m c), (9, .int .i64 m), (10, .int .i64 i)]) (fun _ => []) (fun i => i ≤ m ∧ ∀ j : Nat, j < i → okAt l j = true) (fun i => m - i) 0 ⟨Nat.zero_le _, fun j hj => by omega⟩ (by (repeat' (first | exact trivial | refine And.intro rfl ?_)); done) (fun _ h => h) ?_
  intro i hi
  obtain ⟨hi, hx⟩ := hi
  by_cases hlt : i < m
  · have hin := hl _ (get_mem (l := l) (i := (i : Int)) (by omega) (by omega))
    have k1 := hin.p; have k2 := hin.n; have k3 := hin.m
    have kp : 0 < i → (Cof.get l ((i : Int) - 1)).Ok := fun h0 => by
      have := okAt_rg (hx (i - 1) (by omega))
      rwa [show ((i - 1 : Nat) : Int) = (i : Int) - 1 from by omega] at this
    cases hp : pgs (Cof.get l i).p (Cof.get l i).n with
    | false =>
      have hs := pages_spec (Cof.get l i).p (Cof.get l i).n (by omega) (by omega)
      rw [hp] at hs
      repeat' (first | (refine XL_id ?_; first | refine XL_nil ?_ | refine XL_guard_no rfl rfl rfl rfl rfl ?_ | (refine XG_alloc ?_; refine XL_alloc tt_ok rfl rfl (fun _ => rfl) (fun b => ?_)) | (refine XG_load ?_; first | refine XL_load tt_ok 0 rfl rfl rfl rfl rfl rfl ?_ | refine XL_elW tt_ok rfl (by assumption) rfl (by omega) (by omega) rfl rfl rfl rfl ?_) | (refine XG_idx ?_; refine XL_idx tt_ok rfl rfl rfl rfl rfl (by assumption) (by omega) (by omega) rfl ?_) | (refine XG_store ?_; refine XL_store tt_ok 0 rfl rfl rfl rfl rfl rfl rfl rfl ?_) | (refine XG_call ?_; refine XL_fn hs rfl rfl (fun _ _ _ => trivial) ?_) | (refine XL_op tt_ok rfl rfl ?_; try (refine XL_dec_t (by omega) ?_))) | (refine X_id ?_; first | refine X_seq ?_ | (refine X_regionN (by repeat' (first | exact .nil | apply NL.cons)) ?_) | refine X_skip ?_ | refine X_ret ?_ | refine X_block ?_ | refine X_cond_t rfl ?_) | (refine Y_id ?_; first | refine Y_then ?_ | refine Y_then_ret ?_ | refine Y_block_ret ?_))
      exact Y_fn1 rfl rfl (by rw [checkE_bad (i := i) (by omega) (by omega) (by simp [okAt, hp])])
    | true =>
      have hs := pages_spec (Cof.get l i).p (Cof.get l i).n (by omega) (by omega)
      rw [hp] at hs
      cases hq : prm (Cof.get l i).m with
      | false =>
        have hs2 := perms_spec (Cof.get l i).m
        rw [hq] at hs2
        repeat' (first | (refine XL_id ?_; first | refine XL_nil ?_ | refine XL_guard_yes rfl rfl rfl ?_ | (refine XG_alloc ?_; refine XL_alloc tt_ok rfl rfl (fun _ => rfl) (fun b => ?_)) | (refine XG_load ?_; first | refine XL_load tt_ok 0 rfl rfl rfl rfl rfl rfl ?_ | refine XL_elW tt_ok rfl (by assumption) rfl (by omega) (by omega) rfl rfl rfl rfl ?_) | (refine XG_idx ?_; refine XL_idx tt_ok rfl rfl rfl rfl rfl (by assumption) (by omega) (by omega) rfl ?_) | (refine XG_store ?_; refine XL_store tt_ok 0 rfl rfl rfl rfl rfl rfl rfl rfl ?_) | (refine XG_call ?_; first | refine XL_fn hs rfl rfl (fun _ _ _ => trivial) ?_ | refine XL_fn hs2 rfl rfl (fun _ _ _ => trivial) ?_) | (refine XL_op tt_ok rfl rfl ?_; try (refine XL_dec_t (by omega) ?_))) | (refine X_id ?_; first | refine X_seq ?_ | (refine X_regionN (by repeat' (first | exact .nil | apply NL.cons)) ?_) | refine X_skip ?_ | refine X_ret ?_ | refine X_block ?_ | refine X_cond_t rfl ?_) | (refine Y_id ?_; first | refine Y_then ?_ | refine Y_then_ret ?_ | refine Y_block_ret ?_))
        exact Y_fn1 rfl rfl (by rw [checkE_bad (i := i) (by omega) (by omega) (by simp [okAt, hq])])
      | true =>
        have hs2 := perms_spec (Cof.get l i).m
        rw [hq] at hs2
        repeat' (first | (refine XL_id ?_; first | refine XL_nil ?_ | refine XL_guard_yes rfl rfl rfl ?_ | (refine XG_alloc ?_; refine XL_alloc tt_ok rfl rfl (fun _ => rfl) (fun b => ?_)) | (refine XG_load ?_; first | refine XL_load tt_ok 0 rfl rfl rfl rfl rfl rfl ?_ | refine XL_elW tt_ok rfl (by assumption) rfl (by omega) (by omega) rfl rfl rfl rfl ?_) | (refine XG_idx ?_; refine XL_idx tt_ok rfl rfl rfl rfl rfl (by assumption) (by omega) (by omega) rfl ?_) | (refine XG_store ?_; refine XL_store tt_ok 0 rfl rfl rfl rfl rfl rfl rfl rfl ?_) | (refine XG_call ?_; first | refine XL_fn hs rfl rfl (fun _ _ _ => trivial) ?_ | refine XL_fn hs2 rfl rfl (fun _ _ _ => trivial) ?_ | (refine XL_fn (end_spec (Cof.get l ((i : Int) - 1)) (by have := (kp (by omega)).p; have := (kp (by omega)).n; omega) (by have := (kp (by omega)).e; omega)) rfl rfl (fun _ _ _ => trivial) ?_)) | (refine XL_op tt_ok rfl rfl ?_; try (first | refine XL_int (wrap_i64 (by omega) (by omega)) ?_ | refine XL_dec_t (by omega) ?_))) | (refine XD_id ?_; first | (refine XD_thaw thaw ?_; refine XD_nil ?_) | refine XD_no rfl rfl rfl rfl rfl rfl ?_ | refine XD_nou rfl rfl rfl rfl rfl ?_ | (refine XD_id ?_; (first | (refine XD_gL rfl ?_; first | refine XD_sy rfl rfl rfl rfl rfl (XV_load tt_ok rfl (blk_at 0 rfl hM) rfl rfl rfl) rfl ?_ | refine XD_sy rfl rfl rfl rfl rfl (XV_elW tt_ok rfl (rdS.le (by assumption) hFG) rfl (by omega) (by omega) rfl rfl rfl) rfl ?_ | refine XD_sy rfl rfl rfl rfl rfl (XV_elf tt_ok rfl (rdS.le (by assumption) hFG) rfl (by omega) (by omega) rfl rfl rfl) rfl ?_) | (refine XD_gI rfl ?_; refine XD_sy rfl rfl rfl rfl rfl (XV_idx tt_ok rfl rfl rfl rfl rfl (rdS.le (by assumption) hFG) (by omega) (by omega)) rfl ?_) | (refine XD_u rfl rfl ?_; refine XD_s rfl rfl rfl (XV_op tt_ok rfl) rfl ?_) | (refine XD_g rfl rfl ?_; refine XD_sy rfl rfl rfl rfl rfl (XV_op tt_ok rfl) rfl ?_)); try (first | refine XD_int (wrap_i64 (by omega) (by omega)) ?_ | refine XD_dec (fun _ => ?_) (fun _ => ?_))) | refine XD_m rfl rfl ?_) | (refine X_id ?_; first | (refine X_draw (id := 8) [0, 1, 2, 3, 4, 5, 6, 7, 9, 10, 8, 11, 12, 13, 14, 15, 16, 17, 19, 20, 18, 21, 22, 23, 24, 25, 26, 27, 28, 29, 30, 31, 32, 33, 34] (fun | 8 => .m | 18 => .m | _ => .s) (fun _ => false) 8 [0] rfl mixed (by decide +kernel) ?_; intro G hFG hM thaw; show XD _ _ _ _ _ _ [0, 1, 2, 3, 4, 5, 6, 7, 9, 10, 8, 11, 12, 13, 14, 15, 16, 17, 19, 20, 18, 21, 22, 23, 24, 25, 26, 27, 28, 29, 30, 31, 32, 33, 34] _ _ _) | refine X_seq ?_ | (refine X_regionN (by repeat' (first | exact .nil | apply NL.cons)) ?_) | refine X_skip ?_ | refine X_ret ?_ | refine X_block ?_ | refine X_cond_t rfl ?_ | refine X_cond_f rfl ?_) | (refine Y_id ?_; first | refine Y_then ?_ | refine Y_then_ret ?_ | refine Y_block_normal ?_ | refine Y_block_ret ?_ | refine Y_m ?_))
        · exact Y_fn1 rfl rfl (by rw [checkE_bad (i := i) (by omega) (by omega) (okAt_bad (by omega) (.inl (by assumption)))])
        · exact Y_fn1 rfl rfl (by rw [checkE_bad (i := i) (by omega) (by omega) (okAt_bad (by omega) (.inr ⟨by assumption, by assumption⟩))])
        · exact Y_again (i + 1) fun _ _ hf hs => ⟨⟨by omega, upto_succ hx (okAt_good hp hq (.inr fun h => h.elim (by assumption) fun h => absurd h.2 (by assumption)))⟩, by omega, hf.sub (by (repeat' (first | exact trivial | refine And.intro rfl ?_)); done), hs.imp fun _ _ => trivial⟩
        · exact Y_again (i + 1) fun _ _ hf hs => ⟨⟨by omega, upto_succ hx (okAt_good hp hq (.inr fun h => h.elim (by assumption) fun h => absurd h.1 (by assumption)))⟩, by omega, hf.sub (by (repeat' (first | exact trivial | refine And.intro rfl ?_)); done), hs.imp fun _ _ => trivial⟩
        · exact Y_again (i + 1) fun _ _ hf hs => ⟨⟨by omega, upto_succ hx (okAt_good hp hq (.inl (by omega)))⟩, by omega, hf.sub (by (repeat' (first | exact trivial | refine And.intro rfl ?_)); done), hs.imp fun _ _ => trivial⟩
  · repeat' (first | (refine XL_id ?_; first | refine XL_nil ?_ | (refine XL_op tt_ok rfl rfl ?_; try (refine XL_dec_f (by omega) ?_))) | (refine X_id ?_; first | refine X_seq ?_ | (refine X_regionN (by repeat' (exact .nil)) ?_) | refine X_ret ?_ | refine X_exit ?_ | refine X_cond_f rfl ?_) | (refine Y_id ?_; first | refine Y_then ?_ | refine Y_then_exit ?_ | refine Y_block_hit ?_))
    exact Y_fn1 rfl rfl (by rw [checkE_ok (by omega) (fun j hj => hx j (by omega))])
end Go.Proofs.Ytalkcemelegohaa.Vm
set_option linter.unusedVariables false
set_option maxRecDepth 100000
namespace Go.Proofs.Ytalkcemelegohaa.Vm
open Go.RowKit Go.Cof

def lastR (l : List Rg) : Rg := Cof.get l ((l.length : Int) - 1)
def joins (l : List Rg) (r : Rg) : Prop := 0 < l.length ∧ (lastR l).end = r.p ∧ (lastR l).m = r.m
instance (l : List Rg) (r : Rg) : Decidable (joins l r) := by unfold joins; infer_instance
def addR (l : List Rg) (r : Rg) : List Rg := if joins l r then l.set (l.length - 1) ⟨(lastR l).p, (lastR l).n + r.n, (lastR l).m⟩ else l ++ [r]
theorem el_at {q n sz f i : Nat} (h : n = i) : ((bs (some (⟨q, 0, none⟩ : Addr))).add (n * sz)).add f = ⟨q, i * sz + f, none⟩ := by
  subst h
  show ((⟨q, 0, none⟩ : Addr).add _).add _ = _
  rw [Addr.add_lit, Addr.add_lit, Nat.zero_add]
theorem put_rg {l : List Rg} {r : Rg} {i : Nat} (h : (i : Int) = (l.length : Int) - 1) : putAt (encRg.enc (l.getD i default)) 1 [.int .i64 ((Cof.get l ((l.length : Int) - 1)).n + r.n)] = encRg.enc ⟨(lastR l).p, (lastR l).n + r.n, (lastR l).m⟩ := by
  have e : l.getD i default = lastR l := by unfold lastR Cof.get; rw [← h, Int.toNat_natCast]
  rw [e]
  rfl
set_option maxHeartbeats 4000000 in
theorem add_spec (A : Option Addr) (m c : Nat) (l : List Rg) (r : Rg) (hm : m ≤ 1048576) (hl : 0 < m → -9223372036854775808 ≤ (lastR l).end ∧ (lastR l).end ≤ 9223372036854775807 ∧ -9223372036854775808 ≤ (lastR l).n + r.n ∧ (lastR l).n + r.n ≤ 9223372036854775807) :
    Ctr Try.prog 89 [.slice A m c, rgV r] (fun _ => True) [own encRg A m c l] (fun v L => ∃ A' c', v = .slice A' (addR l r).length c' ∧ L = [own encRg A' (addR l r).length c' (addR l r)]) := by
  refine Ctr.intro Try.func89 rfl rfl (by decide +kernel) fun F hpre => ?_
  refine X_fact 0 rfl (fun _ o => own_len o) fun hlen => ?_
  obtain ⟨rfl, hc1, hc2⟩ := hlen
  by_cases h0 : l.length = 0
  · have hj : ¬ joins l r := fun h => by have := h.1; omega
    have hw : addR l r = l ++ [r] := by unfold addR; rw [if_neg hj]
    have e : (l ++ [r]).length = l.length + 1 := by simp
    rw [hw, e]
    repeat' (first | (refine XL_id ?_; first | refine XL_nil ?_ | (refine XG_load ?_; refine XL_loadW tt_ok 0 rfl rfl rfl rfl rfl rfl ?_) | (refine XG_box ?_; (refine XL_box rfl (fun _ => rfl) (fun _ => ?_); refine XL_nB (by repeat' (first | exact .nil | apply NL.cons)) ?_)) | (refine XG_lit ?_; refine XL_lit tt_ok rfl rfl rfl rfl rfl rfl rfl rfl rfl (fun _ => rfl) (fun b => ?_)) | (refine XG_call ?_; first | (refine XL_op tt_ok rfl rfl ?_) | (refine XL_app1 tt_ok 2 0 r rfl rfl rfl rfl rfl rfl rfl rfl rfl rfl rfl (by show (_ : Nat) * 24 ≤ _; omega) (by omega) (fun _ _ => rfl) (fun A' c2 => ?_))) | (refine XL_op tt_ok rfl rfl ?_)) | (refine XD_id ?_; first | (refine XD_thaw thaw ?_; refine XD_nil ?_) | refine XD_no rfl rfl rfl rfl rfl rfl ?_ | (refine XD_id ?_; ((refine XD_u rfl rfl ?_; refine XD_s rfl rfl rfl (XV_op tt_ok rfl) rfl ?_)); try (refine XD_dec_f (by omega) ?_))) | (refine X_id ?_; first | (refine X_draw (id := 2) [0, 1, 2, 3, 4, 5, 6, 7, 9, 10, 8, 11, 12, 13, 14, 15, 16, 17, 18, 19, 20, 21, 22, 23] (fun | 8 => .m | _ => .s) (fun _ => false) 8 [0, 0] rfl mixed (by decide +kernel) ?_; intro G hFG hM thaw; show XD _ _ _ _ _ _ [0, 1, 2, 3, 4, 5, 6, 7, 9, 10, 8, 11, 12, 13, 14, 15, 16, 17, 18, 19, 20, 21, 22, 23] _ _ _) | refine X_seq ?_ | (refine X_regionN (by repeat' (first | exact .nil | apply NL.cons)) ?_) | refine X_skip ?_ | refine X_ret ?_ | refine X_cond_f rfl ?_) | (refine Y_id ?_; refine Y_then ?_))
    exact Y_ret1 rfl rfl (stars_fin1 2 rfl) ⟨A', c2, rfl, rfl⟩
  · obtain ⟨k1, k2, k3, k4⟩ := hl (by omega)
    have k1' : -9223372036854775808 ≤ (Cof.get l ((l.length : Int) - 1)).p + (Cof.get l ((l.length : Int) - 1)).n := k1
    have k2' : (Cof.get l ((l.length : Int) - 1)).p + (Cof.get l ((l.length : Int) - 1)).n ≤ 9223372036854775807 := k2
    have k3' : -9223372036854775808 ≤ (Cof.get l ((l.length : Int) - 1)).n + r.n := k3
    have k4' : (Cof.get l ((l.length : Int) - 1)).n + r.n ≤ 9223372036854775807 := k4
    refine X_fact 0 rfl (fun _ o => own_some o (by omega)) fun hq => ?_
    obtain ⟨q, rfl⟩ := hq
    by_cases hj : joins l r
    · have e1 : (Cof.get l ((l.length : Int) - 1)).end = r.p := hj.2.1
      have e2 : (Cof.get l ((l.length : Int) - 1)).m = r.m := hj.2.2
      have hw : addR l r = l.set (l.length - 1) ⟨(lastR l).p, (lastR l).n + r.n, (lastR l).m⟩ := by unfold addR; rw [if_pos hj]
      rw [hw, List.length_set]
      repeat' (first | (refine XL_id ?_; first | refine XL_nil ?_ | refine XL_guard_yes rfl rfl rfl ?_ | (refine XG_box ?_; (refine XL_box rfl (fun _ => rfl) (fun _ => ?_); refine XL_nB (by repeat' (first | exact .nil | apply NL.cons)) ?_)) | (refine XG_call ?_; first | (refine XL_op tt_ok rfl rfl ?_) | refine XL_fn (end_spec (Cof.get l ((l.length : Int) - 1)) (by omega) (by omega)) rfl rfl (fun _ _ _ => trivial) ?_) | (refine XG_store ?_; refine XL_put (i := l.length - 1) (f := 1) (x' := (⟨(lastR l).p, (lastR l).n + r.n, (lastR l).m⟩ : Rg)) tt_ok 1 rfl rfl (el_at (by omega)) rfl rfl rfl rfl (by omega) rfl rfl (put_rg (i := l.length - 1) (by omega)) ?_) | (refine XL_op tt_ok rfl rfl ?_)) | (refine XD_id ?_; first | (refine XD_thaw thaw ?_; refine XD_nil ?_) | refine XD_nil ?_ | (refine XD_id ?_; (first | (refine XD_uL rfl ?_; first | refine XD_s rfl rfl rfl (XV_load tt_ok rfl (blk_at 0 rfl hM) rfl rfl rfl) rfl ?_ | refine XD_s rfl rfl rfl (XV_elf tt_ok rfl (rd_at 1 rfl hM) rfl (by omega) (by omega) rfl rfl rfl) rfl ?_) | (refine XD_uI rfl ?_; refine XD_s rfl rfl rfl (XV_idx tt_ok rfl rfl rfl rfl rfl (rd_at 1 rfl hM) (by omega) (by omega)) rfl ?_) | (refine XD_gL rfl ?_; first | refine XD_sy rfl rfl rfl rfl rfl (XV_load tt_ok rfl (blk_at 0 rfl hM) rfl rfl rfl) rfl ?_ | refine XD_sy rfl rfl rfl rfl rfl (XV_elW tt_ok rfl (rd_at 1 rfl hM) rfl (by omega) (by omega) rfl rfl rfl) rfl ?_ | refine XD_sy rfl rfl rfl rfl rfl (XV_elf tt_ok rfl (rd_at 1 rfl hM) rfl (by omega) (by omega) rfl rfl rfl) rfl ?_) | (refine XD_gI rfl ?_; refine XD_sy rfl rfl rfl rfl rfl (XV_idx tt_ok rfl rfl rfl rfl rfl (rd_at 1 rfl hM) (by omega) (by omega)) rfl ?_) | (refine XD_u rfl rfl ?_; refine XD_s rfl rfl rfl (XV_op tt_ok rfl) rfl ?_) | (refine XD_g rfl rfl ?_; refine XD_sy rfl rfl rfl rfl rfl (XV_op tt_ok rfl) rfl ?_)); try (first | refine XD_int (wrap_i64 (by omega) (by omega)) ?_ | refine XD_dec_t (by omega) ?_)) | refine XD_m rfl rfl ?_ | (refine XD_thaw thaw ?_; refine XD_l rfl rfl ?_)) | (refine X_id ?_; first | (refine X_draw (id := 2) [0, 1, 2, 3, 4, 5, 6, 7, 9, 10, 8, 11, 12, 13, 14, 15, 16, 17, 18, 19, 20, 21, 22, 23] (fun | 8 => .m | _ => .s) (fun _ => false) 8 [0, 0] rfl mixed (by decide +kernel) ?_; intro G hFG hM thaw; show XD _ _ _ _ _ _ [0, 1, 2, 3, 4, 5, 6, 7, 9, 10, 8, 11, 12, 13, 14, 15, 16, 17, 18, 19, 20, 21, 22, 23] _ _ _) | (refine X_draw (id := 3) [0, 1, 2, 3, 4, 5, 6, 7, 8, 9, 10, 11] (fun | 11 => .l | _ => .s) (fun _ => false) 8 [0, 0] rfl mixed (by decide +kernel) ?_; intro G hFG hM thaw; show XD _ _ _ _ _ _ [0, 1, 2, 3, 4, 5, 6, 7, 8, 9, 10, 11] _ _ _) | refine X_seq ?_ | (refine X_regionN (by repeat' (first | exact .nil | apply NL.cons)) ?_) | refine X_ret ?_ | refine X_cond_t rfl ?_) | (refine Y_id ?_; first | refine Y_then ?_ | refine Y_then_ret ?_ | refine Y_m ?_ | refine Y_l ?_))
      exact Y_ret1 rfl rfl (stars_fin1 1 rfl) ⟨_, c, rfl, rfl⟩
    · have hw : addR l r = l ++ [r] := by unfold addR; rw [if_neg hj]
      have e : (l ++ [r]).length = l.length + 1 := by simp
      rw [hw, e]
      repeat' (first | (refine XL_id ?_; first | refine XL_nil ?_ | refine XL_guard_yes rfl rfl rfl ?_ | (refine XG_load ?_; refine XL_loadW tt_ok 0 rfl rfl rfl rfl rfl rfl ?_) | (refine XG_box ?_; (refine XL_box rfl (fun _ => rfl) (fun _ => ?_); refine XL_nB (by repeat' (first | exact .nil | apply NL.cons)) ?_)) | (refine XG_call ?_; first | (refine XL_op tt_ok rfl rfl ?_) | refine XL_fn (end_spec (Cof.get l ((l.length : Int) - 1)) (by omega) (by omega)) rfl rfl (fun _ _ _ => trivial) ?_ | (refine XL_app1 tt_ok 2 0 r rfl rfl rfl rfl rfl rfl rfl rfl rfl rfl rfl (by show (_ : Nat) * 24 ≤ _; omega) (by omega) (fun _ _ => rfl) (fun A' c2 => ?_))) | (refine XG_lit ?_; refine XL_lit tt_ok rfl rfl rfl rfl rfl rfl rfl rfl rfl (fun _ => rfl) (fun b => ?_)) | (refine XG_store ?_; refine XL_put (i := l.length - 1) (f := 1) (x' := (⟨(lastR l).p, (lastR l).n + r.n, (lastR l).m⟩ : Rg)) tt_ok 1 rfl rfl (el_at (by omega)) rfl rfl rfl rfl (by omega) rfl rfl (put_rg (i := l.length - 1) (by omega)) ?_) | (refine XL_op tt_ok rfl rfl ?_)) | (refine XD_id ?_; first | (refine XD_thaw thaw ?_; refine XD_nil ?_) | refine XD_nil ?_ | refine XD_no rfl rfl rfl rfl rfl rfl ?_ | (refine XD_id ?_; (first | (refine XD_uL rfl ?_; first | refine XD_s rfl rfl rfl (XV_load tt_ok rfl (blk_at 0 rfl hM) rfl rfl rfl) rfl ?_ | refine XD_s rfl rfl rfl (XV_elf tt_ok rfl (rd_at 1 rfl hM) rfl (by omega) (by omega) rfl rfl rfl) rfl ?_) | (refine XD_uI rfl ?_; refine XD_s rfl rfl rfl (XV_idx tt_ok rfl rfl rfl rfl rfl (rd_at 1 rfl hM) (by omega) (by omega)) rfl ?_) | (refine XD_gL rfl ?_; first | refine XD_sy rfl rfl rfl rfl rfl (XV_load tt_ok rfl (blk_at 0 rfl hM) rfl rfl rfl) rfl ?_ | refine XD_sy rfl rfl rfl rfl rfl (XV_elW tt_ok rfl (rd_at 1 rfl hM) rfl (by omega) (by omega) rfl rfl rfl) rfl ?_ | refine XD_sy rfl rfl rfl rfl rfl (XV_elf tt_ok rfl (rd_at 1 rfl hM) rfl (by omega) (by omega) rfl rfl rfl) rfl ?_) | (refine XD_gI rfl ?_; refine XD_sy rfl rfl rfl rfl rfl (XV_idx tt_ok rfl rfl rfl rfl rfl (rd_at 1 rfl hM) (by omega) (by omega)) rfl ?_) | (refine XD_u rfl rfl ?_; refine XD_s rfl rfl rfl (XV_op tt_ok rfl) rfl ?_) | (refine XD_g rfl rfl ?_; refine XD_sy rfl rfl rfl rfl rfl (XV_op tt_ok rfl) rfl ?_)); try (first | refine XD_int (wrap_i64 (by omega) (by omega)) ?_ | refine XD_dec_t (by omega) ?_ | refine XD_dec (fun _ => ?_) (fun _ => ?_))) | refine XD_m rfl rfl ?_ | (refine XD_thaw thaw ?_; refine XD_l rfl rfl ?_)) | (refine X_id ?_; first | (refine X_draw (id := 2) [0, 1, 2, 3, 4, 5, 6, 7, 9, 10, 8, 11, 12, 13, 14, 15, 16, 17, 18, 19, 20, 21, 22, 23] (fun | 8 => .m | _ => .s) (fun _ => false) 8 [0, 0] rfl mixed (by decide +kernel) ?_; intro G hFG hM thaw; show XD _ _ _ _ _ _ [0, 1, 2, 3, 4, 5, 6, 7, 9, 10, 8, 11, 12, 13, 14, 15, 16, 17, 18, 19, 20, 21, 22, 23] _ _ _) | (refine X_draw (id := 3) [0, 1, 2, 3, 4, 5, 6, 7, 8, 9, 10, 11] (fun | 11 => .l | _ => .s) (fun _ => false) 8 [0, 0] rfl mixed (by decide +kernel) ?_; intro G hFG hM thaw; show XD _ _ _ _ _ _ [0, 1, 2, 3, 4, 5, 6, 7, 8, 9, 10, 11] _ _ _) | refine X_seq ?_ | (refine X_regionN (by repeat' (first | exact .nil | apply NL.cons)) ?_) | refine X_skip ?_ | refine X_ret ?_ | refine X_cond_t rfl ?_ | refine X_cond_f rfl ?_) | (refine Y_id ?_; first | refine Y_then ?_ | refine Y_then_ret ?_ | refine Y_m ?_ | refine Y_l ?_))
      all_goals first | exact Y_ret1 rfl rfl (stars_fin1 2 rfl) ⟨A', c2, rfl, rfl⟩ | exact absurd ⟨by omega, by assumption, by assumption⟩ hj
end Go.Proofs.Ytalkcemelegohaa.Vm
set_option linter.unusedVariables false
set_option maxRecDepth 100000
namespace Go.Proofs.Ytalkcemelegohaa.Vm
open Go.RowKit Go.Cof

/-- What of a region lies from a page on. -/
def tailR (r : Rg) (to : Int) : Rg := ⟨if to > r.p then to else r.p, r.end - (if to > r.p then to else r.p), r.m⟩
/-- How many pages of a region lie from a page up to another one. -/
def gotR (r : Rg) (from_ to : Int) : Int := if ((if to < r.end then to else r.end) - (if from_ > r.p then from_ else r.p)) > 0 then ((if to < r.end then to else r.end) - (if from_ > r.p then from_ else r.p)) else 0
def stepR (from_ to : Int) (s : List Rg × Int) (r : Rg) : List Rg × Int :=
  (if to < r.end then addR s.1 (tailR r to) else s.1, s.2 + gotR r from_ to)
/-- What lies ahead, and the piece of a region that a page cuts. -/
def headF (l : List Rg) (from_ : Int) : List Rg :=
  let k := firstN l from_
  if k < l.length ∧ (Cof.get l k).p < from_ then l.take k ++ [⟨(Cof.get l k).p, from_ - (Cof.get l k).p, (Cof.get l k).m⟩] else l.take k
def changedF (l : List Rg) (from_ to : Int) (ins : List Rg) : List Rg × Int :=
  (l.drop (firstN l from_)).foldl (stepR from_ to) (ins.foldl addR (headF l from_), 0)
def fewV (A : Option Addr) (m c : Nat) : Value := if 1024 < m then .tuple #[.slice none 0 0, .int .i64 3] else .tuple #[.slice A m c, .int .i64 0]
theorem few_spec (A : Option Addr) (m c : Nat) (hm : m ≤ 9223372036854775807) : FnC Try.prog 71 [.slice A m c] (fun _ => True) (fewV A m c) := by
  unfold fewV
  by_cases h : 1024 < m
  · rw [if_pos h]
    refine Ctr.intro Try.func71 rfl rfl (by decide +kernel) fun F hpre => ?_
    repeat' (first | (refine XL_id ?_; first | refine XL_nil ?_ | (refine XL_op tt_ok rfl rfl ?_; try (refine XL_dec_t (by omega) ?_))) | (refine X_id ?_; first | refine X_seq ?_ | (refine X_regionN (by repeat' (exact .nil)) ?_) | refine X_ret ?_ | refine X_cond_t rfl ?_) | (refine Y_id ?_; first | refine Y_then ?_ | refine Y_then_ret ?_))
    all_goals (try (exfalso; omega))
    exact Y_fn2 rfl rfl rfl rfl
  · rw [if_neg h]
    refine Ctr.intro Try.func71 rfl rfl (by decide +kernel) fun F hpre => ?_
    repeat' (first | (refine XL_id ?_; first | refine XL_nil ?_ | (refine XL_op tt_ok rfl rfl ?_; try (refine XL_dec_f (by omega) ?_))) | (refine X_id ?_; first | refine X_seq ?_ | (refine X_regionN (by repeat' (exact .nil)) ?_) | refine X_skip ?_ | refine X_ret ?_ | refine X_cond_f rfl ?_) | (refine Y_id ?_; refine Y_then ?_))
    all_goals (try (exfalso; omega))
    exact Y_fn2 rfl rfl rfl rfl
end Go.Proofs.Ytalkcemelegohaa.Vm
set_option linter.unusedVariables false
set_option maxRecDepth 100000
namespace Go.Proofs.Ytalkcemelegohaa.Vm
open Go.RowKit Go.Cof

theorem end_ok (r : Rg) (h : r.Ok) : FnC Try.prog 67 [rgV r] (fun _ => True) (.int .i64 r.end) := end_spec r (by have := h.p; have := h.n; omega) (by have := h.e; omega)
theorem lastR_mem {l : List Rg} (h : 0 < l.length) : lastR l ∈ l := get_mem (by omega) (by omega)
theorem add_ok (A : Option Addr) (m c : Nat) (l : List Rg) (r : Rg) (hm : m ≤ 1048576) (hl : ∀ r ∈ l, r.Ok) (hr : r.Ok) :
    Ctr Try.prog 89 [.slice A m c, rgV r] (fun _ => True) [own encRg A m c l] (fun v L => ∃ o : Ow Rg, o.xs = addR l r ∧ o.m = o.xs.length ∧ v = o.v ∧ L = [o.own encRg]) := by
  have key : Ctr Try.prog 89 [.slice A m c, rgV r] (fun _ => True) [own encRg A m c l] (fun v L => ∃ A' c', v = .slice A' (addR l r).length c' ∧ L = [own encRg A' (addR l r).length c' (addR l r)]) := by
    by_cases hml : m = l.length
    · refine add_spec A m c l r hm fun h => ?_
      have k := hl _ (lastR_mem (l := l) (by omega))
      have k1 := k.p; have k2 := k.n; have k3 := k.e; have k4 := hr.n; have k5 := hr.e; have k6 := hr.p
      unfold Rg.end
      omega
    · refine ⟨(add_spec A 0 c l r (by omega) (by omega)).1, fun F w hp hs => ?_⟩
      obtain ⟨g, _, _, o⟩ := hs.mem (A := own encRg A m c l) (by simp)
      exact absurd (own_len o).1 hml
  exact key.mono (fun _ h => h) fun v L ⟨A', c', h1, h2⟩ => ⟨L, ⟨⟨A', _, c', addR l r⟩, rfl, rfl, h1, h2⟩, fun _ h => h⟩
theorem addR_ok {l : List Rg} {r : Rg} (hl : ∀ x ∈ l, x.Ok) (hr : r.Ok) : ∀ x ∈ addR l r, x.Ok := by
  unfold addR
  split
  · rename_i hj
    obtain ⟨h1, h2, h3⟩ := hj
    have k := hl _ (lastR_mem h1)
    intro x hx
    rcases List.mem_or_eq_of_mem_set hx with h | h
    · exact hl x h
    · subst h
      refine ⟨k.p, ?_, ?_, k.m⟩
      · have := k.n; have := hr.n; show 1 ≤ _ + _; omega
      · have h4 := hr.e; unfold Rg.end at h2; show (lastR l).p + ((lastR l).n + r.n) ≤ _; omega
  · intro x hx
    rcases List.mem_append.1 hx with h | h
    · exact hl x h
    · obtain rfl := List.mem_singleton.1 h; exact hr
theorem addR_length (l : List Rg) (r : Rg) : (addR l r).length ≤ l.length + 1 := by
  unfold addR
  split <;> simp
theorem fold_ok : ∀ {ins l : List Rg}, (∀ x ∈ l, x.Ok) → (∀ x ∈ ins, x.Ok) → ∀ x ∈ ins.foldl addR l, x.Ok
  | [], _, hl, _ => hl
  | r :: ins, l, hl, hi => fold_ok (ins := ins) (addR_ok hl (hi r (by simp))) fun x hx => hi x (by simp [hx])
theorem fold_length : ∀ (ins l : List Rg), (ins.foldl addR l).length ≤ l.length + ins.length
  | [], _ => by simp
  | r :: ins, l => by
    have := fold_length ins (addR l r)
    have := addR_length l r
    simp only [List.foldl_cons, List.length_cons]
    omega
theorem firstN_le (l : List Rg) (page : Int) : firstN l page ≤ l.length := by
  unfold firstN
  exact (List.takeWhile_prefix _).length_le
theorem firstN_end {l : List Rg} {page : Int} (h : firstN l page < l.length) : page < (Cof.get l (firstN l page : Nat)).end := by
  unfold firstN at h ⊢
  induction l with
  | nil => cases h
  | cons r l ih =>
    rw [List.takeWhile_cons] at h ⊢
    by_cases hr : r.end ≤ page
    · rw [decide_eq_true hr] at h ⊢
      simp only [if_true, List.length_cons] at h ⊢
      have := ih (by omega)
      unfold Cof.get at this ⊢
      rw [Int.toNat_natCast] at this ⊢
      exact this
    · rw [decide_eq_false hr] at h ⊢
      show page < r.end
      omega
theorem cut_ok {r : Rg} {from_ : Int} (h : r.Ok) (h1 : r.p < from_) (h2 : from_ < r.end) : (⟨r.p, from_ - r.p, r.m⟩ : Rg).Ok := ⟨h.p, by show 1 ≤ from_ - r.p; omega, by have := h.e; unfold Rg.end at h2; show r.p + (from_ - r.p) ≤ _; omega, h.m⟩
theorem tail_ok {r : Rg} {to : Int} (h : r.Ok) (h1 : 1 ≤ to) (h2 : to < r.end) : (tailR r to).Ok := by
  have := h.p; have := h.n; have := h.e; have e : r.end = r.p + r.n := rfl
  exact ⟨by show 1 ≤ if to > r.p then to else r.p; omega, by show 1 ≤ r.end - (if to > r.p then to else r.p); omega, by show (if to > r.p then to else r.p) + (r.end - (if to > r.p then to else r.p)) ≤ _; omega, h.m⟩
theorem headF_ok {l : List Rg} {from_ : Int} (hl : ∀ r ∈ l, r.Ok) : ∀ r ∈ headF l from_, r.Ok := by
  unfold headF
  simp only
  split
  · rename_i hc
    intro x hx
    rcases List.mem_append.1 hx with h | h
    · exact hl x (List.mem_of_mem_take h)
    · obtain rfl := List.mem_singleton.1 h
      exact cut_ok (hl _ (get_mem (by omega) (by omega))) hc.2 (firstN_end hc.1)
  · exact fun x hx => hl x (List.mem_of_mem_take hx)
theorem headF_length (l : List Rg) (from_ : Int) : (headF l from_).length ≤ firstN l from_ + 1 := by
  unfold headF
  simp only
  have := firstN_le l from_
  split <;> simp <;> omega
theorem step_ok {from_ to : Int} {s : List Rg × Int} {r : Rg} (hs : ∀ x ∈ s.1, x.Ok) (hr : r.Ok) (h1 : 1 ≤ to) : ∀ x ∈ (stepR from_ to s r).1, x.Ok := by
  unfold stepR
  simp only
  split
  · exact addR_ok hs (tail_ok hr h1 (by assumption))
  · exact hs
theorem step_length (from_ to : Int) (s : List Rg × Int) (r : Rg) : (stepR from_ to s r).1.length ≤ s.1.length + 1 := by
  unfold stepR
  simp only
  split
  · exact addR_length _ _
  · omega
theorem steps_ok {from_ to : Int} (h1 : 1 ≤ to) : ∀ {l : List Rg} {s : List Rg × Int}, (∀ x ∈ s.1, x.Ok) → (∀ r ∈ l, r.Ok) → ∀ x ∈ (l.foldl (stepR from_ to) s).1, x.Ok
  | [], _, hs, _ => hs
  | r :: l, s, hs, hl => steps_ok h1 (l := l) (step_ok hs (hl r (by simp)) h1) fun x hx => hl x (by simp [hx])
theorem steps_length (from_ to : Int) : ∀ (l : List Rg) (s : List Rg × Int), (l.foldl (stepR from_ to) s).1.length ≤ s.1.length + l.length
  | [], _ => by simp
  | r :: l, s => by
    have := steps_length from_ to l (stepR from_ to s r)
    have := step_length from_ to s r
    simp only [List.foldl_cons, List.length_cons]
    omega
theorem steps_num (from_ to : Int) (h : 0 ≤ from_) (h2 : to ≤ 1048576) : ∀ (l : List Rg) (s : List Rg × Int), s.2 ≤ (l.foldl (stepR from_ to) s).2 ∧ (l.foldl (stepR from_ to) s).2 ≤ s.2 + l.length * 1048576
  | [], _ => by simp
  | r :: l, s => by
    have := steps_num from_ to h h2 l (stepR from_ to s r)
    have e : (stepR from_ to s r).2 = s.2 + gotR r from_ to := rfl
    have e2 : 0 ≤ gotR r from_ to ∧ gotR r from_ to ≤ 1048576 := by unfold gotR; omega
    simp only [List.foldl_cons, List.length_cons]
    rw [e] at this
    omega
theorem take_fold {α β : Type} [Inhabited α] (f : β → α → β) (l : List α) (s : β) (i : Nat) (h : i < l.length) : (l.take (i + 1)).foldl f s = f ((l.take i).foldl f s) (Cof.get l i) := by
  have e : l.take (i + 1) = l.take i ++ [Cof.get l i] := by
    rw [List.take_succ_eq_append_getElem h]
    unfold Cof.get
    rw [Int.toNat_natCast, List.getD_eq_getElem?_getD, List.getElem?_eq_getElem h]
    rfl
  rw [e, List.foldl_append]
  rfl
theorem app_len {α : Type} (l : List α) (x : α) : (l ++ [x]).length = l.length + 1 := by simp
end Go.Proofs.Ytalkcemelegohaa.Vm
