/- Address spaces: what may be; program and reference. Address spaces: Check, the program's. Address spaces: the heap, by the document. Address spaces: Check, the document's; it is the program's. -/
import Derived.Test.YtalkcemelegohaaVmB
import Derived.Test.YtalkcemelegohaaVmRe
import Derived.Test.YtalkcemelegohaaVmPa
set_option linter.unusedVariables false
set_option maxRecDepth 100000
namespace Go.Proofs.Ytalkcemelegohaa
open Go.RowKit Go.Cof
open Vm (Rg encRg rgV checkE prm lastR)

abbrev iV (x : Int) : Value := .int .i64 x
abbrev uV (x : Int) : Value := .int .u64 x
abbrev bV (x : Int) : Value := .int .u8 x
def lowP (p n : Int) : Prop := 1 ≤ n ∧ n ≤ 64 ∧ 1 ≤ p ∧ p ≤ 524288 - n
instance (p n : Int) : Decidable (lowP p n) := inferInstanceAs (Decidable (_ ∧ _))
theorem perms_spec (m : Int) : FnC Try.prog 35 [bV m] (fun _ => True) (.bool (prm m)) := by
  unfold prm
  refine Ctr.intro Try.func35 rfl rfl (by decide +kernel) fun F hpre => ?_
  repeat' (first | (refine XL_id ?_; first | refine XL_nil ?_ | refine XL_guard_yes rfl rfl rfl ?_ | refine XL_guard_no rfl rfl rfl rfl rfl ?_ | (refine XL_op tt_ok rfl rfl ?_; try (refine XL_dec (fun _ => ?_) (fun _ => ?_)))) | (refine X_id ?_; first | refine X_seq ?_ | (refine X_regionN (by repeat' (exact .nil)) ?_) | refine X_ret ?_) | (refine Y_id ?_; refine Y_then ?_))
  all_goals (refine Y_fn1 rfl rfl ?_)
  all_goals (first | exact bool_t (by omega) | exact bool_f (by omega))
theorem qperm_spec (m : Int) : FnC Try.prog 75 [bV m] (fun _ => True) (.bool (prm m)) := by
  unfold prm
  refine Ctr.intro Try.func75 rfl rfl (by decide +kernel) fun F hpre => ?_
  repeat' (first | (refine XL_id ?_; first | refine XL_nil ?_ | refine XL_guard_yes rfl rfl rfl ?_ | refine XL_guard_no rfl rfl rfl rfl rfl ?_ | (refine XL_op tt_ok rfl rfl ?_; try (refine XL_dec (fun _ => ?_) (fun _ => ?_)))) | (refine X_id ?_; first | refine X_seq ?_ | (refine X_regionN (by repeat' (exact .nil)) ?_) | refine X_ret ?_) | (refine Y_id ?_; refine Y_then ?_))
  all_goals (refine Y_fn1 rfl rfl ?_)
  all_goals (first | exact bool_t (by omega) | exact bool_f (by omega))
theorem low_spec (p n : Int) (h0 : -9223372036854775808 ≤ n) (h1 : n ≤ 9223372036854775807) : FnC Try.prog 34 [iV p, iV n] (fun _ => True) (.bool (decide (lowP p n))) := by
  unfold lowP
  refine Ctr.intro Try.func34 rfl rfl (by decide +kernel) fun F hpre => ?_
  repeat' (first | (refine XL_id ?_; first | refine XL_nil ?_ | refine XL_guard_yes rfl rfl rfl ?_ | refine XL_guard_no rfl rfl rfl rfl rfl ?_ | (refine XL_op tt_ok rfl rfl ?_; try (first | refine XL_int (wrap_i64 (by omega) (by omega)) ?_ | refine XL_dec (fun _ => ?_) (fun _ => ?_)))) | (refine X_id ?_; first | refine X_seq ?_ | (refine X_regionN (by repeat' (exact .nil)) ?_) | refine X_ret ?_) | (refine Y_id ?_; refine Y_then ?_))
  all_goals (refine Y_fn1 rfl rfl ?_)
  all_goals (first | exact bool_t (by omega) | exact bool_f (by omega))
theorem made_spec (A : Option Addr) (m c : Nat) (h e : Int) : FnC Try.prog 39 [.slice A m c, iV h, iV e] (fun _ => True) (if e = 0 then .tuple #[.agg #[.slice A m c, iV h], iV 0] else .tuple #[.agg #[.slice none 0 0, iV 0], iV e]) := by
  refine Ctr.intro Try.func39 rfl rfl (by decide +kernel) fun F hpre => ?_
  repeat' (first | (refine XL_id ?_; first | refine XL_nil ?_ | (refine XG_build ?_; (refine XL_build tt_ok rfl rfl rfl rfl rfl rfl rfl ?_; refine XL_aggN (by repeat' (first | exact .nil | apply NL.cons)) ?_)) | (refine XG_alloc ?_; (refine XL_alloc tt_ok rfl rfl (fun _ => rfl) (fun b => ?_); refine XL_nB (by repeat' (first | exact .nil | apply NL.cons)) ?_)) | (refine XG_store ?_; (refine XL_storeW tt_ok 0 rfl rfl rfl rfl rfl rfl rfl ?_; refine XL_nK 0 rfl (by repeat' (first | exact .nil | apply NL.cons)) ?_)) | (refine XL_op tt_ok rfl rfl ?_; try (refine XL_dec (fun _ => ?_) (fun _ => ?_)))) | (refine X_id ?_; first | refine X_seq ?_ | (refine X_regionN (by repeat' (first | exact .nil | apply NL.cons)) ?_) | refine X_skip ?_ | refine X_ret ?_ | refine X_cond_t rfl ?_ | refine X_cond_f rfl ?_) | (refine Y_id ?_; first | refine Y_then ?_ | refine Y_then_ret ?_))
  all_goals first
    | exact Y_res2 rfl (.cell tt_ok 0 rfl rfl rfl rfl rfl) (.tmp rfl) (L' := []) (fun _ _ => trivial) ⟨by rw [if_pos (by omega)]; rfl, rfl⟩
    | exact Y_res2 rfl (.cell tt_ok 0 rfl rfl rfl rfl rfl) (.tmp rfl) (L' := []) (fun _ _ => trivial) ⟨by rw [if_neg (by omega)]; rfl, rfl⟩
    | skip
  
theorem qlow_spec (p n : Int) (h0 : -9223372036854775808 ≤ n) (h1 : n ≤ 9223372036854775807) : FnC Try.prog 74 [iV p, iV n] (fun _ => True) (.bool (decide (lowP p n))) := by
  unfold lowP
  refine Ctr.intro Try.func74 rfl rfl (by decide +kernel) fun F hpre => ?_
  repeat' (first | (refine XL_id ?_; first | refine XL_nil ?_ | refine XL_guard_yes rfl rfl rfl ?_ | refine XL_guard_no rfl rfl rfl rfl rfl ?_ | (refine XG_call ?_; (refine XL_fn (Vm.within_spec _ _ _) rfl rfl (fun _ _ _ => trivial) ?_; refine XL_dec (fun _ => ?_) (fun _ => ?_))) | (refine XL_op tt_ok rfl rfl ?_; try (refine XL_int (wrap_i64 (by omega) (by omega)) ?_))) | (refine X_id ?_; first | refine X_seq ?_ | (refine X_regionN (by repeat' (exact .nil)) ?_) | refine X_ret ?_) | (refine Y_id ?_; refine Y_then ?_))
  all_goals first
    | exact Y_fn1 rfl rfl (bool_t (by omega))
    | exact Y_fn1 rfl rfl (bool_f (by omega))
    | skip
  
theorem with_spec (A : Option Addr) (m c : Nat) (h e : Int) : FnC Try.prog 78 [.slice A m c, iV h, iV e] (fun _ => True) (if e = 0 then .tuple #[.agg #[.slice A m c, iV h], iV 0] else .tuple #[.agg #[.slice none 0 0, iV 0], iV e]) := by
  refine Ctr.intro Try.func78 rfl rfl (by decide +kernel) fun F hpre => ?_
  repeat' (first | (refine XL_id ?_; first | refine XL_nil ?_ | (refine XG_build ?_; (refine XL_build tt_ok rfl rfl rfl rfl rfl rfl rfl ?_; refine XL_aggN (by repeat' (first | exact .nil | apply NL.cons)) ?_)) | (refine XG_alloc ?_; (refine XL_alloc tt_ok rfl rfl (fun _ => rfl) (fun b => ?_); refine XL_nB (by repeat' (first | exact .nil | apply NL.cons)) ?_)) | (refine XG_store ?_; (refine XL_storeW tt_ok 0 rfl rfl rfl rfl rfl rfl rfl ?_; refine XL_nK 0 rfl (by repeat' (first | exact .nil | apply NL.cons)) ?_)) | (refine XL_op tt_ok rfl rfl ?_; try (refine XL_dec (fun _ => ?_) (fun _ => ?_)))) | (refine X_id ?_; first | refine X_seq ?_ | (refine X_regionN (by repeat' (first | exact .nil | apply NL.cons)) ?_) | refine X_skip ?_ | refine X_ret ?_ | refine X_cond_t rfl ?_ | refine X_cond_f rfl ?_) | (refine Y_id ?_; first | refine Y_then ?_ | refine Y_then_ret ?_))
  all_goals first
    | exact Y_res2 rfl (.cell tt_ok 0 rfl rfl rfl rfl rfl) (.tmp rfl) (L' := []) (fun _ _ => trivial) ⟨by rw [if_pos (by omega)]; rfl, rfl⟩
    | exact Y_res2 rfl (.cell tt_ok 0 rfl rfl rfl rfl rfl) (.tmp rfl) (L' := []) (fun _ _ => trivial) ⟨by rw [if_neg (by omega)]; rfl, rfl⟩
    | skip
  
end Go.Proofs.Ytalkcemelegohaa
set_option linter.unusedVariables false
set_option maxRecDepth 100000
namespace Go.Proofs.Ytalkcemelegohaa
open Go.RowKit Go.Cof
open Vm (Rg encRg rgV checkE prm lastR)

/-- The pages of the heap, by the last region. -/
def heapL (l : List Rg) : Int := if l.length = 0 then 0 else if 0 ≤ (lastR l).end - 524288 then (lastR l).end - 524288 else 0
def scheck (l : List Rg) (h : Int) : Int :=
  if checkE l ≠ 0 then checkE l else if h < 0 ∨ 1024 < h then 2 else
  if 0 < heapL l ∧ (524288 < (lastR l).p ∨ (lastR l).m ≠ 3) then 2 else if heapL l = h then 0 else 2
theorem scheck_none {l : List Rg} {h : Int} (hz : checkE l = 0) (h0 : l.length = 0) : scheck l h = if h = 0 then 0 else 2 := by
  unfold scheck heapL
  rw [if_neg (by omega), if_pos h0]
  by_cases h1 : h < 0 ∨ 1024 < h
  · rw [if_pos h1, if_neg (by omega)]
  · rw [if_neg h1, if_neg (by omega)]
    by_cases h2 : h = 0
    · rw [if_pos h2, if_pos h2.symm]
    · rw [if_neg h2, if_neg fun e => h2 e.symm]
theorem scheck_some {l : List Rg} {h k : Int} {x : Rg} {m : Nat} (hz : checkE l = 0) (hm : l.length = m) (h0 : 0 < m) (hx : Cof.get l ((m : Int) - 1) = x) (hk : k = if 0 ≤ x.p + x.n - 524288 then x.p + x.n - 524288 else 0) :
    scheck l h = if h < 0 ∨ 1024 < h then 2 else if 0 < k ∧ (524288 < x.p ∨ x.m ≠ 3) then 2 else if k = h then 0 else 2 := by
  have e1 : lastR l = x := by unfold lastR; rw [hm, hx]
  have e2 : heapL l = k := by
    unfold heapL
    rw [if_neg (by omega), e1, hk]; rfl
  unfold scheck
  rw [if_neg (show ¬ checkE l ≠ 0 by omega), e2, e1]
set_option maxHeartbeats 4000000 in
theorem scheck_spec (A : Option Addr) (m c : Nat) (l : List Rg) (h : Int) (hm : m ≤ 9223372036854775807) (hl : ∀ r ∈ l, r.In) :
    FnC Try.prog 14 [.agg #[.slice A m c, iV h]] (fun g => rdS encRg g A m l) (iV (scheck l h)) := by
  have hc := Vm.check_spec A m c l hm hl
  refine Ctr.intro Try.func14 rfl rfl (by decide +kernel) fun F hpre => ?_
  have r1 : rdS encRg F.heap A m l := hpre
  have hlen := r1.1
  by_cases hz : checkE l = 0
  · have gd := Vm.checkE_good hz
    rw [hz] at hc
    by_cases h0 : 0 < m
    · have hx := gd.2 _ (Vm.get_mem (l := l) (i := (m : Int) - 1) (by omega) (by omega))
      have k1 := hx.p; have k2 := hx.n; have k3 := hx.e
      have ke : (Cof.get l ((m : Int) - 1)).end = (Cof.get l ((m : Int) - 1)).p + (Cof.get l ((m : Int) - 1)).n := rfl
      by_cases hb : (Cof.get l ((m : Int) - 1)).p + (Cof.get l ((m : Int) - 1)).n - 524288 > 0
      · have e := scheck_some (h := h) (k := (Cof.get l ((m : Int) - 1)).p + (Cof.get l ((m : Int) - 1)).n - 524288) hz (by omega) h0 rfl (by rw [if_pos (by omega)])
        repeat' (first | (refine XL_id ?_; first | refine XL_nil ?_ | refine XL_guard_yes rfl rfl rfl ?_ | refine XL_guard_no rfl rfl rfl rfl rfl ?_ | (refine XG_load ?_; first | refine XL_load tt_ok 0 rfl rfl rfl rfl rfl rfl ?_ | refine XL_load tt_ok 1 rfl rfl rfl rfl rfl rfl ?_ | refine XL_elW tt_ok rfl (by assumption) rfl (by omega) (by omega) rfl rfl rfl rfl ?_) | (refine XG_idx ?_; refine XL_idx tt_ok rfl rfl rfl rfl rfl (by assumption) (by omega) (by omega) rfl ?_) | (refine XG_box ?_; (refine XL_box rfl (fun _ => rfl) (fun _ => ?_); refine XL_nB (by repeat' (first | exact .nil | apply NL.cons)) ?_)) | (refine XG_call ?_; first | (refine XL_op tt_ok rfl rfl ?_; refine XL_int (if_pos hb) ?_) | (refine XL_op tt_ok rfl rfl ?_) | refine XL_fn hc rfl rfl (fun g hg _ => r1.le hg) ?_) | (refine XG_alloc ?_; (refine XL_alloc tt_ok rfl rfl (fun _ => rfl) (fun b => ?_); refine XL_nB (by repeat' (first | exact .nil | apply NL.cons)) ?_)) | (refine XG_store ?_; (refine XL_storeW tt_ok 0 rfl rfl rfl rfl rfl rfl rfl ?_; refine XL_nK 0 rfl (by repeat' (first | exact .nil | apply NL.cons)) ?_)) | (refine XL_op tt_ok rfl rfl ?_; try (first | refine XL_int (wrap_i64 (by omega) (by omega)) ?_ | refine XL_dec_t (by omega) ?_ | refine XL_dec_f (by omega) ?_ | refine XL_dec (fun _ => ?_) (fun _ => ?_)))) | (refine X_id ?_; first | refine X_seq ?_ | (refine X_regionN (by repeat' (first | exact .nil | apply NL.cons)) ?_) | refine X_skip ?_ | refine X_ret ?_ | refine X_cond_t rfl ?_ | refine X_cond_f rfl ?_) | (refine Y_id ?_; first | refine Y_then ?_ | refine Y_then_ret ?_))
        all_goals first
          | exact Y_fn1 rfl rfl (by rw [e]; (repeat' split) <;> first | rfl | (exfalso; omega))
          | (exfalso; omega)
          | skip
        
      · have e := scheck_some (h := h) (k := 0) hz (by omega) h0 rfl (by split <;> omega)
        repeat' (first | (refine XL_id ?_; first | refine XL_nil ?_ | refine XL_guard_yes rfl rfl rfl ?_ | refine XL_guard_no rfl rfl rfl rfl rfl ?_ | refine XL_guard_nou rfl rfl rfl rfl ?_ | (refine XG_load ?_; first | refine XL_load tt_ok 0 rfl rfl rfl rfl rfl rfl ?_ | refine XL_load tt_ok 1 rfl rfl rfl rfl rfl rfl ?_ | refine XL_elW tt_ok rfl (by assumption) rfl (by omega) (by omega) rfl rfl rfl rfl ?_) | (refine XG_idx ?_; refine XL_idx tt_ok rfl rfl rfl rfl rfl (by assumption) (by omega) (by omega) rfl ?_) | (refine XG_box ?_; (refine XL_box rfl (fun _ => rfl) (fun _ => ?_); refine XL_nB (by repeat' (first | exact .nil | apply NL.cons)) ?_)) | (refine XG_call ?_; first | (refine XL_op tt_ok rfl rfl ?_; refine XL_int (if_neg hb) ?_) | (refine XL_op tt_ok rfl rfl ?_) | refine XL_fn hc rfl rfl (fun g hg _ => r1.le hg) ?_) | (refine XG_alloc ?_; (refine XL_alloc tt_ok rfl rfl (fun _ => rfl) (fun b => ?_); refine XL_nB (by repeat' (first | exact .nil | apply NL.cons)) ?_)) | (refine XG_store ?_; (refine XL_storeW tt_ok 0 rfl rfl rfl rfl rfl rfl rfl ?_; refine XL_nK 0 rfl (by repeat' (first | exact .nil | apply NL.cons)) ?_)) | (refine XL_op tt_ok rfl rfl ?_; try (first | refine XL_int (wrap_i64 (by omega) (by omega)) ?_ | refine XL_dec_t (by omega) ?_ | refine XL_dec_f (by omega) ?_ | refine XL_dec (fun _ => ?_) (fun _ => ?_)))) | (refine X_id ?_; first | refine X_seq ?_ | (refine X_regionN (by repeat' (first | exact .nil | apply NL.cons)) ?_) | refine X_skip ?_ | refine X_ret ?_ | refine X_cond_t rfl ?_ | refine X_cond_f rfl ?_) | (refine Y_id ?_; first | refine Y_then ?_ | refine Y_then_ret ?_))
        all_goals first
          | exact Y_fn1 rfl rfl (by rw [e]; (repeat' split) <;> first | rfl | (exfalso; omega))
          | (exfalso; omega)
          | skip
        
    · have e := scheck_none (h := h) hz (by omega)
      repeat' (first | (refine XL_id ?_; first | refine XL_nil ?_ | refine XL_guard_yes rfl rfl rfl ?_ | refine XL_guard_no rfl rfl rfl rfl rfl ?_ | (refine XG_load ?_; refine XL_load tt_ok 0 rfl rfl rfl rfl rfl rfl ?_) | (refine XG_box ?_; (refine XL_box rfl (fun _ => rfl) (fun _ => ?_); refine XL_nB (by repeat' (first | exact .nil | apply NL.cons)) ?_)) | (refine XG_call ?_; first | (refine XL_op tt_ok rfl rfl ?_) | refine XL_fn hc rfl rfl (fun g hg _ => r1.le hg) ?_) | (refine XL_op tt_ok rfl rfl ?_; try (first | refine XL_dec_f (by omega) ?_ | refine XL_dec (fun _ => ?_) (fun _ => ?_)))) | (refine X_id ?_; first | refine X_seq ?_ | (refine X_regionN (by repeat' (first | exact .nil | apply NL.cons)) ?_) | refine X_skip ?_ | refine X_ret ?_ | refine X_cond_t rfl ?_ | refine X_cond_f rfl ?_) | (refine Y_id ?_; first | refine Y_then ?_ | refine Y_then_ret ?_))
      all_goals first
        | exact Y_fn1 rfl rfl (by rw [e]; (repeat' split) <;> first | rfl | (exfalso; omega))
        | (exfalso; omega)
        | skip
      
  · have e : scheck l h = checkE l := by unfold scheck; rw [if_pos hz]
    repeat' (first | (refine XL_id ?_; first | refine XL_nil ?_ | (refine XG_load ?_; refine XL_load tt_ok 0 rfl rfl rfl rfl rfl rfl ?_) | (refine XG_box ?_; (refine XL_box rfl (fun _ => rfl) (fun _ => ?_); refine XL_nB (by repeat' (first | exact .nil | apply NL.cons)) ?_)) | (refine XG_call ?_; refine XL_fn hc rfl rfl (fun g hg _ => r1.le hg) ?_) | (refine XL_op tt_ok rfl rfl ?_; try (refine XL_dec_t (by omega) ?_))) | (refine X_id ?_; first | refine X_seq ?_ | (refine X_regionN (by repeat' (first | exact .nil | apply NL.cons)) ?_) | refine X_ret ?_ | refine X_cond_t rfl ?_) | (refine Y_id ?_; first | refine Y_then ?_ | refine Y_then_ret ?_))
    all_goals first
      | exact Y_fn1 rfl rfl (by rw [e])
      | (exfalso; omega)
      | skip
    
end Go.Proofs.Ytalkcemelegohaa
set_option linter.unusedVariables false
set_option maxRecDepth 100000
namespace Go.Proofs.Ytalkcemelegohaa
open Go.RowKit Go.Cof
open Vm (Rg encRg rgV checkE prm lastR)

def heapR : List Rg → Int → Int
  | [], n => n
  | r :: l, n => if r.end ≤ 524288 then heapR l n else if 524288 < r.p ∨ r.m ≠ 3 ∨ n > 0 then -1 else heapR l (r.end - 524288)
theorem heapR_at {l : List Rg} {i : Nat} (hi : i < l.length) (n : Int) : heapR (l.drop i) n = if (Cof.get l (i : Int)).end ≤ 524288 then heapR (l.drop (i + 1)) n else if 524288 < (Cof.get l (i : Int)).p ∨ (Cof.get l (i : Int)).m ≠ 3 ∨ n > 0 then -1 else heapR (l.drop (i + 1)) ((Cof.get l (i : Int)).end - 524288) := by
  rw [Vm.drop_get l i hi]; rfl
set_option maxHeartbeats 4000000 in
theorem qheap_spec (A : Option Addr) (m c : Nat) (l : List Rg) (hm : m ≤ 9223372036854775806) (hl : ∀ r ∈ l, r.Ok) :
    FnC Try.prog 43 [.slice A m c] (fun g => rdS encRg g A m l) (iV (heapR l 0)) := by
  refine Ctr.intro Try.func43 rfl rfl (by decide +kernel) fun F hpre => ?_
  have r1 : rdS encRg F.heap A m l := hpre
  have hlen := r1.1
  repeat' (first | (refine XL_id ?_; first | refine XL_nil ?_ | (refine XL_op tt_ok rfl rfl ?_)) | (refine X_id ?_; first | refine X_seq ?_ | (refine X_regionN (by repeat' (exact .nil)) ?_) | refine X_block ?_) | (refine Y_id ?_; refine Y_then ?_))
  refine X_loopD2 [0] (fun (i : Nat) (n : Int) => [(3, .int .i64 n), (4, .int .i64 i)]) (fun _ _ => []) (fun i n => i ≤ m ∧ 0 ≤ n ∧ heapR (l.drop i) n = heapR l 0) (fun i _ => m - i) 0 0 rfl ⟨Nat.zero_le _, Int.le_refl _, rfl⟩ (by (repeat' (first | exact trivial | refine And.intro rfl ?_)); done) (fun _ h => h) ?_
  intro i n hi
  obtain ⟨hi, hn, hx⟩ := hi
  by_cases hlt : i < m
  · have hr := hl _ (Vm.get_mem (l := l) (i := (i : Int)) (by omega) (by omega))
    have k1 := hr.p; have k2 := hr.n; have k3 := hr.e
    have ee : (Cof.get l (i : Int)).end = (Cof.get l (i : Int)).p + (Cof.get l (i : Int)).n := rfl
    have hs := heapR_at (l := l) (i := i) (by omega) n
    rw [hx] at hs
    repeat' (first | (refine XL_id ?_; first | refine XL_nil ?_ | refine XL_guard_yes rfl rfl rfl ?_ | refine XL_guard_no rfl rfl rfl rfl rfl ?_ | (refine XG_load ?_; first | refine XL_el tt_ok rfl (by assumption) rfl (by omega) (by omega) rfl rfl rfl rfl ?_ | refine XL_elf tt_ok rfl (by assumption) rfl (by omega) (by omega) rfl rfl rfl rfl ?_) | (refine XG_idx ?_; refine XL_idx tt_ok rfl rfl rfl rfl rfl (by assumption) (by omega) (by omega) rfl ?_) | (refine XL_op tt_ok rfl rfl ?_; try (first | refine XL_int (wrap_i64 (by omega) (by omega)) ?_ | refine XL_dec_t (by omega) ?_ | refine XL_dec (fun _ => ?_) (fun _ => ?_)))) | (refine XD_id ?_; first | (refine XD_thaw thaw ?_; refine XD_nil ?_) | (refine XD_id ?_; (first | (refine XD_uL rfl ?_; first | refine XD_s rfl rfl rfl (XV_el tt_ok rfl (rdS.le (by assumption) hFG) rfl (by omega) (by omega) rfl rfl rfl) rfl ?_ | refine XD_s rfl rfl rfl (XV_elf tt_ok rfl (rdS.le (by assumption) hFG) rfl (by omega) (by omega) rfl rfl rfl) rfl ?_) | (refine XD_uI rfl ?_; refine XD_s rfl rfl rfl (XV_idx tt_ok rfl rfl rfl rfl rfl (rdS.le (by assumption) hFG) (by omega) (by omega)) rfl ?_) | (refine XD_u rfl rfl ?_; refine XD_s rfl rfl rfl (XV_op tt_ok rfl) rfl ?_)); try (refine XD_int (wrap_i64 (by omega) (by omega)) ?_))) | (refine X_id ?_; first | (refine X_drawS (id := 5) [0, 1, 2, 3, 4, 5, 6, 7, 8, 9, 10, 11] (fun _ => .s) 8 (by repeat' (exact Split.nil)) mixed (by decide +kernel) ?_; intro G hFG hM thaw; show XD _ _ _ _ _ _ [0, 1, 2, 3, 4, 5, 6, 7, 8, 9, 10, 11] _ _ _) | refine X_seq ?_ | (refine X_regionN (by repeat' (exact .nil)) ?_) | refine X_skip ?_ | refine X_ret ?_ | refine X_exit ?_ | refine X_block ?_ | refine X_cond_t rfl ?_ | refine X_cond_f rfl ?_) | (refine Y_id ?_; first | refine Y_then ?_ | refine Y_then_ret ?_ | refine Y_then_exit ?_ | refine Y_block_hit ?_ | refine Y_block_normal ?_ | refine Y_block_ret ?_))
    all_goals first
      | exact Y_fn1 rfl rfl (by rw [hs, if_neg (by omega), if_pos (by omega)])
      | exact Y_again (i + 1, n) fun _ _ hf hs2 => ⟨⟨by show i + 1 ≤ m; omega, hn, by show heapR (l.drop (i + 1)) n = _; rw [hs, if_pos (by omega)]⟩, by show m - (i + 1) < m - i; omega, hf.sub (by (repeat' (first | exact trivial | refine And.intro rfl ?_)); done), hs2.imp fun _ _ => trivial⟩
      | exact Y_again (i + 1, (Cof.get l (i : Int)).p + (Cof.get l (i : Int)).n - 524288) fun _ _ hf hs2 => ⟨⟨by show i + 1 ≤ m; omega, by show 0 ≤ (Cof.get l (i : Int)).p + (Cof.get l (i : Int)).n - 524288; omega, by show heapR (l.drop (i + 1)) ((Cof.get l (i : Int)).p + (Cof.get l (i : Int)).n - 524288) = _; rw [hs, if_neg (by omega), if_neg (by omega), ee]⟩, by show m - (i + 1) < m - i; omega, hf.sub (by (repeat' (first | exact trivial | refine And.intro rfl ?_)); done), hs2.imp fun _ _ => trivial⟩
      | (exfalso; omega)
      | skip
    
  · have e : heapR l 0 = n := by rw [← hx, List.drop_eq_nil_of_le (by omega)]; rfl
    repeat' (first | (refine XL_id ?_; first | refine XL_nil ?_ | (refine XL_op tt_ok rfl rfl ?_; try (refine XL_dec_f (by omega) ?_))) | (refine X_id ?_; first | refine X_seq ?_ | (refine X_regionN (by repeat' (exact .nil)) ?_) | refine X_ret ?_ | refine X_exit ?_ | refine X_cond_f rfl ?_) | (refine Y_id ?_; first | refine Y_then ?_ | refine Y_then_exit ?_ | refine Y_block_hit ?_))
    all_goals first
      | exact Y_fn1 rfl rfl (by rw [e])
      | skip
    
end Go.Proofs.Ytalkcemelegohaa
set_option linter.unusedVariables false
set_option maxRecDepth 100000
namespace Go.Proofs.Ytalkcemelegohaa
open Go.RowKit Go.Cof
open Vm (Rg encRg rgV checkE prm lastR Fol Good)

theorem heapR_low {l : List Rg} {s : List Rg} {n : Int} (h : ∀ r ∈ l, r.end ≤ 524288) : heapR (l ++ s) n = heapR s n := by
  induction l with
  | nil => rfl
  | cons r l ih =>
    show (if r.end ≤ 524288 then heapR (l ++ s) n else _) = _
    rw [if_pos (h r (List.mem_cons_self ..))]
    exact ih fun a ha => h a (List.mem_cons_of_mem _ ha)
theorem heapR_high {x : Rg} (h : 524288 < x.p) (he : 524288 < x.end) : ∀ (l : List Rg) (n : Int), heapR (l ++ [x]) n = -1 := by
  intro l
  induction l with
  | nil => intro n; show (if x.end ≤ 524288 then _ else if 524288 < x.p ∨ _ then _ else _) = _; rw [if_neg (by omega), if_pos (.inl h)]
  | cons r l ih =>
    intro n
    show (if r.end ≤ 524288 then heapR (l ++ [x]) n else if _ then -1 else heapR (l ++ [x]) _) = -1
    rw [ih, ih]; split
    · rfl
    · split <;> rfl
theorem lastR_snoc (l : List Rg) (x : Rg) : lastR (l ++ [x]) = x := by
  unfold lastR
  rw [List.length_append, show (((l.length + [x].length : Nat) : Int) - 1) = (l.length : Nat) from by simp, Vm.get_eq (by simp)]
  simp
theorem scheck_doc {l : List Rg} (hz : checkE l = 0) (h : Int) : scheck l h = if (0 ≤ h ∧ h ≤ 1024) ∧ heapR l 0 = h then 0 else 2 := by
  have hg := Good.of_check hz
  unfold scheck
  rw [if_neg (by omega)]
  by_cases hr : h < 0 ∨ 1024 < h
  · rw [if_pos hr, if_neg (by omega)]
  · rw [if_neg hr]
    rcases List.eq_nil_or_concat l with rfl | ⟨l, x, rfl⟩
    · rw [show heapL [] = 0 from rfl, show heapR [] 0 = 0 from rfl, if_neg (by omega)]
      by_cases h2 : (0 : Int) = h
      · rw [if_pos h2, if_pos (by omega)]
      · rw [if_neg h2, if_neg (by omega)]
    · rw [List.concat_eq_append] at hg ⊢
      have hx := hg.ok x (by simp)
      have q1 := hx.p; have q2 := hx.n
      have ee : x.end = x.p + x.n := rfl
      have hL : heapL (l ++ [x]) = if 0 ≤ x.end - 524288 then x.end - 524288 else 0 := by
        unfold heapL; rw [if_neg (by simp), lastR_snoc]
      rw [hL, lastR_snoc]
      by_cases hp : 524288 < x.p
      · rw [heapR_high hp (by omega), if_pos (by rw [if_pos (by omega)]; omega), if_neg (by omega)]
      · have hlow : ∀ r ∈ l, r.end ≤ 524288 := fun r hr => by
          have := (List.pairwise_append.1 hg.pw).2.2 r hr x (by simp)
          unfold Fol at this
          omega
        rw [heapR_low hlow]
        have e1 : heapR [x] 0 = if x.end ≤ 524288 then 0 else if 524288 < x.p ∨ x.m ≠ 3 ∨ (0 : Int) > 0 then -1 else x.end - 524288 := rfl
        rw [e1]
        by_cases he : x.end ≤ 524288
        · rw [if_pos he]
          have e2 : (if 0 ≤ x.end - 524288 then x.end - 524288 else 0) = 0 := by split <;> omega
          rw [e2, if_neg (by omega)]
          by_cases h2 : (0 : Int) = h
          · rw [if_pos h2, if_pos (by omega)]
          · rw [if_neg h2, if_neg (by omega)]
        · rw [if_neg he, if_pos (show 0 ≤ x.end - 524288 by omega)]
          by_cases h3 : x.m = 3
          · have e4 : (if 524288 < x.p ∨ x.m ≠ 3 ∨ (0 : Int) > 0 then (-1 : Int) else x.end - 524288) = x.end - 524288 := if_neg (by omega)
            rw [e4, if_neg (show ¬ (0 < x.end - 524288 ∧ (524288 < x.p ∨ x.m ≠ 3)) by omega)]
            by_cases h2 : x.end - 524288 = h
            · rw [if_pos h2, if_pos (by omega)]
            · rw [if_neg h2, if_neg (by omega)]
          · have e4 : (if 524288 < x.p ∨ x.m ≠ 3 ∨ (0 : Int) > 0 then (-1 : Int) else x.end - 524288) = -1 := if_pos (by omega)
            rw [e4, if_pos (show 0 < x.end - 524288 ∧ (524288 < x.p ∨ x.m ≠ 3) by omega), if_neg (by omega)]
set_option maxHeartbeats 4000000 in
theorem qcheck_spec (A : Option Addr) (m c : Nat) (l : List Rg) (h : Int) (hm : m ≤ 9223372036854775807) (hl : ∀ r ∈ l, r.In) :
    FnC Try.prog 15 [.agg #[.slice A m c, iV h]] (fun g => rdS encRg g A m l) (iV (scheck l h)) := by
  have hc := Vm.rcheck_spec A m c l hm hl
  refine Ctr.intro Try.func15 rfl rfl (by decide +kernel) fun F hpre => ?_
  have r1 : rdS encRg F.heap A m l := hpre
  have hlen := r1.1
  by_cases hz : checkE l = 0
  · have gd := Vm.checkE_good hz
    rw [hz] at hc
    have e := scheck_doc hz h
    have hq := qheap_spec A m c l (by omega) gd.2
    repeat' (first | (refine XL_id ?_; first | refine XL_nil ?_ | refine XL_guard_yes rfl rfl rfl ?_ | (refine XG_load ?_; refine XL_load tt_ok 0 rfl rfl rfl rfl rfl rfl ?_) | (refine XG_box ?_; (refine XL_box rfl (fun _ => rfl) (fun _ => ?_); refine XL_nB (by repeat' (first | exact .nil | apply NL.cons)) ?_)) | (refine XG_call ?_; first | refine XL_fn hc rfl rfl (fun g hg _ => r1.le hg) ?_ | (refine XL_fn (Vm.within_spec _ _ _) rfl rfl (fun _ _ _ => trivial) ?_; refine XL_dec (fun _ => ?_) (fun _ => ?_)) | refine XL_fn hq rfl rfl (fun g hg _ => r1.le (hFG.trans hg)) ?_) | (refine XL_op tt_ok rfl rfl ?_; try (refine XL_dec_f (by omega) ?_))) | (refine XD_id ?_; first | (refine XD_thaw thaw ?_; refine XD_nil ?_) | refine XD_no rfl rfl rfl rfl rfl rfl ?_ | (refine XD_id ?_; (first | (refine XD_uL rfl ?_; refine XD_s rfl rfl rfl (XV_load tt_ok rfl (blk_at 0 rfl hM) rfl rfl rfl) rfl ?_) | (refine XD_gL rfl ?_; refine XD_sy rfl rfl rfl rfl rfl (XV_load tt_ok rfl (blk_at 0 rfl hM) rfl rfl rfl) rfl ?_) | (refine XD_u rfl rfl ?_; refine XD_s rfl rfl rfl (XV_op tt_ok rfl) rfl ?_) | (refine XD_g rfl rfl ?_; refine XD_sy rfl rfl rfl rfl rfl (XV_op tt_ok rfl) rfl ?_)); try (refine XD_dec (fun _ => ?_) (fun _ => ?_))) | refine XD_m rfl rfl ?_) | (refine X_id ?_; first | (refine X_drawS (id := 4) [0, 1, 2, 3, 4, 5, 6, 8, 9, 7, 10, 11] (fun | 2 => .m | 7 => .m | _ => .s) 8 (by repeat' (first | exact Split.nil | apply Split.blk)) mixed (by decide +kernel) ?_; intro G hFG hM thaw; show XD _ _ _ _ _ _ [0, 1, 2, 3, 4, 5, 6, 8, 9, 7, 10, 11] _ _ _) | refine X_seq ?_ | (refine X_regionN (by repeat' (first | exact .nil | apply NL.cons)) ?_) | refine X_skip ?_ | refine X_ret ?_ | refine X_cond_t rfl ?_ | refine X_cond_f rfl ?_) | (refine Y_id ?_; first | refine Y_then ?_ | refine Y_then_ret ?_ | refine Y_m ?_))
    all_goals first
      | exact Y_fn1 rfl rfl (by rw [e, if_pos (by omega)])
      | exact Y_fn1 rfl rfl (by rw [e, if_neg (by omega)])
      | (exfalso; omega)
      | skip
    
  · have e : scheck l h = checkE l := by unfold scheck; rw [if_pos hz]
    repeat' (first | (refine XL_id ?_; first | refine XL_nil ?_ | (refine XG_load ?_; refine XL_load tt_ok 0 rfl rfl rfl rfl rfl rfl ?_) | (refine XG_box ?_; (refine XL_box rfl (fun _ => rfl) (fun _ => ?_); refine XL_nB (by repeat' (first | exact .nil | apply NL.cons)) ?_)) | (refine XG_call ?_; refine XL_fn hc rfl rfl (fun g hg _ => r1.le hg) ?_) | (refine XL_op tt_ok rfl rfl ?_; try (refine XL_dec_t (by omega) ?_))) | (refine X_id ?_; first | refine X_seq ?_ | (refine X_regionN (by repeat' (first | exact .nil | apply NL.cons)) ?_) | refine X_ret ?_ | refine X_cond_t rfl ?_) | (refine Y_id ?_; first | refine Y_then ?_ | refine Y_then_ret ?_))
    all_goals first
      | exact Y_fn1 rfl rfl (by rw [e])
      | (exfalso; omega)
      | skip
    
end Go.Proofs.Ytalkcemelegohaa
