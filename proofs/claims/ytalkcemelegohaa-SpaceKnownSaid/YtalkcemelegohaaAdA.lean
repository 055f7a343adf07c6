/- Walks of the addresses: split, join, entries, tables, places, lines, runs; program and reference. Walks, on: entries and tables of a page; runs. Walks: a row of at most one span is sorted; works. -/
import Derived.Test.YtalkcemelegohaaTab
import Derived.Test.YtalkcemelegohaaSlZ
set_option linter.unusedVariables false
set_option maxRecDepth 100000
namespace Go.Proofs.Ytalkcemelegohaa.Ad
open Go.RowKit Go.Cof

abbrev iV (x : Int) : Value := .int .i64 x
abbrev uV (x : Int) : Value := .int .u64 x
abbrev pr2 (a b : Value) : Value := .tuple #[a, b]
abbrev tr3 (a b c : Value) : Value := .tuple #[a, b, c]
theorem shr4 {x : Int} : x / 2 ^ min (Int.toNat 4) IntKind.u64.bits = x / 16 := rfl
theorem shr20 {x : Int} : x / 2 ^ min (Int.toNat 20) IntKind.u64.bits = x / 1048576 := rfl
theorem shr28 {x : Int} : x / 2 ^ min (Int.toNat 28) IntKind.u64.bits = x / 268435456 := rfl
theorem and255 {x : Int} (h0 : 0 ≤ x) (h1 : x < 18446744073709551616) : bits .and .u64 x 255 = x % 256 := and_u64 8 (by decide) rfl h0 h1
theorem and31 {x : Int} (h0 : 0 ≤ x) (h1 : x < 9223372036854775808) : bits .and .i64 x 31 = x % 32 := and_i64 5 (by decide) rfl h0 h1
/-! what is computed -/
def splitF (va : Int) : Int × Int × Int := if va < 268435456 then (va / 256, va % 256, 0) else (0, 0, 10)
def joinF (p o : Int) : Int × Int := if 0 ≤ p ∧ p < 1048576 ∧ 0 ≤ o ∧ o < 256 then (p * 256 + o, 0) else (0, 2)
def pow32 (k : Int) : Int := if k = 0 then 1 else if k = 1 then 32 else if k = 2 then 1024 else if k = 3 then 32768 else 1048576
def lvl (p k : Int) : Prop := 0 ≤ p ∧ p < 1048576 ∧ 0 ≤ k ∧ k < 4
instance (p k : Int) : Decidable (lvl p k) := inferInstanceAs (Decidable (_ ∧ _))
def indexF (p k : Int) : Int × Int := if lvl p k then (p / pow32 k % 32, 0) else (0, 2)
def tableF (p k : Int) : Int × Int := if lvl p k then (p / pow32 (k + 1), 0) else (0, 2)
def placeF (f o : Int) : Int × Int := if 0 ≤ f ∧ f < 4096 ∧ 0 ≤ o ∧ o < 256 then (f * 256 + o, 0) else (0, 2)
def frameF (pa : Int) : Int × Int × Int := if pa < 1048576 then (pa / 256, pa % 256, 0) else (0, 0, 10)
def lineF (pa : Int) : Int × Int := if pa < 1048576 then (pa / 16, 0) else (0, 10)
def runF (va s : Int) : Int × Int × Int := if va < 268435456 then (if 1 ≤ s ∧ s ≤ 8 ∧ va % 256 + s ≤ 256 then (va / 256, va % 256, 0) else (0, 0, 2)) else (0, 0, 10)
abbrev u64In (x : Int) : Prop := 0 ≤ x ∧ x < 18446744073709551616
abbrev i64In (x : Int) : Prop := -9223372036854775808 ≤ x ∧ x ≤ 9223372036854775807
theorem rwithin_spec (x a b : Int) : FnC Try.prog 42 [iV x, iV a, iV b] (fun _ => True) (.bool (decide (a ≤ x ∧ x ≤ b))) := by
  refine Ctr.intro Try.func42 rfl rfl (by decide +kernel) fun F hpre => ?_
  repeat' (first | (refine XL_id ?_; first | refine XL_nil ?_ | refine XL_guard_yes rfl rfl rfl ?_ | refine XL_guard_no rfl rfl rfl rfl rfl ?_ | (refine XL_op tt_ok rfl rfl ?_; try (refine XL_dec (fun _ => ?_) (fun _ => ?_)))) | (refine X_id ?_; first | refine X_seq ?_ | (refine X_regionN (by repeat' (exact .nil)) ?_) | refine X_ret ?_) | (refine Y_id ?_; refine Y_then ?_))
  all_goals first
    | (refine Y_fn1 rfl rfl ?_; first | exact bool_t (by omega) | exact bool_f (by omega))
    | skip
  
theorem split_spec (va : Int) (h : u64In va) : FnC Try.prog 86 [uV va] (fun _ => True) (tr3 (iV (splitF va).1) (iV (splitF va).2.1) (iV (splitF va).2.2)) := by
  obtain ⟨h0, h1⟩ := h
  unfold splitF
  refine Ctr.intro Try.func86 rfl rfl (by decide +kernel) fun F hpre => ?_
  by_cases hc : va < 268435456
  · rw [if_pos hc]
    repeat' (first | (refine XL_id ?_; first | refine XL_nil ?_ | (refine XL_op tt_ok rfl rfl ?_; refine XL_int shr28 ?_) | (refine XL_op tt_ok rfl rfl ?_; refine XL_int (and255 h0 h1) ?_) | (refine XL_op tt_ok rfl rfl ?_; try (first | refine XL_int (shr8) ?_ | refine XL_int (wrap_i64 (by omega) (by omega)) ?_ | refine XL_dec_f (by omega) ?_))) | (refine X_id ?_; first | refine X_seq ?_ | (refine X_regionN (by repeat' (exact .nil)) ?_) | refine X_skip ?_ | refine X_ret ?_ | refine X_cond_f rfl ?_) | (refine Y_id ?_; refine Y_then ?_))
    all_goals first
      | exact Y_fn3 rfl rfl rfl rfl rfl
      | (exfalso; omega)
      | skip
    
  · rw [if_neg hc]
    repeat' (first | (refine XL_id ?_; first | refine XL_nil ?_ | (refine XL_op tt_ok rfl rfl ?_; refine XL_int shr28 ?_) | (refine XL_op tt_ok rfl rfl ?_; try (refine XL_dec_t (by omega) ?_))) | (refine X_id ?_; first | refine X_seq ?_ | (refine X_regionN (by repeat' (exact .nil)) ?_) | refine X_ret ?_ | refine X_cond_t rfl ?_) | (refine Y_id ?_; first | refine Y_then ?_ | refine Y_then_ret ?_))
    all_goals first
      | exact Y_fn3 rfl rfl rfl rfl rfl
      | (exfalso; omega)
      | skip
    
theorem rsplit_spec (va : Int) (h : u64In va) : FnC Try.prog 87 [uV va] (fun _ => True) (tr3 (iV (splitF va).1) (iV (splitF va).2.1) (iV (splitF va).2.2)) := by
  obtain ⟨h0, h1⟩ := h
  unfold splitF
  refine Ctr.intro Try.func87 rfl rfl (by decide +kernel) fun F hpre => ?_
  by_cases hc : va < 268435456
  · rw [if_pos hc]
    repeat' (first | (refine XL_id ?_; first | refine XL_nil ?_ | (refine XL_op tt_ok rfl rfl ?_; refine XL_int (quo_u64 (y := 256) (by omega) (by omega) (by omega)) ?_) | (refine XL_op tt_ok rfl rfl ?_; refine XL_int (rem_pos (y := 256) (by omega)) ?_) | (refine XL_op tt_ok rfl rfl ?_; try (first | refine XL_int (shr8) ?_ | refine XL_int (wrap_i64 (by omega) (by omega)) ?_ | refine XL_dec_f (by omega) ?_))) | (refine X_id ?_; first | refine X_seq ?_ | (refine X_regionN (by repeat' (exact .nil)) ?_) | refine X_skip ?_ | refine X_ret ?_ | refine X_cond_f rfl ?_) | (refine Y_id ?_; refine Y_then ?_))
    all_goals first
      | exact Y_fn3 rfl rfl rfl rfl rfl
      | (exfalso; omega)
      | skip
    
  · rw [if_neg hc]
    repeat' (first | (refine XL_id ?_; first | refine XL_nil ?_ | (refine XL_op tt_ok rfl rfl ?_; try (refine XL_dec_t (by omega) ?_))) | (refine X_id ?_; first | refine X_seq ?_ | (refine X_regionN (by repeat' (exact .nil)) ?_) | refine X_ret ?_ | refine X_cond_t rfl ?_) | (refine Y_id ?_; first | refine Y_then ?_ | refine Y_then_ret ?_))
    all_goals first
      | exact Y_fn3 rfl rfl rfl rfl rfl
      | (exfalso; omega)
      | skip
    
theorem over_spec (p k : Int) (hp : 0 ≤ p ∧ p ≤ 4294967296) (hk : 0 ≤ k ∧ k ≤ 4) : FnC Try.prog 85 [iV p, iV k] (fun _ => True) (iV (p / pow32 k)) := by
  have h5 : k = 0 ∨ k = 1 ∨ k = 2 ∨ k = 3 ∨ k = 4 := by omega
  unfold pow32
  refine Ctr.intro Try.func85 rfl rfl (by decide +kernel) fun F hpre => ?_
  rcases h5 with rfl | rfl | rfl | rfl | rfl
  all_goals
    simp only [if_true, if_false, Int.reduceEq, reduceIte]
    repeat' (first | (refine XL_id ?_; first | refine XL_nil ?_ | (refine XL_op tt_ok rfl rfl ?_; try (first | refine XL_int (wrap_i64 (by omega) (by omega)) ?_ | refine XL_int (quo_i64 (by omega) (by omega) (by omega)) ?_ | refine XL_dec_t (by omega) ?_ | refine XL_dec_f (by omega) ?_))) | (refine X_id ?_; first | refine X_unroll 4 ?_ | refine X_seq ?_ | (refine X_regionN (by repeat' (exact .nil)) ?_) | refine X_skip ?_ | refine X_ret ?_ | refine X_exit ?_ | refine X_block ?_ | refine X_cond_t rfl ?_ | refine X_cond_f rfl ?_) | (refine Y_id ?_; first | refine Y_unroll ?_ | refine Y_then ?_ | refine Y_then_exit ?_ | refine Y_block_hit ?_ | refine Y_block_normal ?_))
    all_goals first
      | exact Y_fn1 rfl rfl (congrArg (Value.int .i64) (by omega))
      | (exfalso; omega)
      | skip
    
end Go.Proofs.Ytalkcemelegohaa.Ad
set_option linter.unusedVariables false
set_option maxRecDepth 100000
namespace Go.Proofs.Ytalkcemelegohaa.Ad
open Go.RowKit Go.Cof

set_option maxHeartbeats 8000000 in
theorem run_spec (va s : Int) (h : u64In va) (hs : i64In s) : FnC Try.prog 55 [uV va, iV s] (fun _ => True) (tr3 (iV (runF va s).1) (iV (runF va s).2.1) (iV (runF va s).2.2)) := by
  have h1 := split_spec va h
  obtain ⟨g0, g1⟩ := h
  obtain ⟨g2, g3⟩ := hs
  unfold splitF at h1
  unfold runF
  by_cases hv : va < 268435456
  · rw [if_pos hv] at h1 ⊢
    dsimp only at h1
    by_cases hc : 1 ≤ s ∧ s ≤ 8 ∧ va % 256 + s ≤ 256
    · rw [if_pos hc]
      refine Ctr.intro Try.func55 rfl rfl (by decide +kernel) fun F hpre => ?_
      repeat' (first | (refine XL_id ?_; first | refine XL_nil ?_ | refine XL_guard_yes rfl rfl rfl ?_ | (refine XG_call ?_; refine XL_fn h1 rfl rfl (fun _ _ _ => trivial) ?_) | (refine XL_op tt_ok rfl rfl ?_; try (first | refine XL_int (shr8) ?_ | refine XL_int (wrap_i64 (by omega) (by omega)) ?_ | refine XL_dec_f (by omega) ?_))) | (refine X_id ?_; first | refine X_seq ?_ | (refine X_regionN (by repeat' (exact .nil)) ?_) | refine X_skip ?_ | refine X_ret ?_ | refine X_cond_f rfl ?_) | (refine Y_id ?_; refine Y_then ?_))
      all_goals first
        | exact Y_fn3 rfl rfl rfl rfl rfl
        | (exfalso; rename_i h9; exact absurd rfl h9)
        | (exfalso; omega)
        | skip
      
    · rw [if_neg hc]
      refine Ctr.intro Try.func55 rfl rfl (by decide +kernel) fun F hpre => ?_
      repeat' (first | (refine XL_id ?_; first | refine XL_nil ?_ | refine XL_guard_yes rfl rfl rfl ?_ | refine XL_guard_no rfl rfl rfl rfl rfl ?_ | (refine XG_call ?_; refine XL_fn h1 rfl rfl (fun _ _ _ => trivial) ?_) | (refine XL_op tt_ok rfl rfl ?_; try (first | refine XL_int (shr8) ?_ | refine XL_int (wrap_i64 (by omega) (by omega)) ?_ | refine XL_dec_t (by omega) ?_ | refine XL_dec_f (by omega) ?_ | refine XL_dec (fun _ => ?_) (fun _ => ?_)))) | (refine X_id ?_; first | refine X_seq ?_ | (refine X_regionN (by repeat' (exact .nil)) ?_) | refine X_skip ?_ | refine X_ret ?_ | refine X_cond_t rfl ?_ | refine X_cond_f rfl ?_) | (refine Y_id ?_; first | refine Y_then ?_ | refine Y_then_ret ?_))
      all_goals first
        | exact Y_fn3 rfl rfl rfl rfl rfl
        | (exfalso; rename_i h9; exact absurd rfl h9)
        | (exfalso; omega)
        | skip
      
  · rw [if_neg hv] at h1 ⊢
    dsimp only at h1
    refine Ctr.intro Try.func55 rfl rfl (by decide +kernel) fun F hpre => ?_
    repeat' (first | (refine XL_id ?_; first | refine XL_nil ?_ | (refine XG_call ?_; refine XL_fn h1 rfl rfl (fun _ _ _ => trivial) ?_) | (refine XL_op tt_ok rfl rfl ?_; try (refine XL_dec_t (by omega) ?_))) | (refine X_id ?_; first | refine X_seq ?_ | (refine X_regionN (by repeat' (exact .nil)) ?_) | refine X_ret ?_ | refine X_cond_t rfl ?_) | (refine Y_id ?_; first | refine Y_then ?_ | refine Y_then_ret ?_))
    all_goals first
      | exact Y_fn3 rfl rfl rfl rfl rfl
      | (exfalso; rename_i h9; exact absurd rfl h9)
      | (exfalso; omega)
      | skip
    
set_option maxHeartbeats 8000000 in
theorem rrun_spec (va s : Int) (h : u64In va) (hs : i64In s) : FnC Try.prog 57 [uV va, iV s] (fun _ => True) (tr3 (iV (runF va s).1) (iV (runF va s).2.1) (iV (runF va s).2.2)) := by
  have h1 := rsplit_spec va h
  obtain ⟨g0, g1⟩ := h
  obtain ⟨g2, g3⟩ := hs
  have h2 := rwithin_spec s 1 8
  unfold splitF at h1
  unfold runF
  by_cases hv : va < 268435456
  · rw [if_pos hv] at h1 ⊢
    dsimp only at h1
    by_cases hc : 1 ≤ s ∧ s ≤ 8 ∧ va % 256 + s ≤ 256
    · rw [if_pos hc]
      refine Ctr.intro Try.func57 rfl rfl (by decide +kernel) fun F hpre => ?_
      repeat' (first | (refine XL_id ?_; first | refine XL_nil ?_ | refine XL_guard_yes rfl rfl rfl ?_ | refine XL_guard_no rfl rfl rfl rfl rfl ?_ | (refine XG_call ?_; first | refine XL_fn h1 rfl rfl (fun _ _ _ => trivial) ?_ | (refine XL_fn h2 rfl rfl (fun _ _ _ => trivial) ?_; refine XL_dec (fun _ => ?_) (fun _ => ?_))) | (refine XL_op tt_ok rfl rfl ?_; try (first | refine XL_int (shr8) ?_ | refine XL_int (wrap_i64 (by omega) (by omega)) ?_ | refine XL_dec_f (by omega) ?_))) | (refine X_id ?_; first | refine X_seq ?_ | (refine X_regionN (by repeat' (exact .nil)) ?_) | refine X_skip ?_ | refine X_ret ?_ | refine X_cond_t rfl ?_ | refine X_cond_f rfl ?_) | (refine Y_id ?_; first | refine Y_then ?_ | refine Y_then_ret ?_))
      all_goals first
        | exact Y_fn3 rfl rfl rfl rfl rfl
        | (exfalso; rename_i h9; exact absurd rfl h9)
        | (exfalso; omega)
        | skip
      
    · rw [if_neg hc]
      refine Ctr.intro Try.func57 rfl rfl (by decide +kernel) fun F hpre => ?_
      repeat' (first | (refine XL_id ?_; first | refine XL_nil ?_ | refine XL_guard_yes rfl rfl rfl ?_ | refine XL_guard_no rfl rfl rfl rfl rfl ?_ | (refine XG_call ?_; first | refine XL_fn h1 rfl rfl (fun _ _ _ => trivial) ?_ | (refine XL_fn h2 rfl rfl (fun _ _ _ => trivial) ?_; refine XL_dec (fun _ => ?_) (fun _ => ?_))) | (refine XL_op tt_ok rfl rfl ?_; try (first | refine XL_int (shr8) ?_ | refine XL_int (wrap_i64 (by omega) (by omega)) ?_ | refine XL_dec_t (by omega) ?_ | refine XL_dec_f (by omega) ?_))) | (refine X_id ?_; first | refine X_seq ?_ | (refine X_regionN (by repeat' (exact .nil)) ?_) | refine X_skip ?_ | refine X_ret ?_ | refine X_cond_t rfl ?_ | refine X_cond_f rfl ?_) | (refine Y_id ?_; first | refine Y_then ?_ | refine Y_then_ret ?_))
      all_goals first
        | exact Y_fn3 rfl rfl rfl rfl rfl
        | (exfalso; rename_i h9; exact absurd rfl h9)
        | (exfalso; omega)
        | skip
      
  · rw [if_neg hv] at h1 ⊢
    dsimp only at h1
    refine Ctr.intro Try.func57 rfl rfl (by decide +kernel) fun F hpre => ?_
    repeat' (first | (refine XL_id ?_; first | refine XL_nil ?_ | (refine XG_call ?_; refine XL_fn h1 rfl rfl (fun _ _ _ => trivial) ?_) | (refine XL_op tt_ok rfl rfl ?_; try (refine XL_dec_t (by omega) ?_))) | (refine X_id ?_; first | refine X_seq ?_ | (refine X_regionN (by repeat' (exact .nil)) ?_) | refine X_ret ?_ | refine X_cond_t rfl ?_) | (refine Y_id ?_; first | refine Y_then ?_ | refine Y_then_ret ?_))
    all_goals first
      | exact Y_fn3 rfl rfl rfl rfl rfl
      | (exfalso; rename_i h9; exact absurd rfl h9)
      | (exfalso; omega)
      | skip
    
end Go.Proofs.Ytalkcemelegohaa.Ad
set_option linter.unusedVariables false
set_option maxRecDepth 100000
namespace Go.Proofs.Ytalkcemelegohaa.Ad
open Go.RowKit Go.Cof

structure Sp where
  p : Int
  n : Int
  deriving DecidableEq, Inhabited
def encSp : Enc Sp := ⟨fun x => [iV x.p, iV x.n], 2, fun _ => rfl, by decide, fun x u hu => by simp at hu; rcases hu with rfl | rfl <;> rfl⟩
abbrev spV (x : Sp) : Value := .agg #[iV x.p, iV x.n]
abbrev fnV (f : FuncId) (ca : Array Value) : Value := .func (.func f) #[] ca
theorem len_small (m : Nat) (hm : m ≤ 1) : FnC Try.prog 93 [uV m] (fun _ => True) (iV m) := by
  have h64 : FnC Try.prog 107 [uV m] (fun _ => True) (iV m) := by
    have h : m = 0 ∨ m = 1 := by omega
    refine Ctr.intro Try.func107 rfl rfl (by decide +kernel) fun F hpre => ?_
    rcases h with rfl | rfl
    · repeat' (first | (refine XL_id ?_; first | refine XL_nil ?_ | refine XL_strIx (b := 0) (v := 0) tt_ok rfl rfl rfl rfl (by decide) (by decide +kernel) (by decide) rfl ?_ | (refine XL_op tt_ok rfl rfl ?_; try (first | refine XL_int (wrap_i64 (by omega) (by omega)) ?_ | refine XL_int (wrap_u8 (by omega) (by omega)) ?_ | refine XL_dec_f (by omega) ?_))) | (refine X_id ?_; first | refine X_seq ?_ | (refine X_regionN (by repeat' (exact .nil)) ?_) | refine X_skip ?_ | refine X_ret ?_ | refine X_cond_f rfl ?_) | (refine Y_id ?_; refine Y_then ?_))
      all_goals first
        | exact Y_fn1 rfl rfl rfl
        | (exfalso; omega)
        | skip
      
    · repeat' (first | (refine XL_id ?_; first | refine XL_nil ?_ | refine XL_strIx (b := 1) (v := 1) tt_ok rfl rfl rfl rfl (by decide) (by decide +kernel) (by decide) rfl ?_ | (refine XL_op tt_ok rfl rfl ?_; try (first | refine XL_int (wrap_i64 (by omega) (by omega)) ?_ | refine XL_int (wrap_u8 (by omega) (by omega)) ?_ | refine XL_dec_f (by omega) ?_))) | (refine X_id ?_; first | refine X_seq ?_ | (refine X_regionN (by repeat' (exact .nil)) ?_) | refine X_skip ?_ | refine X_ret ?_ | refine X_cond_f rfl ?_) | (refine Y_id ?_; refine Y_then ?_))
      all_goals first
        | exact Y_fn1 rfl rfl rfl
        | (exfalso; omega)
        | skip
      
  refine Ctr.intro Try.func93 rfl rfl (by decide +kernel) fun F hpre => ?_
  repeat' (first | (refine XL_id ?_; first | refine XL_nil ?_ | (refine XG_call ?_; refine XL_fn h64 rfl rfl (fun _ _ _ => trivial) ?_) | (refine XL_op tt_ok rfl rfl ?_)) | (refine X_id ?_; first | refine X_seq ?_ | (refine X_regionN (by repeat' (exact .nil)) ?_) | refine X_skip ?_ | refine X_ret ?_ | refine X_cond_f rfl ?_) | (refine Y_id ?_; refine Y_then ?_))
  all_goals first
    | exact Y_fn1 rfl rfl rfl
    | skip
  
theorem insSort_small (A : Option Addr) (m c : Nat) (f : FuncId) (hm : m ≤ 1) : FnC Try.prog 98 [.slice A m c, iV 0, iV m, fnV f #[]] (fun _ => True) (.tuple #[]) := by
  refine Ctr.intro Try.func98 rfl rfl (by decide +kernel) fun F hpre => ?_
  repeat' (first | (refine XL_id ?_; first | refine XL_nil ?_ | (refine XL_op tt_ok rfl rfl ?_; try (first | refine XL_int (wrap_i64 (by omega) (by omega)) ?_ | refine XL_dec_f (by omega) ?_))) | (refine X_id ?_; first | refine X_unroll 1 ?_ | refine X_seq ?_ | (refine X_regionN (by repeat' (exact .nil)) ?_) | refine X_exit ?_ | refine X_block ?_ | refine X_cond_f rfl ?_) | (refine Y_id ?_; first | refine Y_then ?_ | refine Y_then_exit ?_ | refine Y_block_hit ?_))
  all_goals first
    | exact Y_end0 rfl (L' := []) (fun _ _ => trivial) ⟨rfl, rfl⟩
    | (exfalso; omega)
    | skip
  
theorem pdq_small (A : Option Addr) (m c : Nat) (k : Int) (f : FuncId) (hm : m ≤ 1) : FnC Try.prog 92 [.slice A m c, iV 0, iV m, iV k, fnV f #[]] (fun _ => True) (.tuple #[]) := by
  have h1 := insSort_small A m c f hm
  refine Ctr.intro Try.func92 rfl rfl (by decide +kernel) fun F hpre => ?_
  repeat' (first | (refine XL_id ?_; first | refine XL_nil ?_ | (refine XG_call ?_; refine XL_fn h1 rfl rfl (fun _ _ _ => trivial) ?_) | (refine XL_op tt_ok rfl rfl ?_; try (first | refine XL_int (wrap_i64 (by omega) (by omega)) ?_ | refine XL_dec_t (by omega) ?_))) | (refine X_id ?_; first | refine X_unroll 1 ?_ | refine X_seq ?_ | (refine X_regionN (by repeat' (exact .nil)) ?_) | refine X_ret ?_ | refine X_block ?_ | refine X_cond_t rfl ?_) | (refine Y_id ?_; first | refine Y_then ?_ | refine Y_then_ret ?_ | refine Y_block_ret ?_))
  all_goals first
    | exact Y_ret0 rfl (L' := []) (fun _ _ => trivial) ⟨rfl, rfl⟩
    | (exfalso; omega)
    | skip
  
theorem sort_small (A : Option Addr) (m c : Nat) (f : FuncId) (hm : m ≤ 1) : FnC Try.prog 81 [.slice A m c, fnV f #[]] (fun _ => True) (.tuple #[]) := by
  have h1 := len_small m hm
  have h2 := pdq_small A m c m f hm
  refine Ctr.intro Try.func81 rfl rfl (by decide +kernel) fun F hpre => ?_
  repeat' (first | (refine XL_id ?_; first | refine XL_nil ?_ | (refine XG_call ?_; first | (refine XL_op tt_ok rfl rfl ?_) | refine XL_fn h1 rfl rfl (fun _ _ _ => trivial) ?_ | refine XL_fn h2 rfl rfl (fun _ _ _ => trivial) ?_) | (refine XL_op tt_ok rfl rfl ?_; try (refine XL_int (wrap_u64 (by omega) (by omega)) ?_))) | (refine X_id ?_; first | refine X_seq ?_ | (refine X_regionN (by repeat' (exact .nil)) ?_)) | (refine Y_id ?_; refine Y_then ?_))
  all_goals first
    | exact Y_end0 rfl (L' := []) (fun _ _ => trivial) ⟨rfl, rfl⟩
    | (exfalso; omega)
    | skip
  
set_option maxRecDepth 100000 in
set_option maxHeartbeats 16000000 in
theorem tables_one (q : Nat) : FnC Try.prog 51 [.slice (some ⟨q, 0, none⟩) 1 1] (fun h => rdS encSp h (some ⟨q, 0, none⟩) 1 [⟨31, 2⟩]) (pr2 (iV 5) (iV 0)) := by
  have h1 := fun A c => sort_small A 1 c 82 (by decide)
  refine Ctr.intro Try.func51 rfl rfl (by decide +kernel) fun F hpre => ?_
  have r1 : rdS encSp F.heap (some ⟨q, 0, none⟩) 1 [⟨31, 2⟩] := hpre
  repeat' (first | (refine XL_id ?_; first | refine XL_nil ?_ | refine XL_guard_yes rfl rfl rfl ?_ | (refine XL_mem (fun h hs => stars_new (own_nil encSp _) hs) ?_; refine XL_app1 tt_ok 0 1 ⟨31, 2⟩ rfl rfl rfl rfl rfl rfl rfl rfl rfl rfl rfl (by show (_ : Nat) * 16 ≤ _; omega) (by omega) (fun _ _ => rfl) (fun A2 c2 => ?_)) | (refine XG_load ?_; first | refine XL_loadW tt_ok 0 rfl rfl rfl rfl rfl rfl ?_ | refine XL_load tt_ok 0 rfl rfl rfl rfl rfl rfl ?_ | refine XL_elW tt_ok rfl (by assumption) rfl (by omega) (by omega) rfl rfl rfl rfl ?_ | refine XL_eloW tt_ok 0 rfl rfl rfl (by omega) (by omega) rfl rfl rfl rfl ?_) | (refine XG_idx ?_; first | refine XL_idx tt_ok rfl rfl rfl rfl rfl (by assumption) (by omega) (by omega) rfl ?_ | refine XL_idxo tt_ok 0 rfl rfl rfl rfl rfl rfl (by omega) (by omega) rfl ?_) | (refine XG_call ?_; first | (refine XL_op tt_ok rfl rfl ?_) | refine XL_fn (h1 _ _) rfl rfl (fun _ _ _ => trivial) ?_) | (refine XG_alloc ?_; (refine XL_alloc tt_ok rfl rfl (fun _ => rfl) (fun b => ?_); refine XL_nB (by repeat' (first | exact .nil | apply NL.cons)) ?_)) | (refine XG_lit ?_; (refine XL_lit tt_ok rfl rfl rfl rfl rfl rfl rfl rfl rfl (fun _ => rfl) (fun b => ?_); refine XL_nB (by repeat' (first | exact .nil | apply NL.cons)) ?_)) | (refine XG_store ?_; (refine XL_storeW tt_ok 0 rfl rfl rfl rfl rfl rfl rfl ?_; refine XL_nK 0 rfl (by repeat' (first | exact .nil | apply NL.cons)) ?_)) | (refine XL_op tt_ok rfl rfl ?_; try (first | (refine XL_int (Eq.trans (wrap_i64 (by omega) (by omega)) (by simp only [Int.reduceAdd, Int.reduceSub, Int.reduceMul, Int.reduceNeg]; rfl)) ?_) | refine XL_dec_t (by omega) ?_ | refine XL_dec_f (by omega) ?_ | refine XL_dec_t (by decide +kernel) ?_ | refine XL_dec_f (by decide +kernel) ?_))) | (refine XD_id ?_; first | (refine XD_thaw thaw ?_; refine XD_nil ?_) | (refine XD_id ?_; (first | (refine XD_uL rfl ?_; refine XD_s rfl rfl rfl (XV_load tt_ok rfl (blk_at 0 rfl hM) rfl rfl rfl) rfl ?_) | (refine XD_u rfl rfl ?_; refine XD_s rfl rfl rfl (XV_op tt_ok rfl) rfl ?_)); try (refine XD_int (wrap_i64 (by omega) (by omega)) ?_))) | (refine X_id ?_; first | refine X_unroll 3 ?_ | (refine X_drawS (id := 21) [0, 1, 2, 3, 4, 5, 6, 7, 8, 9, 10, 11, 12, 13, 14, 15, 16, 17] (fun _ => .s) 8 (by repeat' (first | exact Split.nil | apply Split.blk | apply Split.keep)) mixed (by decide +kernel) ?_; intro G hFG hM thaw; show XD _ _ _ _ _ _ [0, 1, 2, 3, 4, 5, 6, 7, 8, 9, 10, 11, 12, 13, 14, 15, 16, 17] _ _ _) | refine X_seq ?_ | (refine X_regionN (by repeat' (first | exact .nil | apply NL.cons)) ?_) | refine X_skip ?_ | refine X_ret ?_ | refine X_exit ?_ | refine X_block ?_ | refine X_cond_t rfl ?_ | refine X_cond_f rfl ?_) | (refine Y_id ?_; first | refine Y_unroll ?_ | refine Y_then ?_ | refine Y_then_exit ?_ | refine Y_block_hit ?_ | refine Y_block_normal ?_))
  all_goals first
    | exact Y_fn2 rfl rfl rfl rfl
    | skip
  
end Go.Proofs.Ytalkcemelegohaa.Ad
