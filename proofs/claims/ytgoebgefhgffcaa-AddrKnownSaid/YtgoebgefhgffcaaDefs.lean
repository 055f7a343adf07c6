/- Walks of the addresses: split, join, entries, tables, places, lines, runs; program and reference. -/
import Derived.Test.YtgoebgefhgffcaaTab
import Derived.Test.YtgoebgefhgffcaaSlZ
set_option linter.unusedVariables false
namespace Go.Proofs.Ytgoebgefhgffcaa
open Go.RowKit Go.Cof

abbrev iV (x : Int) : Value := .int .i64 x
abbrev uV (x : Int) : Value := .int .u64 x
abbrev pr2 (a b : Value) : Value := .tuple #[a, b]
abbrev tr3 (a b c : Value) : Value := .tuple #[a, b, c]
theorem shr4 {x : Int} : x / 2 ^ min (Int.toNat 4) IntKind.u64.bits = x / 16 := rfl
theorem shr20 {x : Int} : x / 2 ^ min (Int.toNat 20) IntKind.u64.bits = x / 1048576 := rfl
theorem shr28 {x : Int} : x / 2 ^ min (Int.toNat 28) IntKind.u64.bits = x / 268435456 := rfl
theorem and255 {x : Int} (h0 : 0 ≤ x) (h1 : x < 18446744073709551616) : bits .and .u64 x 255 = x % 256 := and_u64 8 (by decide) rfl h0 h1
theorem and31 {x : Int} (h0 : 0 ≤ x) (h1 : x < 9223372036854775808) : bits .and .i64 x 31 = x % 32 := and_i64 5 (by decide) rfl h0 h1
/-! what is computed -/
def splitF (va : Int) : Int × Int × Int := if va < 268435456 then (va / 256, va % 256, 0) else (0, 0, 10)
def joinF (p o : Int) : Int × Int := if 0 ≤ p ∧ p < 1048576 ∧ 0 ≤ o ∧ o < 256 then (p * 256 + o, 0) else (0, 2)
def pow32 (k : Int) : Int := if k = 0 then 1 else if k = 1 then 32 else if k = 2 then 1024 else if k = 3 then 32768 else 1048576
def lvl (p k : Int) : Prop := 0 ≤ p ∧ p < 1048576 ∧ 0 ≤ k ∧ k < 4
instance (p k : Int) : Decidable (lvl p k) := inferInstanceAs (Decidable (_ ∧ _))
def indexF (p k : Int) : Int × Int := if lvl p k then (p / pow32 k % 32, 0) else (0, 2)
def tableF (p k : Int) : Int × Int := if lvl p k then (p / pow32 (k + 1), 0) else (0, 2)
def placeF (f o : Int) : Int × Int := if 0 ≤ f ∧ f < 4096 ∧ 0 ≤ o ∧ o < 256 then (f * 256 + o, 0) else (0, 2)
def frameF (pa : Int) : Int × Int × Int := if pa < 1048576 then (pa / 256, pa % 256, 0) else (0, 0, 10)
def lineF (pa : Int) : Int × Int := if pa < 1048576 then (pa / 16, 0) else (0, 10)
def runF (va s : Int) : Int × Int × Int := if va < 268435456 then (if 1 ≤ s ∧ s ≤ 8 ∧ va % 256 + s ≤ 256 then (va / 256, va % 256, 0) else (0, 0, 2)) else (0, 0, 10)
abbrev u64In (x : Int) : Prop := 0 ≤ x ∧ x < 18446744073709551616
abbrev i64In (x : Int) : Prop := -9223372036854775808 ≤ x ∧ x ≤ 9223372036854775807
theorem pageMay_spec (p : Int) : FnC Try.prog 32 [iV p] (fun _ => True) (.bool (decide (0 ≤ p ∧ p < 1048576))) := by
  refine Ctr.intro Try.func32 rfl rfl (by decide +kernel) fun F hpre => ?_
  repeat' (first | (refine XL_id ?_; first | refine XL_nil ?_ | refine XL_guard_yes rfl rfl rfl ?_ | refine XL_guard_no rfl rfl rfl rfl rfl ?_ | (refine XL_op tt_ok rfl rfl ?_; try (refine XL_dec (fun _ => ?_) (fun _ => ?_)))) | (refine X_id ?_; first | refine X_seq ?_ | (refine X_regionN (by repeat' (exact .nil)) ?_) | refine X_ret ?_) | (refine Y_id ?_; refine Y_then ?_))
  all_goals first
    | (refine Y_fn1 rfl rfl ?_; first | exact bool_t (by omega) | exact bool_f (by omega))
    | skip
  
theorem offMay_spec (p : Int) : FnC Try.prog 33 [iV p] (fun _ => True) (.bool (decide (0 ≤ p ∧ p < 256))) := by
  refine Ctr.intro Try.func33 rfl rfl (by decide +kernel) fun F hpre => ?_
  repeat' (first | (refine XL_id ?_; first | refine XL_nil ?_ | refine XL_guard_yes rfl rfl rfl ?_ | refine XL_guard_no rfl rfl rfl rfl rfl ?_ | (refine XL_op tt_ok rfl rfl ?_; try (refine XL_dec (fun _ => ?_) (fun _ => ?_)))) | (refine X_id ?_; first | refine X_seq ?_ | (refine X_regionN (by repeat' (exact .nil)) ?_) | refine X_ret ?_) | (refine Y_id ?_; refine Y_then ?_))
  all_goals first
    | (refine Y_fn1 rfl rfl ?_; first | exact bool_t (by omega) | exact bool_f (by omega))
    | skip
  
theorem rwithin_spec (x a b : Int) : FnC Try.prog 34 [iV x, iV a, iV b] (fun _ => True) (.bool (decide (a ≤ x ∧ x ≤ b))) := by
  refine Ctr.intro Try.func34 rfl rfl (by decide +kernel) fun F hpre => ?_
  repeat' (first | (refine XL_id ?_; first | refine XL_nil ?_ | refine XL_guard_yes rfl rfl rfl ?_ | refine XL_guard_no rfl rfl rfl rfl rfl ?_ | (refine XL_op tt_ok rfl rfl ?_; try (refine XL_dec (fun _ => ?_) (fun _ => ?_)))) | (refine X_id ?_; first | refine X_seq ?_ | (refine X_regionN (by repeat' (exact .nil)) ?_) | refine X_ret ?_) | (refine Y_id ?_; refine Y_then ?_))
  all_goals first
    | (refine Y_fn1 rfl rfl ?_; first | exact bool_t (by omega) | exact bool_f (by omega))
    | skip
  
theorem split_spec (va : Int) (h : u64In va) : FnC Try.prog 11 [uV va] (fun _ => True) (tr3 (iV (splitF va).1) (iV (splitF va).2.1) (iV (splitF va).2.2)) := by
  obtain ⟨h0, h1⟩ := h
  unfold splitF
  refine Ctr.intro Try.func11 rfl rfl (by decide +kernel) fun F hpre => ?_
  by_cases hc : va < 268435456
  · rw [if_pos hc]
    repeat' (first | (refine XL_id ?_; first | refine XL_nil ?_ | (refine XL_op tt_ok rfl rfl ?_; refine XL_int shr28 ?_) | (refine XL_op tt_ok rfl rfl ?_; refine XL_int (and255 h0 h1) ?_) | (refine XL_op tt_ok rfl rfl ?_; try (first | refine XL_int (shr8) ?_ | refine XL_int (wrap_i64 (by omega) (by omega)) ?_ | refine XL_dec_f (by omega) ?_))) | (refine X_id ?_; first | refine X_seq ?_ | (refine X_regionN (by repeat' (exact .nil)) ?_) | refine X_skip ?_ | refine X_ret ?_ | refine X_cond_f rfl ?_) | (refine Y_id ?_; refine Y_then ?_))
    all_goals first
      | exact Y_fn3 rfl rfl rfl rfl rfl
      | (exfalso; omega)
      | skip
    
  · rw [if_neg hc]
    repeat' (first | (refine XL_id ?_; first | refine XL_nil ?_ | (refine XL_op tt_ok rfl rfl ?_; refine XL_int shr28 ?_) | (refine XL_op tt_ok rfl rfl ?_; try (refine XL_dec_t (by omega) ?_))) | (refine X_id ?_; first | refine X_seq ?_ | (refine X_regionN (by repeat' (exact .nil)) ?_) | refine X_ret ?_ | refine X_cond_t rfl ?_) | (refine Y_id ?_; first | refine Y_then ?_ | refine Y_then_ret ?_))
    all_goals first
      | exact Y_fn3 rfl rfl rfl rfl rfl
      | (exfalso; omega)
      | skip
    
theorem rsplit_spec (va : Int) (h : u64In va) : FnC Try.prog 12 [uV va] (fun _ => True) (tr3 (iV (splitF va).1) (iV (splitF va).2.1) (iV (splitF va).2.2)) := by
  obtain ⟨h0, h1⟩ := h
  unfold splitF
  refine Ctr.intro Try.func12 rfl rfl (by decide +kernel) fun F hpre => ?_
  by_cases hc : va < 268435456
  · rw [if_pos hc]
    repeat' (first | (refine XL_id ?_; first | refine XL_nil ?_ | (refine XL_op tt_ok rfl rfl ?_; refine XL_int (quo_u64 (y := 256) (by omega) (by omega) (by omega)) ?_) | (refine XL_op tt_ok rfl rfl ?_; refine XL_int (rem_pos (y := 256) (by omega)) ?_) | (refine XL_op tt_ok rfl rfl ?_; try (first | refine XL_int (shr8) ?_ | refine XL_int (wrap_i64 (by omega) (by omega)) ?_ | refine XL_dec_f (by omega) ?_))) | (refine X_id ?_; first | refine X_seq ?_ | (refine X_regionN (by repeat' (exact .nil)) ?_) | refine X_skip ?_ | refine X_ret ?_ | refine X_cond_f rfl ?_) | (refine Y_id ?_; refine Y_then ?_))
    all_goals first
      | exact Y_fn3 rfl rfl rfl rfl rfl
      | (exfalso; omega)
      | skip
    
  · rw [if_neg hc]
    repeat' (first | (refine XL_id ?_; first | refine XL_nil ?_ | (refine XL_op tt_ok rfl rfl ?_; try (refine XL_dec_t (by omega) ?_))) | (refine X_id ?_; first | refine X_seq ?_ | (refine X_regionN (by repeat' (exact .nil)) ?_) | refine X_ret ?_ | refine X_cond_t rfl ?_) | (refine Y_id ?_; first | refine Y_then ?_ | refine Y_then_ret ?_))
    all_goals first
      | exact Y_fn3 rfl rfl rfl rfl rfl
      | (exfalso; omega)
      | skip
    
theorem frame_spec (pa : Int) (h : u64In pa) : FnC Try.prog 28 [uV pa] (fun _ => True) (tr3 (iV (frameF pa).1) (iV (frameF pa).2.1) (iV (frameF pa).2.2)) := by
  obtain ⟨h0, h1⟩ := h
  unfold frameF
  refine Ctr.intro Try.func28 rfl rfl (by decide +kernel) fun F hpre => ?_
  by_cases hc : pa < 1048576
  · rw [if_pos hc]
    repeat' (first | (refine XL_id ?_; first | refine XL_nil ?_ | (refine XL_op tt_ok rfl rfl ?_; refine XL_int shr20 ?_) | (refine XL_op tt_ok rfl rfl ?_; refine XL_int (and255 h0 h1) ?_) | (refine XL_op tt_ok rfl rfl ?_; try (first | refine XL_int (shr8) ?_ | refine XL_int (wrap_i64 (by omega) (by omega)) ?_ | refine XL_dec_f (by omega) ?_))) | (refine X_id ?_; first | refine X_seq ?_ | (refine X_regionN (by repeat' (exact .nil)) ?_) | refine X_skip ?_ | refine X_ret ?_ | refine X_cond_f rfl ?_) | (refine Y_id ?_; refine Y_then ?_))
    all_goals first
      | exact Y_fn3 rfl rfl rfl rfl rfl
      | (exfalso; omega)
      | skip
    
  · rw [if_neg hc]
    repeat' (first | (refine XL_id ?_; first | refine XL_nil ?_ | (refine XL_op tt_ok rfl rfl ?_; refine XL_int shr20 ?_) | (refine XL_op tt_ok rfl rfl ?_; try (refine XL_dec_t (by omega) ?_))) | (refine X_id ?_; first | refine X_seq ?_ | (refine X_regionN (by repeat' (exact .nil)) ?_) | refine X_ret ?_ | refine X_cond_t rfl ?_) | (refine Y_id ?_; first | refine Y_then ?_ | refine Y_then_ret ?_))
    all_goals first
      | exact Y_fn3 rfl rfl rfl rfl rfl
      | (exfalso; omega)
      | skip
    
theorem rframe_spec (pa : Int) (h : u64In pa) : FnC Try.prog 29 [uV pa] (fun _ => True) (tr3 (iV (frameF pa).1) (iV (frameF pa).2.1) (iV (frameF pa).2.2)) := by
  obtain ⟨h0, h1⟩ := h
  unfold frameF
  refine Ctr.intro Try.func29 rfl rfl (by decide +kernel) fun F hpre => ?_
  by_cases hc : pa < 1048576
  · rw [if_pos hc]
    repeat' (first | (refine XL_id ?_; first | refine XL_nil ?_ | (refine XL_op tt_ok rfl rfl ?_; refine XL_int (quo_u64 (y := 256) (by omega) (by omega) (by omega)) ?_) | (refine XL_op tt_ok rfl rfl ?_; refine XL_int (rem_pos (y := 256) (by omega)) ?_) | (refine XL_op tt_ok rfl rfl ?_; try (first | refine XL_int (shr8) ?_ | refine XL_int (wrap_i64 (by omega) (by omega)) ?_ | refine XL_dec_f (by omega) ?_))) | (refine X_id ?_; first | refine X_seq ?_ | (refine X_regionN (by repeat' (exact .nil)) ?_) | refine X_skip ?_ | refine X_ret ?_ | refine X_cond_f rfl ?_) | (refine Y_id ?_; refine Y_then ?_))
    all_goals first
      | exact Y_fn3 rfl rfl rfl rfl rfl
      | (exfalso; omega)
      | skip
    
  · rw [if_neg hc]
    repeat' (first | (refine XL_id ?_; first | refine XL_nil ?_ | (refine XL_op tt_ok rfl rfl ?_; try (refine XL_dec_t (by omega) ?_))) | (refine X_id ?_; first | refine X_seq ?_ | (refine X_regionN (by repeat' (exact .nil)) ?_) | refine X_ret ?_ | refine X_cond_t rfl ?_) | (refine Y_id ?_; first | refine Y_then ?_ | refine Y_then_ret ?_))
    all_goals first
      | exact Y_fn3 rfl rfl rfl rfl rfl
      | (exfalso; omega)
      | skip
    
theorem line_spec (pa : Int) (h : u64In pa) : FnC Try.prog 30 [uV pa] (fun _ => True) (pr2 (iV (lineF pa).1) (iV (lineF pa).2)) := by
  obtain ⟨h0, h1⟩ := h
  unfold lineF
  refine Ctr.intro Try.func30 rfl rfl (by decide +kernel) fun F hpre => ?_
  by_cases hc : pa < 1048576
  · rw [if_pos hc]
    repeat' (first | (refine XL_id ?_; first | refine XL_nil ?_ | (refine XL_op tt_ok rfl rfl ?_; refine XL_int shr20 ?_) | (refine XL_op tt_ok rfl rfl ?_; refine XL_int shr4 ?_) | (refine XL_op tt_ok rfl rfl ?_; try (first | refine XL_int (wrap_i64 (by omega) (by omega)) ?_ | refine XL_dec_f (by omega) ?_))) | (refine X_id ?_; first | refine X_seq ?_ | (refine X_regionN (by repeat' (exact .nil)) ?_) | refine X_skip ?_ | refine X_ret ?_ | refine X_cond_f rfl ?_) | (refine Y_id ?_; refine Y_then ?_))
    all_goals first
      | exact Y_fn2 rfl rfl rfl rfl
      | (exfalso; omega)
      | skip
    
  · rw [if_neg hc]
    repeat' (first | (refine XL_id ?_; first | refine XL_nil ?_ | (refine XL_op tt_ok rfl rfl ?_; refine XL_int shr20 ?_) | (refine XL_op tt_ok rfl rfl ?_; try (refine XL_dec_t (by omega) ?_))) | (refine X_id ?_; first | refine X_seq ?_ | (refine X_regionN (by repeat' (exact .nil)) ?_) | refine X_ret ?_ | refine X_cond_t rfl ?_) | (refine Y_id ?_; first | refine Y_then ?_ | refine Y_then_ret ?_))
    all_goals first
      | exact Y_fn2 rfl rfl rfl rfl
      | (exfalso; omega)
      | skip
    
theorem rline_spec (pa : Int) (h : u64In pa) : FnC Try.prog 31 [uV pa] (fun _ => True) (pr2 (iV (lineF pa).1) (iV (lineF pa).2)) := by
  obtain ⟨h0, h1⟩ := h
  unfold lineF
  refine Ctr.intro Try.func31 rfl rfl (by decide +kernel) fun F hpre => ?_
  by_cases hc : pa < 1048576
  · rw [if_pos hc]
    repeat' (first | (refine XL_id ?_; first | refine XL_nil ?_ | (refine XL_op tt_ok rfl rfl ?_; refine XL_int (quo_u64 (y := 16) (by omega) (by omega) (by omega)) ?_) | (refine XL_op tt_ok rfl rfl ?_; try (first | refine XL_int (wrap_i64 (by omega) (by omega)) ?_ | refine XL_dec_f (by omega) ?_))) | (refine X_id ?_; first | refine X_seq ?_ | (refine X_regionN (by repeat' (exact .nil)) ?_) | refine X_skip ?_ | refine X_ret ?_ | refine X_cond_f rfl ?_) | (refine Y_id ?_; refine Y_then ?_))
    all_goals first
      | exact Y_fn2 rfl rfl rfl rfl
      | (exfalso; omega)
      | skip
    
  · rw [if_neg hc]
    repeat' (first | (refine XL_id ?_; first | refine XL_nil ?_ | (refine XL_op tt_ok rfl rfl ?_; try (refine XL_dec_t (by omega) ?_))) | (refine X_id ?_; first | refine X_seq ?_ | (refine X_regionN (by repeat' (exact .nil)) ?_) | refine X_ret ?_ | refine X_cond_t rfl ?_) | (refine Y_id ?_; first | refine Y_then ?_ | refine Y_then_ret ?_))
    all_goals first
      | exact Y_fn2 rfl rfl rfl rfl
      | (exfalso; omega)
      | skip
    
theorem place_spec (f o : Int) : FnC Try.prog 26 [iV f, iV o] (fun _ => True) (pr2 (uV (placeF f o).1) (iV (placeF f o).2)) := by
  unfold placeF
  have ho := offMay_spec o
  refine Ctr.intro Try.func26 rfl rfl (by decide +kernel) fun F hpre => ?_
  by_cases hc : 0 ≤ f ∧ f < 4096 ∧ 0 ≤ o ∧ o < 256
  · rw [if_pos hc]
    repeat' (first | (refine XL_id ?_; first | refine XL_nil ?_ | refine XL_guard_yes rfl rfl rfl ?_ | (refine XG_call ?_; (refine XL_fn ho rfl rfl (fun _ _ _ => trivial) ?_; refine XL_dec_t (by omega) ?_)) | (refine XL_op tt_ok rfl rfl ?_; refine XL_int (or_u64 8 (by omega) (by omega) (by omega) (by omega) (by omega) (by omega)) ?_) | (refine XL_op tt_ok rfl rfl ?_; try (first | refine XL_int (shl8_u64 (by omega) (by omega)) ?_ | refine XL_int (wrap_u64 (by omega) (by omega)) ?_ | refine XL_dec_f (by omega) ?_))) | (refine X_id ?_; first | refine X_seq ?_ | (refine X_regionN (by repeat' (exact .nil)) ?_) | refine X_skip ?_ | refine X_ret ?_ | refine X_cond_f rfl ?_) | (refine Y_id ?_; refine Y_then ?_))
    all_goals first
      | exact Y_fn2 rfl rfl rfl rfl
      | (exfalso; omega)
      | skip
    
  · rw [if_neg hc]
    repeat' (first | (refine XL_id ?_; first | refine XL_nil ?_ | refine XL_guard_yes rfl rfl rfl ?_ | refine XL_guard_no rfl rfl rfl rfl rfl ?_ | (refine XG_call ?_; (refine XL_fn ho rfl rfl (fun _ _ _ => trivial) ?_; refine XL_dec_f (by omega) ?_)) | (refine XL_op tt_ok rfl rfl ?_; try (refine XL_dec (fun _ => ?_) (fun _ => ?_)))) | (refine X_id ?_; first | refine X_seq ?_ | (refine X_regionN (by repeat' (exact .nil)) ?_) | refine X_ret ?_ | refine X_cond_t rfl ?_) | (refine Y_id ?_; first | refine Y_then ?_ | refine Y_then_ret ?_))
    all_goals first
      | exact Y_fn2 rfl rfl rfl rfl
      | (exfalso; omega)
      | skip
    
theorem rplace_spec (f o : Int) : FnC Try.prog 27 [iV f, iV o] (fun _ => True) (pr2 (uV (placeF f o).1) (iV (placeF f o).2)) := by
  unfold placeF
  have h1 := rwithin_spec f 0 4095
  have h2 := rwithin_spec o 0 255
  refine Ctr.intro Try.func27 rfl rfl (by decide +kernel) fun F hpre => ?_
  by_cases hc : 0 ≤ f ∧ f < 4096 ∧ 0 ≤ o ∧ o < 256
  · rw [if_pos hc]
    repeat' (first | (refine XL_id ?_; first | refine XL_nil ?_ | refine XL_guard_yes rfl rfl rfl ?_ | refine XL_guard_no rfl rfl rfl rfl rfl ?_ | (refine XG_call ?_; first | (refine XL_fn h1 rfl rfl (fun _ _ _ => trivial) ?_; refine XL_dec (fun _ => ?_) (fun _ => ?_)) | (refine XL_fn h2 rfl rfl (fun _ _ _ => trivial) ?_; refine XL_dec (fun _ => ?_) (fun _ => ?_))) | (refine XL_op tt_ok rfl rfl ?_; try (first | refine XL_int (shl8_u64 (by omega) (by omega)) ?_ | refine XL_int (wrap_u64 (by omega) (by omega)) ?_))) | (refine X_id ?_; first | refine X_seq ?_ | (refine X_regionN (by repeat' (exact .nil)) ?_) | refine X_skip ?_ | refine X_ret ?_ | refine X_cond_t rfl ?_ | refine X_cond_f rfl ?_) | (refine Y_id ?_; first | refine Y_then ?_ | refine Y_then_ret ?_))
    all_goals first
      | exact Y_fn2 rfl rfl rfl rfl
      | (exfalso; omega)
      | skip
    
  · rw [if_neg hc]
    repeat' (first | (refine XL_id ?_; first | refine XL_nil ?_ | refine XL_guard_yes rfl rfl rfl ?_ | refine XL_guard_no rfl rfl rfl rfl rfl ?_ | (refine XG_call ?_; first | (refine XL_fn h1 rfl rfl (fun _ _ _ => trivial) ?_; refine XL_dec (fun _ => ?_) (fun _ => ?_)) | (refine XL_fn h2 rfl rfl (fun _ _ _ => trivial) ?_; refine XL_dec (fun _ => ?_) (fun _ => ?_))) | (refine XL_op tt_ok rfl rfl ?_; try (first | refine XL_int (shl8_u64 (by omega) (by omega)) ?_ | refine XL_int (wrap_u64 (by omega) (by omega)) ?_))) | (refine X_id ?_; first | refine X_seq ?_ | (refine X_regionN (by repeat' (exact .nil)) ?_) | refine X_skip ?_ | refine X_ret ?_ | refine X_cond_t rfl ?_ | refine X_cond_f rfl ?_) | (refine Y_id ?_; first | refine Y_then ?_ | refine Y_then_ret ?_))
    all_goals first
      | exact Y_fn2 rfl rfl rfl rfl
      | (exfalso; omega)
      | skip
    
theorem join_spec (p o : Int) : FnC Try.prog 13 [iV p, iV o] (fun _ => True) (pr2 (uV (joinF p o).1) (iV (joinF p o).2)) := by
  unfold joinF
  have h1 := pageMay_spec p
  have h2 := offMay_spec o
  refine Ctr.intro Try.func13 rfl rfl (by decide +kernel) fun F hpre => ?_
  by_cases hc : 0 ≤ p ∧ p < 1048576 ∧ 0 ≤ o ∧ o < 256
  · rw [if_pos hc]
    repeat' (first | (refine XL_id ?_; first | refine XL_nil ?_ | refine XL_guard_yes rfl rfl rfl ?_ | refine XL_guard_no rfl rfl rfl rfl rfl ?_ | (refine XG_call ?_; first | (refine XL_fn h1 rfl rfl (fun _ _ _ => trivial) ?_; refine XL_dec (fun _ => ?_) (fun _ => ?_)) | (refine XL_fn h2 rfl rfl (fun _ _ _ => trivial) ?_; refine XL_dec (fun _ => ?_) (fun _ => ?_))) | (refine XL_op tt_ok rfl rfl ?_; refine XL_int (or_u64 8 (by omega) (by omega) (by omega) (by omega) (by omega) (by omega)) ?_) | (refine XL_op tt_ok rfl rfl ?_; try (first | refine XL_int (shl8_u64 (by omega) (by omega)) ?_ | refine XL_int (wrap_u64 (by omega) (by omega)) ?_))) | (refine X_id ?_; first | refine X_seq ?_ | (refine X_regionN (by repeat' (exact .nil)) ?_) | refine X_skip ?_ | refine X_ret ?_ | refine X_cond_t rfl ?_ | refine X_cond_f rfl ?_) | (refine Y_id ?_; first | refine Y_then ?_ | refine Y_then_ret ?_))
    all_goals first
      | exact Y_fn2 rfl rfl rfl rfl
      | (exfalso; omega)
      | skip
    
  · rw [if_neg hc]
    repeat' (first | (refine XL_id ?_; first | refine XL_nil ?_ | refine XL_guard_yes rfl rfl rfl ?_ | refine XL_guard_no rfl rfl rfl rfl rfl ?_ | (refine XG_call ?_; first | (refine XL_fn h1 rfl rfl (fun _ _ _ => trivial) ?_; refine XL_dec (fun _ => ?_) (fun _ => ?_)) | (refine XL_fn h2 rfl rfl (fun _ _ _ => trivial) ?_; refine XL_dec (fun _ => ?_) (fun _ => ?_))) | (refine XL_op tt_ok rfl rfl ?_; try (first | refine XL_int (shl8_u64 (by omega) (by omega)) ?_ | refine XL_int (wrap_u64 (by omega) (by omega)) ?_))) | (refine X_id ?_; first | refine X_seq ?_ | (refine X_regionN (by repeat' (exact .nil)) ?_) | refine X_skip ?_ | refine X_ret ?_ | refine X_cond_t rfl ?_ | refine X_cond_f rfl ?_) | (refine Y_id ?_; first | refine Y_then ?_ | refine Y_then_ret ?_))
    all_goals first
      | exact Y_fn2 rfl rfl rfl rfl
      | (exfalso; omega)
      | skip
    
theorem rjoin_spec (p o : Int) : FnC Try.prog 14 [iV p, iV o] (fun _ => True) (pr2 (uV (joinF p o).1) (iV (joinF p o).2)) := by
  unfold joinF
  have h1 := rwithin_spec p 0 1048575
  have h2 := rwithin_spec o 0 255
  refine Ctr.intro Try.func14 rfl rfl (by decide +kernel) fun F hpre => ?_
  by_cases hc : 0 ≤ p ∧ p < 1048576 ∧ 0 ≤ o ∧ o < 256
  · rw [if_pos hc]
    repeat' (first | (refine XL_id ?_; first | refine XL_nil ?_ | refine XL_guard_yes rfl rfl rfl ?_ | refine XL_guard_no rfl rfl rfl rfl rfl ?_ | (refine XG_call ?_; first | (refine XL_fn h1 rfl rfl (fun _ _ _ => trivial) ?_; refine XL_dec (fun _ => ?_) (fun _ => ?_)) | (refine XL_fn h2 rfl rfl (fun _ _ _ => trivial) ?_; refine XL_dec (fun _ => ?_) (fun _ => ?_))) | (refine XL_op tt_ok rfl rfl ?_; try (first | refine XL_int (shl8_u64 (by omega) (by omega)) ?_ | refine XL_int (wrap_u64 (by omega) (by omega)) ?_))) | (refine X_id ?_; first | refine X_seq ?_ | (refine X_regionN (by repeat' (exact .nil)) ?_) | refine X_skip ?_ | refine X_ret ?_ | refine X_cond_t rfl ?_ | refine X_cond_f rfl ?_) | (refine Y_id ?_; first | refine Y_then ?_ | refine Y_then_ret ?_))
    all_goals first
      | exact Y_fn2 rfl rfl rfl rfl
      | (exfalso; omega)
      | skip
    
  · rw [if_neg hc]
    repeat' (first | (refine XL_id ?_; first | refine XL_nil ?_ | refine XL_guard_yes rfl rfl rfl ?_ | refine XL_guard_no rfl rfl rfl rfl rfl ?_ | (refine XG_call ?_; first | (refine XL_fn h1 rfl rfl (fun _ _ _ => trivial) ?_; refine XL_dec (fun _ => ?_) (fun _ => ?_)) | (refine XL_fn h2 rfl rfl (fun _ _ _ => trivial) ?_; refine XL_dec (fun _ => ?_) (fun _ => ?_))) | (refine XL_op tt_ok rfl rfl ?_; try (first | refine XL_int (shl8_u64 (by omega) (by omega)) ?_ | refine XL_int (wrap_u64 (by omega) (by omega)) ?_))) | (refine X_id ?_; first | refine X_seq ?_ | (refine X_regionN (by repeat' (exact .nil)) ?_) | refine X_skip ?_ | refine X_ret ?_ | refine X_cond_t rfl ?_ | refine X_cond_f rfl ?_) | (refine Y_id ?_; first | refine Y_then ?_ | refine Y_then_ret ?_))
    all_goals first
      | exact Y_fn2 rfl rfl rfl rfl
      | (exfalso; omega)
      | skip
    
theorem over_spec (p k : Int) (hp : 0 ≤ p ∧ p ≤ 4294967296) (hk : 0 ≤ k ∧ k ≤ 4) : FnC Try.prog 35 [iV p, iV k] (fun _ => True) (iV (p / pow32 k)) := by
  have h5 : k = 0 ∨ k = 1 ∨ k = 2 ∨ k = 3 ∨ k = 4 := by omega
  unfold pow32
  refine Ctr.intro Try.func35 rfl rfl (by decide +kernel) fun F hpre => ?_
  rcases h5 with rfl | rfl | rfl | rfl | rfl
  all_goals
    simp only [if_true, if_false, Int.reduceEq, reduceIte]
    repeat' (first | (refine XL_id ?_; first | refine XL_nil ?_ | (refine XL_op tt_ok rfl rfl ?_; try (first | refine XL_int (wrap_i64 (by omega) (by omega)) ?_ | refine XL_int (quo_i64 (by omega) (by omega) (by omega)) ?_ | refine XL_dec_t (by omega) ?_ | refine XL_dec_f (by omega) ?_))) | (refine X_id ?_; first | refine X_unroll 4 ?_ | refine X_seq ?_ | (refine X_regionN (by repeat' (exact .nil)) ?_) | refine X_skip ?_ | refine X_ret ?_ | refine X_exit ?_ | refine X_block ?_ | refine X_cond_t rfl ?_ | refine X_cond_f rfl ?_) | (refine Y_id ?_; first | refine Y_unroll ?_ | refine Y_then ?_ | refine Y_then_exit ?_ | refine Y_block_hit ?_ | refine Y_block_normal ?_))
    all_goals first
      | exact Y_fn1 rfl rfl (congrArg (Value.int .i64) (by omega))
      | (exfalso; omega)
      | skip
    
end Go.Proofs.Ytgoebgefhgffcaa
