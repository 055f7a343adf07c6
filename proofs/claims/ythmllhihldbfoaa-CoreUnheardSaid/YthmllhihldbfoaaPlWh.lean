/- Turns and slices: the program's. -/
import Derived.Test.YthmllhihldbfoaaPlWg
import Derived.Test.YthmllhihldbfoaaPlWd
set_option linter.unusedVariables false
namespace Go.Proofs.Ythmllhihldbfoaa.Pl
open Go.RowKit Go.Cof

/-- A search with a closure over one box. -/
theorem indexF_spec {f : Nat} {bx : Nat} {cs : List Value} {et : TypeId} (A : Option Addr) (m c : Nat) (xs : List Int) (q : Int → Bool) (hm : m ≤ 9223372036854775807) (hq : ∀ v, v ∈ xs → FnC Try.prog f [iV v, ptr bx] (fun h => blk bx cs et h) (.bool (q v))) :
    FnC Try.prog 66 [.slice A m c, .func (.func f) #[] #[ptr bx]] (fun h => rdS encN h A m xs ∧ blk bx cs et h) (iV (idxI q xs)) := by
  refine Ctr.intro Try.func66 rfl rfl (by decide +kernel) fun F hpre => ?_
  obtain ⟨r1, hb⟩ := hpre
  have hlen := r1.1
  have hfl := firstQ_le q xs
  repeat' (first | (refine XL_id ?_; first | refine XL_nil ?_ | (refine XL_op tt_ok rfl rfl ?_)) | (refine X_id ?_; first | refine X_seq ?_ | (refine X_regionN (by repeat' (exact .nil)) ?_) | refine X_block ?_) | (refine Y_id ?_; refine Y_then ?_))
  refine X_loopD [0, 1, 7] (fun (i : Nat) => [(8, .int .i64 i)]) (fun _ => []) (fun i => i ≤ m ∧ ∀ j : Nat, j < i → q (Cof.get xs j) = false) (fun i => m - i) 0 rfl ⟨Nat.zero_le _, fun j hj => by omega⟩ (by (repeat' (first | exact trivial | refine And.intro rfl ?_)); done) (fun _ h => h) ?_
  intro i hi
  obtain ⟨hi, hx⟩ := hi
  by_cases hlt : i < m
  · have hcl := hq (Cof.get xs (i : Int)) (get_mem' (by omega) (by omega))
    cases hqi : q (Cof.get xs (i : Int)) with
    | true =>
      rw [hqi] at hcl
      have e := firstQ_eq (q := q) (i := i) (by omega) hx (fun _ => hqi)
      repeat' (first | (refine XL_id ?_; first | refine XL_nil ?_ | (refine XG_load ?_; refine XL_el tt_ok rfl (by assumption) rfl (by omega) (by omega) rfl rfl rfl rfl ?_) | (refine XG_idx ?_; refine XL_idx tt_ok rfl rfl rfl rfl rfl (by assumption) (by omega) (by omega) rfl ?_) | (refine XG_call ?_; refine XL_fnV hcl rfl rfl rfl rfl (fun g hg hL => blk_le hb hg) ?_) | (refine XL_op tt_ok rfl rfl ?_; try (refine XL_dec_t (by omega) ?_))) | (refine X_id ?_; first | refine X_seq ?_ | (refine X_regionN (by repeat' (exact .nil)) ?_) | refine X_skip ?_ | refine X_ret ?_ | refine X_block ?_ | refine X_cond_t rfl ?_) | (refine Y_id ?_; first | refine Y_then ?_ | refine Y_then_ret ?_ | refine Y_block_ret ?_))
      all_goals first
        | exact Y_fn1 rfl rfl (by unfold idxI; rw [e, if_pos (by omega)])
        | (exfalso; omega)
        | skip
      
    | false =>
      rw [hqi] at hcl
      repeat' (first | (refine XL_id ?_; first | refine XL_nil ?_ | (refine XG_load ?_; refine XL_el tt_ok rfl (by assumption) rfl (by omega) (by omega) rfl rfl rfl rfl ?_) | (refine XG_idx ?_; refine XL_idx tt_ok rfl rfl rfl rfl rfl (by assumption) (by omega) (by omega) rfl ?_) | (refine XG_call ?_; refine XL_fnV hcl rfl rfl rfl rfl (fun g hg hL => blk_le hb hg) ?_) | (refine XL_op tt_ok rfl rfl ?_; try (first | refine XL_int (wrap_i64 (by omega) (by omega)) ?_ | refine XL_dec_t (by omega) ?_))) | (refine X_id ?_; first | refine X_seq ?_ | (refine X_regionN (by repeat' (exact .nil)) ?_) | refine X_skip ?_ | refine X_block ?_ | refine X_cond_t rfl ?_ | refine X_cond_f rfl ?_) | (refine Y_id ?_; first | refine Y_then ?_ | refine Y_block_normal ?_))
      all_goals first
        | exact Y_again (i + 1) fun _ _ hf hs => ⟨⟨by omega, fun j hj => by
            by_cases hj2 : j < i
            · exact hx j hj2
            · obtain rfl : j = i := by omega
              exact hqi⟩, by omega, hf.sub (by (repeat' (first | exact trivial | refine And.intro rfl ?_)); done), hs⟩
        | (exfalso; omega)
        | skip
      
  · obtain rfl : i = m := by omega
    have e := firstQ_eq (q := q) (l := xs) (i := i) (by omega) hx (fun _ => by omega)
    repeat' (first | (refine XL_id ?_; first | refine XL_nil ?_ | (refine XL_op tt_ok rfl rfl ?_; try (refine XL_dec_f (by omega) ?_))) | (refine X_id ?_; first | refine X_seq ?_ | (refine X_regionN (by repeat' (exact .nil)) ?_) | refine X_ret ?_ | refine X_exit ?_ | refine X_cond_f rfl ?_) | (refine Y_id ?_; first | refine Y_then ?_ | refine Y_then_exit ?_ | refine Y_block_hit ?_))
    exact Y_fn1 rfl rfl (by unfold idxI; rw [e, if_neg (by omega)])
theorem containsF_spec {f : Nat} {bx : Nat} {cs : List Value} {et : TypeId} (A : Option Addr) (m c : Nat) (xs : List Int) (q : Int → Bool) (hm : m ≤ 9223372036854775807) (hq : ∀ v, v ∈ xs → FnC Try.prog f [iV v, ptr bx] (fun h => blk bx cs et h) (.bool (q v))) :
    FnC Try.prog 58 [.slice A m c, .func (.func f) #[] #[ptr bx]] (fun h => rdS encN h A m xs ∧ blk bx cs et h) (.bool (decide (0 ≤ idxI q xs))) := by
  have hix := indexF_spec A m c xs q hm hq
  refine Ctr.intro Try.func58 rfl rfl (by decide +kernel) fun F hpre => ?_
  obtain ⟨r1, hb⟩ := hpre
  repeat' (first | (refine XL_id ?_; first | refine XL_nil ?_ | (refine XG_call ?_; refine XL_fn hix rfl rfl (fun g hg hL => ⟨r1.le hg, blk_le hb hg⟩) ?_) | (refine XL_op tt_ok rfl rfl ?_; try (refine XL_dec (fun _ => ?_) (fun _ => ?_)))) | (refine X_id ?_; first | refine X_seq ?_ | (refine X_regionN (by repeat' (exact .nil)) ?_) | refine X_ret ?_) | (refine Y_id ?_; refine Y_then ?_))
  all_goals first
    | exact Y_fn1 rfl rfl rfl
    | (refine Y_fn1 rfl rfl ?_; first | exact bool_t (by omega) | exact bool_f (by omega))
    | skip
  
def qT (n : Nat) (v : Int) : Bool := decide (¬ (0 ≤ v ∧ v ≤ (n : Int) - 1))
def TurP (d : Cd) : Prop := (1 ≤ d.tn.length ∧ d.tn.length ≤ 64) ∧ ∀ v, v ∈ d.tn → 0 ≤ v ∧ v < (d.ps.length : Int)
instance (d : Cd) : Decidable (TurP d) := inferInstanceAs (Decidable (_ ∧ ∀ v, v ∈ d.tn → _))
theorem cloT_spec (d : Cd) (y : Ly) (hl : y.pm ≤ 9223372036854775807) (v : Int) (bx : Nat) : FnC Try.prog 59 [iV v, ptr bx] (fun h => blk bx (cfL d y) 28 h) (.bool (qT y.pm v)) := by
  refine Ctr.intro Try.func59 rfl rfl (by decide +kernel) fun F hpre => ?_
  have hb : blk bx (cfL d y) 28 F.heap := hpre
  unfold qT
  repeat' (first | (refine XL_id ?_; first | refine XL_nil ?_ | (refine XG_load ?_; refine XL_loadF tt_ok rfl (by assumption) rfl rfl rfl rfl ?_) | (refine XG_call ?_; first | (refine XL_op tt_ok rfl rfl ?_) | (refine XL_fn (pwithin_spec _ _ _) rfl rfl (fun _ _ _ => trivial) ?_; refine XL_dec (fun _ => ?_) (fun _ => ?_))) | (refine XL_op tt_ok rfl rfl ?_; try (refine XL_int (wrap_i64 (by omega) (by omega)) ?_))) | (refine X_id ?_; first | refine X_seq ?_ | (refine X_regionN (by repeat' (exact .nil)) ?_) | refine X_ret ?_) | (refine Y_id ?_; refine Y_then ?_))
  all_goals first
    | (refine Y_fn1 rfl rfl ?_; first | exact bool_t (by omega) | exact bool_f (by omega))
    | skip
  
theorem turned_spec (d : Cd) (y : Ly) (hf : y.Fit) (hl : d.ps.length = y.pm) : FnC Try.prog 42 [cfV d y] (fun h => CfR h d y) (.bool (decide (TurP d))) := by
  have hcap := hf.cap
  have htf := hf.t
  refine Ctr.intro Try.func42 rfl rfl (by decide +kernel) fun F hpre => ?_
  have hpre : CfR F.heap d y := hpre
  have hcl := fun bx => containsF_spec y.tA y.tm y.tc d.tn (qT y.pm) (by omega) (fun v _ => cloT_spec d y (by omega) v bx)
  have htl := hpre.tn.1
  have hfl := firstQ_le (qT y.pm) d.tn
  have hno := firstQ_none (q := qT y.pm) (l := d.tn)
  have hall : firstQ (qT y.pm) d.tn = d.tn.length ↔ ∀ v, v ∈ d.tn → 0 ≤ v ∧ v < (d.ps.length : Int) := by
    rw [hno]
    constructor
    · intro h v hv
      have := of_decide_eq_false (h v hv)
      omega
    · intro h v hv
      have := h v hv
      exact decide_eq_false (by omega)
  have hix : 0 ≤ idxI (qT y.pm) d.tn ↔ ¬ firstQ (qT y.pm) d.tn = d.tn.length := by
    unfold idxI
    split <;> omega
  repeat' (first | (refine XL_id ?_; first | refine XL_nil ?_ | refine XL_guard_yes rfl rfl rfl ?_ | refine XL_guard_no rfl rfl rfl rfl rfl ?_ | (refine XG_box ?_; (refine XL_box rfl (fun _ => rfl) (fun bx => ?_); refine XL_nB (by repeat' (first | exact .nil | apply NL.cons)) ?_)) | (refine XG_load ?_; refine XL_load tt_ok 0 rfl rfl rfl rfl rfl rfl ?_) | (refine XG_call ?_; first | (refine XL_op tt_ok rfl rfl ?_) | (refine XL_fn (pwithin_spec _ _ _) rfl rfl (fun _ _ _ => trivial) ?_; refine XL_dec (fun _ => ?_) (fun _ => ?_)) | (refine XL_fn (hcl bx) rfl rfl (fun g hg hL => ⟨hpre.tn.le hg, blk_at 0 rfl hL⟩) ?_; refine XL_dec (fun _ => ?_) (fun _ => ?_))) | (refine XL_op tt_ok rfl rfl ?_)) | (refine X_id ?_; first | refine X_seq ?_ | (refine X_regionN (by repeat' (first | exact .nil | apply NL.cons)) ?_) | refine X_ret ?_) | (refine Y_id ?_; refine Y_then ?_))
  all_goals first
    | exact Y_fn1 rfl rfl (bool_t ⟨by omega, hall.1 (by omega)⟩)
    | exact Y_fn1 rfl rfl (bool_f (fun h => by have a := hall.2 h.2; omega))
    | exact Y_fn1 rfl rfl (bool_f (fun h => by have a := h.1; omega))
    | skip
  
end Go.Proofs.Ythmllhihldbfoaa.Pl
