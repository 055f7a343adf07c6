/- Walks of the program's TLB, as a row, the youngest first. -/
import Derived.Test.YthmllhihldbfoaaTlPa
set_option linter.unusedVariables false
namespace Go.Proofs.Ythmllhihldbfoaa.Tl
open Go.RowKit Go.Cof

def isTlb (p : Nat) (n : Int) (ys : List Tr) : HProp := fun h => ∃ x : Option Addr × Nat, TOk n ys ∧ stars [tlbB p n x.1 ys.length x.2, own encTr x.1 ys.length x.2 ys.reverse] h
theorem isTlb_mk {p : Nat} {n : Int} {A : Option Addr} {m c : Nat} {l : List Tr} (ys : List Tr) (hok : TOk n ys) (hm : m = ys.length) (hl : l = ys.reverse) : ∀ h, stars [tlbB p n A m c, own encTr A m c l] h → isTlb p n ys h := fun h hs => by
  subst hm hl
  exact ⟨(A, c), hok, hs⟩
theorem new_ok (n : Int) (h1 : 1 ≤ n) (h2 : n ≤ 64) : Ctr Try.prog 20 [.int .i64 n] (fun _ => True) [] (fun v L => ∃ p, v = .tuple #[ptr p, .int .i64 0] ∧ L = [isTlb p n []]) := by
  refine Ctr.intro Try.func20 rfl rfl (by decide +kernel) fun F hpre => ?_
  repeat' (first | (refine XL_id ?_; first | refine XL_nil ?_ | refine XL_guard_yes rfl rfl rfl ?_ | (refine XG_box ?_; (refine XL_box rfl (fun _ => rfl) (fun _ => ?_); refine XL_nB (by repeat' (first | exact .nil | apply NL.cons)) ?_)) | (refine XG_build ?_; (refine XL_build tt_ok rfl rfl rfl rfl rfl rfl rfl ?_; refine XL_aggN (by repeat' (first | exact .nil | apply NL.cons)) ?_)) | (refine XL_op tt_ok rfl rfl ?_; try (refine XL_dec_f (by omega) ?_))) | (refine X_id ?_; first | refine X_seq ?_ | (refine X_regionN (by repeat' (exact .nil)) ?_) | refine X_skip ?_ | refine X_ret ?_ | refine X_cond_f rfl ?_) | (refine Y_id ?_; refine Y_then ?_))
  all_goals first
    | exact Y_ret2 rfl rfl rfl (stars_fin [0] rfl fun h hs => ⟨(none, 0), TOk.nil h1 h2, by obtain ⟨g1, g2, d, a, b, hA, hB⟩ := hs; exact ⟨g1, g2, d, a, b, hA, stars_new (own_nil _ _) hB⟩⟩) ⟨_, rfl, rfl⟩
    | (exfalso; omega)
    | skip
  
theorem new_bad (n : Int) (h : n < 1 ∨ 64 < n) : FnC Try.prog 20 [.int .i64 n] (fun _ => True) (.tuple #[.pointer none, .int .i64 2]) := by
  refine Ctr.intro Try.func20 rfl rfl (by decide +kernel) fun F hpre => ?_
  repeat' (first | (refine XL_id ?_; first | refine XL_nil ?_ | refine XL_guard_yes rfl rfl rfl ?_ | refine XL_guard_no rfl rfl rfl rfl rfl ?_ | (refine XL_op tt_ok rfl rfl ?_; try (first | refine XL_dec_t (by omega) ?_ | refine XL_dec (fun _ => ?_) (fun _ => ?_)))) | (refine X_id ?_; first | refine X_seq ?_ | (refine X_regionN (by repeat' (exact .nil)) ?_) | refine X_ret ?_ | refine X_cond_t rfl ?_) | (refine Y_id ?_; first | refine Y_then ?_ | refine Y_then_ret ?_))
  all_goals first
    | exact Y_fn2 rfl rfl rfl rfl
    | (exfalso; omega)
end Go.Proofs.Ythmllhihldbfoaa.Tl
