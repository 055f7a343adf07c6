/- Copies of lists. -/
import Derived.Test.YtpokfingnflblaaSa
set_option linter.unusedVariables false
namespace Go.Proofs.Ytpokfingnflblaa
open Go.RowKit Go.Cof

theorem copyInts_spec (A : Option Addr) (m c : Nat) (xs : List Int) (hm : m * 8 ≤ 140737488355328) : Ctr Try.prog 31 [.slice A m c] (fun h => rdS encN h A m xs) [] (fun v L => ∃ A' c', v = .slice A' m c' ∧ L = [own encN A' m c' xs]) := by
  refine Ctr.intro Try.func31 rfl rfl (by decide +kernel) fun F hpre => ?_
  have r1 : rdS encN F.heap A m xs := hpre
  refine X_mem (fun _ hs => stars_new (own_nil encN _) hs) ?_
  repeat' (first | (refine XL_id ?_; first | refine XL_nil ?_ | (refine XG_call ?_; (refine XL_appF (E := encN) tt_ok 0 rfl rfl r1 rfl rfl rfl rfl rfl rfl rfl (by show (_ : Nat) * 8 ≤ _; omega) (by omega) (fun _ _ => rfl) (fun A2 c2 => ?_))) | (refine XL_op tt_ok rfl rfl ?_)) | (refine X_id ?_; first | refine X_seq ?_ | (refine X_regionN (by repeat' (first | exact .nil | apply NL.cons)) ?_) | refine X_ret ?_) | (refine Y_id ?_; refine Y_then ?_))
  all_goals first
    | (rw [show 0 + m = m from Nat.zero_add m]; exact Y_ret1 rfl rfl (fun h hs => hs) ⟨_, _, rfl, rfl⟩)
    | skip
  
end Go.Proofs.Ytpokfingnflblaa
