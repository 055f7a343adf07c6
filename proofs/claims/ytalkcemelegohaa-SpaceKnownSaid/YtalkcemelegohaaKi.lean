/- The law SpaceKnown, walked. -/
import Derived.Test.YtalkcemelegohaaKb
import Derived.Test.YtalkcemelegohaaKc
import Derived.Test.YtalkcemelegohaaKf
import Derived.Test.YtalkcemelegohaaKh
set_option linter.unusedVariables false
set_option maxRecDepth 100000
namespace Go.Proofs.Ytalkcemelegohaa
open Go.RowKit Go.Cof
open Vm (Rg encRg rgV)

set_option maxHeartbeats 16000000 in
theorem spaceKnown_walk : FnC Try.prog 8 [] (fun _ => True) (.bool true) := by
  refine Ctr.intro Try.func8 rfl rfl (by decide +kernel) fun F hpre => ?_
  refine seg0 fun b1 q => seg1 <| seg2 fun b6 => seg3 <| seg4 <| seg5 <| seg6 <| seg7 ?_
  change X _ _ _ (.seq _ _) _ _ _
  repeat' (first | (refine XL_id ?_; first | refine XL_nil ?_ | refine XL_guard_yes rfl rfl rfl ?_ | (refine XG_call ?_; first | refine XL_fn works_spec rfl rfl (fun _ _ _ => trivial) ?_ | refine XL_fn fitsK_spec rfl rfl (fun _ _ _ => trivial) ?_) | (refine XL_op tt_ok rfl rfl ?_; try (refine XL_dec_t (by omega) ?_))) | (refine X_id ?_; first | refine X_seq ?_ | (refine X_regionN (by repeat' (exact .nil)) ?_) | refine X_ret ?_) | (refine Y_id ?_; refine Y_then ?_))
  all_goals first
    | exact Y_fn1 rfl rfl rfl
    | skip
  
end Go.Proofs.Ytalkcemelegohaa
