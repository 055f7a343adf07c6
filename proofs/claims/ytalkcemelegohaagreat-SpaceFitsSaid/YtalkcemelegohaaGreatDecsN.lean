/- What the law of needs is handed. -/
import Derived.Test.YtalkcemelegohaaGreatLw
import Derived.Test.YtalkcemelegohaaGreatSlS
import Derived.KernelRfl
set_option linter.unusedVariables false
namespace Go.Proofs.YtalkcemelegohaaGreat
open Go.RowKit Go.Cof

noncomputable def dIntN : Dec Tryz.prog 3 Int := Dec.int .i64 Tryz.underlying3
abbrev NdT := Int × Int × Int × Int × Unit
noncomputable def dNd : Dec Tryz.prog 30 NdT :=
  Dec.struct Tryz.underlying30 (.cons dIntN rfl (by kernel_rfl) (.cons dIntN rfl (by kernel_rfl) (.cons dIntN rfl (by kernel_rfl) (.cons dIntN rfl (by kernel_rfl) .nil)))) (by kernel_rfl) (by decide)
end Go.Proofs.YtalkcemelegohaaGreat
