/- What the laws of this layer are handed. -/
import Derived.Test.YtalkcemelegohaaLa
import Derived.Test.YtalkcemelegohaaSlS
import Derived.KernelRfl
set_option linter.unusedVariables false
namespace Go.Proofs.Ytalkcemelegohaa
open Go.RowKit Go.Cof
open Vm (Rg encRg rgV)

noncomputable def dInt : Dec Try.prog 3 Int := Dec.int .i64 Try.underlying3
noncomputable def dU8 : Dec Try.prog 5 Int := Dec.int .u8 Try.underlying5
noncomputable def dRg : Dec Try.prog 73 (Int × Int × Int × Unit) :=
  Dec.struct Try.underlying73 (.cons dInt rfl (by kernel_rfl) (.cons dInt rfl (by kernel_rfl) (.cons dU8 rfl (by kernel_rfl) .nil))) (by kernel_rfl) (by decide)
noncomputable def dRgs : Dec Try.prog 22 (In (Int × Int × Int × Unit)) := Dec.slice dRg Try.underlying22 (by kernel_rfl) ⟨_, rfl⟩
abbrev SpT := In (Int × Int × Int × Unit) × Int × Unit
noncomputable def dSpc : Dec Try.prog 24 SpT :=
  Dec.struct Try.underlying24 (.cons dRgs rfl (by kernel_rfl) (.cons dInt rfl (by kernel_rfl) .nil)) (by kernel_rfl) (by decide)
abbrev AskT := Int × Int × Int × Int × Unit
noncomputable def dAsk : Dec Try.prog 26 AskT :=
  Dec.struct Try.underlying26 (.cons dInt rfl (by kernel_rfl) (.cons dInt rfl (by kernel_rfl) (.cons dInt rfl (by kernel_rfl) (.cons dU8 rfl (by kernel_rfl) .nil)))) (by kernel_rfl) (by decide)
noncomputable def dAsks : Dec Try.prog 36 (In AskT) := Dec.slice dAsk Try.underlying36 (by kernel_rfl) ⟨_, rfl⟩
theorem bytes_rg : Try.prog.bytesOf 73 = 24 := by kernel_rfl
def toRg (x : Int × Int × Int × Unit) : Rg := ⟨x.1, x.2.1, x.2.2.1⟩
structure RgsOk (h : Hp) (s : In (Int × Int × Int × Unit)) : Prop where
  rd : rdS encRg h s.A s.m (s.xs.map toRg)
  le : s.m ≤ s.c
  m : s.m ≤ 5864062014634
  all : ∀ r ∈ s.xs.map toRg, r.In
theorem rgs_ok {h : Hp} {s : In (Int × Int × Int × Unit)} (g : dRgs.good h s) : RgsOk h s := by
  have w := g.wt
  rw [bytes_rg] at w
  refine ⟨g.rd.map toRg fun x => rfl, g.le, by omega, fun r hr => ?_⟩
  obtain ⟨x, hx, rfl⟩ := List.mem_map.1 hr
  obtain ⟨g1, g2, g3, _⟩ := g.all x hx
  exact ⟨rng_i64 g1, rng_i64 g2, rng_u8 g3⟩
theorem spc_ok {h : Hp} {x : SpT} (g : dSpc.good h x) : RgsOk h x.1 := rgs_ok g.1
theorem rng_ask {h : Hp} {x : AskT} (g : dAsk.good h x) : (-9223372036854775808 ≤ x.1 ∧ x.1 ≤ 9223372036854775807) ∧ (-9223372036854775808 ≤ x.2.1 ∧ x.2.1 ≤ 9223372036854775807) ∧ (-9223372036854775808 ≤ x.2.2.1 ∧ x.2.2.1 ≤ 9223372036854775807) ∧ (0 ≤ x.2.2.2.1 ∧ x.2.2.2.1 < 256) := by
  obtain ⟨g0, g1, g2, g3, _⟩ := g
  exact ⟨rng_i64 g0, rng_i64 g1, rng_i64 g2, rng_u8 g3⟩
end Go.Proofs.Ytalkcemelegohaa
