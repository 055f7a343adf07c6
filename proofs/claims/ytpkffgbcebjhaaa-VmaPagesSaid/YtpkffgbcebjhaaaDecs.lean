/- What the laws of this layer are handed. -/
import Derived.Test.YtpkffgbcebjhaaaLa
import Derived.KernelRfl
set_option linter.unusedVariables false
namespace Go.Proofs.Ytpkffgbcebjhaaa
open Go.RowKit Go.Cof

noncomputable def dInt : Dec Try.prog 3 Int := Dec.int .i64 Try.underlying3
noncomputable def dU8 : Dec Try.prog 5 Int := Dec.int .u8 Try.underlying5
noncomputable def dRg : Dec Try.prog 29 (Int × Int × Int × Unit) :=
  Dec.struct Try.underlying29 (.cons dInt rfl (by kernel_rfl) (.cons dInt rfl (by kernel_rfl) (.cons dU8 rfl (by kernel_rfl) .nil))) (by kernel_rfl) (by decide)
noncomputable def dRgs : Dec Try.prog 22 (In (Int × Int × Int × Unit)) := Dec.slice dRg Try.underlying22 (by kernel_rfl) ⟨_, rfl⟩
noncomputable def dAsk : Dec Try.prog 24 (Int × Int × Int × Int × Unit) :=
  Dec.struct Try.underlying24 (.cons dInt rfl (by kernel_rfl) (.cons dInt rfl (by kernel_rfl) (.cons dU8 rfl (by kernel_rfl) (.cons dInt rfl (by kernel_rfl) .nil)))) (by kernel_rfl) (by decide)
noncomputable def dArr : Dec Try.prog 40 (Vec Int 2) := Dec.array dInt Try.underlying40 (by kernel_rfl) (by kernel_rfl) (by decide)
theorem vec2 (h : Hp) (a : Vec Int 2) (g : dArr.good h a) : ∃ x0 x1, (dArr.E.enc a).toArray = #[.int .i64 x0, .int .i64 x1] ∧ (-9223372036854775808 ≤ x0 ∧ x0 ≤ 9223372036854775807) ∧ (-9223372036854775808 ≤ x1 ∧ x1 ≤ 9223372036854775807) := by
  obtain ⟨l, hl⟩ := a
  match l, hl, g with
  | [x, y], _, g => exact ⟨x, y, rfl, rng_i64 (g x (by simp)), rng_i64 (g y (by simp))⟩
theorem bytes_rg : Try.prog.bytesOf 29 = 24 := by kernel_rfl
def toRg (x : Int × Int × Int × Unit) : Rg := ⟨x.1, x.2.1, x.2.2.1⟩
structure RgsOk (h : Hp) (s : In (Int × Int × Int × Unit)) : Prop where
  rd : rdS encRg h s.A s.m (s.xs.map toRg)
  le : s.m ≤ s.c
  m : s.m ≤ 5864062014634
  all : ∀ r ∈ s.xs.map toRg, r.In
theorem rgs_ok {h : Hp} {s : In (Int × Int × Int × Unit)} (g : dRgs.good h s) : RgsOk h s := by
  have w := g.wt
  rw [bytes_rg] at w
  refine ⟨g.rd.map toRg fun x => rfl, g.le, by omega, fun r hr => ?_⟩
  obtain ⟨x, hx, rfl⟩ := List.mem_map.1 hr
  obtain ⟨g1, g2, g3, _⟩ := g.all x hx
  exact ⟨rng_i64 g1, rng_i64 g2, rng_u8 g3⟩
theorem ask_in {h : Hp} {x : Int × Int × Int × Int × Unit} (g : dAsk.good h x) : (⟨x.1, x.2.1, x.2.2.1⟩ : Rg).In := by
  obtain ⟨g1, g2, g3, _⟩ := g
  exact ⟨rng_i64 g1, rng_i64 g2, rng_u8 g3⟩
end Go.Proofs.Ytpkffgbcebjhaaa
