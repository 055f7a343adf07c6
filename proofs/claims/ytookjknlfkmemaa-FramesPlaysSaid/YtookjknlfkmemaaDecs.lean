/- What the laws of this layer are handed. -/
import Derived.Test.YtookjknlfkmemaaSlJ
import Derived.Test.YtookjknlfkmemaaTab
import Derived.KernelRfl
set_option linter.unusedVariables false
namespace Go.Proofs.Ytookjknlfkmemaa
open Go.RowKit Go.Cof

noncomputable def dU8 : Dec Try.prog 22 (In Int) := Dec.slice (Dec.int .u8 Try.underlying5) Try.underlying22 (by kernel_rfl) ⟨_, rfl⟩
noncomputable def dInt : Dec Try.prog 3 Int := Dec.int .i64 Try.underlying3
noncomputable def dU64 : Dec Try.prog 23 Int := Dec.int .u64 Try.underlying23
noncomputable def dTwo : Dec Try.prog 25 (In Int × In Int × Int × Int × Int × Int × Unit) :=
  Dec.struct Try.underlying25 (.cons dU8 rfl (by kernel_rfl) (.cons dU8 rfl (by kernel_rfl) (.cons dInt rfl (by kernel_rfl) (.cons dInt rfl (by kernel_rfl) (.cons dU64 rfl (by kernel_rfl) (.cons dInt rfl (by kernel_rfl) .nil)))))) (by kernel_rfl) (by decide)
theorem bytes_u8 : Try.prog.bytesOf 5 = 1 := by kernel_rfl
structure TwoOk (h : Hp) (A B : In Int) (at_ size v fr : Int) : Prop where
  rA : rdS (encI .u8) h A.A A.m A.xs
  rB : rdS (encI .u8) h B.A B.m B.xs
  mA : A.m ≤ 140737488351232
  mB : B.m ≤ 140737488351232
  bA : ∀ x ∈ A.xs, 0 ≤ x ∧ x < 256
  bB : ∀ x ∈ B.xs, 0 ≤ x ∧ x < 256
  at_ : -9223372036854775808 ≤ at_ ∧ at_ ≤ 9223372036854775807
  size : -9223372036854775808 ≤ size ∧ size ≤ 9223372036854775807
  v : 0 ≤ v ∧ v ≤ 18446744073709551615
  fr : -9223372036854775808 ≤ fr ∧ fr ≤ 9223372036854775807
theorem two_ok {h : Hp} {x : In Int × In Int × Int × Int × Int × Int × Unit} (g : dTwo.good h x) : TwoOk h x.1 x.2.1 x.2.2.1 x.2.2.2.1 x.2.2.2.2.1 x.2.2.2.2.2.1 := by
  obtain ⟨gA, gB, g1, g2, g3, g4, _⟩ := g
  have wA := gA.wt
  have wB := gB.wt
  rw [bytes_u8, Nat.mul_one] at wA wB
  exact ⟨gA.rd, gB.rd, wA, wB, fun x hx => rng_u8 (gA.all x hx), fun x hx => rng_u8 (gB.all x hx), rng_i64 g1, rng_i64 g2, rng_u64 g3, rng_i64 g4⟩
end Go.Proofs.Ytookjknlfkmemaa
