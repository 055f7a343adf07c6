/- What the laws of this layer are handed. -/
import Derived.Test.YtkcpjgdmfjhlkaaLc
import Derived.KernelRfl
set_option linter.unusedVariables false
namespace Go.Proofs.Ytkcpjgdmfjhlkaa
open Go.RowKit Go.Cof

noncomputable def dInt : Dec Try.prog 3 Int := Dec.int .i64 Try.underlying3
noncomputable def dInts : Dec Try.prog 44 (In Int) := Dec.slice dInt Try.underlying44 (by kernel_rfl) ⟨_, rfl⟩
abbrev DoT := Int × Int × Int × Unit
noncomputable def dDo : Dec Try.prog 34 DoT :=
  Dec.struct Try.underlying34 (.cons dInt rfl (by kernel_rfl) (.cons dInt rfl (by kernel_rfl) (.cons dInt rfl (by kernel_rfl) .nil))) (by kernel_rfl) (by decide)
noncomputable def dDos : Dec Try.prog 22 (In DoT) := Dec.slice dDo Try.underlying22 (by kernel_rfl) ⟨_, rfl⟩
def toDo (x : DoT) : Do3 := ⟨x.1, x.2.1, x.2.2.1⟩
theorem bytes_do : 1 ≤ Try.prog.bytesOf 34 := of_decide_eq_true (by kernel_rfl)
theorem bytes_int : 1 ≤ Try.prog.bytesOf 3 := of_decide_eq_true (by kernel_rfl)
structure DosOk (h : Hp) (s : In DoT) : Prop where
  rd : rdS encDo h s.A s.m (s.xs.map toDo)
  m : s.m ≤ 9223372036854775807
  all : ∀ r ∈ s.xs.map toDo, r.In
theorem dos_ok {h : Hp} {s : In DoT} (g : dDos.good h s) : DosOk h s := by
  have w := g.wt
  have hle := Nat.le_mul_of_pos_right s.m bytes_do
  refine ⟨g.rd.map toDo fun x => rfl, by omega, fun r hr => ?_⟩
  obtain ⟨x, hx, rfl⟩ := List.mem_map.1 hr
  obtain ⟨g1, g2, g3, _⟩ := g.all x hx
  exact ⟨rng_i64 g1, rng_i64 g2, rng_i64 g3⟩
theorem ints_m {h : Hp} {s : In Int} (g : dInts.good h s) : s.m ≤ 9223372036854775807 := by
  have w := g.wt
  have hle := Nat.le_mul_of_pos_right s.m bytes_int
  omega
theorem ints_all {h : Hp} {s : In Int} (g : dInts.good h s) : ∀ n ∈ s.xs, i64R n := fun n hn => rng_i64 (g.all n hn)
end Go.Proofs.Ytkcpjgdmfjhlkaa
