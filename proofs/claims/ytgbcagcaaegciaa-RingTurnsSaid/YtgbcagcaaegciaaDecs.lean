/- What the laws of this layer are handed. -/
import Derived.Test.YtgbcagcaaegciaaLb
import Derived.KernelRfl
set_option linter.unusedVariables false
namespace Go.Proofs.Ytgbcagcaaegciaa
open Go.RowKit Go.Cof

noncomputable def dInt : Dec Try.prog 3 Int := Dec.int .i64 Try.underlying3
noncomputable def dBool : Dec Try.prog 4 Bool := Dec.bool Try.underlying4
noncomputable def dBools : Dec Try.prog 30 (In Bool) := Dec.slice dBool Try.underlying30 (by kernel_rfl) ⟨_, rfl⟩
abbrev DoT := Int × Int × In Bool × Bool × Unit
noncomputable def dDo : Dec Try.prog 32 DoT :=
  Dec.struct Try.underlying32 (.cons dInt rfl (by kernel_rfl) (.cons dInt rfl (by kernel_rfl) (.cons dBools rfl (by kernel_rfl) (.cons dBool rfl (by kernel_rfl) .nil)))) (by kernel_rfl) (by decide)
noncomputable def dDos : Dec Try.prog 22 (In DoT) := Dec.slice dDo Try.underlying22 (by kernel_rfl) ⟨_, rfl⟩
def toDo (x : DoT) : Do := ⟨x.1, x.2.1, x.2.2.1.A, x.2.2.1.m, x.2.2.1.c, x.2.2.2.1⟩
theorem bytes_do : 1 ≤ Try.prog.bytesOf 32 := of_decide_eq_true (by kernel_rfl)
theorem bytes_bool : 1 ≤ Try.prog.bytesOf 4 := of_decide_eq_true (by kernel_rfl)
structure DosOk (h : Hp) (s : In DoT) : Prop where
  rd : rdS encDo h s.A s.m (s.xs.map toDo)
  m : s.m ≤ 9223372036854775807
  k : ∀ x ∈ s.xs.map toDo, -9223372036854775808 ≤ x.k ∧ x.k ≤ 9223372036854775807
  i : ∀ x ∈ s.xs.map toDo, -9223372036854775808 ≤ x.i ∧ x.i ≤ 9223372036854775807
  b : ∀ x ∈ s.xs.map toDo, ∃ bs, rdS encB h x.B x.m bs
theorem dos_ok {h : Hp} {s : In DoT} (g : dDos.good h s) : DosOk h s := by
  have w := g.wt
  have hle := Nat.le_mul_of_pos_right s.m bytes_do
  refine ⟨g.rd.map toDo fun x => rfl, by omega, fun r hr => ?_, fun r hr => ?_, fun r hr => ?_⟩
  · obtain ⟨x, hx, rfl⟩ := List.mem_map.1 hr
    exact rng_i64 (g.all x hx).1
  · obtain ⟨x, hx, rfl⟩ := List.mem_map.1 hr
    exact rng_i64 (g.all x hx).2.1
  · obtain ⟨x, hx, rfl⟩ := List.mem_map.1 hr
    exact ⟨x.2.2.1.xs, (g.all x hx).2.2.1.rd⟩
structure BoolsOk (h : Hp) (s : In Bool) : Prop where
  rd : rdS encB h s.A s.m s.xs
  m : s.m ≤ 9223372036854775807
theorem bools_ok {h : Hp} {s : In Bool} (g : dBools.good h s) : BoolsOk h s := by
  have w := g.wt
  have hle := Nat.le_mul_of_pos_right s.m bytes_bool
  exact ⟨g.rd, by omega⟩
end Go.Proofs.Ytgbcagcaaegciaa
