/- What the laws of Disk are handed. -/
import Derived.Test.YtmegelkbipgjbaaLc
import Derived.KernelRfl
set_option linter.unusedVariables false
namespace Go.Proofs.Ytmegelkbipgjbaa
open Go.RowKit Go.Cof

noncomputable def dInt : Dec Try.prog 3 Int := Dec.int .i64 Try.underlying3
noncomputable def dByte : Dec Try.prog 5 Int := Dec.int .u8 Try.underlying5
noncomputable def dU8 : Dec Try.prog 22 (In Int) := Dec.slice dByte Try.underlying22 (by kernel_rfl) ⟨_, rfl⟩
theorem bytes_u8 : Try.prog.bytesOf 5 = 1 := by kernel_rfl
abbrev DoT := Int × Int × In Int × Unit
noncomputable def dDo : Dec Try.prog 33 DoT :=
  Dec.struct Try.underlying33 (.cons dInt rfl (by kernel_rfl) (.cons dInt rfl (by kernel_rfl) (.cons dU8 rfl (by kernel_rfl) .nil))) (by kernel_rfl) (by decide)
noncomputable def dDos : Dec Try.prog 23 (In DoT) := Dec.slice dDo Try.underlying23 (by kernel_rfl) ⟨_, rfl⟩
def toDd (x : DoT) : Dd := ⟨x.1, x.2.1, x.2.2.1⟩
theorem bytes_do : 1 ≤ Try.prog.bytesOf 33 := of_decide_eq_true (by kernel_rfl)
structure DosOk (h : Hp) (s : In DoT) : Prop where
  ok : DdsOk h s.A s.m (s.xs.map toDd)
  m : s.m ≤ 9223372036854775807
  all : ∀ r ∈ s.xs.map toDd, r.In
theorem dos_ok {h : Hp} {s : In DoT} (g : dDos.good h s) : DosOk h s := by
  have w := g.wt
  have hb := bytes_do
  have hle := Nat.le_mul_of_pos_right s.m hb
  refine ⟨⟨g.rd.map toDd fun x => rfl, fun r hr => ?_⟩, by omega, fun r hr => ?_⟩
  · obtain ⟨x, hx, rfl⟩ := List.mem_map.1 hr
    obtain ⟨_, _, g7, _⟩ := g.all x hx
    exact g7.rd
  · obtain ⟨x, hx, rfl⟩ := List.mem_map.1 hr
    obtain ⟨g1, g2, g7, _⟩ := g.all x hx
    have wB := g7.wt
    rw [bytes_u8, Nat.mul_one] at wB
    exact ⟨rng_i64 g1, rng_i64 g2, by show x.2.2.1.m ≤ _; omega, g7.le⟩
end Go.Proofs.Ytmegelkbipgjbaa
