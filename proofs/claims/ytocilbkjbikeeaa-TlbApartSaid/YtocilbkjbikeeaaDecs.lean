/- What the laws of this layer are handed. -/
import Derived.Test.YtocilbkjbikeeaaLa
import Derived.KernelRfl
set_option linter.unusedVariables false
namespace Go.Proofs.Ytocilbkjbikeeaa
open Go.RowKit Go.Cof

noncomputable def dInt : Dec Try.prog 3 Int := Dec.int .i64 Try.underlying3
noncomputable def dBool : Dec Try.prog 4 Bool := Dec.bool Try.underlying4
abbrev TrT := Int × Int × Int × Bool × Bool × Bool × Unit
noncomputable def dTr : Dec Try.prog 31 TrT :=
  Dec.struct Try.underlying31 (.cons dInt rfl (by kernel_rfl) (.cons dInt rfl (by kernel_rfl) (.cons dInt rfl (by kernel_rfl) (.cons dBool rfl (by kernel_rfl) (.cons dBool rfl (by kernel_rfl) (.cons dBool rfl (by kernel_rfl) .nil)))))) (by kernel_rfl) (by decide)
abbrev DoT := Int × TrT × Unit
noncomputable def dDo : Dec Try.prog 33 DoT :=
  Dec.struct Try.underlying33 (.cons dInt rfl (by kernel_rfl) (.cons dTr rfl (by kernel_rfl) .nil)) (by kernel_rfl) (by decide)
noncomputable def dDos : Dec Try.prog 22 (In DoT) := Dec.slice dDo Try.underlying22 (by kernel_rfl) ⟨_, rfl⟩
noncomputable def dTrs : Dec Try.prog 45 (In TrT) := Dec.slice dTr Try.underlying45 (by kernel_rfl) ⟨_, rfl⟩
def toTr (x : TrT) : Tr := ⟨x.1, x.2.1, x.2.2.1, x.2.2.2.1, x.2.2.2.2.1, x.2.2.2.2.2.1⟩
def toDd (x : DoT) : Dd := ⟨x.1, toTr x.2.1⟩
theorem bytes_do : 1 ≤ Try.prog.bytesOf 33 := of_decide_eq_true (by kernel_rfl)
theorem bytes_tr : 1 ≤ Try.prog.bytesOf 31 := of_decide_eq_true (by kernel_rfl)
structure DosOk (h : Hp) (s : In DoT) : Prop where
  rd : rdS encDd h s.A s.m (s.xs.map toDd)
  m : s.m ≤ 9223372036854775807
  all : ∀ r ∈ s.xs.map toDd, r.In
theorem dos_ok {h : Hp} {s : In DoT} (g : dDos.good h s) : DosOk h s := by
  have w := g.wt
  have hle := Nat.le_mul_of_pos_right s.m bytes_do
  refine ⟨g.rd.map toDd fun x => rfl, by omega, fun r hr => ?_⟩
  obtain ⟨x, hx, rfl⟩ := List.mem_map.1 hr
  obtain ⟨g1, ⟨g2, g3, g4, _⟩, _⟩ := g.all x hx
  exact ⟨rng_i64 g1, rng_i64 g2, rng_i64 g3, rng_i64 g4⟩
structure TrsOk (h : Hp) (s : In TrT) : Prop where
  rd : rdS encTr h s.A s.m (s.xs.map toTr)
  m : s.m ≤ 9223372036854775807
  all : ∀ x ∈ s.xs.map toTr, -9223372036854775808 ≤ x.f ∧ x.f ≤ 9223372036854775807
theorem trs_ok {h : Hp} {s : In TrT} (g : dTrs.good h s) : TrsOk h s := by
  have w := g.wt
  have hle := Nat.le_mul_of_pos_right s.m bytes_tr
  refine ⟨g.rd.map toTr fun x => rfl, by omega, fun r hr => ?_⟩
  obtain ⟨x, hx, rfl⟩ := List.mem_map.1 hr
  obtain ⟨g2, g3, g4, _⟩ := g.all x hx
  exact rng_i64 g4
end Go.Proofs.Ytocilbkjbikeeaa
