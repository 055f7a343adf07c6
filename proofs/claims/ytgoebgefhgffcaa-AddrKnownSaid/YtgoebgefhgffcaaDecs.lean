/- What the laws of spans are handed. -/
import Derived.Test.YtgoebgefhgffcaaLb
import Derived.KernelRfl
set_option linter.unusedVariables false
namespace Go.Proofs.Ytgoebgefhgffcaa
open Go.RowKit Go.Cof

noncomputable def dIntS : Dec Try.prog 3 Int := Dec.int .i64 Try.underlying3
noncomputable def dSp : Dec Try.prog 39 (Int × Int × Unit) :=
  Dec.struct Try.underlying39 (.cons dIntS rfl (by kernel_rfl) (.cons dIntS rfl (by kernel_rfl) .nil)) (by kernel_rfl) (by decide)
noncomputable def dSps : Dec Try.prog 33 (In (Int × Int × Unit)) := Dec.slice dSp Try.underlying33 (by kernel_rfl) ⟨_, rfl⟩
theorem bytes_sp : Try.prog.bytesOf 39 = 16 := by kernel_rfl
def toSp (x : Int × Int × Unit) : Sp := ⟨x.1, x.2.1⟩
structure SpsOk (h : Hp) (s : In (Int × Int × Unit)) : Prop where
  rd : rdS encSp h s.A s.m (s.xs.map toSp)
  m : s.m ≤ 8796093022200
  all : ∀ r ∈ s.xs.map toSp, i64In r.p ∧ i64In r.n
theorem sps_ok {h : Hp} {s : In (Int × Int × Unit)} (g : dSps.good h s) : SpsOk h s := by
  have w := g.wt
  rw [bytes_sp] at w
  refine ⟨g.rd.map toSp fun x => rfl, by omega, fun r hr => ?_⟩
  obtain ⟨x, hx, rfl⟩ := List.mem_map.1 hr
  obtain ⟨g1, g2, _⟩ := g.all x hx
  exact ⟨rng_i64 g1, rng_i64 g2⟩
end Go.Proofs.Ytgoebgefhgffcaa
