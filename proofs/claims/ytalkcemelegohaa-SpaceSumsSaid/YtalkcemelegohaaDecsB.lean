/- What the laws of this layer are handed: lists of spaces, accesses. -/
import Derived.Test.YtalkcemelegohaaDecs
import Derived.Test.YtalkcemelegohaaLg
set_option linter.unusedVariables false
namespace Go.Proofs.Ytalkcemelegohaa
open Go.RowKit Go.Cof
open Vm (Rg encRg rgV)

noncomputable def dSpcs : Dec Try.prog 42 (In SpT) := Dec.slice dSpc Try.underlying42 (by kernel_rfl) ⟨_, rfl⟩
noncomputable def dU64 : Dec Try.prog 49 Int := Dec.int .u64 Try.underlying49
noncomputable def dBool : Dec Try.prog 4 Bool := Dec.bool Try.underlying4
abbrev TyT := Int × Int × Bool × Unit
noncomputable def dTy : Dec Try.prog 51 TyT :=
  Dec.struct Try.underlying51 (.cons dU64 rfl (by kernel_rfl) (.cons dInt rfl (by kernel_rfl) (.cons dBool rfl (by kernel_rfl) .nil))) (by kernel_rfl) (by decide)
noncomputable def dTys : Dec Try.prog 43 (In TyT) := Dec.slice dTy Try.underlying43 (by kernel_rfl) ⟨_, rfl⟩
theorem bytes_spc : Try.prog.bytesOf 24 = 32 := by kernel_rfl
def toSv (x : SpT) : Sv := ⟨x.1.A, x.1.m, x.1.c, x.1.xs.map toRg, x.2.1⟩
def toTy (x : TyT) : Ty := ⟨x.1, x.2.1, x.2.2.1⟩
theorem spcs_m {h : Hp} {s : In SpT} (g : dSpcs.good h s) : s.m ≤ 4398046511104 := by
  have w := g.wt
  rw [bytes_spc] at w
  omega
theorem tys_m {h : Hp} {s : In TyT} (g : dTys.good h s) : s.m ≤ 9223372036854775807 := by
  have := g.le; have := g.max; simp only [maxLen] at this; omega
theorem spcs_ok {h : Hp} {s : In SpT} (g : dSpcs.good h s) : ∀ z ∈ s.xs.map toSv, z.Ok := fun z hz => by
  obtain ⟨x, hx, rfl⟩ := List.mem_map.1 hz
  have r := spc_ok (g.all x hx)
  exact ⟨r.rd.1, r.m, r.le, r.all⟩
theorem spcs_R {h : Hp} {s : In SpT} (g : dSpcs.good h s) : SvsR h s.A s.m (s.xs.map toSv) :=
  ⟨g.rd.map toSv fun x => rfl, fun z hz => by
    obtain ⟨x, hx, rfl⟩ := List.mem_map.1 hz
    exact (spc_ok (g.all x hx)).rd⟩
theorem tys_in {h : Hp} {s : In TyT} (g : dTys.good h s) : ∀ t ∈ s.xs.map toTy, t.In := fun t ht => by
  obtain ⟨x, hx, rfl⟩ := List.mem_map.1 ht
  obtain ⟨g0, g1, _⟩ := g.all x hx
  have k := rng_u64 g0
  exact ⟨⟨k.1, Int.lt_of_le_of_lt k.2 (by decide)⟩, rng_i64 g1⟩
end Go.Proofs.Ytalkcemelegohaa
