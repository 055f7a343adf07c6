/- What the laws of this layer are handed. -/
import Derived.Test.YtalkcemelegohaaGreatSlS
import Derived.Test.YtalkcemelegohaaGreatPlA
import Derived.KernelRfl
set_option linter.unusedVariables false
set_option maxRecDepth 100000
namespace Go.Proofs.YtalkcemelegohaaGreat.Pl
open Go.RowKit Go.Cof Gx

noncomputable def dInt : Dec Tryz.prog 3 Int := Dec.int .i64 Tryz.underlying3
noncomputable def dU64 : Dec Tryz.prog 22 Int := Dec.int .u64 Tryz.underlying22
noncomputable def dInts : Dec Tryz.prog 25 (In Int) := Dec.slice dInt Tryz.underlying25 (by kernel_rfl) ⟨_, rfl⟩
abbrev CsT := Int × Int × Int × Int × Int × Int × Unit
noncomputable def dCs : Dec Tryz.prog 24 CsT :=
  Dec.struct Tryz.underlying24 (.cons dU64 rfl (by kernel_rfl) (.cons dU64 rfl (by kernel_rfl) (.cons dU64 rfl (by kernel_rfl) (.cons dU64 rfl (by kernel_rfl) (.cons dU64 rfl (by kernel_rfl) (.cons dU64 rfl (by kernel_rfl) .nil)))))) (by kernel_rfl) (by decide)
abbrev PdT := In Int × Int × Int × Int × Int × Int × Int × Int × Unit
noncomputable def dPd : Dec Tryz.prog 39 PdT :=
  Dec.struct Tryz.underlying39 (.cons dInts rfl (by kernel_rfl) (.cons dInt rfl (by kernel_rfl) (.cons dInt rfl (by kernel_rfl) (.cons dInt rfl (by kernel_rfl) (.cons dInt rfl (by kernel_rfl) (.cons dInt rfl (by kernel_rfl) (.cons dInt rfl (by kernel_rfl) (.cons dInt rfl (by kernel_rfl) .nil)))))))) (by kernel_rfl) (by decide)
noncomputable def dPds : Dec Tryz.prog 26 (In PdT) := Dec.slice dPd Tryz.underlying26 (by kernel_rfl) ⟨_, rfl⟩
abbrev CfT := Int × Int × Int × Int × Int × Int × CsT × Int × Int × Int × In Int × In PdT × Unit
noncomputable def dCf : Dec Tryz.prog 28 CfT :=
  Dec.struct Tryz.underlying28 (.cons dInt rfl (by kernel_rfl) (.cons dInt rfl (by kernel_rfl) (.cons dInt rfl (by kernel_rfl) (.cons dInt rfl (by kernel_rfl) (.cons dInt rfl (by kernel_rfl) (.cons dInt rfl (by kernel_rfl) (.cons dCs rfl (by kernel_rfl) (.cons dU64 rfl (by kernel_rfl) (.cons dU64 rfl (by kernel_rfl) (.cons dU64 rfl (by kernel_rfl) (.cons dInts rfl (by kernel_rfl) (.cons dPds rfl (by kernel_rfl) .nil)))))))))))) (by kernel_rfl) (by decide)
def toCs (x : CsT) : Cs := ⟨x.1, x.2.1, x.2.2.1, x.2.2.2.1, x.2.2.2.2.1, x.2.2.2.2.2.1⟩
def toPd (x : PdT) : Pd := ⟨x.2.1, x.2.2.1, x.2.2.2.1, x.2.2.2.2.1, x.2.2.2.2.2.1, x.2.2.2.2.2.2.1, x.2.2.2.2.2.2.2.1, x.1.xs⟩
def toPt (x : PdT) : Pt := ⟨x.1.A, x.1.m, x.1.c, toPd x⟩
def toCd (x : CfT) : Cd := ⟨x.1, x.2.1, x.2.2.1, x.2.2.2.1, x.2.2.2.2.1, x.2.2.2.2.2.1, toCs x.2.2.2.2.2.2.1, x.2.2.2.2.2.2.2.1, x.2.2.2.2.2.2.2.2.1, x.2.2.2.2.2.2.2.2.2.1, x.2.2.2.2.2.2.2.2.2.2.1.xs, x.2.2.2.2.2.2.2.2.2.2.2.1.xs.map toPd⟩
def toLy (x : CfT) : Ly := ⟨x.2.2.2.2.2.2.2.2.2.2.1.A, x.2.2.2.2.2.2.2.2.2.2.1.m, x.2.2.2.2.2.2.2.2.2.2.1.c, x.2.2.2.2.2.2.2.2.2.2.2.1.A, x.2.2.2.2.2.2.2.2.2.2.2.1.m, x.2.2.2.2.2.2.2.2.2.2.2.1.c, x.2.2.2.2.2.2.2.2.2.2.2.1.xs.map toPt⟩
theorem cf_val (x : CfT) : (Value.agg (dCf.E.enc x).toArray) = cfV (toCd x) (toLy x) := rfl
theorem bytes_int : Tryz.prog.bytesOf 3 = 8 := by kernel_rfl
theorem bytes_pd : Tryz.prog.bytesOf 39 = 80 := by kernel_rfl
theorem ints_fit {h : Hp} {s : In Int} (g : dInts.good h s) : s.m * 8 ≤ 140737488355328 := by
  have w : s.m * Tryz.prog.bytesOf 3 ≤ 140737488351232 := g.wt
  rw [bytes_int] at w
  omega
theorem ints_all {h : Hp} {s : In Int} (g : dInts.good h s) : ∀ n ∈ s.xs, i64In n := fun n hn => rng_i64 (g.all n hn)
theorem cf_fit {h : Hp} {x : CfT} (g : dCf.good h x) : (toLy x).Fit := by
  obtain ⟨g1, g2, g3, g4, g5, g6, g7, g8, g9, g10, g11, g12, _⟩ := g
  refine ⟨ints_fit g11, ?_, fun p hp => ?_, g12.le, Nat.le_trans g12.max (by decide)⟩
  · have w : x.2.2.2.2.2.2.2.2.2.2.2.1.m * Tryz.prog.bytesOf 39 ≤ 140737488351232 := g12.wt
    rw [bytes_pd] at w
    show x.2.2.2.2.2.2.2.2.2.2.2.1.m * 80 ≤ _
    omega
  · obtain ⟨z, hz, rfl⟩ := List.mem_map.1 hp
    exact ints_fit (g12.all z hz).1
theorem cf_in {h : Hp} {x : CfT} (g : dCf.good h x) : (toCd x).In := by
  obtain ⟨g1, g2, g3, g4, g5, g6, ⟨c1, c2, c3, c4, c5, c6, _⟩, g8, g9, g10, g11, g12, _⟩ := g
  refine ⟨rng_i64 g1, rng_i64 g2, rng_i64 g3, rng_i64 g4, rng_i64 g5, rng_i64 g6, ⟨rng_u64 c1, rng_u64 c2, rng_u64 c3, rng_u64 c4, rng_u64 c5, rng_u64 c6⟩, rng_u64 g8, rng_u64 g9, rng_u64 g10, ints_all g11, fun p hp => ?_⟩
  obtain ⟨z, hz, rfl⟩ := List.mem_map.1 hp
  obtain ⟨e0, e1, e2, e3, e4, e5, e6, e7, _⟩ := g12.all z hz
  exact ⟨rng_i64 e1, rng_i64 e2, rng_i64 e3, rng_i64 e4, rng_i64 e5, rng_i64 e6, rng_i64 e7, ints_all e0⟩
theorem cf_R {h : Hp} {x : CfT} (g : dCf.good h x) : CfR h (toCd x) (toLy x) := by
  obtain ⟨g1, g2, g3, g4, g5, g6, g7, g8, g9, g10, g11, g12, _⟩ := g
  refine ⟨g11.rd, g12.rd.map toPt fun z => rfl, fun p hp => ?_, ?_⟩
  · obtain ⟨z, hz, rfl⟩ := List.mem_map.1 hp
    exact (g12.all z hz).1.rd
  · show (x.2.2.2.2.2.2.2.2.2.2.2.1.xs.map toPt).map Pt.d = x.2.2.2.2.2.2.2.2.2.2.2.1.xs.map toPd
    rw [List.map_map]; rfl
end Go.Proofs.YtalkcemelegohaaGreat.Pl
