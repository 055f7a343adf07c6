/- What the laws of Core are handed. -/
import Derived.Test.YthmllhihldbfoaaPlDecs
set_option linter.unusedVariables false
namespace Go.Proofs.Ythmllhihldbfoaa
open Go.RowKit Go.Cof

noncomputable def dWs : Dec Try.prog 29 (In Int) := Dec.slice Pl.dU64 Try.underlying29 (by kernel_rfl) ⟨_, rfl⟩
theorem bytes_u64 : Try.prog.bytesOf 22 = 8 := by kernel_rfl
theorem ws_m {h : Hp} {s : In Int} (g : dWs.good h s) : s.m ≤ 9223372036854775807 := by
  have w : s.m * Try.prog.bytesOf 22 ≤ 140737488351232 := g.wt
  rw [bytes_u64] at w
  omega
theorem ws_all {h : Hp} {s : In Int} (g : dWs.good h s) : ∀ n ∈ s.xs, 0 ≤ n ∧ n ≤ 18446744073709551615 := fun n hn => rng_u64 (g.all n hn)
theorem cf_ps {h : Hp} {x : Pl.CfT} (g : Pl.dCf.good h x) : (Pl.toCd x).ps.length = (Pl.toLy x).pm := (Pl.cf_R g).len
end Go.Proofs.Ythmllhihldbfoaa
