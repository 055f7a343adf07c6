/- The statement SpacePages: the law returns true at every input, and what it was handed reads as it did; its argument may be any value of its type. -/
import Derived.Test.YtalkcemelegohaaRows
import Derived.Test.YtalkcemelegohaaDecs
import Derived.Test.YtalkcemelegohaaLr
import Derived.WalkKit
import Derived.ProofKit
import Derived.OpenShut
import Derived.ShutString
import Derived.ChangeOld
import Derived.Below
import Derived.Carry
import Derived.SizedLaws
set_option linter.unusedVariables false
namespace Go.Proofs.Ytalkcemelegohaa.spacePages
open Go.ChangeShapes Go.WideShapes Go.ChangeAt Go.RowKit Go.Cof
theorem ownk : ownKnob Try.prog.godebug = none := by kernel_rfl
theorem laidOut : laidOutB Try.prog = true := by kernel_rfl

def toAsk (x : AskT) : Ask := ⟨x.1, x.2.1, x.2.2.1, x.2.2.2.1⟩
theorem asks_in {h : Hp} {s : In AskT} (g : dAsks.good h s) : ∀ x ∈ s.xs.map toAsk, x.In := fun x hx => by
  obtain ⟨y, hy, rfl⟩ := List.mem_map.1 hx
  have r := rng_ask (g.all y hy)
  exact ⟨r.1, r.2.1, r.2.2.1, r.2.2.2⟩
theorem asks_len {h : Hp} {s : In AskT} (g : dAsks.good h s) : s.m ≤ 9223372036854775807 := by
  have := g.le; have := g.max; simp only [maxLen] at this; omega

set_option maxRecDepth 100000 in
set_option maxHeartbeats 4000000 in
theorem lifted (os : Os) (started : os.Started) (H : Type) (enc : TypeId × Value → H) :
    ReturnsInHanded {} Try.checked os 6 .any (Rows.spacePagesSpec.pre6 enc Try.prog Try.f6 Rows.spacePagesRow.domain false) (Rows.spacePagesSpec.post enc Try.prog Try.f6 false true false false) := by
  refine returnsInHanded_of_change_sized (C := Try.checked) ownk started (by kernel_rfl) Try.func6
    (ChangeSpec.witness6 (enc := enc) (C := Try.checked) false ⟨#[], #[.slice none 0 0], []⟩ 8 (by kernel_rfl) (by kernel_rfl) (by kernel_rfl) (by kernel_rfl)) ?_
  intro W base args ds gs before hval0 hW hcnd hsz0 _
  have hsz : (DataW.weightsEach Try.prog (Try.f6.params.toList ++ Rows.spacePagesSpec.plain.varTypes Try.prog) (ds ++ gs)).all (· ≤ reachBytes) = true := hsz0
  have hval : ∀ (j : Nat) t v, Try.f6.params[j]? = some t → args[j]? = some v → Value.okWide Try.prog W .any base t v := hval0
  have hW' := hW
  obtain ⟨p, q, hA0, hV, rfl, hfz, hnd⟩ := hW
  have hA : DataW.TrodAll enc Try.prog W 0 (fun _ => true) true Try.f6.params.toList args.toList ds p := hA0
  rw [Try.params6] at hA hval hsz
  obtain ⟨v0, vs0, d0, ds0, p0, q0, hargs, rfl, rfl, h0, r0⟩ := trodAll_cons hA
  obtain ⟨rfl, rfl, rfl⟩ := trodAll_nil r0
  obtain rfl : args = #[v0] := by cases args; simp_all
  obtain ⟨rfl, rfl⟩ := trodVars_none hV
  have k0 := h0
  have lt0 : ∀ x ∈ p0, x.block < W.heap.size := by obtain ⟨m, hm⟩ := k0; exact DataW.trod_lt m _ _ _ hm
  have wt0 : (d0.weights Try.prog 36).all (· ≤ reachBytes) = true := weights_arg hsz (i := 0) rfl rfl
  obtain ⟨a0, rfl, g0⟩ := Dec.arg_slice dAsks rfl Try.underlying36 (hval 0 36 v0 rfl rfl) h0 wt0
  clear hA0 hval0 hsz0 hsz
  refine Calls.mono (R := fun e W' => e = .returned (.bool true) ∧ Below W.heap.size W W') (Ctr.out (spacePages_walk a0.A a0.m a0.c (a0.xs.map toAsk) (asks_len g0) (asks_in g0)) (fun _ _ h => h.1) (g0.rd.map toAsk fun x => rfl)) fun e W' hq => ?_
  obtain ⟨he, bel⟩ := hq
  subst he
  exact ⟨_, rfl, _, _, _, [], _, [], hW', trodAll_mk1 (shut_bool Try.underlying4 _), (trodAll_cons_mk (Below.trod laidOut (by kernel_rfl) (of_decide_eq_true (by kernel_rfl)) k0 bel lt0) trodAll_mk0), rfl, bel.frame _, fun h => by cases h⟩
theorem over : Rows.spacePagesRow.holds Try.pinned (OpenSpec.ofChange Rows.spacePagesSpec) :=
  OpenClaim.holds_of_wide 6 Try.f6 rfl rfl rfl rfl rfl rfl rfl ⟨rfl, rfl, rfl, rfl, rfl⟩ rfl rfl rfl rfl rfl (by kernel_rfl) Try.func6 (by kernel_rfl)
    (of_decide_eq_true (by kernel_rfl)) (by unfold Func.isWrapper; first | (rw [if_pos (by decide +kernel)]; kernel_rfl) | (rw [if_neg (by decide +kernel)]; exact ⟨rfl, rfl⟩))
    (fun os started H enc _ => lifted os started H enc)
theorem proved : Rows.SpacePagesSaid := over
end Go.Proofs.Ytalkcemelegohaa.spacePages
namespace Go.Proofs.Ytalkcemelegohaa
/-- The row, under a short name, for the claim. -/
theorem spacePages_holds : Rows.SpacePagesSaid := spacePages.proved
end Go.Proofs.Ytalkcemelegohaa

