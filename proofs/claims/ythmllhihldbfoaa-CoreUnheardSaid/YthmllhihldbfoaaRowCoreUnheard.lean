/- The statement CoreUnheard: the law returns true at every input, and what it was handed reads as it did; its arguments may be any values of their types. -/
import Derived.Test.YthmllhihldbfoaaRows
import Derived.Test.YthmllhihldbfoaaDecs
import Derived.Test.YthmllhihldbfoaaUc
import Derived.WalkKit
import Derived.ProofKit
import Derived.OpenShut
import Derived.ShutString
import Derived.ChangeOld
import Derived.Below
import Derived.Carry
import Derived.SizedLaws
set_option linter.unusedVariables false
namespace Go.Proofs.Ythmllhihldbfoaa.coreUnheard
open Go.ChangeShapes Go.WideShapes Go.ChangeAt Go.RowKit Go.Cof
theorem ownk : ownKnob Try.prog.godebug = none := by kernel_rfl
theorem laidOut : laidOutB Try.prog = true := by kernel_rfl

set_option maxRecDepth 100000 in
set_option maxHeartbeats 4000000 in
theorem lifted (os : Os) (started : os.Started) (H : Type) (enc : TypeId × Value → H) :
    ReturnsInHanded {} Try.checked os 4 .any (Rows.coreUnheardSpec.pre6 enc Try.prog Try.f4 Rows.coreUnheardRow.domain false) (Rows.coreUnheardSpec.post enc Try.prog Try.f4 false true false false) := by
  refine returnsInHanded_of_change_sized (C := Try.checked) ownk started (by kernel_rfl) Try.func4
    (ChangeSpec.witness6 (enc := enc) (C := Try.checked) false ⟨#[], #[.agg #[.int .i64 0, .int .i64 0, .int .i64 0, .int .i64 0, .int .i64 0, .int .i64 0, .int .u64 0, .int .u64 0, .int .u64 0, .int .u64 0, .int .u64 0, .int .u64 0, .int .u64 0, .int .u64 0, .int .u64 0, .slice none 0 0, .slice none 0 0], .slice none 0 0, .slice none 0 0], []⟩ 8 (by kernel_rfl) (by kernel_rfl) (by kernel_rfl) (by kernel_rfl)) ?_
  intro W base args ds gs before hval0 hW hcnd hsz0 _
  have hsz : (DataW.weightsEach Try.prog (Try.f4.params.toList ++ Rows.coreUnheardSpec.plain.varTypes Try.prog) (ds ++ gs)).all (· ≤ reachBytes) = true := hsz0
  have hval : ∀ (j : Nat) t v, Try.f4.params[j]? = some t → args[j]? = some v → Value.okWide Try.prog W .any base t v := hval0
  have hW' := hW
  obtain ⟨p, q, hA0, hV, rfl, hfz, hnd⟩ := hW
  have hA : DataW.TrodAll enc Try.prog W 0 (fun _ => true) true Try.f4.params.toList args.toList ds p := hA0
  rw [Try.params4] at hA hval hsz
  obtain ⟨v0, vs0, d0, ds0, p0, q0, hargs, rfl, rfl, h0, r0⟩ := trodAll_cons hA
  obtain ⟨v1, vs1, d1, ds1, p1, q1, rfl, rfl, rfl, h1, r1⟩ := trodAll_cons r0
  obtain ⟨v2, vs2, d2, ds2, p2, q2, rfl, rfl, rfl, h2, r2⟩ := trodAll_cons r1
  obtain ⟨rfl, rfl, rfl⟩ := trodAll_nil r2
  obtain rfl : args = #[v0, v1, v2] := by cases args; simp_all
  obtain ⟨rfl, rfl⟩ := trodVars_none hV
  have k0 := h0
  have lt0 : ∀ x ∈ p0, x.block < W.heap.size := by obtain ⟨m, hm⟩ := k0; exact DataW.trod_lt m _ _ _ hm
  have wt0 : (d0.weights Try.prog 28).all (· ≤ reachBytes) = true := weights_arg hsz (i := 0) rfl rfl
  obtain ⟨a0, rfl, g0⟩ := Dec.arg_struct Pl.dCf Try.underlying28 (hval 0 28 v0 rfl rfl) h0 wt0
  have k1 := h1
  have lt1 : ∀ x ∈ p1, x.block < W.heap.size := by obtain ⟨m, hm⟩ := k1; exact DataW.trod_lt m _ _ _ hm
  have wt1 : (d1.weights Try.prog 29).all (· ≤ reachBytes) = true := weights_arg hsz (i := 1) rfl rfl
  obtain ⟨a1, rfl, g1⟩ := Dec.arg_slice dWs rfl Try.underlying29 (hval 1 29 v1 rfl rfl) h1 wt1
  have k2 := h2
  have lt2 : ∀ x ∈ p2, x.block < W.heap.size := by obtain ⟨m, hm⟩ := k2; exact DataW.trod_lt m _ _ _ hm
  have wt2 : (d2.weights Try.prog 29).all (· ≤ reachBytes) = true := weights_arg hsz (i := 2) rfl rfl
  obtain ⟨a2, rfl, g2⟩ := Dec.arg_slice dWs rfl Try.underlying29 (hval 2 29 v2 rfl rfl) h2 wt2
  clear hA0 hval0 hsz0 hsz
  refine Calls.mono (R := fun e W' => e = .returned (.bool true) ∧ Below W.heap.size W W') (Ctr.out (coreUnheard_walk (Pl.toCd a0) (Pl.toLy a0) a1.A a1.m a1.c a1.xs a2.A a2.m a2.c a2.xs (Pl.cf_in g0) (Pl.cf_fit g0) (cf_ps g0) (ws_m g1) (ws_all g1) (ws_m g2) (ws_all g2)) (fun _ _ h => h.1) ⟨Pl.cf_R g0, g1.rd, g2.rd⟩) fun e W' hq => ?_
  obtain ⟨he, bel⟩ := hq
  subst he
  exact ⟨_, rfl, _, _, _, [], _, [], hW', trodAll_mk1 (shut_bool Try.underlying4 _), (trodAll_cons_mk (Below.trod laidOut (by kernel_rfl) (of_decide_eq_true (by kernel_rfl)) k0 bel lt0) (trodAll_cons_mk (Below.trod laidOut (by kernel_rfl) (of_decide_eq_true (by kernel_rfl)) k1 bel lt1) (trodAll_cons_mk (Below.trod laidOut (by kernel_rfl) (of_decide_eq_true (by kernel_rfl)) k2 bel lt2) trodAll_mk0))), rfl, bel.frame _, fun h => by cases h⟩
theorem over : Rows.coreUnheardRow.holds Try.pinned (OpenSpec.ofChange Rows.coreUnheardSpec) :=
  OpenClaim.holds_of_wide 4 Try.f4 rfl rfl rfl rfl rfl rfl rfl ⟨rfl, rfl, rfl, rfl, rfl⟩ rfl rfl rfl rfl rfl (by kernel_rfl) Try.func4 (by kernel_rfl)
    (of_decide_eq_true (by kernel_rfl)) (by unfold Func.isWrapper; first | (rw [if_pos (by decide +kernel)]; kernel_rfl) | (rw [if_neg (by decide +kernel)]; exact ⟨rfl, rfl⟩))
    (fun os started H enc _ => lifted os started H enc)
theorem proved : Rows.CoreUnheardSaid := over
end Go.Proofs.Ythmllhihldbfoaa.coreUnheard
namespace Go.Proofs.Ythmllhihldbfoaa
/-- The row, under a short name, for the claim. -/
theorem coreUnheard_holds : Rows.CoreUnheardSaid := coreUnheard.proved
end Go.Proofs.Ythmllhihldbfoaa

