/- The statement VmaPages: the law returns true at every input, and what it was handed reads as it did; its argument may be any value of its type. -/
import Derived.Test.YtpkffgbcebjhaaaRows
import Derived.Test.YtpkffgbcebjhaaaDecs
import Derived.Test.YtpkffgbcebjhaaaLp
import Derived.WalkKit
import Derived.ProofKit
import Derived.OpenShut
import Derived.ShutString
import Derived.ChangeOld
import Derived.Below
import Derived.Carry
import Derived.SizedLaws
set_option linter.unusedVariables false
namespace Go.Proofs.Ytpkffgbcebjhaaa.vmaPages
open Go.ChangeShapes Go.WideShapes Go.ChangeAt Go.RowKit Go.Cof
theorem ownk : ownKnob Try.prog.godebug = none := by kernel_rfl
theorem laidOut : laidOutB Try.prog = true := by kernel_rfl
noncomputable def dAsks : Dec Try.prog 49 (In (Int × Int × Int × Int × Unit)) := Dec.slice dAsk Try.underlying49 (by kernel_rfl) ⟨_, rfl⟩
theorem bytes_ask : Try.prog.bytesOf 24 = 32 := by kernel_rfl
def toAk (x : Int × Int × Int × Int × Unit) : Ak := ⟨x.1, x.2.1, x.2.2.1, x.2.2.2.1⟩
structure AksOk (h : Hp) (s : In (Int × Int × Int × Int × Unit)) : Prop where
  rd : rdS encAk h s.A s.m (s.xs.map toAk)
  le : s.m ≤ s.c
  m : s.m ≤ 5864062014634
  all : ∀ r ∈ s.xs.map toAk, r.In
theorem aks_ok {h : Hp} {s : In (Int × Int × Int × Int × Unit)} (g : dAsks.good h s) : AksOk h s := by
  have w := g.wt
  rw [bytes_ask] at w
  refine ⟨g.rd.map toAk fun x => rfl, g.le, by omega, fun r hr => ?_⟩
  obtain ⟨x, hx, rfl⟩ := List.mem_map.1 hr
  obtain ⟨g1, g2, g3, g4, _⟩ := g.all x hx
  exact ⟨rng_i64 g1, rng_i64 g2, rng_u8 g3, rng_i64 g4⟩
set_option maxRecDepth 100000 in
set_option maxHeartbeats 4000000 in
theorem lifted (os : Os) (started : os.Started) (H : Type) (enc : TypeId × Value → H) :
    ReturnsInHanded {} Try.checked os 9 .any (Rows.vmaPagesSpec.pre6 enc Try.prog Try.f9 Rows.vmaPagesRow.domain false) (Rows.vmaPagesSpec.post enc Try.prog Try.f9 false true false false) := by
  refine returnsInHanded_of_change_sized (C := Try.checked) ownk started (by kernel_rfl) Try.func9
    (ChangeSpec.witness6 (enc := enc) (C := Try.checked) false ⟨#[], #[.slice none 0 0], []⟩ 8 (by kernel_rfl) (by kernel_rfl) (by kernel_rfl) (by kernel_rfl)) ?_
  intro W base args ds gs before hval0 hW hcnd hsz0 _
  have hsz : (DataW.weightsEach Try.prog (Try.f9.params.toList ++ Rows.vmaPagesSpec.plain.varTypes Try.prog) (ds ++ gs)).all (· ≤ reachBytes) = true := hsz0
  have hval : ∀ (j : Nat) t v, Try.f9.params[j]? = some t → args[j]? = some v → Value.okWide Try.prog W .any base t v := hval0
  have hW' := hW
  obtain ⟨p, q, hA0, hV, rfl, hfz, hnd⟩ := hW
  have hA : DataW.TrodAll enc Try.prog W 0 (fun _ => true) true Try.f9.params.toList args.toList ds p := hA0
  rw [Try.params9] at hA hval hsz
  obtain ⟨v0, vs0, d0, ds0, p0, q0, hargs, rfl, rfl, h0, r0⟩ := trodAll_cons hA
  obtain ⟨rfl, rfl, rfl⟩ := trodAll_nil r0
  obtain rfl : args = #[v0] := by cases args; simp_all
  obtain ⟨rfl, rfl⟩ := trodVars_none hV
  have k0 := h0
  have lt0 : ∀ x ∈ p0, x.block < W.heap.size := by obtain ⟨m, hm⟩ := k0; exact DataW.trod_lt m _ _ _ hm
  have wt0 : (d0.weights Try.prog 49).all (· ≤ reachBytes) = true := weights_arg hsz (i := 0) rfl rfl
  obtain ⟨a0, rfl, g0⟩ := Dec.arg_slice dAsks rfl Try.underlying49 (hval 0 49 v0 rfl rfl) h0 wt0
  clear hA0 hval0 hsz0 hsz
  refine Calls.mono (R := fun e W' => e = .returned (.bool true) ∧ Below W.heap.size W W') (Ctr.out (vmaPages_walk a0.A a0.m a0.c (a0.xs.map toAk) (aks_ok g0).m (aks_ok g0).le (aks_ok g0).all) (fun _ _ h => h.1) (aks_ok g0).rd) fun e W' hq => ?_
  obtain ⟨he, bel⟩ := hq
  subst he
  exact ⟨_, rfl, _, _, _, [], _, [], hW', trodAll_mk1 (shut_bool Try.underlying4 _), (trodAll_cons_mk (Below.trod laidOut (by kernel_rfl) (of_decide_eq_true (by kernel_rfl)) k0 bel lt0) trodAll_mk0), rfl, bel.frame _, fun h => by cases h⟩
theorem over : Rows.vmaPagesRow.holds Try.pinned (OpenSpec.ofChange Rows.vmaPagesSpec) :=
  OpenClaim.holds_of_wide 9 Try.f9 rfl rfl rfl rfl rfl rfl rfl ⟨rfl, rfl, rfl, rfl, rfl⟩ rfl rfl rfl rfl rfl (by kernel_rfl) Try.func9 (by kernel_rfl)
    (of_decide_eq_true (by kernel_rfl)) (by unfold Func.isWrapper; first | (rw [if_pos (by decide +kernel)]; kernel_rfl) | (rw [if_neg (by decide +kernel)]; exact ⟨rfl, rfl⟩))
    (fun os started H enc _ => lifted os started H enc)
theorem proved : Rows.VmaPagesSaid := over
end Go.Proofs.Ytpkffgbcebjhaaa.vmaPages
namespace Go.Proofs.Ytpkffgbcebjhaaa
/-- The row, under a short name, for the claim. -/
theorem vmaPages_holds : Rows.VmaPagesSaid := vmaPages.proved
end Go.Proofs.Ytpkffgbcebjhaaa

