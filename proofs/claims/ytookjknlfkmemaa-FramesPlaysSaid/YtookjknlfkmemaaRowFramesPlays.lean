/- The statement FramesPlays: the law returns true at every input, and what it was handed reads as it did; its two arguments may be any values of their types. -/
import Derived.Test.YtookjknlfkmemaaRows
import Derived.Test.YtookjknlfkmemaaDecs
import Derived.Test.YtookjknlfkmemaaNc
import Derived.WalkKit
import Derived.ProofKit
import Derived.OpenShut
import Derived.ShutString
import Derived.ChangeOld
import Derived.Below
import Derived.Carry
import Derived.SizedLaws
set_option linter.unusedVariables false
namespace Go.Proofs.Ytookjknlfkmemaa.framesPlays
open Go.ChangeShapes Go.WideShapes Go.ChangeAt Go.RowKit Go.Cof
theorem ownk : ownKnob Try.prog.godebug = none := by kernel_rfl
theorem laidOut : laidOutB Try.prog = true := by kernel_rfl
abbrev DoT := Int × Int × Int × Int × Int × Int × In Int × Unit
noncomputable def dDo : Dec Try.prog 54 DoT :=
  Dec.struct Try.underlying54 (.cons dInt rfl (by kernel_rfl) (.cons dU64 rfl (by kernel_rfl) (.cons dInt rfl (by kernel_rfl) (.cons dU64 rfl (by kernel_rfl) (.cons dInt rfl (by kernel_rfl) (.cons dInt rfl (by kernel_rfl) (.cons dU8 rfl (by kernel_rfl) .nil))))))) (by kernel_rfl) (by decide)
noncomputable def dDos : Dec Try.prog 47 (In DoT) := Dec.slice dDo Try.underlying47 (by kernel_rfl) ⟨_, rfl⟩
def toDd (x : DoT) : Dd := ⟨x.1, x.2.1, x.2.2.1, x.2.2.2.1, x.2.2.2.2.1, x.2.2.2.2.2.1, x.2.2.2.2.2.2.1⟩
theorem bytes_do : 1 ≤ Try.prog.bytesOf 54 := of_decide_eq_true (by kernel_rfl)
structure DosOk (h : Hp) (s : In DoT) : Prop where
  ok : DdsOk h s.A s.m (s.xs.map toDd)
  m : s.m ≤ 9223372036854775807
  all : ∀ r ∈ s.xs.map toDd, r.In
theorem dos_ok {h : Hp} {s : In DoT} (g : dDos.good h s) : DosOk h s := by
  have w := g.wt
  have hb := bytes_do
  have hle := Nat.le_mul_of_pos_right s.m hb
  refine ⟨⟨g.rd.map toDd fun x => rfl, fun r hr => ?_⟩, by omega, fun r hr => ?_⟩
  · obtain ⟨x, hx, rfl⟩ := List.mem_map.1 hr
    obtain ⟨_, _, _, _, _, _, g7, _⟩ := g.all x hx
    exact g7.rd
  · obtain ⟨x, hx, rfl⟩ := List.mem_map.1 hr
    obtain ⟨g1, g2, g3, g4, g5, g6, g7, _⟩ := g.all x hx
    have wB := g7.wt
    rw [bytes_u8, Nat.mul_one] at wB
    exact ⟨rng_i64 g1, rng_u64 g2, rng_i64 g3, rng_u64 g4, rng_i64 g5, rng_i64 g6, wB, g7.le, fun y hy => rng_u8 (g7.all y hy)⟩
set_option maxRecDepth 100000 in
set_option maxHeartbeats 4000000 in
theorem lifted (os : Os) (started : os.Started) (H : Type) (enc : TypeId × Value → H) :
    ReturnsInHanded {} Try.checked os 6 .any (Rows.framesPlaysSpec.pre6 enc Try.prog Try.f6 Rows.framesPlaysRow.domain false) (Rows.framesPlaysSpec.post enc Try.prog Try.f6 false true false false) := by
  refine returnsInHanded_of_change_sized (C := Try.checked) ownk started (by kernel_rfl) Try.func6
    (ChangeSpec.witness6 (enc := enc) (C := Try.checked) false ⟨#[], #[.int .i64 0, .slice none 0 0], []⟩ 8 (by kernel_rfl) (by kernel_rfl) (by kernel_rfl) (by kernel_rfl)) ?_
  intro W base args ds gs before hval0 hW hcnd hsz0 _
  have hsz : (DataW.weightsEach Try.prog (Try.f6.params.toList ++ Rows.framesPlaysSpec.plain.varTypes Try.prog) (ds ++ gs)).all (· ≤ reachBytes) = true := hsz0
  have hval : ∀ (j : Nat) t v, Try.f6.params[j]? = some t → args[j]? = some v → Value.okWide Try.prog W .any base t v := hval0
  have hW' := hW
  obtain ⟨p, q, hA0, hV, rfl, hfz, hnd⟩ := hW
  have hA : DataW.TrodAll enc Try.prog W 0 (fun _ => true) true Try.f6.params.toList args.toList ds p := hA0
  rw [Try.params6] at hA hval hsz
  obtain ⟨v0, vs0, d0, ds0, p0, q0, hargs, rfl, rfl, h0, r0⟩ := trodAll_cons hA
  obtain ⟨v1, vs1, d1, ds1, p1, q1, rfl, rfl, rfl, h1, r1⟩ := trodAll_cons r0
  obtain ⟨rfl, rfl, rfl⟩ := trodAll_nil r1
  obtain rfl : args = #[v0, v1] := by cases args; simp_all
  obtain ⟨rfl, rfl⟩ := trodVars_none hV
  obtain ⟨a0, rfl, rfl, rfl, w0⟩ := open_int Try.underlying3 (hval 0 3 v0 rfl rfl) h0
  have g0 := wf_rng w0
  have k1 := h1
  have lt1 : ∀ x ∈ p1, x.block < W.heap.size := by obtain ⟨m, hm⟩ := k1; exact DataW.trod_lt m _ _ _ hm
  have wt1 : (d1.weights Try.prog 47).all (· ≤ reachBytes) = true := weights_arg hsz (i := 1) rfl rfl
  obtain ⟨a1, rfl, g1⟩ := Dec.arg_slice dDos rfl Try.underlying47 (hval 1 47 v1 rfl rfl) h1 wt1
  clear hA0 hval0 hsz0 hsz
  refine Calls.mono (R := fun e W' => e = .returned (.bool true) ∧ Below W.heap.size W W') (Ctr.out (framesPlays_walk a0 a1.A a1.m a1.c (a1.xs.map toDd) (rng_i64 g0) (dos_ok g1).m (dos_ok g1).all) (fun _ _ h => h.1) (dos_ok g1).ok) fun e W' hq => ?_
  obtain ⟨he, bel⟩ := hq
  subst he
  exact ⟨_, rfl, _, _, _, [], _, [], hW', trodAll_mk1 (shut_bool Try.underlying4 _), (trodAll_cons_mk (shut_int Try.underlying3 w0) (trodAll_cons_mk (Below.trod laidOut (by kernel_rfl) (of_decide_eq_true (by kernel_rfl)) k1 bel lt1) trodAll_mk0)), rfl, bel.frame _, fun h => by cases h⟩
theorem over : Rows.framesPlaysRow.holds Try.pinned (OpenSpec.ofChange Rows.framesPlaysSpec) :=
  OpenClaim.holds_of_wide 6 Try.f6 rfl rfl rfl rfl rfl rfl rfl ⟨rfl, rfl, rfl, rfl, rfl⟩ rfl rfl rfl rfl rfl (by kernel_rfl) Try.func6 (by kernel_rfl)
    (of_decide_eq_true (by kernel_rfl)) (by unfold Func.isWrapper; first | (rw [if_pos (by decide +kernel)]; kernel_rfl) | (rw [if_neg (by decide +kernel)]; exact ⟨rfl, rfl⟩))
    (fun os started H enc _ => lifted os started H enc)
theorem proved : Rows.FramesPlaysSaid := over
end Go.Proofs.Ytookjknlfkmemaa.framesPlays
namespace Go.Proofs.Ytookjknlfkmemaa
/-- The row, under a short name, for the claim. -/
theorem framesPlays_holds : Rows.FramesPlaysSaid := framesPlays.proved
end Go.Proofs.Ytookjknlfkmemaa

