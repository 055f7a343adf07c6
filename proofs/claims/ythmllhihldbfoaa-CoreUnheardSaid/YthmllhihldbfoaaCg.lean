/- usual, awake. -/
import Derived.Test.YthmllhihldbfoaaCf
import Derived.KernelRfl
set_option linter.unusedVariables false
namespace Go.Proofs.Ythmllhihldbfoaa
open Go.RowKit Go.Cof

structure Ht where
  a : Bool
  b : Bool
  deriving DecidableEq
def encHt : Enc Ht := ⟨fun x => [.bool x.a, .bool x.b], 2, fun _ => rfl, by decide, fun x u hu => by simp at hu; rcases hu with rfl | rfl <;> rfl⟩
theorem eqHt : EqE Try.prog Tt 37 encHt := EqE.ofT tt_ok [37] (by decide +kernel) (by kernel_rfl) 3 rfl fun a b => by
  show some ((a.a == b.a) && ((a.b == b.b) && true)) = _
  refine congrArg some ?_
  obtain ⟨a1, a2⟩ := a
  obtain ⟨b1, b2⟩ := b
  cases a1 <;> cases a2 <;> cases b1 <;> cases b2 <;> simp
abbrev P0 : Pl.Pd := ⟨1, 4, 8, 1, 1, 1, 3, [0, 1]⟩
abbrev P1 : Pl.Pd := ⟨0, 2, 6, 1, 1, 1, 3, [2]⟩
abbrev dU : Pl.Cd := ⟨64, 4, 2, 4, 2, 4, ⟨1, 4, 10, 5, 1, 20⟩, 4000, 20, 0, [0, 1], [P0, P1]⟩
abbrev yU (bt bp b1 b2 : Nat) : Pl.Ly := ⟨some ⟨bt, 0, none⟩, 2, 2, some ⟨bp, 0, none⟩, 2, 2, [⟨some ⟨b1, 0, none⟩, 2, 2, P0⟩, ⟨some ⟨b2, 0, none⟩, 1, 1, P1⟩]⟩
theorem dU_in : dU.In := by
  refine ⟨⟨by decide, by decide⟩, ⟨by decide, by decide⟩, ⟨by decide, by decide⟩, ⟨by decide, by decide⟩, ⟨by decide, by decide⟩, ⟨by decide, by decide⟩, ⟨⟨by decide, by decide⟩, ⟨by decide, by decide⟩, ⟨by decide, by decide⟩, ⟨by decide, by decide⟩, ⟨by decide, by decide⟩, ⟨by decide, by decide⟩⟩, ⟨by decide, by decide⟩, ⟨by decide, by decide⟩, ⟨by decide, by decide⟩, fun n hn => ?_, fun p hp => ?_⟩
  · have : n = 0 ∨ n = 1 := by simpa using hn
    rcases this with rfl | rfl <;> exact ⟨by decide, by decide⟩
  · have : p = P0 ∨ p = P1 := by simpa using hp
    rcases this with rfl | rfl
    · exact ⟨⟨by decide, by decide⟩, ⟨by decide, by decide⟩, ⟨by decide, by decide⟩, ⟨by decide, by decide⟩, ⟨by decide, by decide⟩, ⟨by decide, by decide⟩, ⟨by decide, by decide⟩, fun n hn => by
        have : n = 0 ∨ n = 1 := by simpa using hn
        rcases this with rfl | rfl <;> exact ⟨by decide, by decide⟩⟩
    · exact ⟨⟨by decide, by decide⟩, ⟨by decide, by decide⟩, ⟨by decide, by decide⟩, ⟨by decide, by decide⟩, ⟨by decide, by decide⟩, ⟨by decide, by decide⟩, ⟨by decide, by decide⟩, fun n hn => by
        have : n = 2 := by simpa using hn
        subst this; exact ⟨by decide, by decide⟩⟩
theorem yU_fit (bt bp b1 b2 : Nat) : (yU bt bp b1 b2).Fit := by
  refine ⟨by show 2 * 8 ≤ _; decide, by show 2 * 80 ≤ _; decide, fun p hp => ?_, ⟨by show 2 ≤ 2; decide, by show 2 ≤ 9223372036854775807; decide⟩⟩
  rcases List.mem_cons.1 hp with rfl | hp
  · show 2 * 8 ≤ _; decide
  · rw [List.mem_singleton.1 hp]; show 1 * 8 ≤ _; decide
theorem dU_may : Pl.MayP dU := by unfold Pl.MayP; decide +kernel
abbrev usM (bt bp b1 b2 : Nat) : List HProp := [blk bt [iV 0, iV 1] 3, blk bp [.slice (some ⟨b1, 0, none⟩) 2 2, iV 1, iV 4, iV 8, iV 1, iV 1, iV 1, iV 3, .slice (some ⟨b2, 0, none⟩) 1 1, iV 0, iV 2, iV 6, iV 1, iV 1, iV 1, iV 3] 81, blk b1 [iV 0, iV 1] 3, blk b2 [iV 2] 3]
theorem usual_spec : Ctr Try.prog 16 [] (fun _ => True) [] (fun v L => ∃ bt bp b1 b2, v = Pl.cfV dU (yU bt bp b1 b2) ∧ L = usM bt bp b1 b2) := by
  refine Ctr.intro Try.func16 rfl rfl (by decide +kernel) fun F hpre => ?_
  repeat' (first | (refine XL_id ?_; first | refine XL_nil ?_ | (refine XG_build ?_; (refine XL_build tt_ok rfl rfl rfl rfl rfl rfl rfl ?_; refine XL_aggN (by repeat' (first | exact .nil | apply NL.cons)) ?_)) | (refine XG_alloc ?_; (refine XL_alloc tt_ok rfl rfl (fun _ => rfl) (fun b => ?_); refine XL_nB (by repeat' (first | exact .nil | apply NL.cons)) ?_)) | (refine XG_lit ?_; (refine XL_lit tt_ok rfl rfl rfl rfl rfl rfl rfl rfl rfl (fun _ => rfl) (fun b => ?_); refine XL_nB (by repeat' (first | exact .nil | apply NL.cons)) ?_)) | (refine XG_store ?_; (refine XL_storeW tt_ok 4 rfl rfl rfl rfl rfl rfl rfl ?_; refine XL_nK 4 rfl (by repeat' (first | exact .nil | apply NL.cons)) ?_))) | (refine X_id ?_; first | refine X_seq ?_ | (refine X_regionN (by repeat' (first | exact .nil | apply NL.cons)) ?_) | refine X_ret ?_) | (refine Y_id ?_; refine Y_then ?_))
  all_goals first
    | exact Y_res1 rfl (.cell tt_ok 4 rfl rfl rfl rfl rfl) (stars_only [3, 0, 1, 0] rfl) ⟨_, _, _, _, rfl, rfl⟩
    | skip
  
theorem us_rd {bt bp b1 b2 : Nat} {h : Hp} (hs : stars (usM bt bp b1 b2) h) : Pl.CfR h dU (yU bt bp b1 b2) := by
  refine ⟨blk_rdS (blk_at 0 rfl hs) rfl rfl, blk_rdS (blk_at 1 rfl hs) rfl rfl, fun p hp => ?_, rfl⟩
  rcases List.mem_cons.1 hp with rfl | hp
  · exact blk_rdS (blk_at 2 rfl hs) rfl rfl
  · rw [List.mem_singleton.1 hp]; exact blk_rdS (blk_at 3 rfl hs) rfl rfl
abbrev co0 (d : Pl.Cd) : Co := ⟨List.replicate d.ls.toNat [], List.replicate (d.co * 16).toNat [], 0⟩
set_option maxRecDepth 100000 in
set_option maxHeartbeats 8000000 in
theorem awake_spec : FnC Try.prog 5 [] (fun _ => True) (.bool true) := by
  have hmf := dU_may.all
  have t1a : (foldT dU (co0 dU) [0]).a = false := by decide +kernel
  have t1b : (foldT dU (co0 dU) [0]).b = false := by decide +kernel
  have t1s : (foldT dU (co0 dU) [0]).x.sp = 10 := by decide +kernel
  have t2a : (foldT dU (foldT dU (co0 dU) [0]).x [5]).a = true := by decide +kernel
  have t2b : (foldT dU (foldT dU (co0 dU) [0]).x [5]).b = false := by decide +kernel
  have t2s : (foldT dU (foldT dU (co0 dU) [0]).x [5]).x.sp = 11 := by decide +kernel
  have t3a : (foldT dU (foldT dU (foldT dU (co0 dU) [0]).x [5]).x [64, 128, 0]).a = false := by decide +kernel
  have t3b : (foldT dU (foldT dU (foldT dU (co0 dU) [0]).x [5]).x [64, 128, 0]).b = true := by decide +kernel
  have t3s : (foldT dU (foldT dU (foldT dU (co0 dU) [0]).x [5]).x [64, 128, 0]).x.sp = 35 := by decide +kernel
  have t3c : cntS (foldT dU (foldT dU (foldT dU (co0 dU) [0]).x [5]).x [64, 128, 0]).x.s1 = 2 := by decide +kernel
  have hnew := fun bt bp b1 b2 => conew_ok dU (yU bt bp b1 b2) dU_in (yU_fit bt bp b1 b2) rfl dU_may
  have hin : ∀ a : Int, 0 ≤ a → a < 16384 → 0 ≤ a ∧ a < dU.fr * 256 := fun a h1 h2 => ⟨h1, h2⟩
  have k1 := fun h A c => touch_spec h dU (co0 dU) [] A 1 c [0] hmf.mach hmf.cost (fun pa hp => by rw [List.mem_singleton.1 hp]; exact hin 0 (by decide) (by decide)) (by decide) (by decide) (by decide)
  rw [t1a, t1b] at k1
  obtain ⟨x1, hx1⟩ : ∃ x1, (foldT dU (co0 dU) [0]).x = x1 := ⟨_, rfl⟩
  rw [hx1] at k1 t1s t2a t2b t2s t3a t3b t3s t3c
  have k2 := fun h A c => touch_spec h dU x1 [] A 1 c [5] hmf.mach hmf.cost (fun pa hp => by rw [List.mem_singleton.1 hp]; exact hin 5 (by decide) (by decide)) (by rw [t1s]; decide) (by rw [t1s]; decide) (by decide)
  rw [t2a, t2b] at k2
  obtain ⟨x2, hx2⟩ : ∃ x2, (foldT dU x1 [5]).x = x2 := ⟨_, rfl⟩
  rw [hx2] at k2 t2s t3a t3b t3s t3c
  have k3 := fun h A c => touch_spec h dU x2 [] A 3 c [64, 128, 0] hmf.mach hmf.cost (fun pa hp => by
    have : pa = 64 ∨ pa = 128 ∨ pa = 0 := by simpa using hp
    rcases this with rfl | rfl | rfl <;> exact hin _ (by decide) (by decide)) (by rw [t2s]; decide) (by rw [t2s]; decide) (by decide)
  rw [t3a, t3b] at k3
  obtain ⟨x3, hx3⟩ : ∃ x3, (foldT dU x2 [64, 128, 0]).x = x3 := ⟨_, rfl⟩
  rw [hx3] at k3 t3s t3c
  have hse := fun h => settle_spec h dU x3 []
  have hle := fun h => leave_spec h dU ⟨x3.s1, x3.s2, 0⟩ [] hmf.cost
  rw [t3s] at hse
  rw [show (((cntS (Co.mk x3.s1 x3.s2 0).s1 : Nat) : Int) + (([] : List Tl.Tr).length : Int)) * dU.cs.st = 2 from by show (((cntS x3.s1 : Nat) : Int) + ((0 : Nat) : Int)) * 1 = 2; rw [t3c]; rfl] at hle
  refine Ctr.intro Try.func5 rfl rfl (by decide +kernel) fun F hpre => ?_
  repeat' (first | (refine XL_id ?_; first | refine XL_nil ?_ | refine XL_guard_yes rfl rfl rfl ?_ | (refine XL_eq (a := (⟨false, false⟩ : Ht)) (b := (⟨false, false⟩ : Ht)) eqHt rfl rfl rfl ?_; refine XL_dec_t rfl ?_) | (refine XL_eq (a := (⟨true, false⟩ : Ht)) (b := (⟨true, false⟩ : Ht)) eqHt rfl rfl rfl ?_; refine XL_dec_t rfl ?_) | (refine XL_eq (a := (⟨false, true⟩ : Ht)) (b := (⟨false, true⟩ : Ht)) eqHt rfl rfl rfl ?_; refine XL_dec_t rfl ?_) | (refine XG_load ?_; first | refine XL_loadW tt_ok 1 rfl rfl rfl rfl rfl rfl ?_ | refine XL_loadW tt_ok 3 rfl rfl rfl rfl rfl rfl ?_ | refine XL_loadW tt_ok 5 rfl rfl rfl rfl rfl rfl ?_) | (refine XG_build ?_; (refine XL_build tt_ok rfl rfl rfl rfl rfl rfl rfl ?_; refine XL_aggN (by repeat' (first | exact .nil | apply NL.cons)) ?_)) | (refine XG_call ?_; first | (refine XL_callK [] usual_spec rfl rfl (fun _ => rfl) (fun _ _ _ => trivial) (fun u L hv => ?_); obtain ⟨bt, bp, b1, b2, rfl, rfl⟩ := hv) | (refine XL_callK [] (hnew _ _ _ _) rfl rfl (fun _ => rfl) (fun g hg hL => us_rd hL) (fun u L hv => ?_); obtain ⟨hh, rfl, rfl⟩ := hv) | refine XL_callE [1] (k1 _ _ _) rfl rfl rfl (fun g hg hL => blk_rdS (blk_at 0 rfl hL) rfl rfl) ?_ | refine XL_callE [2] (k2 _ _ _) rfl rfl rfl (fun g hg hL => blk_rdS (blk_at 0 rfl hL) rfl rfl) ?_ | refine XL_callE [2] (k3 _ _ _) rfl rfl rfl (fun g hg hL => blk_rdS (blk_at 0 rfl hL) rfl rfl) ?_ | refine XL_callE [1] (hse _) rfl rfl rfl (fun _ _ _ => trivial) ?_ | refine XL_callE [0] (hle _) rfl rfl rfl (fun _ _ _ => trivial) ?_) | (refine XG_alloc ?_; (refine XL_alloc tt_ok rfl rfl (fun _ => rfl) (fun b => ?_); refine XL_nB (by repeat' (first | exact .nil | apply NL.cons)) ?_)) | (refine XG_lit ?_; (refine XL_lit tt_ok rfl rfl rfl rfl rfl rfl rfl rfl rfl (fun _ => rfl) (fun b => ?_); refine XL_nB (by repeat' (first | exact .nil | apply NL.cons)) ?_)) | (refine XG_store ?_; (refine XL_storeW tt_ok 0 rfl rfl rfl rfl rfl rfl rfl ?_; refine XL_nK 0 rfl (by repeat' (first | exact .nil | apply NL.cons)) ?_)) | (refine XL_op tt_ok rfl rfl ?_; try (first | refine XL_dec_t (by omega) ?_ | refine XL_dec_f (by omega) ?_))) | (refine X_id ?_; first | (refine X_regionEN (id := 0) [] rfl (by repeat' (exact .nil)) ?_) | (refine X_regionEN (id := 1) [] rfl (by repeat' (exact .nil)) ?_) | (refine X_regionEN (id := 2) [1, 2] rfl (by repeat' (first | exact .nil | apply NL.cons)) ?_) | (refine X_regionEN (id := 4) [1] rfl (by repeat' (first | exact .nil | apply NL.cons)) ?_) | (refine X_regionEN (id := 5) [1, 3] rfl (by repeat' (first | exact .nil | apply NL.cons)) ?_) | (refine X_regionEN (id := 6) [1, 3, 5] rfl (by repeat' (first | exact .nil | apply NL.cons)) ?_) | (refine X_regionEN (id := 7) [1, 3, 5, 7, 8] rfl (by repeat' (first | exact .nil | apply NL.cons)) ?_) | (refine X_regionEN (id := 8) [1, 3, 5, 7, 8, 9, 10] rfl (by repeat' (first | exact .nil | apply NL.cons)) ?_) | (refine X_regionEN (id := 9) [3, 5, 7, 8, 9, 10, 11, 12] rfl (by repeat' (first | exact .nil | apply NL.cons)) ?_) | refine X_seq ?_ | refine X_skip ?_ | refine X_ret ?_ | refine X_cond_f rfl ?_) | (refine Y_id ?_; refine Y_then ?_))
  all_goals first
    | exact Y_fn1 rfl rfl rfl
    | (exfalso; omega)
    | skip
  
end Go.Proofs.Ythmllhihldbfoaa
