/- SpaceKnown: the law's configuration and fits. -/
import Derived.Test.YtalkcemelegohaaKs
import Derived.Test.YtalkcemelegohaaSr
set_option linter.unusedVariables false
set_option maxRecDepth 100000
namespace Go.Proofs.Ytalkcemelegohaa
open Go.RowKit Go.Cof
open Pl (Cd Ly CfR cfV thE shpE thE_zero Pt encPt)

def cfD (f s : Int) : Cd := ⟨f, 4, 2, 4, 2, 4, ⟨1, 4, 10, 5, 1, 20⟩, 4000, 20, 0, [0, 1], [⟨1, 4, 8, s, 1, 1, 3, [0, 1]⟩, ⟨0, 2, 6, 1, 1, 1, 3, [2]⟩]⟩
def cfY (bt bp b1 b2 : Nat) (s : Int) : Ly := ⟨some ⟨bt, 0, none⟩, 2, 2, some ⟨bp, 0, none⟩, 2, 2, [⟨some ⟨b1, 0, none⟩, 2, 2, ⟨1, 4, 8, s, 1, 1, 3, [0, 1]⟩⟩, ⟨some ⟨b2, 0, none⟩, 1, 1, ⟨0, 2, 6, 1, 1, 1, 3, [2]⟩⟩]⟩
abbrev cfB (bp b1 b2 : Nat) (s : Int) : HProp := blk bp [.slice (some ⟨b1, 0, none⟩) 2 2, iV 1, iV 4, iV 8, iV s, iV 1, iV 1, iV 3, .slice (some ⟨b2, 0, none⟩) 1 1, iV 0, iV 2, iV 6, iV 1, iV 1, iV 1, iV 3] 107
abbrev cfP (bt bp b1 b2 : Nat) (s : Int) : List HProp := [blk bt [iV 0, iV 1] 3, cfB bp b1 b2 s, blk b1 [iV 0, iV 1] 3, blk b2 [iV 2] 3]
theorem cf_rd {bt bp b1 b2 : Nat} {f s : Int} {g : Hp} (h : stars (cfP bt bp b1 b2 s) g) : CfR g (cfD f s) (cfY bt bp b1 b2 s) :=
  ⟨blk_rdS (blk_at 0 rfl h) rfl rfl, blk_rdS (blk_at 1 rfl h) rfl rfl, fun p hp => by
    rcases List.mem_cons.1 hp with rfl | hp
    · exact blk_rdS (blk_at 2 rfl h) rfl rfl
    · obtain rfl := List.mem_singleton.1 hp; exact blk_rdS (blk_at 3 rfl h) rfl rfl, rfl⟩
abbrev cfE (f : Int) (bt bp : Nat) : Value := .agg #[iV f, iV 4, iV 2, iV 4, iV 2, iV 4, uV 1, uV 4, uV 10, uV 5, uV 1, uV 20, uV 4000, uV 20, uV 0, .slice (some ⟨bt, 0, none⟩) 2 2, .slice (some ⟨bp, 0, none⟩) 2 2]
theorem conf_spec : Ctr Try.prog 65 [] (fun _ => True) [] (fun v L => ∃ bt bp b1 b2, v = cfE 64 bt bp ∧ L = cfP bt bp b1 b2 1) := by
  refine Ctr.intro Try.func65 rfl rfl (by decide +kernel) fun F hpre => ?_
  repeat' (first | (refine XL_id ?_; first | refine XL_nil ?_ | (refine XG_load ?_; first | refine XL_loadW tt_ok 1 rfl rfl rfl rfl rfl rfl ?_ | refine XL_loadW tt_ok 3 rfl rfl rfl rfl rfl rfl ?_) | (refine XG_build ?_; (refine XL_build tt_ok rfl rfl rfl rfl rfl rfl rfl ?_; refine XL_aggN (by repeat' (first | exact .nil | apply NL.cons)) ?_)) | (refine XG_alloc ?_; (refine XL_alloc tt_ok rfl rfl (fun _ => rfl) (fun b => ?_); refine XL_nB (by repeat' (first | exact .nil | apply NL.cons)) ?_)) | (refine XG_lit ?_; (refine XL_lit tt_ok rfl rfl rfl rfl rfl rfl rfl rfl rfl (fun _ => rfl) (fun b => ?_); refine XL_nB (by repeat' (first | exact .nil | apply NL.cons)) ?_)) | (refine XG_store ?_; first | (refine XL_storeW tt_ok 0 rfl rfl rfl rfl rfl rfl rfl ?_; refine XL_nK 0 rfl (by repeat' (first | exact .nil | apply NL.cons)) ?_) | (refine XL_storeW tt_ok 6 rfl rfl rfl rfl rfl rfl rfl ?_; refine XL_nK 6 rfl (by repeat' (first | exact .nil | apply NL.cons)) ?_))) | (refine X_id ?_; first | refine X_seq ?_ | (refine X_regionN (by repeat' (first | exact .nil | apply NL.cons)) ?_) | refine X_ret ?_) | (refine Y_id ?_; refine Y_then ?_))
  all_goals first
    | exact Y_res1 rfl (.cell tt_ok 6 rfl rfl rfl rfl rfl) (stars_only [1, 0, 3, 1] rfl) ⟨_, _, _, _, rfl, rfl⟩
    | skip
  
theorem cf_in64 : (cfD 64 1).In := by
  refine ⟨by decide, by decide, by decide, by decide, by decide, by decide, ⟨by decide, by decide, by decide, by decide, by decide, by decide⟩, by decide, by decide, by decide, by decide, fun p hp => ?_⟩
  rcases List.mem_cons.1 hp with rfl | hp
  · exact ⟨by decide, by decide, by decide, by decide, by decide, by decide, by decide, by decide⟩
  · obtain rfl := List.mem_singleton.1 hp; exact ⟨by decide, by decide, by decide, by decide, by decide, by decide, by decide, by decide⟩
theorem cf_in128 : (cfD 128 5).In := by
  refine ⟨by decide, by decide, by decide, by decide, by decide, by decide, ⟨by decide, by decide, by decide, by decide, by decide, by decide⟩, by decide, by decide, by decide, by decide, fun p hp => ?_⟩
  rcases List.mem_cons.1 hp with rfl | hp
  · exact ⟨by decide, by decide, by decide, by decide, by decide, by decide, by decide, by decide⟩
  · obtain rfl := List.mem_singleton.1 hp; exact ⟨by decide, by decide, by decide, by decide, by decide, by decide, by decide, by decide⟩
theorem cf_fit (bt bp b1 b2 : Nat) (s : Int) : (cfY bt bp b1 b2 s).Fit := ⟨by show 2 * 8 ≤ 140737488355328; decide, by show 2 * 80 ≤ 140737488355328; decide, fun p hp => by
  rcases List.mem_cons.1 hp with rfl | hp
  · show 2 * 8 ≤ 140737488355328; decide
  · obtain rfl := List.mem_singleton.1 hp; show 1 * 8 ≤ 140737488355328; decide, by show 2 ≤ 2 ∧ 2 ≤ 9223372036854775807; decide⟩
theorem kf {bt bp b1 b2 : Nat} {f s p : Int} {n : Nd} {x : Bool × Int} (hd : (cfD f s).In) (h : fitR (cfD f s) p n = x) : FnC Try.prog 29 [cfE f bt bp, iV p, ndV n.a n.b n.c n.d] (fun g => stars (cfP bt bp b1 b2 s) g) (ftV x) := by
  have := fits_spec (cfD f s) (cfY bt bp b1 b2 s) hd (cf_fit bt bp b1 b2 s) rfl p n
  rw [h] at this
  exact Ctr.mono this (fun g hg => cf_rd hg) (fun v L hv => ⟨L, hv, fun _ h => h⟩)
def ndL : List Nd := [⟨4, 6, 8, 8⟩, ⟨5, 6, 8, 8⟩, ⟨4, 7, 8, 8⟩, ⟨4, 6, 9, 8⟩, ⟨4, 6, 8, 9⟩, ⟨0, 0, 0, 0⟩]
def ftL : List Bool := [true, false, false, false, false, true]
theorem k_fits : ∀ i : Fin 6, fitR (cfD 64 1) 0 (Cof.get ndL (i.1 : Int)) = (Cof.get ftL (i.1 : Int), 0) ∧ ftL.take (i.1 + 1) = ftL.take i.1 ++ [Cof.get ftL (i.1 : Int)] := by decide +kernel
theorem k_f1 : fitR (cfD 128 5) 0 ⟨16, 0, 0, 0⟩ = (true, 0) := by decide +kernel
theorem k_f2 : fitR (cfD 128 5) 0 ⟨17, 0, 0, 0⟩ = (false, 0) := by decide +kernel
theorem k_f3 : fitR (cfD 64 1) 2 ⟨-1, 0, 0, 0⟩ = (false, 270) := by decide +kernel
def ngL : List Nd := [⟨-1, 0, 0, 0⟩, ⟨0, -1, 0, 0⟩, ⟨0, 0, -1, 0⟩, ⟨0, 0, 0, -1⟩]
theorem k_f4 : ∀ i : Fin 4, fitR (cfD 64 1) 0 (Cof.get ngL (i.1 : Int)) = (false, 2) := by decide +kernel
abbrev zD : Cd := ⟨0, 0, 0, 0, 0, 0, ⟨0, 0, 0, 0, 0, 0⟩, 0, 0, 0, [], []⟩
abbrev zY : Ly := ⟨none, 0, 0, none, 0, 0, []⟩
theorem k_f5 : fitR zD 0 ⟨0, 0, 0, 0⟩ = (false, 5) := by decide +kernel
theorem kz : FnC Try.prog 29 [cfV zD zY, iV 0, ndV 0 0 0 0] (fun _ => True) (ftV (false, 5)) := by
  have := fits_spec zD zY ⟨by decide, by decide, by decide, by decide, by decide, by decide, ⟨by decide, by decide, by decide, by decide, by decide, by decide⟩, by decide, by decide, by decide, by decide, fun p hp => by cases hp⟩ ⟨by decide, by decide, (fun p hp => by cases hp), by decide⟩ rfl 0 ⟨0, 0, 0, 0⟩
  rw [k_f5] at this
  exact Ctr.mono this (fun g _ => ⟨rdS.nil _ _ _, rdS.nil _ _ _, (fun p hp => by cases hp), rfl⟩) (fun v L hv => ⟨L, hv, fun _ h => h⟩)
end Go.Proofs.Ytalkcemelegohaa
