/- Walk of works. -/
import Derived.Test.YtalkcemelegohaaLa
import Derived.Test.YtalkcemelegohaaSC
import Derived.Test.YtalkcemelegohaaSm
import Derived.Test.YtalkcemelegohaaSq
set_option linter.unusedVariables false
set_option maxRecDepth 100000
namespace Go.Proofs.Ytalkcemelegohaa
open Go.RowKit Go.Cof
open Vm (Rg encRg rgV)

def fourL : List Rg := [⟨1, 2, 3⟩, ⟨524288, 4, 3⟩]
theorem four_spec : Ctr Try.prog 30 [] (fun _ => True) [] (fun v L => ∃ q, v = .agg #[.slice (some ⟨q, 0, none⟩) 2 2, iV 4] ∧ L = [own encRg (some ⟨q, 0, none⟩) 2 2 fourL]) := by
  refine Ctr.intro Try.func30 rfl rfl (by decide +kernel) fun F hpre => ?_
  repeat' (first | (refine XL_id ?_; first | refine XL_nil ?_ | (refine XG_build ?_; (refine XL_build tt_ok rfl rfl rfl rfl rfl rfl rfl ?_; refine XL_aggN (by repeat' (first | exact .nil | apply NL.cons)) ?_)) | (refine XG_alloc ?_; (refine XL_alloc tt_ok rfl rfl (fun _ => rfl) (fun b => ?_); refine XL_nB (by repeat' (first | exact .nil | apply NL.cons)) ?_)) | (refine XG_lit ?_; (refine XL_lit tt_ok rfl rfl rfl rfl rfl rfl rfl rfl rfl (fun _ => rfl) (fun b => ?_); refine XL_nB (by repeat' (first | exact .nil | apply NL.cons)) ?_)) | (refine XG_store ?_; (refine XL_storeW tt_ok 1 rfl rfl rfl rfl rfl rfl rfl ?_; refine XL_nK 1 rfl (by repeat' (first | exact .nil | apply NL.cons)) ?_))) | (refine X_id ?_; first | refine X_seq ?_ | (refine X_regionN (by repeat' (first | exact .nil | apply NL.cons)) ?_) | refine X_ret ?_) | (refine Y_id ?_; refine Y_then ?_))
  all_goals first
    | exact Y_res1 rfl (.cell tt_ok 1 rfl rfl rfl rfl rfl) (stars_fin [0] rfl (fun h hs => own_of_blk (E := encRg) (m := 2) (xs := fourL) (stars_blk hs) rfl rfl (by decide))) ⟨b, rfl, rfl⟩
    | skip
  
theorem of_spec (A : Option Addr) (m c : Nat) (h : Int) : FnC Try.prog 31 [iV h, .slice A m c] (fun _ => True) (.agg #[.slice A m c, iV h]) := by
  refine Ctr.intro Try.func31 rfl rfl (by decide +kernel) fun F hpre => ?_
  repeat' (first | (refine XL_id ?_; first | refine XL_nil ?_ | (refine XG_build ?_; (refine XL_build tt_ok rfl rfl rfl rfl rfl rfl rfl ?_; refine XL_aggN (by repeat' (first | exact .nil | apply NL.cons)) ?_)) | (refine XG_alloc ?_; (refine XL_alloc tt_ok rfl rfl (fun _ => rfl) (fun b => ?_); refine XL_nB (by repeat' (first | exact .nil | apply NL.cons)) ?_)) | (refine XG_store ?_; (refine XL_storeW tt_ok 0 rfl rfl rfl rfl rfl rfl rfl ?_; refine XL_nK 0 rfl (by repeat' (first | exact .nil | apply NL.cons)) ?_)) | (refine XL_op tt_ok rfl rfl ?_)) | (refine X_id ?_; first | refine X_seq ?_ | (refine X_regionN (by repeat' (first | exact .nil | apply NL.cons)) ?_) | refine X_ret ?_) | (refine Y_id ?_; refine Y_then ?_))
  all_goals first
    | exact Y_res1 rfl (.cell tt_ok 0 rfl rfl rfl rfl rfl) (L' := []) (fun _ _ => trivial) ⟨rfl, rfl⟩
    | skip
  
theorem fourL_in : ∀ r ∈ fourL, r.In := fun r hr => by
  rcases List.mem_cons.1 hr with rfl | hr
  · exact ⟨by decide, by decide, by decide⟩
  · obtain rfl := List.mem_singleton.1 hr; exact ⟨by decide, by decide, by decide⟩
theorem four_check : scheck fourL 4 = 0 := by decide +kernel
theorem four_good : SGood fourL 4 := sgood_iff.1 four_check
def mapL : List Rg := [⟨1, 2, 3⟩, ⟨3, 3, 1⟩, ⟨524288, 4, 3⟩]
def brkL : List Rg := [⟨1, 2, 3⟩, ⟨524288, 5, 3⟩]
theorem w_map : mapF fourL 4 0 3 1 = (mapL, 4, 3, 0) := by decide +kernel
theorem w_brk : brkF fourL 4 5 = (brkL, 5, 0) := by decide +kernel
theorem w_tables : tablesN fourL = 7 := by
  have h : Ad.total [⟨1, 2⟩, ⟨524288, 4⟩] = 7 := Ad.total_of (a := 2) (b := 2) (c := 2)
    ((Ad.cnt2go (D := 32) (M := 32768) (by decide) (by decide) (by decide) (by decide) (by decide) (by decide) (by decide)).trans (by decide))
    ((Ad.cnt2go (D := 1024) (M := 1024) (by decide) (by decide) (by decide) (by decide) (by decide) (by decide) (by decide)).trans (by decide))
    ((Ad.cnt2go (D := 32768) (M := 32) (by decide) (by decide) (by decide) (by decide) (by decide) (by decide) (by decide)).trans (by decide)) rfl
  show ((Ad.total [⟨1, 2⟩, ⟨524288, 4⟩] : Nat) : Int) = 7
  rw [h]; rfl
theorem w_needs : needsR fourL 4 = .tuple #[ndV 1 6 7 2, iV 0] := by
  rw [needs_good four_good, w_tables]; rfl
structure Nd where
  a : Int
  b : Int
  c : Int
  d : Int
deriving DecidableEq, Inhabited
def encNd : Enc Nd := ⟨fun x => [iV x.a, iV x.b, iV x.c, iV x.d], 4, fun _ => rfl, by decide, fun x u hu => by simp at hu; rcases hu with rfl | rfl | rfl | rfl <;> rfl⟩
theorem eqNd : EqE Try.prog Tt 45 encNd := EqE.ofT tt_ok [45] (by decide +kernel) (by kernel_rfl) 3 rfl fun a b => by
  show some (decide (a.a = b.a) && (decide (a.b = b.b) && (decide (a.c = b.c) && (decide (a.d = b.d) && true)))) = _
  refine congrArg some ?_
  obtain ⟨a1, a2, a3, a4⟩ := a
  obtain ⟨b1, b2, b3, b4⟩ := b
  by_cases h1 : a1 = b1 <;> by_cases h2 : a2 = b2 <;> by_cases h3 : a3 = b3 <;> by_cases h4 : a4 = b4 <;> simp [h1, h2, h3, h4]
set_option maxHeartbeats 16000000 in
theorem works_spec : FnC Try.prog 9 [] (fun _ => True) (.bool true) := by
  have hmp := fun q : Nat => map_spec (some ⟨q, 0, none⟩) 2 2 fourL 4 0 3 1 (by decide) (by decide) fourL_in (by decide) (by decide) (by decide)
  have hbk := fun q : Nat => brk_spec (some ⟨q, 0, none⟩) 2 2 fourL 4 5 (by decide) (by decide) fourL_in (by decide)
  have hnd := fun q : Nat => needs_spec (some ⟨q, 0, none⟩) 2 2 fourL 4 (by decide) fourL_in
  simp only [w_map, w_brk, w_needs] at hmp hbk hnd
  refine Ctr.intro Try.func9 rfl rfl (by decide +kernel) fun F hpre => ?_
  repeat' (first | (refine XL_id ?_; first | refine XL_nil ?_ | refine XL_guard_yes rfl rfl rfl ?_ | (refine XL_eq (a := (⟨1, 6, 7, 2⟩ : Nd)) (b := (⟨1, 6, 7, 2⟩ : Nd)) eqNd rfl rfl rfl ?_; refine XL_dec_t rfl ?_) | (refine XG_load ?_; refine XL_loadW tt_ok 7 rfl rfl rfl rfl rfl rfl ?_) | (refine XG_build ?_; (refine XL_build tt_ok rfl rfl rfl rfl rfl rfl rfl ?_; refine XL_aggN (by repeat' (first | exact .nil | apply NL.cons)) ?_)) | (refine XG_call ?_; first | (refine XL_callK [] four_spec rfl rfl (fun _ => rfl) (fun _ _ _ => trivial) (fun u L hv => ?_); obtain ⟨q, rfl, rfl⟩ := hv) | (refine XL_callK [] (hmp _) rfl rfl (fun _ => rfl) (fun g hg hL => rd_at 0 rfl hL) (fun u L hv => ?_); obtain ⟨o1, ho1, hm1, hv1, rfl⟩ := hv; obtain rfl : u = .tuple #[.agg #[o1.v, iV 4], iV 3, iV 0] := hv1) | (refine XL_callK [] (hbk _) rfl rfl (fun _ => rfl) (fun g hg hL => rd_at 0 rfl hL) (fun u L hv => ?_); obtain ⟨o2, ho2, hm2, hv2, rfl⟩ := hv; obtain rfl : u = .tuple #[.agg #[o2.v, iV 5], iV 0] := hv2) | refine XL_fn (hnd _) rfl rfl (fun g hg hL => rd_at 0 rfl hL) ?_ | refine XL_fn (of_spec _ _ _ _) rfl rfl (fun _ _ _ => trivial) ?_ | (refine XL_fn (same_spec _ _ _ _ _ _ o1.xs mapL _ _ (by rw [hm1, ho1]; decide) (by decide)) rfl rfl (fun g hg hL => ⟨(by exact rd_at 4 rfl hL), blk_rdS (blk_at 0 rfl hL) rfl rfl⟩) ?_; refine XL_dec_t ⟨rfl, ho1⟩ ?_) | (refine XL_fn (same_spec _ _ _ _ _ _ o2.xs brkL _ _ (by rw [hm2, ho2]; decide) (by decide)) rfl rfl (fun g hg hL => ⟨(by exact rd_at 2 rfl hL), blk_rdS (blk_at 0 rfl hL) rfl rfl⟩) ?_; refine XL_dec_t ⟨rfl, ho2⟩ ?_)) | (refine XG_alloc ?_; (refine XL_alloc tt_ok rfl rfl (fun _ => rfl) (fun b => ?_); refine XL_nB (by repeat' (first | exact .nil | apply NL.cons)) ?_)) | (refine XG_lit ?_; (refine XL_lit tt_ok rfl rfl rfl rfl rfl rfl rfl rfl rfl (fun _ => rfl) (fun b => ?_); refine XL_nB (by repeat' (first | exact .nil | apply NL.cons)) ?_)) | (refine XG_store ?_; (refine XL_storeW tt_ok 0 rfl rfl rfl rfl rfl rfl rfl ?_; refine XL_nK 0 rfl (by repeat' (first | exact .nil | apply NL.cons)) ?_)) | (refine XL_op tt_ok rfl rfl ?_; try (refine XL_dec_t (by omega) ?_))) | (refine XD_id ?_; first | (refine XD_thaw thaw ?_; refine XD_nil ?_) | (refine XD_id ?_; (first | (refine XD_gL rfl ?_; refine XD_sy rfl rfl rfl rfl rfl (XV_loadW tt_ok rfl (blk_at 2 rfl hM) rfl rfl rfl) rfl ?_) | (refine XD_u rfl rfl ?_; refine XD_s rfl rfl rfl (XV_op tt_ok rfl) rfl ?_) | (refine XD_g rfl rfl ?_; first | refine XD_sy rfl rfl rfl rfl rfl (XV_op tt_ok rfl) rfl ?_ | refine XD_sy rfl rfl rfl rfl rfl (XV_build tt_ok rfl rfl rfl rfl rfl rfl) rfl ?_)); try (refine XD_dec_t (by omega) ?_)) | refine XD_m rfl rfl ?_) | (refine X_id ?_; first | (refine X_drawS (id := 4) [0, 1, 2, 3, 4, 5, 6, 7, 8, 9, 10, 11, 12, 13, 14, 15] (fun | 11 => .m | 12 => .m | 13 => .m | _ => .s) 8 (by repeat' (first | exact Split.nil | apply Split.blk | apply Split.keep)) mixed (by decide +kernel) ?_; intro G hFG hM thaw; show XD _ _ _ _ _ _ [0, 1, 2, 3, 4, 5, 6, 7, 8, 9, 10, 11, 12, 13, 14, 15] _ _ _) | (refine X_drawS (id := 5) [0, 1, 2, 3, 4, 5, 6, 7, 8, 9, 10] (fun | 6 => .m | 7 => .m | 8 => .m | _ => .s) 8 (by repeat' (first | exact Split.nil | apply Split.blk | apply Split.keep)) mixed (by decide +kernel) ?_; intro G hFG hM thaw; show XD _ _ _ _ _ _ [0, 1, 2, 3, 4, 5, 6, 7, 8, 9, 10] _ _ _) | refine X_seq ?_ | (refine X_regionN (by repeat' (first | exact .nil | apply NL.cons)) ?_) | refine X_ret ?_) | (refine Y_id ?_; first | refine Y_then ?_ | refine Y_m ?_))
  all_goals first
    | exact Y_fn1 rfl rfl rfl
    | (rename_i h; exact absurd rfl h)
    | skip
  
end Go.Proofs.Ytalkcemelegohaa
