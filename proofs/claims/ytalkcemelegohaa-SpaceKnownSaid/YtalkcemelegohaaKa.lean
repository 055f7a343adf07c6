/- SpaceKnown: the segments with Access, Map, Unmap, Protect. -/
import Derived.Test.YtalkcemelegohaaKs
set_option linter.unusedVariables false
set_option maxRecDepth 100000
namespace Go.Proofs.Ytalkcemelegohaa
open Go.RowKit Go.Cof
open Vm (Rg encRg rgV)
-- refine Ctr.intro Try.func8 rfl rfl (by decide +kernel) fun F hpre => ?_

section
variable {F : Frz} {K : Exit → Act → World → Prop}
abbrev bp1 (b1 q : Nat) : List HProp := [own encRg (some ⟨q, 0, none⟩) 2 2 fourL, blk b1 [.slice (some ⟨q, 0, none⟩) 2 2, iV 3] 24]
abbrev bp6 (b1 q b6 : Nat) : List HProp := [blk b6 [iV 524288, iV 4, bV 3] 73, own encRg (some ⟨q, 0, none⟩) 2 2 fourL, blk b1 [.slice (some ⟨q, 0, none⟩) 2 2, iV 3] 24]
set_option maxHeartbeats 16000000 in
theorem seg0 (h : ∀ b1 q, X Try.prog F Try.f8.ntmps (kc 3) K [(1, pt b1)] (bp1 b1 q)) : X Try.prog F Try.f8.ntmps (kc 0) K [] [] := by
  change X _ _ _ (.seq _ _) _ _ _
  repeat' (first | (refine XL_id ?_; first | refine XL_nil ?_ | (refine XG_call ?_; (refine XL_callK [] four_spec rfl rfl (fun _ => rfl) (fun _ _ _ => trivial) (fun u L hv => ?_); obtain ⟨q, rfl, rfl⟩ := hv)) | (refine XG_alloc ?_; (refine XL_alloc tt_ok rfl rfl (fun _ => rfl) (fun b => ?_); refine XL_nB (by repeat' (first | exact .nil | apply NL.cons)) ?_)) | (refine XG_store ?_; first | (refine XL_storeW tt_ok 0 rfl rfl rfl rfl rfl rfl rfl ?_; refine XL_nK 0 rfl (by repeat' (first | exact .nil | apply NL.cons)) ?_) | (refine XL_store tt_ok 0 rfl rfl rfl rfl rfl rfl rfl rfl ?_; refine XL_nK 0 rfl (by repeat' (first | exact .nil | apply NL.cons)) ?_)) | (refine XL_op tt_ok rfl rfl ?_)) | (refine X_id ?_; first | refine X_hold (c := .seq (.region 3 _ _) _) ?_ | refine X_seq ?_ | (refine X_regionN (by repeat' (first | exact .nil | apply NL.cons)) ?_)) | (refine Y_id ?_; refine Y_then ?_))
  · intro _
    first
      | exact X_mem (fun h' hs => stars_only [1, 0] rfl h' hs) (X_sub (h _ _) (by (repeat' (first | exact trivial | refine And.intro rfl ?_)); done))
      | exact X_mem (fun h' hs => stars_only [0, 0] rfl h' hs) (X_sub (h _ _) (by (repeat' (fail)); done))
set_option maxHeartbeats 16000000 in
theorem seg3 {b1 q b6 : Nat} (h : X Try.prog F Try.f8.ntmps (kc 12) K [(1, pt b1), (6, pt b6), (5, .bool true), (12, .bool true), (16, .bool true)] (bp6 b1 q b6)) :
    X Try.prog F Try.f8.ntmps (kc 10) K [(1, pt b1), (6, pt b6), (5, .bool true), (12, .bool true)] (bp6 b1 q b6) := by
  have hmp := fun q : Nat => map_spec (some ⟨q, 0, none⟩) 2 2 fourL 4 524287 1 3 (by decide) (by decide) fourL_in (by decide) (by decide) (by decide)
  simp only [k_map] at hmp
  change X _ _ _ (.seq _ _) _ _ _
  repeat' (first | (refine XL_id ?_; first | refine XL_nil ?_ | (refine XG_call ?_; first | (refine XL_callK [] four_spec rfl rfl (fun _ => rfl) (fun _ _ _ => trivial) (fun u L hv => ?_); obtain ⟨q, rfl, rfl⟩ := hv) | (refine XL_callK [] (hmp _) rfl rfl (fun _ => rfl) (fun g hg hL => rd_at 0 rfl hL) (fun u L hv => ?_); obtain ⟨A1, m1, c1, hm1, rfl, rfl⟩ := MRes.ex hv) | refine XL_fn (of_spec _ _ _ _) rfl rfl (fun _ _ _ => trivial) ?_ | (refine XL_fn (same_spec _ _ _ _ _ _ _ [⟨1, 2, 3⟩, ⟨524287, 5, 3⟩] _ _ (by rw [hm1]; decide) (by decide)) rfl rfl (fun g hg hL => ⟨by exact (rd_at 1 rfl hM).le hg, blk_rdS (blk_at 0 rfl hL) rfl rfl⟩) ?_; refine XL_dec_t ⟨rfl, rfl⟩ ?_)) | (refine XG_alloc ?_; (refine XL_alloc tt_ok rfl rfl (fun _ => rfl) (fun b => ?_); refine XL_nB (by repeat' (first | exact .nil | apply NL.cons)) ?_)) | (refine XG_lit ?_; (refine XL_lit tt_ok rfl rfl rfl rfl rfl rfl rfl rfl rfl (fun _ => rfl) (fun b => ?_); refine XL_nB (by repeat' (first | exact .nil | apply NL.cons)) ?_)) | (refine XG_store ?_; (refine XL_storeW tt_ok 0 rfl rfl rfl rfl rfl rfl rfl ?_; refine XL_nK 0 rfl (by repeat' (first | exact .nil | apply NL.cons)) ?_)) | (refine XL_op tt_ok rfl rfl ?_)) | (refine XD_id ?_; first | (refine XD_thaw thaw ?_; refine XD_nil ?_) | (refine XD_id ?_; (first | (refine XD_uL rfl ?_; refine XD_s rfl rfl rfl (XV_loadW tt_ok rfl (blk_at 0 rfl hM) rfl rfl rfl) rfl ?_) | (refine XD_u rfl rfl ?_; first | refine XD_s rfl rfl rfl (XV_op tt_ok rfl) rfl ?_ | refine XD_s rfl rfl rfl (XV_build tt_ok rfl rfl rfl rfl rfl rfl) rfl ?_) | (refine XD_g rfl rfl ?_; refine XD_sy rfl rfl rfl rfl rfl (XV_op tt_ok rfl) rfl ?_)); try (refine XD_dec_t (by omega) ?_)) | refine XD_m rfl rfl ?_) | (refine X_id ?_; first | refine X_hold (c := .seq (.region 21 _ _) _) ?_ | (refine X_drawS (id := 20) [0, 1, 2, 3, 4, 5, 6, 7, 8, 9, 10, 11, 12, 13, 14] (fun | 3 => .m | 4 => .m | 5 => .m | _ => .s) 8 (by (repeat apply Split.blk); apply Split.frz; (repeat apply Split.blk); apply Split.frz; repeat' (first | exact Split.nil | apply Split.blk | apply Split.keep)) mixed (by decide +kernel) ?_; intro G hFG hM thaw; show XD _ _ _ _ _ _ [0, 1, 2, 3, 4, 5, 6, 7, 8, 9, 10, 11, 12, 13, 14] _ _ _) | refine X_seq ?_ | (refine X_regionN (by repeat' (first | exact .nil | apply NL.cons)) ?_)) | (refine Y_id ?_; first | refine Y_then ?_ | refine Y_m ?_))
  all_goals first
    | (intro _; exact X_mem (fun h' hs => stars_only [5, 1, 4] rfl h' hs) (X_sub h (by (repeat' (first | exact trivial | refine And.intro rfl ?_)); done)))
    | skip
  
set_option maxHeartbeats 16000000 in
theorem seg6 {b1 q : Nat} (h : X Try.prog F Try.f8.ntmps (kc 34) K [(1, pt b1), (5, .bool true), (12, .bool true), (16, .bool true), (35, .bool true), (51, .bool true), (52, .bool true)] (bp1 b1 q)) :
    X Try.prog F Try.f8.ntmps (kc 33) K [(1, pt b1), (5, .bool true), (12, .bool true), (16, .bool true), (35, .bool true), (51, .bool true)] (bp1 b1 q) := by
  have ac := fun (q : Nat) (va sz : Int) (w : Bool) (h1 : Ad.u64In va) (h2 : Ad.i64In sz) => access_spec (some ⟨q, 0, none⟩) 2 2 fourL 4 va sz w (by decide) fourL_in h1 h2
  have a1 := fun q => ac q 256 8 true (by decide) (by decide)
  have a2 := fun q => ac q 0 1 false (by decide) (by decide)
  have a3 := fun q => ac q 134217728 4 true (by decide) (by decide)
  have a4 := fun q => ac q 255 2 false (by decide) (by decide)
  have a5 := fun q => ac q 268435456 1 false (by decide) (by decide)
  have a6 := fun q => ac q 134218752 1 false (by decide) (by decide)
  simp only [k_ac1, k_ac2, k_ac3, k_ac4, k_ac5, k_ac6] at a1 a2 a3 a4 a5 a6
  change X _ _ _ (.seq _ _) _ _ _
  repeat' (first | (refine XL_id ?_; first | refine XL_nil ?_ | refine XL_guard_yes rfl rfl rfl ?_ | (refine XG_call ?_; first | (refine XL_callK [] four_spec rfl rfl (fun _ => rfl) (fun _ _ _ => trivial) (fun u L hv => ?_); obtain ⟨q, rfl, rfl⟩ := hv) | refine XL_fn (a1 _) rfl rfl (fun g hg hL => rd_at 0 rfl hL) ?_ | refine XL_fn (a2 _) rfl rfl (fun g hg hL => rd_at 0 rfl hL) ?_ | refine XL_fn (a3 _) rfl rfl (fun g hg hL => rd_at 0 rfl hL) ?_ | refine XL_fn (a4 _) rfl rfl (fun g hg hL => rd_at 0 rfl hL) ?_ | refine XL_fn (a5 _) rfl rfl (fun g hg hL => rd_at 0 rfl hL) ?_ | refine XL_fn (a6 _) rfl rfl (fun g hg hL => rd_at 0 rfl hL) ?_) | (refine XL_op tt_ok rfl rfl ?_; try (refine XL_dec_t (by omega) ?_))) | (refine X_id ?_; first | refine X_hold (c := .seq (.region 44 _ _) _) ?_ | refine X_seq ?_ | (refine X_regionN (by repeat' (first | exact .nil | apply NL.cons)) ?_)) | (refine Y_id ?_; refine Y_then ?_))
  all_goals first
    | (intro _; exact X_mem (fun h' hs => stars_only [6, 6] rfl h' hs) (X_sub h (by (repeat' (first | exact trivial | refine And.intro rfl ?_)); done)))
    | skip
  
end
end Go.Proofs.Ytalkcemelegohaa
