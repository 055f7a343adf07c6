/- The turned configurations. -/
import Derived.Test.YtpokfingnflblaaLa
import Derived.Test.YtpokfingnflblaaLb
import Derived.Test.YtpokfingnflblaaLc
set_option linter.unusedVariables false
namespace Go.Proofs.Ytpokfingnflblaa
open Go.RowKit Go.Cof

theorem isCf_own {d : Cd} {tA : Option Addr} {tm tc : Nat} {bp b1 b2 m1 m2 : Nat} {x1 x2 : Pd} {e2 e3 e4 : TypeId} {h : Hp} (hp : d.ps = [x1, x2]) (h1 : m1 = x1.xs.length) (h2 : m2 = x2.xs.length) (s1 : m1 ≤ 100) (s2 : m2 ≤ 100) (s3 : tm ≤ 100)
    (hs : stars [own encN tA tm tc d.tn, blk bp (flat encPt [⟨some ⟨b1, 0, none⟩, m1, m1, x1⟩, ⟨some ⟨b2, 0, none⟩, m2, m2, x2⟩]) e2, blk b1 (flat encN x1.xs) e3, blk b2 (flat encN x2.xs) e4] h) :
    isCf d ⟨tA, tm, tc, some ⟨bp, 0, none⟩, 2, 2, [⟨some ⟨b1, 0, none⟩, m1, m1, x1⟩, ⟨some ⟨b2, 0, none⟩, m2, m2, x2⟩]⟩ h := by
  refine isCf_mk (d := d) (by rw [hp]; rfl) (by show tm * 8 ≤ _; omega) (by show 2 * 80 ≤ _; decide) (fun p hp => ?_) h ?_
  · rcases List.mem_cons.1 hp with rfl | hp
    · show m1 * 8 ≤ _; omega
    · obtain rfl := List.mem_singleton.1 hp
      show m2 * 8 ≤ _; omega
  · have q2 := stars_conv (k := 1) (B := own encPt (some ⟨bp, 0, none⟩) 2 2 [⟨some ⟨b1, 0, none⟩, m1, m1, x1⟩, ⟨some ⟨b2, 0, none⟩, m2, m2, x2⟩]) rfl (fun _ o => own_of_blk o rfl rfl (by decide)) hs
    have q3 := stars_conv (k := 2) (B := own encN (some ⟨b1, 0, none⟩) m1 m1 x1.xs) rfl (fun _ o => own_of_blk o h1 rfl (Nat.le_trans s1 (by decide))) q2
    have q4 := stars_conv (k := 3) (B := own encN (some ⟨b2, 0, none⟩) m2 m2 x2.xs) rfl (fun _ o => own_of_blk o h2 rfl (Nat.le_trans s2 (by decide))) q3
    have q5 : stars (allC [⟨some ⟨b1, 0, none⟩, m1, m1, x1⟩, ⟨some ⟨b2, 0, none⟩, m2, m2, x2⟩] :: [own encN tA tm tc d.tn, own encPt (some ⟨bp, 0, none⟩) 2 2 [⟨some ⟨b1, 0, none⟩, m1, m1, x1⟩, ⟨some ⟨b2, 0, none⟩, m2, m2, x2⟩]]) h := stars_fold (stars_take [2, 2] rfl q4)
    exact stars_take [1, 1] rfl q5
theorem isCf_blk {d : Cd} {bt tm : Nat} {bp b1 b2 m1 m2 : Nat} {x1 x2 : Pd} {e1 e2 e3 e4 : TypeId} {h : Hp} (hp : d.ps = [x1, x2]) (ht : tm = d.tn.length) (h1 : m1 = x1.xs.length) (h2 : m2 = x2.xs.length) (s1 : m1 ≤ 100) (s2 : m2 ≤ 100) (s3 : tm ≤ 100)
    (hs : stars [blk bt (flat encN d.tn) e1, blk bp (flat encPt [⟨some ⟨b1, 0, none⟩, m1, m1, x1⟩, ⟨some ⟨b2, 0, none⟩, m2, m2, x2⟩]) e2, blk b1 (flat encN x1.xs) e3, blk b2 (flat encN x2.xs) e4] h) :
    isCf d ⟨some ⟨bt, 0, none⟩, tm, tm, some ⟨bp, 0, none⟩, 2, 2, [⟨some ⟨b1, 0, none⟩, m1, m1, x1⟩, ⟨some ⟨b2, 0, none⟩, m2, m2, x2⟩]⟩ h :=
  isCf_own hp h1 h2 s1 s2 s3 (stars_conv (k := 0) (B := own encN (some ⟨bt, 0, none⟩) tm tm d.tn) rfl (fun _ o => own_of_blk o ht rfl (Nat.le_trans s3 (by decide))) hs)
abbrev pt0 : Pt := ⟨none, 0, 0, ⟨0, 0, 0, 0, 0, 0, 0, []⟩⟩
theorem allC_none : ∀ (n : Nat) (h : Hp), allC (List.replicate n pt0) h
  | 0, _ => trivial
  | n + 1, h => stars_new (own_nil encN _) (allC_none n h)
theorem isCf_none {d : Cd} {tA : Option Addr} {tm tc : Nat} {pA : Option Addr} {n c : Nat} {h : Hp} (hn : n ≤ 100) (hp : d.ps = List.replicate n pt0.d) (s3 : tm ≤ 100) (hs : stars [own encN tA tm tc d.tn, own encPt pA n c (List.replicate n pt0)] h) : isCf d ⟨tA, tm, tc, pA, n, c, List.replicate n pt0⟩ h := by
  refine isCf_mk (d := d) (by rw [hp]; exact List.map_replicate) (by show tm * 8 ≤ _; omega) (by show n * 80 ≤ _; omega) (fun p hp => ?_) h ?_
  · obtain rfl := (List.mem_replicate.1 hp).2
    show 0 * 8 ≤ _; decide
  · exact stars_take [1, 1] rfl (stars_new (allC_none n Hp.nil) hs)
theorem usual2_spec : Ctr Try.prog 30 [] (fun _ => True) [] (fun v L => ∃ bt bp b1 b2, v = .agg #[iV 64, iV 4, iV 2, iV 4, iV 2, iV 4, uV 1, uV 4, uV 10, uV 5, uV 1, uV 20, uV 4000, uV 20, uV 0, .slice (some ⟨bt, 0, none⟩) 2 2, .slice (some ⟨bp, 0, none⟩) 2 2] ∧ L = [blk bt [iV 0, iV 1] 3, blk bp [.slice (some ⟨b1, 0, none⟩) 2 2, iV 1, iV 4, iV 8, iV 1, iV 1, iV 1, iV 3, .slice (some ⟨b2, 0, none⟩) 1 1, iV 0, iV 2, iV 6, iV 1, iV 1, iV 1, iV 3] 41, blk b1 [iV 0, iV 1] 3, blk b2 [iV 2] 3]) := by
  refine Ctr.intro Try.func30 rfl rfl (by decide +kernel) fun F hpre => ?_
  repeat' (first | (refine XL_id ?_; first | refine XL_nil ?_ | (refine XG_build ?_; (refine XL_build tt_ok rfl rfl rfl rfl rfl rfl rfl ?_; refine XL_aggN (by repeat' (first | exact .nil | apply NL.cons)) ?_)) | (refine XG_alloc ?_; (refine XL_alloc tt_ok rfl rfl (fun _ => rfl) (fun b => ?_); refine XL_nB (by repeat' (first | exact .nil | apply NL.cons)) ?_)) | (refine XG_lit ?_; (refine XL_lit tt_ok rfl rfl rfl rfl rfl rfl rfl rfl rfl (fun _ => rfl) (fun b => ?_); refine XL_nB (by repeat' (first | exact .nil | apply NL.cons)) ?_)) | (refine XG_store ?_; (refine XL_storeW tt_ok 4 rfl rfl rfl rfl rfl rfl rfl ?_; refine XL_nK 4 rfl (by repeat' (first | exact .nil | apply NL.cons)) ?_))) | (refine X_id ?_; first | refine X_seq ?_ | (refine X_regionN (by repeat' (first | exact .nil | apply NL.cons)) ?_) | refine X_ret ?_) | (refine Y_id ?_; refine Y_then ?_))
  all_goals first
    | exact Y_res1 rfl (.cell tt_ok 4 rfl rfl rfl rfl rfl) (stars_only [3, 0, 1, 0] rfl) ⟨_, _, _, _, rfl, rfl⟩
    | skip
  
def tuD : Nat → Cd
  | 0 => ⟨64, 3, 2, 4, 2, 4, ⟨1, 4, 10, 5, 1, 20⟩, 4000, 20, 0, [0, 1], [⟨1, 4, 8, 1, 1, 1, 3, [0, 1]⟩, ⟨0, 2, 6, 1, 1, 1, 3, [2]⟩]⟩
  | 1 => ⟨66, 4, 2, 4, 2, 4, ⟨1, 4, 10, 5, 1, 20⟩, 4000, 20, 0, [0, 1], [⟨1, 4, 8, 1, 1, 1, 3, [0, 1]⟩, ⟨0, 2, 6, 1, 1, 1, 3, [2]⟩]⟩
  | 2 => ⟨64, 4, 2, 4, 2, 4, ⟨1, 4, 10, 5, 1, 20⟩, 100, 20, 0, [0, 1], [⟨1, 4, 8, 1, 1, 1, 3, [0, 1]⟩, ⟨0, 2, 6, 1, 1, 1, 3, [2]⟩]⟩
  | 3 => ⟨64, 4, 2, 4, 2, 4, ⟨1, 4, 10, 5, 1, 20⟩, 4000, 20, 0, [0, 2], [⟨1, 4, 8, 1, 1, 1, 3, [0, 1]⟩, ⟨0, 2, 6, 1, 1, 1, 3, [2]⟩]⟩
  | 4 => ⟨64, 4, 2, 4, 2, 4, ⟨1, 4, 10, 5, 1, 20⟩, 4000, 20, 0, [], [⟨1, 4, 8, 1, 1, 1, 3, [0, 1]⟩, ⟨0, 2, 6, 1, 1, 1, 3, [2]⟩]⟩
  | 5 => ⟨64, 4, 2, 4, 2, 4, ⟨1, 4, 10, 5, 1, 20⟩, 4000, 20, 0, List.replicate 65 0, [⟨1, 4, 8, 1, 1, 1, 3, [0, 1]⟩, ⟨0, 2, 6, 1, 1, 1, 3, [2]⟩]⟩
  | 6 => ⟨64, 4, 2, 4, 2, 4, ⟨1, 4, 10, 5, 1, 20⟩, 4000, 20, 0, [0, 1], [⟨1, 4, 8, 1, 1, 1, 3, [0, 1]⟩, ⟨0, 2, 6, 1, 1, 1, 3, [1]⟩]⟩
  | 7 => ⟨64, 4, 2, 4, 2, 4, ⟨1, 4, 10, 5, 1, 20⟩, 4000, 20, 0, [0, 1], [⟨1, 4, 8, 1, 1, 1, 3, [0, 1]⟩, ⟨0, 2, 6, 1, 1, 1, 3, [2, 2]⟩]⟩
  | 8 => ⟨64, 4, 2, 4, 2, 4, ⟨1, 4, 10, 5, 1, 20⟩, 4000, 20, 0, [0, 1], [⟨1, 40, 8, 1, 1, 1, 3, [0, 1]⟩, ⟨0, 2, 6, 1, 1, 1, 3, [2]⟩]⟩
  | 9 => ⟨64, 4, 2, 4, 2, 4, ⟨1, 4, 10, 5, 1, 20⟩, 4000, 20, 0, [0, 1], [⟨4, 4, 8, 1, 1, 1, 3, [0, 1]⟩, ⟨0, 2, 6, 1, 1, 1, 3, [2]⟩]⟩
  | 10 => ⟨64, 4, 2, 4, 2, 4, ⟨1, 4, 10, 5, 1, 20⟩, 4000, 20, 0, [0, 1], [⟨1, 4, 8, 1, 1, 1, 1022, [0, 1]⟩, ⟨0, 2, 6, 1, 1, 1, 3, [2]⟩]⟩
  | 11 => ⟨64, 4, 2, 4, 2, 4, ⟨1, 4, 10, 5, 1, 20⟩, 4000, 20, 1099511627776, [0, 1], [⟨1, 4, 8, 1, 1, 1, 3, [0, 1]⟩, ⟨0, 2, 6, 1, 1, 1, 3, [2]⟩]⟩
  | 12 => ⟨64, 4, 2, 4, 2, 4, ⟨1, 4, 10, 5, 1, 20⟩, 4000, 20, 0, [0, 1], []⟩
  | 13 => ⟨64, 4, 2, 4, 2, 4, ⟨1, 4, 10, 5, 1, 20⟩, 4000, 20, 0, [0, 1], List.replicate 9 ⟨0, 0, 0, 0, 0, 0, 0, []⟩⟩
  | _ => ⟨0, 0, 0, 0, 0, 0, ⟨0, 0, 0, 0, 0, 0⟩, 0, 0, 0, [], []⟩
theorem isCf_12 {bt : Nat} {e : TypeId} {h : Hp} (hs : stars [blk bt [iV 0, iV 1] e, own encPt none 0 0 []] h) : isCf (tuD 12) ⟨some ⟨bt, 0, none⟩, 2, 2, none, 0, 0, []⟩ h :=
  isCf_none (d := tuD 12) (n := 0) (by decide) rfl (by decide) (stars_conv (k := 0) (B := own encN (some ⟨bt, 0, none⟩) 2 2 [0, 1]) rfl (fun _ o => own_of_blk o rfl rfl (by decide)) hs)
theorem turned_0 : Ctr Try.prog 29 [iV 0] (fun _ => True) [] (fun v L => ∃ y, v = cfV (tuD 0) y ∧ L = [isCf (tuD 0) y]) := by
  refine Ctr.intro Try.func29 rfl rfl (by decide +kernel) fun F hpre => ?_
  repeat' (first | (refine XL_id ?_; first | refine XL_nil ?_ | (refine XG_load ?_; refine XL_loadW tt_ok 0 rfl rfl rfl rfl rfl rfl ?_) | (refine XG_call ?_; (refine XL_callK [] usual2_spec rfl rfl (fun _ => rfl) (fun _ _ _ => trivial) (fun u L hv => ?_); obtain ⟨bt, bp, b1, b2, rfl, rfl⟩ := hv)) | (refine XG_alloc ?_; (refine XL_alloc tt_ok rfl rfl (fun _ => rfl) (fun b => ?_); refine XL_nB (by repeat' (first | exact .nil | apply NL.cons)) ?_)) | (refine XG_store ?_; first | (refine XL_storeW tt_ok 0 rfl rfl rfl rfl rfl rfl rfl ?_; refine XL_nK 0 rfl (by repeat' (first | exact .nil | apply NL.cons)) ?_) | (refine XL_storeW tt_ok 5 rfl rfl rfl rfl rfl rfl rfl ?_; refine XL_nK 5 rfl (by repeat' (first | exact .nil | apply NL.cons)) ?_) | (refine XL_store tt_ok 0 rfl rfl rfl rfl rfl rfl rfl rfl ?_; refine XL_nK 0 rfl (by repeat' (first | exact .nil | apply NL.cons)) ?_)) | (refine XL_op tt_ok rfl rfl ?_; try (refine XL_dec_t (by omega) ?_))) | (refine X_id ?_; first | refine X_seq ?_ | (refine X_regionN (by repeat' (first | exact .nil | apply NL.cons)) ?_) | refine X_ret ?_ | refine X_block ?_ | refine X_cond_t rfl ?_) | (refine Y_id ?_; first | refine Y_then ?_ | refine Y_block_normal ?_))
  all_goals first
    | exact Y_res1 rfl (.cell tt_ok 5 rfl rfl rfl rfl rfl) (stars_fin [1, 1, 1, 1] rfl (fun h hs => isCf_blk (d := tuD 0) (x1 := ⟨1, 4, 8, 1, 1, 1, 3, [0, 1]⟩) (x2 := ⟨0, 2, 6, 1, 1, 1, 3, [2]⟩) rfl rfl rfl rfl (by decide) (by decide) (by decide) hs)) ⟨_, rfl, rfl⟩
    | (exfalso; omega)
    | skip
  
theorem turned_1 : Ctr Try.prog 29 [iV 1] (fun _ => True) [] (fun v L => ∃ y, v = cfV (tuD 1) y ∧ L = [isCf (tuD 1) y]) := by
  refine Ctr.intro Try.func29 rfl rfl (by decide +kernel) fun F hpre => ?_
  repeat' (first | (refine XL_id ?_; first | refine XL_nil ?_ | (refine XG_load ?_; refine XL_loadW tt_ok 0 rfl rfl rfl rfl rfl rfl ?_) | (refine XG_call ?_; (refine XL_callK [] usual2_spec rfl rfl (fun _ => rfl) (fun _ _ _ => trivial) (fun u L hv => ?_); obtain ⟨bt, bp, b1, b2, rfl, rfl⟩ := hv)) | (refine XG_alloc ?_; (refine XL_alloc tt_ok rfl rfl (fun _ => rfl) (fun b => ?_); refine XL_nB (by repeat' (first | exact .nil | apply NL.cons)) ?_)) | (refine XG_store ?_; first | (refine XL_storeW tt_ok 0 rfl rfl rfl rfl rfl rfl rfl ?_; refine XL_nK 0 rfl (by repeat' (first | exact .nil | apply NL.cons)) ?_) | (refine XL_storeW tt_ok 5 rfl rfl rfl rfl rfl rfl rfl ?_; refine XL_nK 5 rfl (by repeat' (first | exact .nil | apply NL.cons)) ?_) | (refine XL_store tt_ok 0 rfl rfl rfl rfl rfl rfl rfl rfl ?_; refine XL_nK 0 rfl (by repeat' (first | exact .nil | apply NL.cons)) ?_)) | (refine XL_op tt_ok rfl rfl ?_; try (first | refine XL_dec_t (by omega) ?_ | refine XL_dec_f (by omega) ?_))) | (refine X_id ?_; first | refine X_seq ?_ | (refine X_regionN (by repeat' (first | exact .nil | apply NL.cons)) ?_) | refine X_ret ?_ | refine X_block ?_ | refine X_cond_t rfl ?_ | refine X_cond_f rfl ?_) | (refine Y_id ?_; first | refine Y_then ?_ | refine Y_block_normal ?_))
  all_goals first
    | exact Y_res1 rfl (.cell tt_ok 5 rfl rfl rfl rfl rfl) (stars_fin [1, 1, 1, 1] rfl (fun h hs => isCf_blk (d := tuD 1) (x1 := ⟨1, 4, 8, 1, 1, 1, 3, [0, 1]⟩) (x2 := ⟨0, 2, 6, 1, 1, 1, 3, [2]⟩) rfl rfl rfl rfl (by decide) (by decide) (by decide) hs)) ⟨_, rfl, rfl⟩
    | (exfalso; omega)
    | skip
  
theorem turned_2 : Ctr Try.prog 29 [iV 2] (fun _ => True) [] (fun v L => ∃ y, v = cfV (tuD 2) y ∧ L = [isCf (tuD 2) y]) := by
  refine Ctr.intro Try.func29 rfl rfl (by decide +kernel) fun F hpre => ?_
  repeat' (first | (refine XL_id ?_; first | refine XL_nil ?_ | (refine XG_load ?_; refine XL_loadW tt_ok 0 rfl rfl rfl rfl rfl rfl ?_) | (refine XG_call ?_; (refine XL_callK [] usual2_spec rfl rfl (fun _ => rfl) (fun _ _ _ => trivial) (fun u L hv => ?_); obtain ⟨bt, bp, b1, b2, rfl, rfl⟩ := hv)) | (refine XG_alloc ?_; (refine XL_alloc tt_ok rfl rfl (fun _ => rfl) (fun b => ?_); refine XL_nB (by repeat' (first | exact .nil | apply NL.cons)) ?_)) | (refine XG_store ?_; first | (refine XL_storeW tt_ok 0 rfl rfl rfl rfl rfl rfl rfl ?_; refine XL_nK 0 rfl (by repeat' (first | exact .nil | apply NL.cons)) ?_) | (refine XL_storeW tt_ok 5 rfl rfl rfl rfl rfl rfl rfl ?_; refine XL_nK 5 rfl (by repeat' (first | exact .nil | apply NL.cons)) ?_) | (refine XL_store tt_ok 0 rfl rfl rfl rfl rfl rfl rfl rfl ?_; refine XL_nK 0 rfl (by repeat' (first | exact .nil | apply NL.cons)) ?_)) | (refine XL_op tt_ok rfl rfl ?_; try (first | refine XL_dec_t (by omega) ?_ | refine XL_dec_f (by omega) ?_))) | (refine X_id ?_; first | refine X_seq ?_ | (refine X_regionN (by repeat' (first | exact .nil | apply NL.cons)) ?_) | refine X_ret ?_ | refine X_block ?_ | refine X_cond_t rfl ?_ | refine X_cond_f rfl ?_) | (refine Y_id ?_; first | refine Y_then ?_ | refine Y_block_normal ?_))
  all_goals first
    | exact Y_res1 rfl (.cell tt_ok 5 rfl rfl rfl rfl rfl) (stars_fin [1, 1, 1, 1] rfl (fun h hs => isCf_blk (d := tuD 2) (x1 := ⟨1, 4, 8, 1, 1, 1, 3, [0, 1]⟩) (x2 := ⟨0, 2, 6, 1, 1, 1, 3, [2]⟩) rfl rfl rfl rfl (by decide) (by decide) (by decide) hs)) ⟨_, rfl, rfl⟩
    | (exfalso; omega)
    | skip
  
theorem turned_3 : Ctr Try.prog 29 [iV 3] (fun _ => True) [] (fun v L => ∃ y, v = cfV (tuD 3) y ∧ L = [isCf (tuD 3) y]) := by
  refine Ctr.intro Try.func29 rfl rfl (by decide +kernel) fun F hpre => ?_
  repeat' (first | (refine XL_id ?_; first | refine XL_nil ?_ | (refine XG_load ?_; refine XL_loadW tt_ok 1 rfl rfl rfl rfl rfl rfl ?_) | (refine XG_call ?_; (refine XL_callK [] usual2_spec rfl rfl (fun _ => rfl) (fun _ _ _ => trivial) (fun u L hv => ?_); obtain ⟨bt, bp, b1, b2, rfl, rfl⟩ := hv)) | (refine XG_alloc ?_; (refine XL_alloc tt_ok rfl rfl (fun _ => rfl) (fun b => ?_); refine XL_nB (by repeat' (first | exact .nil | apply NL.cons)) ?_)) | (refine XG_lit ?_; (refine XL_lit tt_ok rfl rfl rfl rfl rfl rfl rfl rfl rfl (fun _ => rfl) (fun b => ?_); refine XL_nB (by repeat' (first | exact .nil | apply NL.cons)) ?_)) | (refine XG_store ?_; first | (refine XL_storeW tt_ok 0 rfl rfl rfl rfl rfl rfl rfl ?_; refine XL_nK 0 rfl (by repeat' (first | exact .nil | apply NL.cons)) ?_) | (refine XL_storeW tt_ok 6 rfl rfl rfl rfl rfl rfl rfl ?_; refine XL_nK 6 rfl (by repeat' (first | exact .nil | apply NL.cons)) ?_) | (refine XL_store tt_ok 1 rfl rfl rfl rfl rfl rfl rfl rfl ?_; refine XL_nK 1 rfl (by repeat' (first | exact .nil | apply NL.cons)) ?_)) | (refine XL_op tt_ok rfl rfl ?_; try (first | refine XL_dec_t (by omega) ?_ | refine XL_dec_f (by omega) ?_))) | (refine X_id ?_; first | refine X_seq ?_ | (refine X_regionN (by repeat' (first | exact .nil | apply NL.cons)) ?_) | refine X_ret ?_ | refine X_block ?_ | refine X_cond_t rfl ?_ | refine X_cond_f rfl ?_) | (refine Y_id ?_; first | refine Y_then ?_ | refine Y_block_normal ?_))
  all_goals first
    | exact Y_res1 rfl (.cell tt_ok 6 rfl rfl rfl rfl rfl) (stars_fin [0, 2, 2, 2] rfl (fun h hs => isCf_blk (d := tuD 3) (x1 := ⟨1, 4, 8, 1, 1, 1, 3, [0, 1]⟩) (x2 := ⟨0, 2, 6, 1, 1, 1, 3, [2]⟩) rfl rfl rfl rfl (by decide) (by decide) (by decide) hs)) ⟨_, rfl, rfl⟩
    | (exfalso; omega)
    | skip
  
theorem turned_4 : Ctr Try.prog 29 [iV 4] (fun _ => True) [] (fun v L => ∃ y, v = cfV (tuD 4) y ∧ L = [isCf (tuD 4) y]) := by
  refine Ctr.intro Try.func29 rfl rfl (by decide +kernel) fun F hpre => ?_
  repeat' (first | (refine XL_id ?_; first | refine XL_nil ?_ | (refine XG_load ?_; refine XL_loadW tt_ok 0 rfl rfl rfl rfl rfl rfl ?_) | (refine XG_call ?_; (refine XL_callK [] usual2_spec rfl rfl (fun _ => rfl) (fun _ _ _ => trivial) (fun u L hv => ?_); obtain ⟨bt, bp, b1, b2, rfl, rfl⟩ := hv)) | (refine XG_alloc ?_; (refine XL_alloc tt_ok rfl rfl (fun _ => rfl) (fun b => ?_); refine XL_nB (by repeat' (first | exact .nil | apply NL.cons)) ?_)) | (refine XG_store ?_; first | (refine XL_storeW tt_ok 0 rfl rfl rfl rfl rfl rfl rfl ?_; refine XL_nK 0 rfl (by repeat' (first | exact .nil | apply NL.cons)) ?_) | (refine XL_storeW tt_ok 5 rfl rfl rfl rfl rfl rfl rfl ?_; refine XL_nK 5 rfl (by repeat' (first | exact .nil | apply NL.cons)) ?_) | (refine XL_store tt_ok 0 rfl rfl rfl rfl rfl rfl rfl rfl ?_; refine XL_nK 0 rfl (by repeat' (first | exact .nil | apply NL.cons)) ?_)) | (refine XL_op tt_ok rfl rfl ?_; try (first | refine XL_dec_t (by omega) ?_ | refine XL_dec_f (by omega) ?_))) | (refine X_id ?_; first | refine X_seq ?_ | (refine X_regionN (by repeat' (first | exact .nil | apply NL.cons)) ?_) | refine X_ret ?_ | refine X_block ?_ | refine X_cond_t rfl ?_ | refine X_cond_f rfl ?_) | (refine Y_id ?_; first | refine Y_then ?_ | refine Y_block_normal ?_))
  all_goals first
    | exact Y_res1 rfl (.cell tt_ok 5 rfl rfl rfl rfl rfl) (fun h hs => stars_fin [0, 2, 2, 2] rfl (fun h hs => isCf_own (d := tuD 4) (x1 := ⟨1, 4, 8, 1, 1, 1, 3, [0, 1]⟩) (x2 := ⟨0, 2, 6, 1, 1, 1, 3, [2]⟩) rfl rfl rfl (by decide) (by decide) (by decide) hs) h (stars_new (own_nil encN _) hs)) ⟨_, rfl, rfl⟩
    | (exfalso; omega)
    | skip
  
theorem turned_5 : Ctr Try.prog 29 [iV 5] (fun _ => True) [] (fun v L => ∃ y, v = cfV (tuD 5) y ∧ L = [isCf (tuD 5) y]) := by
  refine Ctr.intro Try.func29 rfl rfl (by decide +kernel) fun F hpre => ?_
  repeat' (first | (refine XL_id ?_; first | refine XL_nil ?_ | (refine XG_load ?_; refine XL_loadW tt_ok 1 rfl rfl rfl rfl rfl rfl ?_) | (refine XG_call ?_; (refine XL_callK [] usual2_spec rfl rfl (fun _ => rfl) (fun _ _ _ => trivial) (fun u L hv => ?_); obtain ⟨bt, bp, b1, b2, rfl, rfl⟩ := hv)) | (refine XG_make ?_; (refine XL_make encN (0 : Int) tt_ok rfl rfl rfl rfl rfl rfl rfl rfl (by omega) (by omega) (by show (8 : Int) * _ ≤ _; omega) (by omega) (fun _ => rfl) (fun g => ?_))) | (refine XG_alloc ?_; (refine XL_alloc tt_ok rfl rfl (fun _ => rfl) (fun b => ?_); refine XL_nB (by repeat' (first | exact .nil | apply NL.cons)) ?_)) | (refine XG_store ?_; first | (refine XL_storeW tt_ok 0 rfl rfl rfl rfl rfl rfl rfl ?_; refine XL_nK 0 rfl (by repeat' (first | exact .nil | apply NL.cons)) ?_) | (refine XL_storeW tt_ok 6 rfl rfl rfl rfl rfl rfl rfl ?_; refine XL_nK 6 rfl (by repeat' (first | exact .nil | apply NL.cons)) ?_) | (refine XL_store tt_ok 1 rfl rfl rfl rfl rfl rfl rfl rfl ?_; refine XL_nK 1 rfl (by repeat' (first | exact .nil | apply NL.cons)) ?_)) | (refine XL_op tt_ok rfl rfl ?_; try (first | refine XL_dec_t (by omega) ?_ | refine XL_dec_f (by omega) ?_))) | (refine X_id ?_; first | refine X_seq ?_ | (refine X_regionN (by repeat' (first | exact .nil | apply NL.cons)) ?_) | refine X_ret ?_ | refine X_block ?_ | refine X_cond_t rfl ?_ | refine X_cond_f rfl ?_) | (refine Y_id ?_; first | refine Y_then ?_ | refine Y_block_normal ?_))
  all_goals first
    | exact Y_res1 rfl (.cell tt_ok 6 rfl rfl rfl rfl rfl) (stars_fin [0, 2, 2, 2] rfl (fun h hs => isCf_own (d := tuD 5) (x1 := ⟨1, 4, 8, 1, 1, 1, 3, [0, 1]⟩) (x2 := ⟨0, 2, 6, 1, 1, 1, 3, [2]⟩) rfl rfl rfl (by decide) (by decide) (by decide) hs)) ⟨_, rfl, rfl⟩
    | (exfalso; omega)
    | skip
  
theorem turned_6 : Ctr Try.prog 29 [iV 6] (fun _ => True) [] (fun v L => ∃ y, v = cfV (tuD 6) y ∧ L = [isCf (tuD 6) y]) := by
  refine Ctr.intro Try.func29 rfl rfl (by decide +kernel) fun F hpre => ?_
  repeat' (first | (refine XL_id ?_; first | refine XL_nil ?_ | (refine XG_load ?_; first | refine XL_loadW tt_ok 1 rfl rfl rfl rfl rfl rfl ?_ | refine XL_load tt_ok 0 rfl rfl rfl rfl rfl rfl ?_) | (refine XG_idx ?_; refine XL_idxl tt_ok rfl rfl rfl rfl rfl (by decide) (by decide) rfl ?_) | (refine XG_call ?_; (refine XL_callK [] usual2_spec rfl rfl (fun _ => rfl) (fun _ _ _ => trivial) (fun u L hv => ?_); obtain ⟨bt, bp, b1, b2, rfl, rfl⟩ := hv)) | (refine XG_alloc ?_; (refine XL_alloc tt_ok rfl rfl (fun _ => rfl) (fun b => ?_); refine XL_nB (by repeat' (first | exact .nil | apply NL.cons)) ?_)) | (refine XG_lit ?_; (refine XL_lit tt_ok rfl rfl rfl rfl rfl rfl rfl rfl rfl (fun _ => rfl) (fun b => ?_); refine XL_nB (by repeat' (first | exact .nil | apply NL.cons)) ?_)) | (refine XG_store ?_; first | (refine XL_storeW tt_ok 0 rfl rfl rfl rfl rfl rfl rfl ?_; refine XL_nK 0 rfl (by repeat' (first | exact .nil | apply NL.cons)) ?_) | (refine XL_storeW tt_ok 6 rfl rfl rfl rfl rfl rfl rfl ?_; refine XL_nK 6 rfl (by repeat' (first | exact .nil | apply NL.cons)) ?_) | (refine XL_store tt_ok 3 rfl rfl rfl rfl rfl rfl rfl rfl ?_; refine XL_nK 3 rfl (by repeat' (first | exact .nil | apply NL.cons)) ?_)) | (refine XL_op tt_ok rfl rfl ?_; try (first | refine XL_dec_t (by omega) ?_ | refine XL_dec_f (by omega) ?_))) | (refine X_id ?_; first | refine X_seq ?_ | (refine X_regionN (by repeat' (first | exact .nil | apply NL.cons)) ?_) | refine X_ret ?_ | refine X_block ?_ | refine X_cond_t rfl ?_ | refine X_cond_f rfl ?_) | (refine Y_id ?_; first | refine Y_then ?_ | refine Y_block_normal ?_))
  all_goals first
    | exact Y_res1 rfl (.cell tt_ok 6 rfl rfl rfl rfl rfl) (stars_fin [2, 2, 2, 0] rfl (fun h hs => isCf_blk (d := tuD 6) (x1 := ⟨1, 4, 8, 1, 1, 1, 3, [0, 1]⟩) (x2 := ⟨0, 2, 6, 1, 1, 1, 3, [1]⟩) rfl rfl rfl rfl (by decide) (by decide) (by decide) hs)) ⟨_, rfl, rfl⟩
    | (exfalso; omega)
    | skip
  
theorem turned_7 : Ctr Try.prog 29 [iV 7] (fun _ => True) [] (fun v L => ∃ y, v = cfV (tuD 7) y ∧ L = [isCf (tuD 7) y]) := by
  refine Ctr.intro Try.func29 rfl rfl (by decide +kernel) fun F hpre => ?_
  repeat' (first | (refine XL_id ?_; first | refine XL_nil ?_ | (refine XG_load ?_; first | refine XL_loadW tt_ok 1 rfl rfl rfl rfl rfl rfl ?_ | refine XL_load tt_ok 0 rfl rfl rfl rfl rfl rfl ?_) | (refine XG_idx ?_; refine XL_idxl tt_ok rfl rfl rfl rfl rfl (by decide) (by decide) rfl ?_) | (refine XG_call ?_; (refine XL_callK [] usual2_spec rfl rfl (fun _ => rfl) (fun _ _ _ => trivial) (fun u L hv => ?_); obtain ⟨bt, bp, b1, b2, rfl, rfl⟩ := hv)) | (refine XG_alloc ?_; (refine XL_alloc tt_ok rfl rfl (fun _ => rfl) (fun b => ?_); refine XL_nB (by repeat' (first | exact .nil | apply NL.cons)) ?_)) | (refine XG_lit ?_; (refine XL_lit tt_ok rfl rfl rfl rfl rfl rfl rfl rfl rfl (fun _ => rfl) (fun b => ?_); refine XL_nB (by repeat' (first | exact .nil | apply NL.cons)) ?_)) | (refine XG_store ?_; first | (refine XL_storeW tt_ok 0 rfl rfl rfl rfl rfl rfl rfl ?_; refine XL_nK 0 rfl (by repeat' (first | exact .nil | apply NL.cons)) ?_) | (refine XL_storeW tt_ok 6 rfl rfl rfl rfl rfl rfl rfl ?_; refine XL_nK 6 rfl (by repeat' (first | exact .nil | apply NL.cons)) ?_) | (refine XL_store tt_ok 3 rfl rfl rfl rfl rfl rfl rfl rfl ?_; refine XL_nK 3 rfl (by repeat' (first | exact .nil | apply NL.cons)) ?_)) | (refine XL_op tt_ok rfl rfl ?_; try (first | refine XL_dec_t (by omega) ?_ | refine XL_dec_f (by omega) ?_))) | (refine X_id ?_; first | refine X_seq ?_ | (refine X_regionN (by repeat' (first | exact .nil | apply NL.cons)) ?_) | refine X_ret ?_ | refine X_block ?_ | refine X_cond_t rfl ?_ | refine X_cond_f rfl ?_) | (refine Y_id ?_; first | refine Y_then ?_ | refine Y_block_normal ?_))
  all_goals first
    | exact Y_res1 rfl (.cell tt_ok 6 rfl rfl rfl rfl rfl) (stars_fin [2, 2, 2, 0] rfl (fun h hs => isCf_blk (d := tuD 7) (x1 := ⟨1, 4, 8, 1, 1, 1, 3, [0, 1]⟩) (x2 := ⟨0, 2, 6, 1, 1, 1, 3, [2, 2]⟩) rfl rfl rfl rfl (by decide) (by decide) (by decide) hs)) ⟨_, rfl, rfl⟩
    | (exfalso; omega)
    | skip
  
theorem turned_8 : Ctr Try.prog 29 [iV 8] (fun _ => True) [] (fun v L => ∃ y, v = cfV (tuD 8) y ∧ L = [isCf (tuD 8) y]) := by
  refine Ctr.intro Try.func29 rfl rfl (by decide +kernel) fun F hpre => ?_
  repeat' (first | (refine XL_id ?_; first | refine XL_nil ?_ | (refine XG_load ?_; first | refine XL_loadW tt_ok 0 rfl rfl rfl rfl rfl rfl ?_ | refine XL_load tt_ok 0 rfl rfl rfl rfl rfl rfl ?_) | (refine XG_idx ?_; refine XL_idxl tt_ok rfl rfl rfl rfl rfl (by decide) (by decide) rfl ?_) | (refine XG_call ?_; (refine XL_callK [] usual2_spec rfl rfl (fun _ => rfl) (fun _ _ _ => trivial) (fun u L hv => ?_); obtain ⟨bt, bp, b1, b2, rfl, rfl⟩ := hv)) | (refine XG_alloc ?_; (refine XL_alloc tt_ok rfl rfl (fun _ => rfl) (fun b => ?_); refine XL_nB (by repeat' (first | exact .nil | apply NL.cons)) ?_)) | (refine XG_store ?_; first | (refine XL_storeW tt_ok 0 rfl rfl rfl rfl rfl rfl rfl ?_; refine XL_nK 0 rfl (by repeat' (first | exact .nil | apply NL.cons)) ?_) | (refine XL_storeW tt_ok 5 rfl rfl rfl rfl rfl rfl rfl ?_; refine XL_nK 5 rfl (by repeat' (first | exact .nil | apply NL.cons)) ?_) | (refine XL_store tt_ok 2 rfl rfl rfl rfl rfl rfl rfl rfl ?_; refine XL_nK 2 rfl (by repeat' (first | exact .nil | apply NL.cons)) ?_)) | (refine XL_op tt_ok rfl rfl ?_; try (first | refine XL_dec_t (by omega) ?_ | refine XL_dec_f (by omega) ?_))) | (refine X_id ?_; first | refine X_seq ?_ | (refine X_regionN (by repeat' (first | exact .nil | apply NL.cons)) ?_) | refine X_ret ?_ | refine X_block ?_ | refine X_cond_t rfl ?_ | refine X_cond_f rfl ?_) | (refine Y_id ?_; first | refine Y_then ?_ | refine Y_block_normal ?_))
  all_goals first
    | exact Y_res1 rfl (.cell tt_ok 5 rfl rfl rfl rfl rfl) (stars_fin [1, 1, 1, 1] rfl (fun h hs => isCf_blk (d := tuD 8) (x1 := ⟨1, 40, 8, 1, 1, 1, 3, [0, 1]⟩) (x2 := ⟨0, 2, 6, 1, 1, 1, 3, [2]⟩) rfl rfl rfl rfl (by decide) (by decide) (by decide) hs)) ⟨_, rfl, rfl⟩
    | (exfalso; omega)
    | skip
  
theorem turned_9 : Ctr Try.prog 29 [iV 9] (fun _ => True) [] (fun v L => ∃ y, v = cfV (tuD 9) y ∧ L = [isCf (tuD 9) y]) := by
  refine Ctr.intro Try.func29 rfl rfl (by decide +kernel) fun F hpre => ?_
  repeat' (first | (refine XL_id ?_; first | refine XL_nil ?_ | (refine XG_load ?_; first | refine XL_loadW tt_ok 0 rfl rfl rfl rfl rfl rfl ?_ | refine XL_load tt_ok 0 rfl rfl rfl rfl rfl rfl ?_) | (refine XG_idx ?_; refine XL_idxl tt_ok rfl rfl rfl rfl rfl (by decide) (by decide) rfl ?_) | (refine XG_call ?_; (refine XL_callK [] usual2_spec rfl rfl (fun _ => rfl) (fun _ _ _ => trivial) (fun u L hv => ?_); obtain ⟨bt, bp, b1, b2, rfl, rfl⟩ := hv)) | (refine XG_alloc ?_; (refine XL_alloc tt_ok rfl rfl (fun _ => rfl) (fun b => ?_); refine XL_nB (by repeat' (first | exact .nil | apply NL.cons)) ?_)) | (refine XG_store ?_; first | (refine XL_storeW tt_ok 0 rfl rfl rfl rfl rfl rfl rfl ?_; refine XL_nK 0 rfl (by repeat' (first | exact .nil | apply NL.cons)) ?_) | (refine XL_storeW tt_ok 5 rfl rfl rfl rfl rfl rfl rfl ?_; refine XL_nK 5 rfl (by repeat' (first | exact .nil | apply NL.cons)) ?_) | (refine XL_store tt_ok 2 rfl rfl rfl rfl rfl rfl rfl rfl ?_; refine XL_nK 2 rfl (by repeat' (first | exact .nil | apply NL.cons)) ?_)) | (refine XL_op tt_ok rfl rfl ?_; try (first | refine XL_dec_t (by omega) ?_ | refine XL_dec_f (by omega) ?_))) | (refine X_id ?_; first | refine X_seq ?_ | (refine X_regionN (by repeat' (first | exact .nil | apply NL.cons)) ?_) | refine X_ret ?_ | refine X_block ?_ | refine X_cond_t rfl ?_ | refine X_cond_f rfl ?_) | (refine Y_id ?_; first | refine Y_then ?_ | refine Y_block_normal ?_))
  all_goals first
    | exact Y_res1 rfl (.cell tt_ok 5 rfl rfl rfl rfl rfl) (stars_fin [1, 1, 1, 1] rfl (fun h hs => isCf_blk (d := tuD 9) (x1 := ⟨4, 4, 8, 1, 1, 1, 3, [0, 1]⟩) (x2 := ⟨0, 2, 6, 1, 1, 1, 3, [2]⟩) rfl rfl rfl rfl (by decide) (by decide) (by decide) hs)) ⟨_, rfl, rfl⟩
    | (exfalso; omega)
    | skip
  
theorem turned_10 : Ctr Try.prog 29 [iV 10] (fun _ => True) [] (fun v L => ∃ y, v = cfV (tuD 10) y ∧ L = [isCf (tuD 10) y]) := by
  refine Ctr.intro Try.func29 rfl rfl (by decide +kernel) fun F hpre => ?_
  repeat' (first | (refine XL_id ?_; first | refine XL_nil ?_ | (refine XG_load ?_; first | refine XL_loadW tt_ok 0 rfl rfl rfl rfl rfl rfl ?_ | refine XL_load tt_ok 0 rfl rfl rfl rfl rfl rfl ?_) | (refine XG_idx ?_; refine XL_idxl tt_ok rfl rfl rfl rfl rfl (by decide) (by decide) rfl ?_) | (refine XG_call ?_; (refine XL_callK [] usual2_spec rfl rfl (fun _ => rfl) (fun _ _ _ => trivial) (fun u L hv => ?_); obtain ⟨bt, bp, b1, b2, rfl, rfl⟩ := hv)) | (refine XG_alloc ?_; (refine XL_alloc tt_ok rfl rfl (fun _ => rfl) (fun b => ?_); refine XL_nB (by repeat' (first | exact .nil | apply NL.cons)) ?_)) | (refine XG_store ?_; first | (refine XL_storeW tt_ok 0 rfl rfl rfl rfl rfl rfl rfl ?_; refine XL_nK 0 rfl (by repeat' (first | exact .nil | apply NL.cons)) ?_) | (refine XL_storeW tt_ok 5 rfl rfl rfl rfl rfl rfl rfl ?_; refine XL_nK 5 rfl (by repeat' (first | exact .nil | apply NL.cons)) ?_) | (refine XL_store tt_ok 2 rfl rfl rfl rfl rfl rfl rfl rfl ?_; refine XL_nK 2 rfl (by repeat' (first | exact .nil | apply NL.cons)) ?_)) | (refine XL_op tt_ok rfl rfl ?_; try (first | refine XL_dec_t (by omega) ?_ | refine XL_dec_f (by omega) ?_))) | (refine X_id ?_; first | refine X_seq ?_ | (refine X_regionN (by repeat' (first | exact .nil | apply NL.cons)) ?_) | refine X_ret ?_ | refine X_block ?_ | refine X_cond_t rfl ?_ | refine X_cond_f rfl ?_) | (refine Y_id ?_; first | refine Y_then ?_ | refine Y_block_normal ?_))
  all_goals first
    | exact Y_res1 rfl (.cell tt_ok 5 rfl rfl rfl rfl rfl) (stars_fin [1, 1, 1, 1] rfl (fun h hs => isCf_blk (d := tuD 10) (x1 := ⟨1, 4, 8, 1, 1, 1, 1022, [0, 1]⟩) (x2 := ⟨0, 2, 6, 1, 1, 1, 3, [2]⟩) rfl rfl rfl rfl (by decide) (by decide) (by decide) hs)) ⟨_, rfl, rfl⟩
    | (exfalso; omega)
    | skip
  
theorem turned_11 : Ctr Try.prog 29 [iV 11] (fun _ => True) [] (fun v L => ∃ y, v = cfV (tuD 11) y ∧ L = [isCf (tuD 11) y]) := by
  refine Ctr.intro Try.func29 rfl rfl (by decide +kernel) fun F hpre => ?_
  repeat' (first | (refine XL_id ?_; first | refine XL_nil ?_ | (refine XG_load ?_; refine XL_loadW tt_ok 0 rfl rfl rfl rfl rfl rfl ?_) | (refine XG_call ?_; (refine XL_callK [] usual2_spec rfl rfl (fun _ => rfl) (fun _ _ _ => trivial) (fun u L hv => ?_); obtain ⟨bt, bp, b1, b2, rfl, rfl⟩ := hv)) | (refine XG_alloc ?_; (refine XL_alloc tt_ok rfl rfl (fun _ => rfl) (fun b => ?_); refine XL_nB (by repeat' (first | exact .nil | apply NL.cons)) ?_)) | (refine XG_store ?_; first | (refine XL_storeW tt_ok 0 rfl rfl rfl rfl rfl rfl rfl ?_; refine XL_nK 0 rfl (by repeat' (first | exact .nil | apply NL.cons)) ?_) | (refine XL_storeW tt_ok 5 rfl rfl rfl rfl rfl rfl rfl ?_; refine XL_nK 5 rfl (by repeat' (first | exact .nil | apply NL.cons)) ?_) | (refine XL_store tt_ok 0 rfl rfl rfl rfl rfl rfl rfl rfl ?_; refine XL_nK 0 rfl (by repeat' (first | exact .nil | apply NL.cons)) ?_)) | (refine XL_op tt_ok rfl rfl ?_; try (first | refine XL_dec_t (by omega) ?_ | refine XL_dec_f (by omega) ?_))) | (refine X_id ?_; first | refine X_seq ?_ | (refine X_regionN (by repeat' (first | exact .nil | apply NL.cons)) ?_) | refine X_ret ?_ | refine X_block ?_ | refine X_cond_t rfl ?_ | refine X_cond_f rfl ?_) | (refine Y_id ?_; first | refine Y_then ?_ | refine Y_block_normal ?_))
  all_goals first
    | exact Y_res1 rfl (.cell tt_ok 5 rfl rfl rfl rfl rfl) (stars_fin [1, 1, 1, 1] rfl (fun h hs => isCf_blk (d := tuD 11) (x1 := ⟨1, 4, 8, 1, 1, 1, 3, [0, 1]⟩) (x2 := ⟨0, 2, 6, 1, 1, 1, 3, [2]⟩) rfl rfl rfl rfl (by decide) (by decide) (by decide) hs)) ⟨_, rfl, rfl⟩
    | (exfalso; omega)
    | skip
  
theorem turned_12 : Ctr Try.prog 29 [iV 12] (fun _ => True) [] (fun v L => ∃ y, v = cfV (tuD 12) y ∧ L = [isCf (tuD 12) y]) := by
  refine Ctr.intro Try.func29 rfl rfl (by decide +kernel) fun F hpre => ?_
  repeat' (first | (refine XL_id ?_; first | refine XL_nil ?_ | (refine XG_load ?_; refine XL_loadW tt_ok 0 rfl rfl rfl rfl rfl rfl ?_) | (refine XG_call ?_; (refine XL_callK [] usual2_spec rfl rfl (fun _ => rfl) (fun _ _ _ => trivial) (fun u L hv => ?_); obtain ⟨bt, bp, b1, b2, rfl, rfl⟩ := hv)) | (refine XG_alloc ?_; (refine XL_alloc tt_ok rfl rfl (fun _ => rfl) (fun b => ?_); refine XL_nB (by repeat' (first | exact .nil | apply NL.cons)) ?_)) | (refine XG_store ?_; first | (refine XL_storeW tt_ok 0 rfl rfl rfl rfl rfl rfl rfl ?_; refine XL_nK 0 rfl (by repeat' (first | exact .nil | apply NL.cons)) ?_) | (refine XL_storeW tt_ok 5 rfl rfl rfl rfl rfl rfl rfl ?_; refine XL_nK 5 rfl (by repeat' (first | exact .nil | apply NL.cons)) ?_) | (refine XL_store tt_ok 0 rfl rfl rfl rfl rfl rfl rfl rfl ?_; refine XL_nK 0 rfl (by repeat' (first | exact .nil | apply NL.cons)) ?_)) | (refine XL_op tt_ok rfl rfl ?_; try (first | refine XL_dec_t (by omega) ?_ | refine XL_dec_f (by omega) ?_))) | (refine X_id ?_; first | refine X_seq ?_ | (refine X_regionN (by repeat' (first | exact .nil | apply NL.cons)) ?_) | refine X_ret ?_ | refine X_block ?_ | refine X_cond_t rfl ?_ | refine X_cond_f rfl ?_) | (refine Y_id ?_; first | refine Y_then ?_ | refine Y_block_normal ?_))
  all_goals first
    | exact Y_res1 rfl (.cell tt_ok 5 rfl rfl rfl rfl rfl) (fun h hs => stars_fin [2, 0] rfl (fun h hs => isCf_12 hs) h (stars_new (own_nil encPt _) hs)) ⟨_, rfl, rfl⟩
    | (exfalso; omega)
    | skip
  
theorem turned_13 : Ctr Try.prog 29 [iV 13] (fun _ => True) [] (fun v L => ∃ y, v = cfV (tuD 13) y ∧ L = [isCf (tuD 13) y]) := by
  refine Ctr.intro Try.func29 rfl rfl (by decide +kernel) fun F hpre => ?_
  repeat' (first | (refine XL_id ?_; first | refine XL_nil ?_ | (refine XG_load ?_; refine XL_loadW tt_ok 1 rfl rfl rfl rfl rfl rfl ?_) | (refine XG_call ?_; (refine XL_callK [] usual2_spec rfl rfl (fun _ => rfl) (fun _ _ _ => trivial) (fun u L hv => ?_); obtain ⟨bt, bp, b1, b2, rfl, rfl⟩ := hv)) | (refine XG_make ?_; (refine XL_make encPt pt0 tt_ok rfl rfl rfl rfl rfl rfl rfl rfl (by omega) (by omega) (by show (80 : Int) * _ ≤ _; omega) (by omega) (fun _ => rfl) (fun g => ?_))) | (refine XG_alloc ?_; (refine XL_alloc tt_ok rfl rfl (fun _ => rfl) (fun b => ?_); refine XL_nB (by repeat' (first | exact .nil | apply NL.cons)) ?_)) | (refine XG_store ?_; first | (refine XL_storeW tt_ok 0 rfl rfl rfl rfl rfl rfl rfl ?_; refine XL_nK 0 rfl (by repeat' (first | exact .nil | apply NL.cons)) ?_) | (refine XL_storeW tt_ok 6 rfl rfl rfl rfl rfl rfl rfl ?_; refine XL_nK 6 rfl (by repeat' (first | exact .nil | apply NL.cons)) ?_) | (refine XL_store tt_ok 1 rfl rfl rfl rfl rfl rfl rfl rfl ?_; refine XL_nK 1 rfl (by repeat' (first | exact .nil | apply NL.cons)) ?_)) | (refine XL_op tt_ok rfl rfl ?_; try (first | refine XL_dec_t (by omega) ?_ | refine XL_dec_f (by omega) ?_))) | (refine X_id ?_; first | refine X_seq ?_ | (refine X_regionN (by repeat' (first | exact .nil | apply NL.cons)) ?_) | refine X_ret ?_ | refine X_block ?_ | refine X_cond_t rfl ?_ | refine X_cond_f rfl ?_) | (refine Y_id ?_; first | refine Y_then ?_ | refine Y_block_normal ?_))
  all_goals first
    | exact Y_res1 rfl (.cell tt_ok 6 rfl rfl rfl rfl rfl) (stars_fin [2, 0] rfl (fun h hs => isCf_none (d := tuD 13) (n := 9) (by decide) rfl (by decide) (stars_conv (k := 0) (B := own encN (some ⟨_, 0, none⟩) 2 2 [0, 1]) rfl (fun _ o => own_of_blk o rfl rfl (by decide)) hs))) ⟨_, rfl, rfl⟩
    | (exfalso; omega)
    | skip
  
theorem turned_14 : Ctr Try.prog 29 [iV 14] (fun _ => True) [] (fun v L => ∃ y, v = cfV (tuD 14) y ∧ L = [isCf (tuD 14) y]) := by
  refine Ctr.intro Try.func29 rfl rfl (by decide +kernel) fun F hpre => ?_
  repeat' (first | (refine XL_id ?_; first | refine XL_nil ?_ | (refine XG_load ?_; refine XL_loadW tt_ok 0 rfl rfl rfl rfl rfl rfl ?_) | (refine XG_build ?_; (refine XL_build tt_ok rfl rfl rfl rfl rfl rfl rfl ?_; refine XL_aggN (by repeat' (first | exact .nil | apply NL.cons)) ?_)) | (refine XG_call ?_; (refine XL_callK [] usual2_spec rfl rfl (fun _ => rfl) (fun _ _ _ => trivial) (fun u L hv => ?_); obtain ⟨bt, bp, b1, b2, rfl, rfl⟩ := hv)) | (refine XG_alloc ?_; (refine XL_alloc tt_ok rfl rfl (fun _ => rfl) (fun b => ?_); refine XL_nB (by repeat' (first | exact .nil | apply NL.cons)) ?_)) | (refine XG_store ?_; first | (refine XL_storeW tt_ok 0 rfl rfl rfl rfl rfl rfl rfl ?_; refine XL_nK 0 rfl (by repeat' (first | exact .nil | apply NL.cons)) ?_) | (refine XL_storeW tt_ok 5 rfl rfl rfl rfl rfl rfl rfl ?_; refine XL_nK 5 rfl (by repeat' (first | exact .nil | apply NL.cons)) ?_)) | (refine XL_op tt_ok rfl rfl ?_; try (first | refine XL_dec_t (by omega) ?_ | refine XL_dec_f (by omega) ?_))) | (refine X_id ?_; first | refine X_seq ?_ | (refine X_regionN (by repeat' (first | exact .nil | apply NL.cons)) ?_) | refine X_ret ?_ | refine X_block ?_ | refine X_cond_t rfl ?_ | refine X_cond_f rfl ?_) | (refine Y_id ?_; first | refine Y_then ?_ | refine Y_block_normal ?_))
  all_goals first
    | exact Y_res1 rfl (.cell tt_ok 5 rfl rfl rfl rfl rfl) (fun h hs => stars_fin [0, 0] rfl (fun h hs => isCf_none (d := tuD 14) (n := 0) (by decide) rfl (by decide) hs) h (stars_new (own_nil encN _) (stars_new (own_nil encPt _) hs))) ⟨_, rfl, rfl⟩
    | (exfalso; omega)
    | skip
  
theorem turnedD_spec : ∀ (i : Nat) (hi : i < 15), Ctr Try.prog 29 [iV i] (fun _ => True) [] (fun v L => ∃ y, v = cfV (tuD i) y ∧ L = [isCf (tuD i) y])
  | 0, _ => turned_0
  | 1, _ => turned_1
  | 2, _ => turned_2
  | 3, _ => turned_3
  | 4, _ => turned_4
  | 5, _ => turned_5
  | 6, _ => turned_6
  | 7, _ => turned_7
  | 8, _ => turned_8
  | 9, _ => turned_9
  | 10, _ => turned_10
  | 11, _ => turned_11
  | 12, _ => turned_12
  | 13, _ => turned_13
  | 14, _ => turned_14
  | n + 15, h => by omega
def InB (d : Cd) : Bool := decide (i64In d.fr) && (decide (i64In d.co) && (decide (i64In d.wa) && (decide (i64In d.ls) && (decide (i64In d.lw) && (decide (i64In d.tl) && (decide (u64In d.cs.l1) && (decide (u64In d.cs.ll) && (decide (u64In d.cs.ms) && (decide (u64In d.cs.fa) && (decide (u64In d.cs.st) && (decide (u64In d.cs.di) && (decide (u64In d.sl) && (decide (u64In d.pd) && (decide (u64In d.fi) && (d.tn.all (fun n => decide (i64In n)) && d.ps.all (fun x => decide (i64In x.o) && (decide (i64In x.u) && (decide (i64In x.t) && (decide (i64In x.s) && (decide (i64In x.r) && (decide (i64In x.d) && (decide (i64In x.k) && x.xs.all (fun n => decide (i64In n))))))))))))))))))))))))
theorem InB.of {d : Cd} (h : InB d = true) : d.In := by
  simp only [InB, Bool.and_eq_true, decide_eq_true_eq, List.all_eq_true] at h
  obtain ⟨a1, a2, a3, a4, a5, a6, c1, c2, c3, c4, c5, c6, a7, a8, a9, a10, a11⟩ := h
  exact ⟨a1, a2, a3, a4, a5, a6, ⟨c1, c2, c3, c4, c5, c6⟩, a7, a8, a9, a10, fun p hp => by obtain ⟨b1, b2, b3, b4, b5, b6, b7, b8⟩ := a11 p hp; exact ⟨b1, b2, b3, b4, b5, b6, b7, b8⟩⟩
theorem tuD_in : ∀ i : Nat, i < 15 → (tuD i).In := fun i hi => InB.of ((by decide +kernel : ∀ i : Nat, i < 15 → InB (tuD i) = true) i hi)
abbrev atL : List Int := [0, 0, 2, 3, 3, 3, 5, 5, 4, 4, 5, 2, 0, 0, 0]
theorem tuD_chk : ∀ i : Nat, i < 15 → 0 < (chkF (tuD i)).length ∧ (Cof.get (chkF (tuD i)) 0).a = Cof.get atL (i : Int) := by decide +kernel
end Go.Proofs.Ytpokfingnflblaa
