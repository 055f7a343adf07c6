/- SpaceKnown: regions 44 to 48. -/
import Derived.Test.YtalkcemelegohaaKa
import Derived.Test.YtalkcemelegohaaPs
import Derived.Test.YtalkcemelegohaaLe
import Derived.Test.YtalkcemelegohaaPu
import Derived.Test.YtalkcemelegohaaKd
import Derived.Test.YtalkcemelegohaaSlZf
set_option linter.unusedVariables false
set_option maxRecDepth 100000
namespace Go.Proofs.Ytalkcemelegohaa
open Go.RowKit Go.Cof
open Vm (Rg encRg rgV)
-- refine Ctr.intro Try.func8 rfl rfl (by decide +kernel) fun F hpre => ?_

section
variable {F : Frz} {K : Exit → Act → World → Prop}
theorem svs_two {g : Hp} {b q1 q2 : Nat} {h1 h2 : Int} (r1 : rdS encRg g (some ⟨q1, 0, none⟩) 2 fourL) (r2 : rdS encRg g (some ⟨q2, 0, none⟩) 2 fourL) (hb : blk b [.slice (some ⟨q1, 0, none⟩) 2 2, iV h1, .slice (some ⟨q2, 0, none⟩) 2 2, iV h2] 24 g) :
    SvsR g (some ⟨b, 0, none⟩) 2 [⟨some ⟨q1, 0, none⟩, 2, 2, fourL, h1⟩, ⟨some ⟨q2, 0, none⟩, 2, 2, fourL, h2⟩] := ⟨blk_rdS hb rfl rfl, fun s hs => by
  rcases List.mem_cons.1 hs with rfl | hs
  · exact r1
  · obtain rfl := List.mem_singleton.1 hs; exact r2⟩
theorem sv_ok (A : Option Addr) (h : Int) : (⟨A, 2, 2, fourL, h⟩ : Sv).Ok := ⟨rfl, by show 2 ≤ 5864062014634; decide, Nat.le_refl _, fourL_in⟩
theorem k_p : pagesN fourL = 6 := by decide +kernel
theorem k_sum1 : sumR [(fourL, 4), (fourL, 4)] = (⟨2, 12, 14, 4⟩, 0) := by
  unfold sumR sumF sumF sumF
  rw [if_neg (by decide), if_pos four_check, if_pos four_check, k_p, w_tables]; rfl
theorem k_sum2 : sumR [(fourL, 3), (fourL, 4)] = (⟨0, 0, 0, 0⟩, 2) := by
  have h : scheck fourL 3 = 2 := by decide +kernel
  unfold sumR sumF
  rw [if_neg (by decide), if_neg (by show ¬ scheck fourL 3 = 0; rw [h]; decide), h]
theorem ks_two {q1 b q2 : Nat} {h1 h2 : Int} {x : Nd × Int} (hx : sumR [(fourL, h1), (fourL, h2)] = x) : FnC Try.prog 21 [.slice (some ⟨b, 0, none⟩) 2 2] (fun g => SvsR g (some ⟨b, 0, none⟩) 2 [⟨some ⟨q1, 0, none⟩, 2, 2, fourL, h1⟩, ⟨some ⟨q2, 0, none⟩, 2, 2, fourL, h2⟩]) (nsV x) := by
  have := sum_spec (some ⟨b, 0, none⟩) 2 2 [⟨some ⟨q1, 0, none⟩, 2, 2, fourL, h1⟩, ⟨some ⟨q2, 0, none⟩, 2, 2, fourL, h2⟩] (by decide) (fun s hs => by
    rcases List.mem_cons.1 hs with rfl | hs
    · exact sv_ok _ _
    · obtain rfl := List.mem_singleton.1 hs; exact sv_ok _ _)
  rw [show sumR (List.map key [⟨some ⟨q1, 0, none⟩, 2, 2, fourL, h1⟩, ⟨some ⟨q2, 0, none⟩, 2, 2, fourL, h2⟩]) = x from hx] at this
  exact this
theorem ks_nil : FnC Try.prog 21 [.slice none 0 0] (fun g => SvsR g none 0 []) (nsV (⟨0, 0, 0, 0⟩, 0)) := sum_spec none 0 0 [] (by decide) (fun s hs => by cases hs)
theorem ks_many (b : Nat) : FnC Try.prog 21 [.slice (some ⟨b, 0, none⟩) 17 17] (fun g => SvsR g (some ⟨b, 0, none⟩) 17 (List.replicate 17 ⟨none, 0, 0, [], 0⟩)) (nsV (⟨0, 0, 0, 0⟩, 3)) := by
  have := sum_spec (some ⟨b, 0, none⟩) 17 17 (List.replicate 17 ⟨none, 0, 0, [], 0⟩) (by decide) (fun s hs => by
    rw [(List.mem_replicate.1 hs).2]; exact ⟨rfl, by decide, Nat.le_refl _, fun r hr => by cases hr⟩)
  rw [show sumR (List.map key (List.replicate 17 ⟨none, 0, 0, [], 0⟩)) = (⟨0, 0, 0, 0⟩, 3) by unfold sumR; rw [if_pos (by rw [List.length_map, List.length_replicate]; decide)]] at this
  exact this
theorem rd_none {g : Hp} : rdS encRg g none 0 [] := rdS.nil _ _ _
theorem svs_many {g : Hp} {b : Nat} {xs : List Sv} (hx : xs = List.replicate 17 ⟨none, 0, 0, [], 0⟩) (r : rdS encSv g (some ⟨b, 0, none⟩) 17 xs) : SvsR g (some ⟨b, 0, none⟩) 17 (List.replicate 17 ⟨none, 0, 0, [], 0⟩) := ⟨by rw [hx] at r; exact r, fun s hs => by rw [(List.mem_replicate.1 hs).2]; exact rd_none⟩
theorem svs_nil {g : Hp} : SvsR g none 0 [] := ⟨rdS.nil _ _ _, fun s hs => by cases hs⟩
def rel47 (q : Nat) : Nat → Rho → Prop
  | 0, ρ => (ρ 0) = (spc q 2 3, [])
  | 1, ρ => ∃ q', (ρ 1) = (spc q' 2 4, [own encRg (some ⟨q', 0, none⟩) 2 2 fourL])
  | 2, ρ => ∃ b q', (ρ 2) = (.slice (some ⟨b, 0, none⟩) 2 2, [blk b [.slice (some ⟨q, 0, none⟩) 2 2, iV 3, .slice (some ⟨q', 0, none⟩) 2 2, iV 4] 24]) ∧ ((ρ 1)).1 = spc q' 2 4
  | 3, ρ => (ρ 3) = (nsV (⟨0, 0, 0, 0⟩, 2), [])
  | 4, ρ => (ρ 4) = (nsV (⟨0, 0, 0, 0⟩, 2), [])
  | 5, ρ => (ρ 5) = (ndV 0 0 0 0, [])
  | 6, ρ => (ρ 6) = (iV 2, [])
  | 7, ρ => ∃ b, (ρ 7) = (pt b, [blk b [iV 0, iV 0, iV 0, iV 0] 45])
  | 8, ρ => ∃ b, (ρ 8) = (iV 0, [blk b [iV 0, iV 0, iV 0, iV 0] 45])
  | _, ρ => (ρ 9) = (iV 2, [])
abbrev ds47 : List (List Nat) := [[], [], [0, 1], [2, 1], [3], [4], [4], [], [5], [6]]
abbrev us47 : List (Option Nat) := [none, none, none, none, none, none, none, none, some 7, none]
theorem loc47 (q : Nat) : Local (JJ ds47 us47 (rel47 q)) 10 := by
  intro j hj k ρ y hk hd hu h
  match j, hj with
  | 0, _ =>
    show (upd ρ k y 0) = (spc q 2 3, [])
    rw [upd_of hk]; exact h
  | 1, _ =>
    show ∃ q', (upd ρ k y 1) = (spc q' 2 4, [own encRg (some ⟨q', 0, none⟩) 2 2 fourL])
    rw [upd_of hk]; exact h
  | 2, _ =>
    have q1 : k ≠ 1 := fun e => hd (by subst e; show 1 ∈ [0, 1]; simp)
    show ∃ b q', (upd ρ k y 2) = (.slice (some ⟨b, 0, none⟩) 2 2, [blk b [.slice (some ⟨q, 0, none⟩) 2 2, iV 3, .slice (some ⟨q', 0, none⟩) 2 2, iV 4] 24]) ∧ ((upd ρ k y 1)).1 = spc q' 2 4
    rw [upd_of hk, upd_of q1]; exact h
  | 3, _ =>
    show (upd ρ k y 3) = (nsV (⟨0, 0, 0, 0⟩, 2), [])
    rw [upd_of hk]; exact h
  | 4, _ =>
    show (upd ρ k y 4) = (nsV (⟨0, 0, 0, 0⟩, 2), [])
    rw [upd_of hk]; exact h
  | 5, _ =>
    show (upd ρ k y 5) = (ndV 0 0 0 0, [])
    rw [upd_of hk]; exact h
  | 6, _ =>
    show (upd ρ k y 6) = (iV 2, [])
    rw [upd_of hk]; exact h
  | 7, _ =>
    show ∃ b, (upd ρ k y 7) = (pt b, [blk b [iV 0, iV 0, iV 0, iV 0] 45])
    rw [upd_of hk]; exact h
  | 8, _ =>
    show ∃ b, (upd ρ k y 8) = (iV 0, [blk b [iV 0, iV 0, iV 0, iV 0] 45])
    rw [upd_of hk]; exact h
  | 9, _ =>
    show (upd ρ k y 9) = (iV 2, [])
    rw [upd_of hk]; exact h
  | n + 10, hn => omega
set_option maxHeartbeats 16000000 in
theorem seg7 {b1 q : Nat} (h : X Try.prog F Try.f8.ntmps (kc 39) K [(5, .bool true), (12, .bool true), (16, .bool true), (35, .bool true), (51, .bool true), (52, .bool true), (61, .bool true)] []) :
    X Try.prog F Try.f8.ntmps (kc 34) K [(1, pt b1), (5, .bool true), (12, .bool true), (16, .bool true), (35, .bool true), (51, .bool true), (52, .bool true)] (bp1 b1 q) := by
  have hsm := fun q1 b q2 : Nat => ks_two (q1 := q1) (b := b) (q2 := q2) k_sum2
  change X _ _ _ (.seq _ _) _ _ _
  repeat' (first | (refine XL_id ?_; first | refine XL_nil ?_ | (refine XG_call ?_; first | (refine XL_callK [] four_spec rfl rfl (fun _ => rfl) (fun _ _ _ => trivial) (fun u L hv => ?_); obtain ⟨q5, rfl, rfl⟩ := hv) | refine XL_fn (ks_two k_sum1) rfl rfl (fun g hg hL => svs_two ((by first | exact rd_at 2 rfl hL | exact rd_at 4 rfl hL)) ((by first | exact rd_at 1 rfl hL | exact rd_at 2 rfl hL | exact rd_at 4 rfl hL)) (blk_at 0 rfl hL)) ?_ | refine XL_fn ks_nil rfl rfl (fun g hg hL => svs_nil) ?_ | refine XL_fn (ks_many _) rfl rfl (fun g hg hL => svs_many rfl (rd_at 0 rfl hL)) ?_) | (refine XG_make ?_; refine XL_make encSv ⟨none, 0, 0, [], 0⟩ tt_ok rfl rfl rfl rfl rfl rfl rfl rfl (by decide) (by decide) (by decide) (by decide) (fun _ => rfl) (fun b => ?_)) | (refine XG_alloc ?_; (refine XL_alloc tt_ok rfl rfl (fun _ => rfl) (fun b => ?_); refine XL_nB (by repeat' (first | exact .nil | apply NL.cons)) ?_)) | (refine XG_lit ?_; (refine XL_lit tt_ok rfl rfl rfl rfl rfl rfl rfl rfl rfl (fun _ => rfl) (fun b => ?_); refine XL_nB (by repeat' (first | exact .nil | apply NL.cons)) ?_)) | (refine XG_store ?_; (refine XL_storeW tt_ok 0 rfl rfl rfl rfl rfl rfl rfl ?_; refine XL_nK 0 rfl (by repeat' (first | exact .nil | apply NL.cons)) ?_)) | (refine XL_op tt_ok rfl rfl ?_)) | (refine X_id ?_; first | (refine X_regionEN (id := 44) [1, 5, 12, 16, 35, 51, 52] rfl (by repeat' (first | exact .nil | apply NL.cons)) ?_) | (refine X_regionEN (id := 45) [1, 5, 12, 16, 35, 51, 52, 53, 54] rfl (by repeat' (first | exact .nil | apply NL.cons)) ?_) | (refine X_regionEN (id := 46) [1, 5, 12, 16, 35, 51, 52, 53, 54, 55, 56] rfl (by repeat' (first | exact .nil | apply NL.cons)) ?_) | refine X_hold (c := .region 47 _ _) ?_ | refine X_seq ?_) | (refine Y_id ?_; refine Y_then ?_))
  all_goals first
    | (exfalso; omega)
    | skip
  intro _
  refine X_job [1, 5, 12, 16, 35, 51, 52, 53, 54, 55, 56, 58] ds47 us47 (rel47 q) [9] [0, 1, 2, 3, 4, 5, 6, 8, 9] mixed rfl (by decide +kernel) (by decide +kernel) (by decide +kernel) (loc47 q) (fun G hFG hM => ?_) (fun ρ hr => ?_)
  · have hb1 := blk_at 8 rfl hM
    have hq : rdS encRg G.heap (some ⟨q, 0, none⟩) 2 fourL := rd_at 7 rfl hM
    intro k hk o ho ρ hd hu G' hG' hp rest
    match k, hk with
    | 0, _ =>
      obtain rfl := Option.some.inj (show some _ = some o from ho)
      exact XL_xv (XV_loadW tt_ok rfl (blk_le hb1 hG') rfl rfl rfl) rfl rfl (XL_nil (Y_job _ (show (upd ρ 0 _ 0) = (spc q 2 3, []) from rfl) rfl))
    | 1, _ =>
      obtain rfl := Option.some.inj (show some _ = some o from ho)
      refine XL_callK [] four_spec rfl rfl (fun _ => rfl) (fun _ _ _ => trivial) (fun u L hv => ?_); obtain ⟨q, rfl, rfl⟩ := hv
      exact XL_nil (Y_job _ (show ∃ q', upd ρ 1 _ 1 = (spc q' 2 4, [own encRg (some ⟨q', 0, none⟩) 2 2 fourL]) from ⟨q, rfl⟩) rfl)
    | 2, _ =>
      obtain rfl := Option.some.inj (show some _ = some o from ho)
      have h0 : (ρ 0) = (spc q 2 3, []) := hd 0 (by show 0 ∈ [0, 1]; simp)
      obtain ⟨q1, h1⟩ : ∃ q', (ρ 1) = (spc q' 2 4, [own encRg (some ⟨q', 0, none⟩) 2 2 fourL]) := hd 1 (by show 1 ∈ [0, 1]; simp)
      show XL _ _ _ _ _ _ ((516, (ρ 0).1) :: (517, (ρ 1).1) :: (_ ++ rest)) _
      rw [h0, h1]
      exact XL_lit tt_ok rfl rfl rfl rfl rfl rfl rfl rfl rfl (fun _ => rfl) (fun b => XL_nil (Y_job _ (show ∃ b' q', upd ρ 2 _ 2 = _ ∧ (upd ρ 2 _ 1).1 = _ from ⟨b, q1, rfl, congrArg Prod.fst h1⟩) (by show _ :: (516, (ρ 0).1) :: (517, (ρ 1).1) :: (_ ++ rest) = _; rw [h0, h1]; rfl)))
    | 3, _ =>
      obtain rfl := Option.some.inj (show some _ = some o from ho)
      obtain ⟨b2, p2, h2, e2⟩ : ∃ b q', (ρ 2) = (.slice (some ⟨b, 0, none⟩) 2 2, [blk b [.slice (some ⟨q, 0, none⟩) 2 2, iV 3, .slice (some ⟨q', 0, none⟩) 2 2, iV 4] 24]) ∧ ((ρ 1)).1 = spc q' 2 4 := hd 2 (by show 2 ∈ [2, 1]; simp)
      obtain ⟨q1, h1⟩ : ∃ q', (ρ 1) = (spc q' 2 4, [own encRg (some ⟨q', 0, none⟩) 2 2 fourL]) := hd 1 (by show 1 ∈ [2, 1]; simp)
      show XL _ _ _ _ _ _ ((518, (ρ 2).1) :: (517, (ρ 1).1) :: (_ ++ rest)) _
      rw [h2, h1]
      have e3 : p2 = q1 := by rw [h1] at e2; simpa using e2.symm
      subst e3
      have hr1 : rdS encRg G'.heap (some ⟨p2, 0, none⟩) 2 fourL := by have := hp 1 (by show 1 ∈ [2, 1]; simp); rw [h1] at this; exact rd_at 0 rfl this
      have hr2 : blk b2 [.slice (some ⟨q, 0, none⟩) 2 2, iV 3, .slice (some ⟨p2, 0, none⟩) 2 2, iV 4] 24 G'.heap := by have := hp 2 (by show 2 ∈ [2, 1]; simp); rw [h2] at this; exact blk_at 0 rfl this
      exact XL_fn (hsm q b2 p2) rfl rfl (fun g hg hL => svs_two ((hq.le hG').le hg) (hr1.le hg) (blk_le hr2 hg)) (XL_nil (Y_job _ (show upd ρ 3 _ 3 = (nsV (⟨0, 0, 0, 0⟩, 2), []) from rfl) (by show _ :: (518, (ρ 2).1) :: (517, (ρ 1).1) :: (_ ++ rest) = _; rw [h2, h1]; rfl)))
    | 4, _ =>
      obtain rfl := Option.some.inj (show some _ = some o from ho)
      have h3 : (ρ 3) = (nsV (⟨0, 0, 0, 0⟩, 2), []) := hd 3 (by show 3 ∈ [3]; simp)
      show XL _ _ _ _ _ _ ((519, (ρ 3).1) :: (_ ++ rest)) _
      rw [h3]
      exact XL_xv (XV_op tt_ok rfl) rfl rfl (XL_nil (Y_job _ (show (upd ρ 4 _ 4) = (nsV (⟨0, 0, 0, 0⟩, 2), []) from rfl) (by show _ :: (519, (ρ 3).1) :: (_ ++ rest) = _; rw [h3]; rfl)))
    | 5, _ =>
      obtain rfl := Option.some.inj (show some _ = some o from ho)
      have h4 : (ρ 4) = (nsV (⟨0, 0, 0, 0⟩, 2), []) := hd 4 (by show 4 ∈ [4]; simp)
      show XL _ _ _ _ _ _ ((515, (ρ 4).1) :: (_ ++ rest)) _
      rw [h4]
      exact XL_xv (XV_op tt_ok rfl) rfl rfl (XL_nil (Y_job _ (show (upd ρ 5 _ 5) = (ndV 0 0 0 0, []) from rfl) (by show _ :: (515, (ρ 4).1) :: (_ ++ rest) = _; rw [h4]; rfl)))
    | 6, _ =>
      obtain rfl := Option.some.inj (show some _ = some o from ho)
      have h4 : (ρ 4) = (nsV (⟨0, 0, 0, 0⟩, 2), []) := hd 4 (by show 4 ∈ [4]; simp)
      show XL _ _ _ _ _ _ ((515, (ρ 4).1) :: (_ ++ rest)) _
      rw [h4]
      exact XL_xv (XV_op tt_ok rfl) rfl rfl (XL_nil (Y_job _ (show (upd ρ 6 _ 6) = (iV 2, []) from rfl) (by show _ :: (515, (ρ 4).1) :: (_ ++ rest) = _; rw [h4]; rfl)))
    | 7, _ =>
      obtain rfl := Option.some.inj (show some _ = some o from ho)
      exact XL_alloc tt_ok rfl rfl (fun _ => rfl) (fun b => XL_nil (Y_job _ (show ∃ b', upd ρ 7 _ 7 = _ from ⟨b, rfl⟩) rfl))
    | 8, _ =>
      obtain rfl := Option.some.inj (show some _ = some o from ho)
      have h5 : (ρ 5) = (ndV 0 0 0 0, []) := hd 5 (by show 5 ∈ [5]; simp)
      obtain ⟨b7, h7⟩ : ∃ b, (ρ 7) = (pt b, [blk b [iV 0, iV 0, iV 0, iV 0] 45]) := hu 7 (by show 7 ∈ some 7; simp)
      show XL _ _ _ _ _ _ ((520, (ρ 5).1) :: (59, (ρ 7).1) :: (_ ++ rest)) ((ρ 7).2 ++ [])
      rw [h5, h7]
      exact XL_storeW tt_ok 0 rfl rfl rfl rfl rfl rfl rfl (XL_nil (Y_job (iV 0) (show ∃ b', upd ρ 8 _ 8 = _ from ⟨b7, rfl⟩) (by show (520, (ρ 5).1) :: (59, (ρ 7).1) :: (_ ++ rest) = _; rw [h5, h7])))
    | 9, _ =>
      obtain rfl := Option.some.inj (show some _ = some o from ho)
      have h6 : (ρ 6) = (iV 2, []) := hd 6 (by show 6 ∈ [6]; simp)
      show XL _ _ _ _ _ _ ((521, (ρ 6).1) :: (_ ++ rest)) _
      rw [h6]
      exact XL_xv (XV_op tt_ok rfl) rfl rfl (XL_nil (Y_job _ (show (upd ρ 9 _ 9) = (iV 2, []) from rfl) (by show _ :: (521, (ρ 6).1) :: (_ ++ rest) = _; rw [h6]; rfl)))
    | n + 10, hn => exact absurd hn (by show ¬ n + 10 < 10; omega)
  · skip
    have h0 : (ρ 0) = (spc q 2 3, []) := hr 0 (by decide)
    obtain ⟨q1, h1⟩ : ∃ q', (ρ 1) = (spc q' 2 4, [own encRg (some ⟨q', 0, none⟩) 2 2 fourL]) := hr 1 (by decide)
    obtain ⟨b2, p2, h2, e2⟩ : ∃ b q', (ρ 2) = (.slice (some ⟨b, 0, none⟩) 2 2, [blk b [.slice (some ⟨q, 0, none⟩) 2 2, iV 3, .slice (some ⟨q', 0, none⟩) 2 2, iV 4] 24]) ∧ ((ρ 1)).1 = spc q' 2 4 := hr 2 (by decide)
    have h3 : (ρ 3) = (nsV (⟨0, 0, 0, 0⟩, 2), []) := hr 3 (by decide)
    have h4 : (ρ 4) = (nsV (⟨0, 0, 0, 0⟩, 2), []) := hr 4 (by decide)
    have h5 : (ρ 5) = (ndV 0 0 0 0, []) := hr 5 (by decide)
    have h6 : (ρ 6) = (iV 2, []) := hr 6 (by decide)
    obtain ⟨b7, h7⟩ : ∃ b, (ρ 7) = (pt b, [blk b [iV 0, iV 0, iV 0, iV 0] 45]) := hr 7 (by decide)
    obtain ⟨b8, h8⟩ : ∃ b, (ρ 8) = (iV 0, [blk b [iV 0, iV 0, iV 0, iV 0] 45]) := hr 8 (by decide)
    have h9 : (ρ 9) = (iV 2, []) := hr 9 (by decide)
    show Y _ _ _ _ ((60, (ρ 9).1) :: _) ((ρ 0).2 ++ ((ρ 1).2 ++ ((ρ 2).2 ++ ((ρ 3).2 ++ ((ρ 4).2 ++ ((ρ 5).2 ++ ((ρ 6).2 ++ ((ρ 8).2 ++ ((ρ 9).2 ++ []))))))))  ++ _)
    rw [h0, h1, h2, h3, h4, h5, h6, h8, h9]
    repeat' (first | (refine XL_id ?_; first | refine XL_nil ?_ | refine XL_guard_yes rfl rfl rfl ?_ | (refine XL_eq (a := (⟨2, 12, 14, 4⟩ : Nd)) (b := (⟨2, 12, 14, 4⟩ : Nd)) eqNd rfl rfl rfl ?_; refine XL_dec_t rfl ?_) | (refine XL_eq (a := (⟨0, 0, 0, 0⟩ : Nd)) (b := (⟨0, 0, 0, 0⟩ : Nd)) eqNd rfl rfl rfl ?_; refine XL_dec_t rfl ?_) | (refine XG_load ?_; first | refine XL_loadW tt_ok 5 rfl rfl rfl rfl rfl rfl ?_ | refine XL_loadW tt_ok 6 rfl rfl rfl rfl rfl rfl ?_) | (refine XG_build ?_; (refine XL_build tt_ok rfl rfl rfl rfl rfl rfl rfl ?_; refine XL_aggN (by repeat' (first | exact .nil | apply NL.cons)) ?_)) | (refine XL_op tt_ok rfl rfl ?_; try (refine XL_dec_t (by omega) ?_))) | (refine X_id ?_; first | refine X_hold (c := .seq (.region 49 _ _) _) ?_ | refine X_seq ?_ | (refine X_regionN (by repeat' (first | exact .nil | apply NL.cons)) ?_)) | (refine Y_id ?_; refine Y_then ?_))
    all_goals first
      | (intro _; exact X_mem (fun h' hs => stars_only [] rfl h' hs) (X_sub h (by (repeat' (first | exact trivial | refine And.intro rfl ?_)); done)))
      | (exfalso; omega)
      | skip
    
end
end Go.Proofs.Ytalkcemelegohaa
