/- SpaceKnown: regions 10 to 18. -/
import Derived.Test.YtalkcemelegohaaKa
import Derived.Test.YtalkcemelegohaaPs
import Derived.Test.YtalkcemelegohaaLe
import Derived.Test.YtalkcemelegohaaSlZf
set_option linter.unusedVariables false
set_option maxRecDepth 100000
namespace Go.Proofs.Ytalkcemelegohaa
open Go.RowKit Go.Cof
open Vm (Rg encRg rgV)
-- refine Ctr.intro Try.func8 rfl rfl (by decide +kernel) fun F hpre => ?_

section
variable {F : Frz} {K : Exit → Act → World → Prop}
theorem upd_of {ρ : Rho} {i j : Nat} {x : Value × List HProp} (h : i ≠ j) : upd ρ i x j = ρ j := upd_ne fun e => h e.symm
def asksL : List Ask := [⟨0, 5, 1, 3⟩, ⟨0, 2, 1, 3⟩, ⟨0, 524288, 1, 3⟩, ⟨0, 9, 65, 1⟩, ⟨0, 9, 64, 1⟩, ⟨0, 9, 1, 2⟩, ⟨0, -1, 1, 0⟩, ⟨0, 0, 0, 0⟩, ⟨0, 0, 65, 0⟩, ⟨0, 524287, 2, 0⟩, ⟨0, 9223372036854775807, 1, 0⟩]
abbrev encE : Enc Int := Cof.encI .i64
abbrev askE (x : Ask) : Int := (mapF fourL 4 x.p x.n x.q).2.2.2
theorem asks_in : ∀ x ∈ asksL, (-9223372036854775808 ≤ x.p ∧ x.p ≤ 9223372036854775807) ∧ (-9223372036854775808 ≤ x.n ∧ x.n ≤ 9223372036854775807) ∧ 0 ≤ x.q ∧ x.q < 256 := by decide +kernel
theorem asks_err : asksL.map askE = [0, 171, 2, 2, 0, 2, 2, 2, 2, 2, 2] := by decide +kernel
def rel15 (b8 : Nat) (x : Ask) (Z : List Rg × Int × Int × Int) : Nat → Rho → Prop
  | 0, ρ => ∃ q, (ρ 0) = (.agg #[.slice (some ⟨q, 0, none⟩) 2 2, iV 4], [own encRg (some ⟨q, 0, none⟩) 2 2 fourL])
  | 1, ρ => (ρ 1) = (.pointer (some ⟨b8, 1, none⟩), [])
  | 2, ρ => (ρ 2) = (iV x.p, [])
  | 3, ρ => (ρ 3) = (.pointer (some ⟨b8, 2, none⟩), [])
  | 4, ρ => (ρ 4) = (iV x.n, [])
  | 5, ρ => (ρ 5) = (.pointer (some ⟨b8, 3, none⟩), [])
  | 6, ρ => (ρ 6) = (bV x.q, [])
  | 7, ρ => MRes Z ((ρ 7)).1 ((ρ 7)).2
  | 8, ρ => ∃ A m c, (ρ 8) = (Value.tuple #[.agg #[.slice A m c, iV Z.2.1], iV Z.2.2.1, iV Z.2.2.2], [])
  | 9, ρ => ∃ A m c, (ρ 9) = (Value.agg #[.slice A m c, iV Z.2.1], [])
  | 10, ρ => (ρ 10) = (iV Z.2.2.1, [])
  | 11, ρ => (ρ 11) = (iV Z.2.2.2, [])
  | 12, ρ => ∃ b, (ρ 12) = (pt b, [blk b [.slice none 0 0, iV 0] 24])
  | 13, ρ => ∃ b A m c, (ρ 13) = (iV 0, [blk b [.slice A m c, iV Z.2.1] 24])
  | 14, ρ => (ρ 14) = (iV Z.2.2.1, [])
  | _, ρ => (ρ 15) = (iV Z.2.2.2, [])
abbrev ds15 : List (List Nat) := [[], [], [1], [], [3], [], [5], [0, 2, 4, 6], [7], [8], [8], [8], [], [9], [10], [11]]
abbrev us15 : List (Option Nat) := [none, none, none, none, none, none, none, none, none, none, none, none, none, some 12, none, none]
theorem loc15 (b8 : Nat) (x : Ask) (Z : List Rg × Int × Int × Int) : Local (JJ ds15 us15 (rel15 b8 x Z)) 16 := by
  intro j hj k ρ y hk hd hu h
  match j, hj with
  | 0, _ =>
    show ∃ q, (upd ρ k y 0) = (.agg #[.slice (some ⟨q, 0, none⟩) 2 2, iV 4], [own encRg (some ⟨q, 0, none⟩) 2 2 fourL])
    rw [upd_of hk]; exact h
  | 1, _ =>
    show (upd ρ k y 1) = (.pointer (some ⟨b8, 1, none⟩), [])
    rw [upd_of hk]; exact h
  | 2, _ =>
    show (upd ρ k y 2) = (iV x.p, [])
    rw [upd_of hk]; exact h
  | 3, _ =>
    show (upd ρ k y 3) = (.pointer (some ⟨b8, 2, none⟩), [])
    rw [upd_of hk]; exact h
  | 4, _ =>
    show (upd ρ k y 4) = (iV x.n, [])
    rw [upd_of hk]; exact h
  | 5, _ =>
    show (upd ρ k y 5) = (.pointer (some ⟨b8, 3, none⟩), [])
    rw [upd_of hk]; exact h
  | 6, _ =>
    show (upd ρ k y 6) = (bV x.q, [])
    rw [upd_of hk]; exact h
  | 7, _ =>
    show MRes Z ((upd ρ k y 7)).1 ((upd ρ k y 7)).2
    rw [upd_of hk]; exact h
  | 8, _ =>
    show ∃ A m c, (upd ρ k y 8) = (Value.tuple #[.agg #[.slice A m c, iV Z.2.1], iV Z.2.2.1, iV Z.2.2.2], [])
    rw [upd_of hk]; exact h
  | 9, _ =>
    show ∃ A m c, (upd ρ k y 9) = (Value.agg #[.slice A m c, iV Z.2.1], [])
    rw [upd_of hk]; exact h
  | 10, _ =>
    show (upd ρ k y 10) = (iV Z.2.2.1, [])
    rw [upd_of hk]; exact h
  | 11, _ =>
    show (upd ρ k y 11) = (iV Z.2.2.2, [])
    rw [upd_of hk]; exact h
  | 12, _ =>
    show ∃ b, (upd ρ k y 12) = (pt b, [blk b [.slice none 0 0, iV 0] 24])
    rw [upd_of hk]; exact h
  | 13, _ =>
    show ∃ b A m c, (upd ρ k y 13) = (iV 0, [blk b [.slice A m c, iV Z.2.1] 24])
    rw [upd_of hk]; exact h
  | 14, _ =>
    show (upd ρ k y 14) = (iV Z.2.2.1, [])
    rw [upd_of hk]; exact h
  | 15, _ =>
    show (upd ρ k y 15) = (iV Z.2.2.2, [])
    rw [upd_of hk]; exact h
  | n + 16, hn => omega
theorem asks_snoc : ∀ i : Fin 11, (asksL.map askE).take (i.1 + 1) = (asksL.map askE).take i.1 ++ [askE (Cof.get asksL (i.1 : Int))] := by decide +kernel
set_option maxHeartbeats 16000000 in
theorem seg2 {b1 q : Nat} (h : ∀ b6, X Try.prog F Try.f8.ntmps (kc 10) K [(1, pt b1), (6, pt b6), (5, .bool true), (12, .bool true)] (bp6 b1 q b6)) :
    X Try.prog F Try.f8.ntmps (kc 6) K [(1, pt b1), (5, .bool true)] (bp1 b1 q) := by
  change X _ _ _ (.seq _ _) _ _ _
  repeat' (first | (refine XL_id ?_; first | refine XL_nil ?_ | (refine XG_build ?_; (refine XL_build tt_ok rfl rfl rfl rfl rfl rfl rfl ?_; refine XL_aggN (by repeat' (first | exact .nil | apply NL.cons)) ?_)) | (refine XG_alloc ?_; (refine XL_alloc tt_ok rfl rfl (fun _ => rfl) (fun b => ?_); refine XL_nB (by repeat' (first | exact .nil | apply NL.cons)) ?_)) | (refine XG_lit ?_; (refine XL_lit tt_ok rfl rfl rfl rfl rfl rfl rfl rfl rfl (fun _ => rfl) (fun b => ?_); refine XL_nB (by repeat' (first | exact .nil | apply NL.cons)) ?_)) | (refine XG_store ?_; (refine XL_storeW tt_ok 0 rfl rfl rfl rfl rfl rfl rfl ?_; refine XL_nK 0 rfl (by repeat' (first | exact .nil | apply NL.cons)) ?_)) | (refine XL_op tt_ok rfl rfl ?_)) | (refine X_id ?_; first | (refine X_regionEN (id := 10) [1, 2, 5] rfl (by repeat' (first | exact .nil | apply NL.cons)) ?_) | (refine X_regionEN (id := 11) [1, 2, 5, 6] rfl (by repeat' (first | exact .nil | apply NL.cons)) ?_) | (refine X_regionEN (id := 12) [1, 2, 5, 6] rfl (by repeat' (first | exact .nil | apply NL.cons)) ?_) | refine X_block (id := 2) (hold ?_) | refine X_seq ?_) | (refine Y_id ?_; refine Y_then ?_))
  intro _
  rename_i b6 _
  revert b
  intro ba
  refine X_loopD2 [1, 5, 6, 184, 185] (fun (i : Nat) (s : Option Addr × Nat) => [(186, .int .i64 i), (2, .slice s.1 i s.2)]) (fun i s => [own encE s.1 i s.2 ((asksL.map askE).take i), own encAsk (some ⟨ba, 0, none⟩) 11 11 asksL, blk b6 [iV 524288, iV 4, bV 3] 73, own encRg (some ⟨q, 0, none⟩) 2 2 fourL, blk b1 [.slice (some ⟨q, 0, none⟩) 2 2, iV 3] 24]) (fun i s => i ≤ 11) (fun i s => 11 - i) 0 (none, 0) rfl (Nat.zero_le _) (by (repeat' (first | exact trivial | refine And.intro rfl ?_)); done) (fun h hs => stars_new (own_nil encE _) (stars_conv (k := 0) (B := own encAsk (some ⟨ba, 0, none⟩) 11 11 asksL) rfl (fun _ o => own_of_blk o rfl rfl (by decide)) hs)) ?_
  intro i s hi
  obtain ⟨A, c⟩ := s
  dsimp only
  by_cases hlt : i < 11
  · have hx := asks_in _ (Vm.get_mem (l := asksL) (i := (i : Int)) (by omega) (by show (i : Int) < (11 : Nat); omega))
    have hsn : (asksL.map askE).take (i + 1) = (asksL.map askE).take i ++ [askE (Cof.get asksL (i : Int))] := asks_snoc ⟨i, hlt⟩
    have hmp := fun q : Nat => map_spec (some ⟨q, 0, none⟩) 2 2 fourL 4 (Cof.get asksL (i : Int)).p (Cof.get asksL (i : Int)).n (Cof.get asksL (i : Int)).q (by decide) (by decide) fourL_in hx.1 hx.2.1 hx.2.2
    unfold askE at hsn
    obtain ⟨Z, hZ⟩ : ∃ Z, mapF fourL 4 (Cof.get asksL (i : Int)).p (Cof.get asksL (i : Int)).n (Cof.get asksL (i : Int)).q = Z := ⟨_, rfl⟩
    rw [hZ] at hsn
    simp only [hZ] at hmp
    repeat' (first | (refine XL_id ?_; first | refine XL_nil ?_ | (refine XG_load ?_; refine XL_eloW tt_ok 1 rfl rfl rfl (by omega) (by omega) rfl rfl rfl rfl ?_) | (refine XG_idx ?_; refine XL_idxo tt_ok 1 rfl rfl rfl rfl rfl rfl (by omega) (by omega) rfl ?_) | (refine XG_alloc ?_; (refine XL_alloc tt_ok rfl rfl (fun _ => rfl) (fun b => ?_); refine XL_nB (by repeat' (first | exact .nil | apply NL.cons)) ?_)) | (refine XG_store ?_; (refine XL_storeW tt_ok 0 rfl rfl rfl rfl rfl rfl rfl ?_; refine XL_nK 0 rfl (by repeat' (first | exact .nil | apply NL.cons)) ?_)) | (refine XL_op tt_ok rfl rfl ?_; try (refine XL_dec_t (by omega) ?_))) | (refine X_id ?_; first | refine X_hold (c := .region 15 _ _) ?_ | refine X_seq ?_ | (refine X_regionN (by repeat' (first | exact .nil | apply NL.cons)) ?_) | refine X_skip ?_ | refine X_block ?_ | refine X_cond_t rfl ?_) | (refine Y_id ?_; refine Y_then ?_))
    all_goals first
      | (exfalso; omega)
      | skip
    intro _
    revert b
    intro b8
    refine X_job [1, 2, 5, 6, 8, 184, 185, 186] ds15 us15 (rel15 b8 (Cof.get asksL (i : Int)) Z) [15] [0, 1, 2, 3, 4, 5, 6, 7, 8, 9, 10, 11, 13, 14, 15] mixed rfl (by decide +kernel) (by decide +kernel) (by decide +kernel) (loc15 b8 (Cof.get asksL (i : Int)) Z) (fun G hFG hM => ?_) (fun ρ hr => ?_)
    · have hb8 := blk_at 0 rfl hM
      intro k hk o ho ρ hd hu G' hG' hp rest
      match k, hk with
      | 0, _ =>
        obtain rfl := Option.some.inj (show some _ = some o from ho)
        refine XL_callK [] four_spec rfl rfl (fun _ => rfl) (fun _ _ _ => trivial) (fun u L hv => ?_); obtain ⟨q, rfl, rfl⟩ := hv
        exact XL_nil (Y_job _ (show ∃ q', upd ρ 0 _ 0 = (Value.agg #[.slice (some ⟨q', 0, none⟩) 2 2, iV 4], [own encRg (some ⟨q', 0, none⟩) 2 2 fourL]) from ⟨q, rfl⟩) rfl)
      | 1, _ =>
        obtain rfl := Option.some.inj (show some _ = some o from ho)
        exact XL_xv (XV_op tt_ok rfl) rfl rfl (XL_nil (Y_job _ (show (upd ρ 1 _ 1) = (.pointer (some ⟨b8, 1, none⟩), []) from rfl) rfl))
      | 2, _ =>
        obtain rfl := Option.some.inj (show some _ = some o from ho)
        have h1 : (ρ 1) = (.pointer (some ⟨b8, 1, none⟩), []) := hd 1 (by show 1 ∈ [1]; simp)
        show XL _ _ _ _ _ _ ((192, (ρ 1).1) :: (_ ++ rest)) _
        rw [h1]
        exact XL_xv (XV_load tt_ok rfl (blk_le hb8 hG') rfl rfl rfl) rfl rfl (XL_nil (Y_job _ (show (upd ρ 2 _ 2) = (iV (Cof.get asksL (i : Int)).p, []) from rfl) (by show _ :: (192, (ρ 1).1) :: (_ ++ rest) = _; rw [h1]; rfl)))
      | 3, _ =>
        obtain rfl := Option.some.inj (show some _ = some o from ho)
        exact XL_xv (XV_op tt_ok rfl) rfl rfl (XL_nil (Y_job _ (show (upd ρ 3 _ 3) = (.pointer (some ⟨b8, 2, none⟩), []) from rfl) rfl))
      | 4, _ =>
        obtain rfl := Option.some.inj (show some _ = some o from ho)
        have h3 : (ρ 3) = (.pointer (some ⟨b8, 2, none⟩), []) := hd 3 (by show 3 ∈ [3]; simp)
        show XL _ _ _ _ _ _ ((194, (ρ 3).1) :: (_ ++ rest)) _
        rw [h3]
        exact XL_xv (XV_load tt_ok rfl (blk_le hb8 hG') rfl rfl rfl) rfl rfl (XL_nil (Y_job _ (show (upd ρ 4 _ 4) = (iV (Cof.get asksL (i : Int)).n, []) from rfl) (by show _ :: (194, (ρ 3).1) :: (_ ++ rest) = _; rw [h3]; rfl)))
      | 5, _ =>
        obtain rfl := Option.some.inj (show some _ = some o from ho)
        exact XL_xv (XV_op tt_ok rfl) rfl rfl (XL_nil (Y_job _ (show (upd ρ 5 _ 5) = (.pointer (some ⟨b8, 3, none⟩), []) from rfl) rfl))
      | 6, _ =>
        obtain rfl := Option.some.inj (show some _ = some o from ho)
        have h5 : (ρ 5) = (.pointer (some ⟨b8, 3, none⟩), []) := hd 5 (by show 5 ∈ [5]; simp)
        show XL _ _ _ _ _ _ ((196, (ρ 5).1) :: (_ ++ rest)) _
        rw [h5]
        exact XL_xv (XV_load tt_ok rfl (blk_le hb8 hG') rfl rfl rfl) rfl rfl (XL_nil (Y_job _ (show (upd ρ 6 _ 6) = (bV (Cof.get asksL (i : Int)).q, []) from rfl) (by show _ :: (196, (ρ 5).1) :: (_ ++ rest) = _; rw [h5]; rfl)))
      | 7, _ =>
        obtain rfl := Option.some.inj (show some _ = some o from ho)
        obtain ⟨q0, h0⟩ : ∃ q, (ρ 0) = (.agg #[.slice (some ⟨q, 0, none⟩) 2 2, iV 4], [own encRg (some ⟨q, 0, none⟩) 2 2 fourL]) := hd 0 (by show 0 ∈ [0, 2, 4, 6]; simp)
        have h2 : (ρ 2) = (iV (Cof.get asksL (i : Int)).p, []) := hd 2 (by show 2 ∈ [0, 2, 4, 6]; simp)
        have h4 : (ρ 4) = (iV (Cof.get asksL (i : Int)).n, []) := hd 4 (by show 4 ∈ [0, 2, 4, 6]; simp)
        have h6 : (ρ 6) = (bV (Cof.get asksL (i : Int)).q, []) := hd 6 (by show 6 ∈ [0, 2, 4, 6]; simp)
        show XL _ _ _ _ _ _ ((191, (ρ 0).1) :: (193, (ρ 2).1) :: (195, (ρ 4).1) :: (197, (ρ 6).1) :: (_ ++ rest)) _
        rw [h0, h2, h4, h6]
        refine XL_callK [] (hmp _) rfl rfl (fun _ => rfl) (fun g hg hL => by have := hp 0 (by show 0 ∈ [0, 2, 4, 6]; simp); rw [h0] at this; exact rd_at 0 rfl (stars_up this hg)) (fun u L hv => ?_)
        show XL _ _ _ _ _ _ _ (L ++ [])
        rw [List.append_nil]
        exact XL_nil (Y_job _ (show MRes Z (upd ρ 7 (u, L) 7).1 (upd ρ 7 (u, L) 7).2 from hv) (by show _ :: (191, (ρ 0).1) :: (193, (ρ 2).1) :: (195, (ρ 4).1) :: (197, (ρ 6).1) :: (_ ++ rest) = _; rw [h0, h2, h4, h6]; rfl))
      | 8, _ =>
        obtain rfl := Option.some.inj (show some _ = some o from ho)
        have h7 : MRes Z ((ρ 7)).1 ((ρ 7)).2 := hd 7 (by show 7 ∈ [7]; simp)
        show XL _ _ _ _ _ _ ((198, (ρ 7).1) :: (_ ++ rest)) _
        refine XL_xv (XV_op tt_ok rfl) rfl rfl (XL_nil (Y_job (ρ 7).1 ?_ rfl))
        obtain ⟨o, _, _, hv, _⟩ := h7
        exact ⟨o.A, o.m, o.c, by rw [upd_at]; exact congrArg (fun v => (v, ([] : List HProp))) hv⟩
      | 9, _ =>
        obtain rfl := Option.some.inj (show some _ = some o from ho)
        obtain ⟨A8, m8, c8, h8⟩ : ∃ A m c, (ρ 8) = (Value.tuple #[.agg #[.slice A m c, iV Z.2.1], iV Z.2.2.1, iV Z.2.2.2], []) := hd 8 (by show 8 ∈ [8]; simp)
        show XL _ _ _ _ _ _ ((190, (ρ 8).1) :: (_ ++ rest)) _
        rw [h8]
        exact XL_xv (XV_op tt_ok rfl) rfl rfl (XL_nil (Y_job _ (show ∃ A m c, (upd ρ 9 _ 9) = (Value.agg #[.slice A m c, iV Z.2.1], []) from ⟨A8, m8, c8, rfl⟩) (by show _ :: (190, (ρ 8).1) :: (_ ++ rest) = _; rw [h8]; rfl)))
      | 10, _ =>
        obtain rfl := Option.some.inj (show some _ = some o from ho)
        obtain ⟨A8, m8, c8, h8⟩ : ∃ A m c, (ρ 8) = (Value.tuple #[.agg #[.slice A m c, iV Z.2.1], iV Z.2.2.1, iV Z.2.2.2], []) := hd 8 (by show 8 ∈ [8]; simp)
        show XL _ _ _ _ _ _ ((190, (ρ 8).1) :: (_ ++ rest)) _
        rw [h8]
        exact XL_xv (XV_op tt_ok rfl) rfl rfl (XL_nil (Y_job _ (show (upd ρ 10 _ 10) = (iV Z.2.2.1, []) from rfl) (by show _ :: (190, (ρ 8).1) :: (_ ++ rest) = _; rw [h8]; rfl)))
      | 11, _ =>
        obtain rfl := Option.some.inj (show some _ = some o from ho)
        obtain ⟨A8, m8, c8, h8⟩ : ∃ A m c, (ρ 8) = (Value.tuple #[.agg #[.slice A m c, iV Z.2.1], iV Z.2.2.1, iV Z.2.2.2], []) := hd 8 (by show 8 ∈ [8]; simp)
        show XL _ _ _ _ _ _ ((190, (ρ 8).1) :: (_ ++ rest)) _
        rw [h8]
        exact XL_xv (XV_op tt_ok rfl) rfl rfl (XL_nil (Y_job _ (show (upd ρ 11 _ 11) = (iV Z.2.2.2, []) from rfl) (by show _ :: (190, (ρ 8).1) :: (_ ++ rest) = _; rw [h8]; rfl)))
      | 12, _ =>
        obtain rfl := Option.some.inj (show some _ = some o from ho)
        exact XL_alloc tt_ok rfl rfl (fun _ => rfl) (fun b => XL_nil (Y_job _ (show ∃ b', upd ρ 12 _ 12 = _ from ⟨b, rfl⟩) rfl))
      | 13, _ =>
        obtain rfl := Option.some.inj (show some _ = some o from ho)
        obtain ⟨A9, m9, c9, h9⟩ : ∃ A m c, (ρ 9) = (Value.agg #[.slice A m c, iV Z.2.1], []) := hd 9 (by show 9 ∈ [9]; simp)
        obtain ⟨b12, h12⟩ : ∃ b, (ρ 12) = (pt b, [blk b [.slice none 0 0, iV 0] 24]) := hu 12 (by show 12 ∈ some 12; simp)
        show XL _ _ _ _ _ _ ((199, (ρ 9).1) :: (9, (ρ 12).1) :: (_ ++ rest)) ((ρ 12).2 ++ [])
        rw [h9, h12]
        exact XL_storeW tt_ok 0 rfl rfl rfl rfl rfl rfl rfl (XL_nil (Y_job (iV 0) (show ∃ (b : Nat) (A : Option Addr) (m c : Nat), upd ρ 13 _ 13 = _ from ⟨b12, A9, m9, c9, rfl⟩) (by show (199, (ρ 9).1) :: (9, (ρ 12).1) :: (_ ++ rest) = _; rw [h9, h12])))
      | 14, _ =>
        obtain rfl := Option.some.inj (show some _ = some o from ho)
        have h10 : (ρ 10) = (iV Z.2.2.1, []) := hd 10 (by show 10 ∈ [10]; simp)
        show XL _ _ _ _ _ _ ((200, (ρ 10).1) :: (_ ++ rest)) _
        rw [h10]
        exact XL_xv (XV_op tt_ok rfl) rfl rfl (XL_nil (Y_job _ (show (upd ρ 14 _ 14) = (iV Z.2.2.1, []) from rfl) (by show _ :: (200, (ρ 10).1) :: (_ ++ rest) = _; rw [h10]; rfl)))
      | 15, _ =>
        obtain rfl := Option.some.inj (show some _ = some o from ho)
        have h11 : (ρ 11) = (iV Z.2.2.2, []) := hd 11 (by show 11 ∈ [11]; simp)
        show XL _ _ _ _ _ _ ((201, (ρ 11).1) :: (_ ++ rest)) _
        rw [h11]
        exact XL_xv (XV_op tt_ok rfl) rfl rfl (XL_nil (Y_job _ (show (upd ρ 15 _ 15) = (iV Z.2.2.2, []) from rfl) (by show _ :: (201, (ρ 11).1) :: (_ ++ rest) = _; rw [h11]; rfl)))
      | n + 16, hn => exact absurd hn (by show ¬ n + 16 < 16; omega)
    · skip
      obtain ⟨q0, h0⟩ : ∃ q, (ρ 0) = (.agg #[.slice (some ⟨q, 0, none⟩) 2 2, iV 4], [own encRg (some ⟨q, 0, none⟩) 2 2 fourL]) := hr 0 (by decide)
      have h1 : (ρ 1) = (.pointer (some ⟨b8, 1, none⟩), []) := hr 1 (by decide)
      have h2 : (ρ 2) = (iV (Cof.get asksL (i : Int)).p, []) := hr 2 (by decide)
      have h3 : (ρ 3) = (.pointer (some ⟨b8, 2, none⟩), []) := hr 3 (by decide)
      have h4 : (ρ 4) = (iV (Cof.get asksL (i : Int)).n, []) := hr 4 (by decide)
      have h5 : (ρ 5) = (.pointer (some ⟨b8, 3, none⟩), []) := hr 5 (by decide)
      have h6 : (ρ 6) = (bV (Cof.get asksL (i : Int)).q, []) := hr 6 (by decide)
      have h7 : MRes Z ((ρ 7)).1 ((ρ 7)).2 := hr 7 (by decide)
      obtain ⟨A8, m8, c8, h8⟩ : ∃ A m c, (ρ 8) = (Value.tuple #[.agg #[.slice A m c, iV Z.2.1], iV Z.2.2.1, iV Z.2.2.2], []) := hr 8 (by decide)
      obtain ⟨A9, m9, c9, h9⟩ : ∃ A m c, (ρ 9) = (Value.agg #[.slice A m c, iV Z.2.1], []) := hr 9 (by decide)
      have h10 : (ρ 10) = (iV Z.2.2.1, []) := hr 10 (by decide)
      have h11 : (ρ 11) = (iV Z.2.2.2, []) := hr 11 (by decide)
      obtain ⟨b12, h12⟩ : ∃ b, (ρ 12) = (pt b, [blk b [.slice none 0 0, iV 0] 24]) := hr 12 (by decide)
      obtain ⟨b13, A13, m13, c13, h13⟩ : ∃ b A m c, (ρ 13) = (iV 0, [blk b [.slice A m c, iV Z.2.1] 24]) := hr 13 (by decide)
      have h14 : (ρ 14) = (iV Z.2.2.1, []) := hr 14 (by decide)
      have h15 : (ρ 15) = (iV Z.2.2.2, []) := hr 15 (by decide)
      obtain ⟨o7, _, _, _, hL7⟩ := h7
      show Y _ _ _ _ ((11, (ρ 15).1) :: _) ((ρ 0).2 ++ ((ρ 1).2 ++ ((ρ 2).2 ++ ((ρ 3).2 ++ ((ρ 4).2 ++ ((ρ 5).2 ++ ((ρ 6).2 ++ ((ρ 7).2 ++ ((ρ 8).2 ++ ((ρ 9).2 ++ ((ρ 10).2 ++ ((ρ 11).2 ++ ((ρ 13).2 ++ ((ρ 14).2 ++ ((ρ 15).2 ++ []))))))))))))))  ++ _)
      rw [h0, h1, h2, h3, h4, h5, h6, hL7, h8, h9, h10, h11, h13, h14, h15]
      repeat' (first | (refine XL_id ?_; first | refine XL_nil ?_ | (refine XL_conv 0 (own encE (some ⟨_, 0, none⟩) 1 1 [Z.2.2.2]) rfl (fun h o => own_of_blk o rfl rfl (by decide)) ?_; refine XL_appO tt_ok 5 0 rfl rfl rfl rfl rfl rfl rfl rfl rfl rfl (by show (_ : Nat) * 8 ≤ _; omega) (by omega) (fun _ _ => rfl) (fun A2 c2 => ?_)) | (refine XG_lit ?_; (refine XL_lit tt_ok rfl rfl rfl rfl rfl rfl rfl rfl rfl (fun _ => rfl) (fun b => ?_); refine XL_nB (by repeat' (first | exact .nil | apply NL.cons)) ?_)) | (refine XL_op tt_ok rfl rfl ?_; try (refine XL_int (wrap_i64 (by omega) (by omega)) ?_))) | (refine X_id ?_; (refine X_regionN (by repeat' (first | exact .nil | apply NL.cons)) ?_)) | (refine Y_id ?_; first | refine Y_then ?_ | refine Y_block_normal ?_))
      all_goals first
        | exact Y_again (i + 1, (A2, c2)) fun _ _ hf hs => ⟨by show i + 1 ≤ 11; omega, by show 11 - (i + 1) < 11 - i; omega, hf.sub (by (repeat' (first | exact trivial | refine And.intro rfl ?_)); done), hs.imp fun h hs => by show stars [own encE A2 (i + 1) c2 ((asksL.map askE).take (i + 1)), _, _, _, _] h; rw [hsn]; exact stars_only [5, 5, 5, 5, 5] rfl h hs⟩
        | (exfalso; omega)
        | skip
      
  · obtain rfl : i = 11 := by omega
    rw [show (asksL.map askE).take 11 = [0, 171, 2, 2, 0, 2, 2, 2, 2, 2, 2] by rw [asks_err]; rfl]
    repeat' (first | (refine XL_id ?_; first | refine XL_nil ?_ | refine XL_guard_yes rfl rfl rfl ?_ | (refine XG_load ?_; refine XL_elo tt_ok 0 rfl rfl rfl (by omega) (by omega) rfl rfl rfl rfl ?_) | (refine XG_idx ?_; refine XL_idxo tt_ok 0 rfl rfl rfl rfl rfl rfl (by omega) (by omega) rfl ?_) | (refine XL_op tt_ok rfl rfl ?_; try (first | refine XL_dec_t (by omega) ?_ | refine XL_dec_f (by omega) ?_ | refine XL_dec_t (by decide +kernel) ?_))) | (refine X_id ?_; first | (refine X_regionEN (id := 13) [1, 2, 5, 6, 184, 185, 186] rfl (by repeat' (first | exact .nil | apply NL.cons)) ?_) | (refine X_regionEN (id := 18) [1, 2, 5, 6] rfl (by repeat' (first | exact .nil | apply NL.cons)) ?_) | refine X_hold (c := .seq (.region 19 _ _) _) ?_ | refine X_seq ?_ | refine X_exit ?_ | refine X_cond_f rfl ?_) | (refine Y_id ?_; first | refine Y_then ?_ | refine Y_then_exit ?_ | refine Y_block_hit ?_))
    all_goals first
      | (intro _; exact X_mem (fun h' hs => stars_only [2, 2, 2] rfl h' hs) (X_sub (h _) (by (repeat' (first | exact trivial | refine And.intro rfl ?_)); done)))
      | (exfalso; omega)
      | skip
    
end
end Go.Proofs.Ytalkcemelegohaa
