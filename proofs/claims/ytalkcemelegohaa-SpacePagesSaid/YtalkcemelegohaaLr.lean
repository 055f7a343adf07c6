/- The law SpacePages, walked. -/
import Derived.Test.YtalkcemelegohaaLq
import Derived.Test.YtalkcemelegohaaLe
import Derived.Test.YtalkcemelegohaaSlZf
set_option linter.unusedVariables false
set_option maxRecDepth 100000
namespace Go.Proofs.Ytalkcemelegohaa
open Go.RowKit Go.Cof
open Vm (Rg encRg rgV atP mc)

abbrev ptr (b : Nat) : Value := .pointer (some ⟨b, 0, none⟩)
/-- What the operations of a round's first region yield. -/
def rel8 (i : Nat) (s : Sv) (A' : Option Addr) (m' c' : Nat) (x : Ask) : Nat → Rho → Prop
  | 0, ρ => ρ 0 = (.agg #[.slice s.A s.m s.c, iV s.h], [])
  | 1, ρ => ρ 1 = (arV (seenL s.l), [])
  | 2, ρ => ρ 2 = (.slice A' m' c', [])
  | 3, ρ => ρ 3 = (iV i, [])
  | 4, ρ => ∃ a, ρ 4 = (.pointer (some a), []) ∧ a = (bs A').add ((i : Int).toNat * 4)
  | 5, ρ => ρ 5 = (.agg #[iV x.k, iV x.p, iV x.n, bV x.q], [])
  | 6, ρ => OneR i s.A s.m s.c s.l s.h (ρ 6).1 (ρ 6).2
  | 7, ρ => (ρ 7).2 = [] ∧ (ρ 7).1 = (ρ 6).1 ∧ ∃ B k d h xs, xs.length = 280 ∧ (ρ 7).1 = .tuple #[.agg #[.slice B k d, iV h], arV xs, .bool true]
  | 8, ρ => (ρ 8).2 = [] ∧ ∃ B k d h xs, xs.length = 280 ∧ (ρ 7).1 = .tuple #[.agg #[.slice B k d, iV h], arV xs, .bool true] ∧ (ρ 8).1 = .agg #[.slice B k d, iV h]
  | 9, ρ => (ρ 9).2 = [] ∧ ∃ B k d h xs, xs.length = 280 ∧ (ρ 7).1 = .tuple #[.agg #[.slice B k d, iV h], arV xs, .bool true] ∧ (ρ 9).1 = arV xs
  | 10, ρ => ρ 10 = (.bool true, [])
  | 11, ρ => ∃ b, ρ 11 = (ptr b, [blk b [.slice none 0 0, iV 0] 24])
  | 12, ρ => ∃ b, ρ 12 = (ptr b, [blk b (flat (Cof.encI .u8) (List.replicate 280 0)) 55])
  | 13, ρ => ∃ b B k d h, (ρ 11).1 = ptr b ∧ (ρ 8).1 = .agg #[.slice B k d, iV h] ∧ (ρ 13).2 = [blk b [.slice B k d, iV h] 24]
  | 14, ρ => ∃ b xs, (ρ 12).1 = ptr b ∧ xs.length = 280 ∧ (ρ 9).1 = arV xs ∧ (ρ 14).2 = [blk b (flat (Cof.encI .u8) xs) 55]
  | _, ρ => ρ 15 = (.bool true, [])
abbrev ds8 : List (List Nat) := [[], [], [], [], [2, 3], [4], [0, 1, 5], [6], [7], [7], [7], [], [], [8], [9], [10]]
abbrev us8 : List (Option Nat) := [none, none, none, none, none, none, none, none, none, none, none, none, none, some 11, some 12, none]
theorem upd_of {ρ : Rho} {i j : Nat} {x : Value × List HProp} (h : i ≠ j) : upd ρ i x j = ρ j := upd_ne fun e => h e.symm
theorem loc8 (i : Nat) (s : Sv) (A' : Option Addr) (m' c' : Nat) (x : Ask) : Local (JJ ds8 us8 (rel8 i s A' m' c' x)) 16 := by
  intro j hj k ρ y hk hd hu h
  match j, hj with
  | 0, _ => show upd ρ k y 0 = _; rw [upd_of hk]; exact h
  | 1, _ => show upd ρ k y 1 = _; rw [upd_of hk]; exact h
  | 2, _ => show upd ρ k y 2 = _; rw [upd_of hk]; exact h
  | 3, _ => show upd ρ k y 3 = _; rw [upd_of hk]; exact h
  | 4, _ => show ∃ a, upd ρ k y 4 = _ ∧ _; rw [upd_of hk]; exact h
  | 5, _ => show upd ρ k y 5 = _; rw [upd_of hk]; exact h
  | 6, _ => show OneR _ _ _ _ _ _ (upd ρ k y 6).1 (upd ρ k y 6).2; rw [upd_of hk]; exact h
  | 7, _ =>
    have h6 : k ≠ 6 := fun e => hd (by subst e; show 6 ∈ [6]; simp)
    show (upd ρ k y 7).2 = [] ∧ (upd ρ k y 7).1 = (upd ρ k y 6).1 ∧ ∃ (B : Option Addr) (q d : Nat) (h : Int) (xs : List Int), xs.length = 280 ∧ (upd ρ k y 7).1 = _
    rw [upd_of hk, upd_of h6]; exact h
  | 8, _ =>
    have h6 : k ≠ 7 := fun e => hd (by subst e; show 7 ∈ [7]; simp)
    show (upd ρ k y 8).2 = [] ∧ ∃ (B : Option Addr) (q d : Nat) (h : Int) (xs : List Int), xs.length = 280 ∧ (upd ρ k y 7).1 = _ ∧ (upd ρ k y 8).1 = _
    rw [upd_of hk, upd_of h6]; exact h
  | 9, _ =>
    have h6 : k ≠ 7 := fun e => hd (by subst e; show 7 ∈ [7]; simp)
    show (upd ρ k y 9).2 = [] ∧ ∃ (B : Option Addr) (q d : Nat) (h : Int) (xs : List Int), xs.length = 280 ∧ (upd ρ k y 7).1 = _ ∧ (upd ρ k y 9).1 = _
    rw [upd_of hk, upd_of h6]; exact h
  | 10, _ => show upd ρ k y 10 = _; rw [upd_of hk]; exact h
  | 11, _ => show ∃ b, upd ρ k y 11 = _; rw [upd_of hk]; exact h
  | 12, _ => show ∃ b, upd ρ k y 12 = _; rw [upd_of hk]; exact h
  | 13, _ =>
    have h6 : k ≠ 8 := fun e => hd (by subst e; show 8 ∈ [8]; simp)
    have h7 : k ≠ 11 := fun e => hu (by subst e; show 11 ∈ some 11; simp)
    show ∃ (b : Nat) (B : Option Addr) (q d : Nat) (h : Int), (upd ρ k y 11).1 = ptr b ∧ (upd ρ k y 8).1 = _ ∧ (upd ρ k y 13).2 = _
    rw [upd_of hk, upd_of h6, upd_of h7]; exact h
  | 14, _ =>
    have h6 : k ≠ 9 := fun e => hd (by subst e; show 9 ∈ [9]; simp)
    have h7 : k ≠ 12 := fun e => hu (by subst e; show 12 ∈ some 12; simp)
    show ∃ (b : Nat) (xs : List Int), (upd ρ k y 12).1 = ptr b ∧ xs.length = 280 ∧ (upd ρ k y 9).1 = _ ∧ (upd ρ k y 14).2 = _
    rw [upd_of hk, upd_of h6, upd_of h7]; exact h
  | 15, _ => show upd ρ k y 15 = _; rw [upd_of hk]; exact h
  | n + 16, hn => omega
theorem eqI280 : EqI Try.prog 55 .u8 280 := EqI.of (el := 5) tt_ok rfl rfl rfl rfl rfl (by kernel_rfl)
set_option maxHeartbeats 32000000 in
theorem spacePages_walk (A' : Option Addr) (m' c' : Nat) (xs : List Ask) (hm' : m' ≤ 9223372036854775807) (hx : ∀ x ∈ xs, x.In) :
    FnC Try.prog 6 [.slice A' m' c'] (fun g => rdS encAsk g A' m' xs) (.bool true) := by
  refine Ctr.intro Try.func6 rfl rfl (by decide +kernel) fun F hpre => ?_
  have r2 : rdS encAsk F.heap A' m' xs := hpre
  have hlen2 := r2.1
  refine X_mem (fun _ hs => stars_new (show spR F none 0 0 [] _ from .inl (own_nil encRg _)) hs) ?_
  repeat' (first | (refine XL_id ?_; first | refine XL_nil ?_ | (refine XG_build ?_; (refine XL_build tt_ok rfl rfl rfl rfl rfl rfl rfl ?_; refine XL_aggN (by repeat' (first | exact .nil | apply NL.cons)) ?_)) | (refine XG_call ?_; refine XL_fn works_spec rfl rfl (fun _ _ _ => trivial) ?_) | (refine XG_alloc ?_; first | (refine XL_alloc (et := 24) tt_ok rfl rfl (fun _ => rfl) (fun b3 => ?_); refine XL_nB (by repeat' (first | exact .nil | apply NL.cons)) ?_) | refine XL_alloc (et := 55) tt_ok rfl rfl (fun _ => rfl) (fun b4 => ?_)) | (refine XG_store ?_; (refine XL_storeW tt_ok 0 rfl rfl rfl rfl rfl rfl rfl ?_; refine XL_nK 0 rfl (by repeat' (first | exact .nil | apply NL.cons)) ?_)) | (refine XL_op tt_ok rfl rfl ?_)) | (refine X_id ?_; first | refine X_block (id := 0) (hold ?_) | refine X_seq ?_ | (refine X_regionN (by repeat' (first | exact .nil | apply NL.cons)) ?_) | refine X_skip ?_ | refine X_cond_f rfl ?_) | (refine Y_id ?_; refine Y_then ?_))
  all_goals first
    | (rename_i h9; exact absurd rfl h9)
    | skip
  intro _
  refine X_loopD2 [0, 3, 4] (fun (i : Nat) (s : Sv) => [(5, .int .i64 i)]) (fun i s => [spR F s.A s.m s.c s.l, blk b3 [.slice s.A s.m s.c, iV s.h] 24, blk b4 (flat (Cof.encI .u8) (seenL s.l)) 55]) (fun i s => i ≤ m' ∧ s.m = s.l.length ∧ s.m ≤ s.c ∧ (i ≤ 40 → Stp i s.l s.h) ∧ i ≤ 40) (fun i s => m' - i) 0 ⟨none, 0, 0, [], 0⟩ rfl ⟨Nat.zero_le _, rfl, Nat.le_refl _, fun _ => stp_nil, by omega⟩ (by (repeat' (first | exact trivial | refine And.intro rfl ?_)); done) (fun h hs => by have hs := stars_take [2, 1, 0] rfl hs; rw [show seenL (Sv.mk none 0 0 [] 0).l = List.replicate 280 0 from seen_nil]; exact hs) ?_
  intro i s hi
  obtain ⟨hi, hm, hmc, hst, hi40⟩ := hi
  obtain ⟨As, ms, cs, ls, h⟩ := s
  replace hm : ms = ls.length := hm
  replace hmc : ms ≤ cs := hmc
  have hst : Stp i ls h := hst hi40
  dsimp only
  have hlen8 := hst.good.fine.len
  have sl := seenL_length ls
  by_cases hlt : i < m' ∧ i < 40
  · obtain ⟨hlt, h40⟩ := hlt
    have hxi := hx _ (Vm.get_mem (l := xs) (i := (i : Int)) (by omega) (by omega))
    obtain ⟨x, hxx⟩ : ∃ x, Cof.get xs (i : Int) = x := ⟨_, rfl⟩
    have hone := one_spec i h40 As ms cs ls h x.k x.p x.n x.q hst hm hmc (by rw [← hxx]; exact hxi.k) (by rw [← hxx]; exact hxi.p) (by rw [← hxx]; exact hxi.n) (by rw [← hxx]; exact hxi.q)
    repeat' (first | (refine XL_id ?_; first | refine XL_nil ?_ | refine XL_guard_yes rfl rfl rfl ?_ | (refine XL_op tt_ok rfl rfl ?_; try (refine XL_dec_t (by omega) ?_))) | (refine X_id ?_; first | refine X_cutD (c := .region 8 _ _) [0, 3, 4, 5] (fun (j : Nat × Nat × Out) => [(6, ptr j.1), (7, ptr j.2.1), (8, .bool true)]) (fun j => [spR F j.2.2.A j.2.2.m j.2.2.c j.2.2.l, blk j.1 [.slice j.2.2.A j.2.2.m j.2.2.c, iV j.2.2.h] 24, blk j.2.1 (flat (Cof.encI .u8) (seenL j.2.2.l)) 55, blk b3 [.slice As ms cs, iV h] 24, blk b4 (flat (Cof.encI .u8) (seenL ls)) 55]) (fun j => j.2.2.m = j.2.2.l.length ∧ j.2.2.m ≤ j.2.2.c ∧ Stp (i + 1) j.2.2.l j.2.2.h) rfl (hold ?_) (fun j hj => hold ?_) | refine X_seq ?_ | (refine X_regionN (by repeat' (first | exact .nil | apply NL.cons)) ?_) | refine X_skip ?_ | refine X_block ?_ | refine X_cond_t rfl ?_) | (refine Y_id ?_; refine Y_then ?_))
    · intro _
      refine X_job [0, 3, 4, 5] ds8 us8 (rel8 i ⟨As, ms, cs, ls, h⟩ A' m' c' x) [11, 12, 15] [0, 1, 2, 3, 4, 5, 6, 7, 8, 9, 10, 13, 14, 15] mixed rfl (by decide +kernel) (by decide +kernel) (by decide +kernel) (loc8 i ⟨As, ms, cs, ls, h⟩ A' m' c' x) (fun G hFG hM => ?_) (fun ρ hr => ?_)
      · have hb3 : blk b3 [.slice As ms cs, iV h] 24 G.heap := blk_at 1 rfl hM
        have hr4 : rdS (Cof.encI .u8) G.heap (some ⟨b4, 0, none⟩) 280 (seenL ls) := blk_rdS (blk_at 2 rfl hM) sl.symm rfl
        have hs0 : ∀ g, Hp.le G.heap g → rdS encRg g As ms ls := fun g hg => (spR_rd 0 rfl hFG hM).le hg
        have hr2 := r2.le hFG
        intro k hk o ho ρ hd hu G' hG' hp rest
        match k, hk with
        | 0, _ =>
          obtain rfl := Option.some.inj (show some _ = some o from ho)
          exact XL_xv (XV_loadW tt_ok rfl (blk_le hb3 hG') rfl rfl rfl) rfl rfl (XL_nil (Y_job _ (show upd ρ 0 _ 0 = _ from rfl) rfl))
        | 1, _ =>
          obtain rfl := Option.some.inj (show some _ = some o from ho)
          exact XL_xv (XV_loadA tt_ok rfl (hr4.le hG') rfl rfl rfl rfl rfl) rfl rfl (XL_nil (Y_job _ (show upd ρ 1 _ 1 = _ from rfl) rfl))
        | 2, _ =>
          obtain rfl := Option.some.inj (show some _ = some o from ho)
          exact XL_xv (XV_op tt_ok rfl) rfl rfl (XL_nil (Y_job _ (show upd ρ 2 _ 2 = _ from rfl) rfl))
        | 3, _ =>
          obtain rfl := Option.some.inj (show some _ = some o from ho)
          exact XL_xv (XV_op tt_ok rfl) rfl rfl (XL_nil (Y_job _ (show upd ρ 3 _ 3 = _ from rfl) rfl))
        | 4, _ =>
          obtain rfl := Option.some.inj (show some _ = some o from ho)
          have h2 : ρ 2 = (.slice A' m' c', []) := hd 2 (by show 2 ∈ [2, 3]; simp)
          have h3 : ρ 3 = (iV i, []) := hd 3 (by show 3 ∈ [2, 3]; simp)
          show XL _ _ _ _ _ _ ((25, (ρ 2).1) :: (26, (ρ 3).1) :: (_ ++ rest)) _
          rw [h2, h3]
          exact XL_xv (XV_idx tt_ok rfl rfl rfl rfl rfl (hr2.le hG') (by omega) (by omega)) rfl rfl (XL_nil (Y_job _ (show ∃ a, upd ρ 4 _ 4 = _ ∧ _ from ⟨_, rfl, rfl⟩) (by show _ :: (25, (ρ 2).1) :: (26, (ρ 3).1) :: (_ ++ rest) = _; rw [h2, h3]; rfl)))
        | 5, _ =>
          obtain rfl := Option.some.inj (show some _ = some o from ho)
          obtain ⟨a, h4, rfl⟩ : ∃ a, ρ 4 = (.pointer (some a), []) ∧ a = (bs A').add ((i : Int).toNat * 4) := hd 4 (by show 4 ∈ [4]; simp)
          show XL _ _ _ _ _ _ ((27, (ρ 4).1) :: (_ ++ rest)) _
          rw [h4]
          exact XL_xv (XV_elW (i := (i : Int)) tt_ok rfl (hr2.le hG') rfl (by omega) (by omega) rfl rfl rfl) rfl rfl (XL_nil (Y_job (.agg (encAsk.enc (Cof.get xs (i : Int))).toArray) (show upd ρ 5 (Value.agg (encAsk.enc (Cof.get xs (i : Int))).toArray, []) 5 = _ from by rw [upd_at, hxx]; rfl) (by show _ :: (27, (ρ 4).1) :: (_ ++ rest) = _; rw [h4]; rfl)))
        | 6, _ =>
          obtain rfl := Option.some.inj (show some _ = some o from ho)
          have h0 : ρ 0 = (.agg #[.slice As ms cs, iV h], []) := hd 0 (by show 0 ∈ [0, 1, 5]; simp)
          have h1 : ρ 1 = (arV (seenL ls), []) := hd 1 (by show 1 ∈ [0, 1, 5]; simp)
          have h5 : ρ 5 = (.agg #[iV x.k, iV x.p, iV x.n, bV x.q], []) := hd 5 (by show 5 ∈ [0, 1, 5]; simp)
          show XL _ _ _ _ _ _ ((23, (ρ 0).1) :: (24, (ρ 1).1) :: (28, (ρ 5).1) :: (_ ++ rest)) _
          rw [h0, h1, h5]
          refine XL_callK [] hone rfl rfl (fun _ => rfl) (fun g hg hL => hs0 g (hG'.trans hg)) (fun u L hv => ?_)
          show XL _ _ _ _ _ _ _ (L ++ [])
          rw [List.append_nil]
          exact XL_nil (Y_job _ (show OneR _ _ _ _ _ _ (upd ρ 6 (u, L) 6).1 (upd ρ 6 (u, L) 6).2 from hv) (by show _ :: (23, (ρ 0).1) :: (24, (ρ 1).1) :: (28, (ρ 5).1) :: (_ ++ rest) = _; rw [h0, h1, h5]; rfl))
        | 7, _ =>
          obtain rfl := Option.some.inj (show some _ = some o from ho)
          have h6 : OneR i As ms cs ls h (ρ 6).1 (ρ 6).2 := hd 6 (by show 6 ∈ [6]; simp)
          show XL _ _ _ _ _ _ ((29, (ρ 6).1) :: (_ ++ rest)) _
          refine XL_xv (XV_op tt_ok rfl) rfl rfl (XL_nil (Y_job (ρ 6).1 ?_ rfl))
          show (upd ρ 7 ((ρ 6).1, []) 7).2 = [] ∧ (upd ρ 7 ((ρ 6).1, []) 7).1 = (upd ρ 7 ((ρ 6).1, []) 6).1 ∧ ∃ (B : Option Addr) (k d : Nat) (h : Int) (xs : List Int), xs.length = 280 ∧ (upd ρ 7 ((ρ 6).1, []) 7).1 = _
          refine ⟨rfl, rfl, ?_⟩
          rcases h6 with ⟨hv, _⟩ | ⟨B, k', d, l', h', _, _, hv, _⟩
          · exact ⟨As, ms, cs, h, seenL ls, sl, hv⟩
          · exact ⟨B, k', d, h', seenL l', seenL_length l', hv⟩
        | 8, _ =>
          obtain rfl := Option.some.inj (show some _ = some o from ho)
          obtain ⟨_, _, B, k', d, h', ys, hy, h7⟩ : (ρ 7).2 = [] ∧ (ρ 7).1 = (ρ 6).1 ∧ ∃ (B : Option Addr) (k d : Nat) (h : Int) (xs : List Int), xs.length = 280 ∧ (ρ 7).1 = .tuple #[.agg #[.slice B k d, iV h], arV xs, .bool true] := hd 7 (by show 7 ∈ [7]; simp)
          show XL _ _ _ _ _ _ ((22, (ρ 7).1) :: (_ ++ rest)) _
          rw [h7]
          exact XL_xv (XV_op tt_ok rfl) rfl rfl (XL_nil (Y_job (.agg #[.slice B k' d, iV h']) (show (upd ρ 8 (.agg #[.slice B k' d, iV h'], []) 8).2 = [] ∧ ∃ (B : Option Addr) (k d : Nat) (h : Int) (xs : List Int), xs.length = 280 ∧ (upd ρ 8 _ 7).1 = _ ∧ (upd ρ 8 _ 8).1 = _ from ⟨rfl, B, k', d, h', ys, hy, h7, rfl⟩) (by show _ :: (22, (ρ 7).1) :: (_ ++ rest) = _; rw [h7]; rfl)))
        | 9, _ =>
          obtain rfl := Option.some.inj (show some _ = some o from ho)
          obtain ⟨_, _, B, k', d, h', ys, hy, h7⟩ : (ρ 7).2 = [] ∧ (ρ 7).1 = (ρ 6).1 ∧ ∃ (B : Option Addr) (k d : Nat) (h : Int) (xs : List Int), xs.length = 280 ∧ (ρ 7).1 = .tuple #[.agg #[.slice B k d, iV h], arV xs, .bool true] := hd 7 (by show 7 ∈ [7]; simp)
          show XL _ _ _ _ _ _ ((22, (ρ 7).1) :: (_ ++ rest)) _
          rw [h7]
          exact XL_xv (XV_op tt_ok rfl) rfl rfl (XL_nil (Y_job (arV ys) (show (upd ρ 9 (arV ys, []) 9).2 = [] ∧ ∃ (B : Option Addr) (k d : Nat) (h : Int) (xs : List Int), xs.length = 280 ∧ (upd ρ 9 _ 7).1 = _ ∧ (upd ρ 9 _ 9).1 = _ from ⟨rfl, B, k', d, h', ys, hy, h7, rfl⟩) (by show _ :: (22, (ρ 7).1) :: (_ ++ rest) = _; rw [h7]; rfl)))
        | 10, _ =>
          obtain rfl := Option.some.inj (show some _ = some o from ho)
          obtain ⟨_, _, B, k', d, h', ys, hy, h7⟩ : (ρ 7).2 = [] ∧ (ρ 7).1 = (ρ 6).1 ∧ ∃ (B : Option Addr) (k d : Nat) (h : Int) (xs : List Int), xs.length = 280 ∧ (ρ 7).1 = .tuple #[.agg #[.slice B k d, iV h], arV xs, .bool true] := hd 7 (by show 7 ∈ [7]; simp)
          show XL _ _ _ _ _ _ ((22, (ρ 7).1) :: (_ ++ rest)) _
          rw [h7]
          exact XL_xv (XV_op tt_ok rfl) rfl rfl (XL_nil (Y_job (.bool true) (show upd ρ 10 _ 10 = _ from rfl) (by show _ :: (22, (ρ 7).1) :: (_ ++ rest) = _; rw [h7]; rfl)))
        | 11, _ =>
          obtain rfl := Option.some.inj (show some _ = some o from ho)
          exact XL_alloc tt_ok rfl rfl (fun _ => rfl) (fun b => XL_nil (Y_job _ (show ∃ b', upd ρ 11 _ 11 = _ from ⟨b, rfl⟩) rfl))
        | 12, _ =>
          obtain rfl := Option.some.inj (show some _ = some o from ho)
          exact XL_alloc tt_ok rfl rfl (fun _ => rfl) (fun b => XL_nil (Y_job _ (show ∃ b', upd ρ 12 _ 12 = _ from ⟨b, rfl⟩) rfl))
        | 13, _ =>
          obtain rfl := Option.some.inj (show some _ = some o from ho)
          obtain ⟨b, h11⟩ : ∃ b, ρ 11 = (ptr b, [blk b [.slice none 0 0, iV 0] 24]) := hu 11 (by show 11 ∈ some 11; simp)
          obtain ⟨_, B, k', d, h', ys, hy, _, h8⟩ : (ρ 8).2 = [] ∧ ∃ (B : Option Addr) (k d : Nat) (h : Int) (xs : List Int), xs.length = 280 ∧ (ρ 7).1 = .tuple #[.agg #[.slice B k d, iV h], arV xs, .bool true] ∧ (ρ 8).1 = .agg #[.slice B k d, iV h] := hd 8 (by show 8 ∈ [8]; simp)
          show XL _ _ _ _ _ _ ((30, (ρ 8).1) :: (6, (ρ 11).1) :: (_ ++ rest)) ((ρ 11).2 ++ [])
          rw [h8, h11]
          refine XL_storeW tt_ok 0 rfl rfl rfl rfl rfl rfl rfl (XL_nil (Y_job (iV 0) (show ∃ (b : Nat) (B : Option Addr) (k d : Nat) (h : Int), (upd ρ 13 _ 11).1 = ptr b ∧ (upd ρ 13 _ 8).1 = .agg #[.slice B k d, iV h] ∧ (upd ρ 13 _ 13).2 = [blk b [.slice B k d, iV h] 24] from ⟨b, B, k', d, h', congrArg Prod.fst h11, h8, rfl⟩) (by show (30, (ρ 8).1) :: (6, (ρ 11).1) :: (_ ++ rest) = _; rw [h8, h11])))
        | 14, _ =>
          obtain rfl := Option.some.inj (show some _ = some o from ho)
          obtain ⟨b, h12⟩ : ∃ b, ρ 12 = (ptr b, [blk b (flat (Cof.encI .u8) (List.replicate 280 0)) 55]) := hu 12 (by show 12 ∈ some 12; simp)
          obtain ⟨_, B, k', d, h', ys, hy, _, h9⟩ : (ρ 9).2 = [] ∧ ∃ (B : Option Addr) (k d : Nat) (h : Int) (xs : List Int), xs.length = 280 ∧ (ρ 7).1 = .tuple #[.agg #[.slice B k d, iV h], arV xs, .bool true] ∧ (ρ 9).1 = arV xs := hd 9 (by show 9 ∈ [9]; simp)
          show XL _ _ _ _ _ _ ((31, (ρ 9).1) :: (7, (ρ 12).1) :: (_ ++ rest)) ((ρ 12).2 ++ [])
          rw [h9, h12]
          refine XL_storeA tt_ok 0 rfl rfl rfl rfl (flat280 hy) rfl (flat_one _ _) (XL_nil (Y_job (iV 0) (show ∃ (b : Nat) (xs : List Int), (upd ρ 14 _ 12).1 = ptr b ∧ xs.length = 280 ∧ (upd ρ 14 _ 9).1 = arV xs ∧ (upd ρ 14 _ 14).2 = [blk b (flat (Cof.encI .u8) xs) 55] from ⟨b, ys, congrArg Prod.fst h12, hy, h9, rfl⟩) (by show (31, (ρ 9).1) :: (7, (ρ 12).1) :: (_ ++ rest) = _; rw [h9, h12])))
        | 15, _ =>
          obtain rfl := Option.some.inj (show some _ = some o from ho)
          have h10 : ρ 10 = (.bool true, []) := hd 10 (by show 10 ∈ [10]; simp)
          show XL _ _ _ _ _ _ ((32, (ρ 10).1) :: (_ ++ rest)) _
          rw [h10]
          exact XL_xv (XV_op tt_ok rfl) rfl rfl (XL_nil (Y_job (.bool true) (show upd ρ 15 _ 15 = _ from rfl) (by show _ :: (32, (ρ 10).1) :: (_ ++ rest) = _; rw [h10]; rfl)))
        | n + 16, hn => exact absurd hn (by show ¬ n + 16 < 16; omega)
      · have h0 : ρ 0 = _ := hr 0 (by decide)
        have h1 : ρ 1 = _ := hr 1 (by decide)
        have h2 : ρ 2 = _ := hr 2 (by decide)
        have h3 : ρ 3 = _ := hr 3 (by decide)
        obtain ⟨a4, h4, _⟩ : ∃ a, ρ 4 = (.pointer (some a), []) ∧ a = (bs A').add ((i : Int).toNat * 4) := hr 4 (by decide)
        have h5 : ρ 5 = _ := hr 5 (by decide)
        have h6 : OneR i As ms cs ls h (ρ 6).1 (ρ 6).2 := hr 6 (by decide)
        obtain ⟨h72, h71, _⟩ : (ρ 7).2 = [] ∧ (ρ 7).1 = (ρ 6).1 ∧ ∃ (B : Option Addr) (k d : Nat) (h : Int) (xs : List Int), xs.length = 280 ∧ (ρ 7).1 = .tuple #[.agg #[.slice B k d, iV h], arV xs, .bool true] := hr 7 (by decide)
        obtain ⟨h82, B8, k8, d8, h8', ys8, _, h87, h88⟩ : (ρ 8).2 = [] ∧ ∃ (B : Option Addr) (k d : Nat) (h : Int) (xs : List Int), xs.length = 280 ∧ (ρ 7).1 = .tuple #[.agg #[.slice B k d, iV h], arV xs, .bool true] ∧ (ρ 8).1 = .agg #[.slice B k d, iV h] := hr 8 (by decide)
        obtain ⟨h92, B9, k9, d9, h9', ys9, _, h97, h99⟩ : (ρ 9).2 = [] ∧ ∃ (B : Option Addr) (k d : Nat) (h : Int) (xs : List Int), xs.length = 280 ∧ (ρ 7).1 = .tuple #[.agg #[.slice B k d, iV h], arV xs, .bool true] ∧ (ρ 9).1 = arV xs := hr 9 (by decide)
        have h10 : ρ 10 = _ := hr 10 (by decide)
        obtain ⟨b11, h11⟩ : ∃ b, ρ 11 = (ptr b, [blk b [.slice none 0 0, iV 0] 24]) := hr 11 (by decide)
        obtain ⟨b12, h12⟩ : ∃ b, ρ 12 = (ptr b, [blk b (flat (Cof.encI .u8) (List.replicate 280 0)) 55]) := hr 12 (by decide)
        obtain ⟨b13, B13, k13, d13, h13', h131, h132, h133⟩ : ∃ (b : Nat) (B : Option Addr) (k d : Nat) (h : Int), (ρ 11).1 = ptr b ∧ (ρ 8).1 = .agg #[.slice B k d, iV h] ∧ (ρ 13).2 = [blk b [.slice B k d, iV h] 24] := hr 13 (by decide)
        obtain ⟨b14, ys14, h141, hy14, h142, h143⟩ : ∃ (b : Nat) (xs : List Int), (ρ 12).1 = ptr b ∧ xs.length = 280 ∧ (ρ 9).1 = arV xs ∧ (ρ 14).2 = [blk b (flat (Cof.encI .u8) xs) 55] := hr 14 (by decide)
        have h15 : ρ 15 = _ := hr 15 (by decide)
        obtain rfl : b11 = b13 := by rw [h11] at h131; simpa using h131
        obtain rfl : b12 = b14 := by rw [h12] at h141; simpa using h141
        have hfl : ∀ {u v : List Int}, arV u = arV v → flat (Cof.encI .u8) u = flat (Cof.encI .u8) v := fun e => by
          have := congrArg (fun x => x.cells.toList) e
          exact this
        have key : ∀ (A1 : Option Addr) (m1 c1 : Nat) (l1 : List Rg) (h1 : Int), (ρ 6).1 = .tuple #[.agg #[.slice A1 m1 c1, iV h1], arV (seenL l1), .bool true] → (ρ 13).2 = [blk b11 [.slice A1 m1 c1, iV h1] 24] ∧ (ρ 14).2 = [blk b12 (flat (Cof.encI .u8) (seenL l1)) 55] := fun A1 m1 c1 l1 hh1 e => by
          have e8 := h87.symm.trans (h71.trans e)
          have e9 := h97.symm.trans (h71.trans e)
          have t8 : Value.agg #[.slice B8 k8 d8, iV h8'] = .agg #[.slice A1 m1 c1, iV hh1] := by
            have := congrArg (fun v => match v with | .tuple a => a[0]! | _ => .bool false) e8
            exact this
          have t9 : arV ys9 = arV (seenL l1) := by
            have := congrArg (fun v => match v with | .tuple a => a[1]! | _ => .bool false) e9
            exact this
          have t13 := h132.symm.trans (h88.trans t8)
          have t14 := h142.symm.trans (h99.trans t9)
          have u13 : [Value.slice B13 k13 d13, iV h13'] = [.slice A1 m1 c1, iV hh1] := by
            have := congrArg (fun x => x.cells.toList) t13
            exact this
          rw [h133, h143, hfl t14, u13]
          exact ⟨rfl, rfl⟩
        show Y _ _ _ _ ((6, (ρ 11).1) :: (7, (ρ 12).1) :: (8, (ρ 15).1) :: _) ((ρ 0).2 ++ ((ρ 1).2 ++ ((ρ 2).2 ++ ((ρ 3).2 ++ ((ρ 4).2 ++ ((ρ 5).2 ++ ((ρ 6).2 ++ ((ρ 7).2 ++ ((ρ 8).2 ++ ((ρ 9).2 ++ ((ρ 10).2 ++ ((ρ 13).2 ++ ((ρ 14).2 ++ ((ρ 15).2 ++ []))))))))))))) ++ _)
        rw [h0, h1, h2, h3, h4, h5, h72, h82, h92, h10, h11, h12, h15]
        rcases h6 with ⟨hv, hL⟩ | ⟨B, k', d, l', h', hst', hm2, hv, hL⟩
        · obtain ⟨k13, k14⟩ := key _ _ _ _ _ hv
          rw [hL, k13, k14]
          exact Y_again (b11, b12, ⟨0, As, ms, cs, ls, h, []⟩) fun _ _ hf hs => ⟨⟨hm, hmc, hst.on⟩, hf.sub (by (repeat' (first | exact trivial | refine And.intro rfl ?_)); done), hs.imp fun h hs => stars_only [2, 0, 0, 0, 0] rfl h hs⟩
        · obtain ⟨k13, k14⟩ := key _ _ _ _ _ hv
          rw [hL, k13, k14]
          exact Y_again (b11, b12, ⟨0, B, k', d, l', h', []⟩) fun _ _ hf hs => by
            obtain ⟨g, _, _, ho⟩ := hs.at (k := 0) rfl
            exact ⟨⟨hm2, (own_len ho).2.1, hst'⟩, hf.sub (by (repeat' (first | exact trivial | refine And.intro rfl ?_)); done), hs.imp fun h hs => by
              have hs := stars_only [0, 0, 0, 1, 1] rfl h hs
              exact stars_conv (B := spR F B k' d l') (k := 0) rfl (fun h o => .inl o) hs⟩
    · intro _
      refine Y_then ?_
      obtain ⟨b6, b7, ⟨_, A2, m2, c2, l2, h2, _⟩⟩ := j; dsimp only
      obtain ⟨j1, j2, hst2⟩ := hj
      replace j1 : m2 = l2.length := j1
      replace j2 : m2 ≤ c2 := j2
      have hst2 : Stp (i + 1) l2 h2 := hst2
      have sl2 := seenL_length l2
      have hlen2 := hst2.good.fine.len
      have hck := scheck_spec A2 m2 c2 l2 h2 (by omega) (rg_in hst2.good.fine)
      rw [sgood_iff.2 hst2.good] at hck
      have hse := seen_spec A2 m2 c2 l2 h2 hst2.good
      have hdr : List.take 280 (List.drop 0 (seenL l2)) = seenL l2 := by rw [List.drop_zero, List.take_of_length_le (by omega)]
      refine X_conv 2 (own (Cof.encI .u8) (some ⟨b7, 0, none⟩) 280 280 (seenL l2)) rfl (fun h o => own_of_blk o sl2.symm rfl (by decide)) ?_
      repeat' (first | (refine XL_id ?_; first | refine XL_nil ?_ | refine XL_guard_yes rfl rfl rfl ?_ | (refine XG_load ?_; first | refine XL_loadW tt_ok 1 rfl rfl rfl rfl rfl rfl ?_ | (refine XL_loadA tt_ok 2 rfl rfl rfl (by omega) rfl rfl rfl rfl ?_; rw [hdr])) | (refine XG_call ?_; first | (refine XL_fn hck rfl rfl (fun g hg hL => by exact (spR_rd 0 rfl hFG hM).le hg) ?_) | (refine XL_fn hse rfl rfl (fun g hg hL => by exact (spR_rd 0 rfl hFG hM).le hg) ?_)) | (refine XG_store ?_; first | refine XL_storeA tt_ok 4 rfl rfl rfl rfl (flat280 sl2) (flat280 sl) (flat_one _ _) ?_ | (refine XL_storeW tt_ok 3 rfl rfl rfl rfl rfl rfl rfl ?_; refine XL_nK 3 rfl (by repeat' (first | exact .nil | apply NL.cons)) ?_)) | (refine XL_op tt_ok rfl rfl ?_; try (refine XL_int (wrap_i64 (by omega) (by omega)) ?_))) | (refine XD_id ?_; first | (refine XD_thaw thaw ?_; refine XD_nil ?_) | (refine XD_id ?_; (first | (refine XD_gL rfl ?_; first | refine XD_sy rfl rfl rfl rfl rfl (XV_loadW tt_ok rfl (blk_at 1 rfl hM) rfl rfl rfl) rfl ?_ | refine XD_sy rfl rfl rfl rfl rfl (XV_loadA tt_ok rfl (rd_at 2 rfl hM) rfl rfl rfl rfl rfl) rfl ?_) | (refine XD_u rfl rfl ?_; refine XD_s rfl rfl rfl (XV_op tt_ok rfl) rfl ?_) | (refine XD_g rfl rfl ?_; first | refine XD_sy rfl rfl rfl rfl rfl (XV_op tt_ok rfl) rfl ?_ | refine XD_sy rfl rfl rfl rfl rfl (XV_neqI eqI280 sl2 sl2 rfl rfl) rfl ?_)); try (first | refine XD_dec_f (by omega) ?_ | refine XD_dec (fun _ => ?_) (fun _ => ?_))) | refine XD_m rfl rfl ?_) | (refine X_id ?_; first | (refine X_drawS (id := 9) [0, 1, 2, 3, 4, 5, 6, 7, 8, 10, 9, 11, 12] (fun | 4 => .m | 9 => .m | _ => .s) 8 (by (repeat apply Split.blk); apply Split.frz; (repeat apply Split.blk); apply Split.frz; repeat' (first | exact Split.nil | apply Split.blk)) mixed (by decide +kernel) ?_; intro G hFG hM thaw; show XD _ _ _ _ _ _ [0, 1, 2, 3, 4, 5, 6, 7, 8, 10, 9, 11, 12] _ _ _) | refine X_seq ?_ | (refine X_regionN (by repeat' (first | exact .nil | apply NL.cons)) ?_) | refine X_skip ?_ | refine X_ret ?_ | refine X_cond_t rfl ?_ | refine X_cond_f rfl ?_) | (refine Y_id ?_; first | refine Y_then ?_ | refine Y_then_ret ?_ | refine Y_block_normal ?_ | refine Y_block_ret ?_ | refine Y_m ?_))
      all_goals first
        | exact Y_again (i + 1, ⟨A2, m2, c2, l2, h2⟩) fun _ _ hf hs => ⟨⟨by show i + 1 ≤ m'; omega, j1, j2, fun _ => hst2, by show i + 1 ≤ 40; omega⟩, by show m' - (i + 1) < m' - i; omega, hf.sub (by (repeat' (first | exact trivial | refine And.intro rfl ?_)); done), hs.imp fun h hs => by first | exact stars_only [0, 2, 2] rfl h hs | exact stars_only [3, 1, 1] rfl h hs | exact stars_only [0, 0, 0] rfl h hs⟩
        | (rename_i h9; exact absurd rfl h9)
        | (exfalso; omega)
        | skip
      
  · repeat' (first | (refine XL_id ?_; first | refine XL_nil ?_ | refine XL_guard_yes rfl rfl rfl ?_ | refine XL_guard_no rfl rfl rfl rfl rfl ?_ | (refine XL_op tt_ok rfl rfl ?_; try (first | refine XL_dec_f (by omega) ?_ | refine XL_dec (fun _ => ?_) (fun _ => ?_)))) | (refine X_id ?_; first | refine X_seq ?_ | (refine X_regionN (by repeat' (first | exact .nil | apply NL.cons)) ?_) | refine X_ret ?_ | refine X_exit ?_ | refine X_cond_f rfl ?_) | (refine Y_id ?_; first | refine Y_then ?_ | refine Y_then_exit ?_ | refine Y_block_hit ?_))
    all_goals first
      | exact Y_fn1 rfl rfl rfl
      | (exfalso; omega)
      | skip
    
end Go.Proofs.Ytalkcemelegohaa
