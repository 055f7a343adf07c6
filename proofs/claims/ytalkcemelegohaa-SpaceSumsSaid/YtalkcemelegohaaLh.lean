/- The law SpaceSums, walked. -/
import Derived.Test.YtalkcemelegohaaPu
set_option linter.unusedVariables false
set_option maxRecDepth 100000
namespace Go.Proofs.Ytalkcemelegohaa
open Go.RowKit Go.Cof
open Vm (Rg encRg rgV)
open Pl (Cd Ly CfR cfV cfL thE)

theorem drop_rev {l : List Sv} {j : Nat} (h : j < l.length) : (l.drop j).reverse = (l.drop (j + 1)).reverse ++ [Cof.get l (j : Int)] := by
  rw [List.drop_eq_getElem_cons h, List.reverse_cons, get_getElem h]
theorem half_le {x : Int} (h : 0 ≤ x) : 0 ≤ x.tdiv 2 ∧ x.tdiv 2 ≤ x := by
  rw [Int.tdiv_eq_ediv_of_nonneg h]; omega
set_option maxHeartbeats 32000000 in
theorem spaceSums_walk (A : Option Addr) (m c : Nat) (ss : List Sv) (d : Cd) (y : Ly) (p : Int) (hm : m ≤ 4398046511104) (hmc : m ≤ c) (hS : ∀ s ∈ ss, s.Ok) (hd : d.In) (hf : y.Fit) :
    FnC Try.prog 7 [.slice A m c, cfV d y, iV p] (fun g => SvsR g A m ss ∧ CfR g d y) (.bool true) := by
  obtain ⟨K, hK⟩ : ∃ K : Nat, (if (16 : Int) < (m : Int) then (16 : Int) else (m : Int)) = (K : Int) ∧ K ≤ 16 ∧ K ≤ m := by
    by_cases h : (16 : Int) < (m : Int)
    · exact ⟨16, by rw [if_pos h]; rfl, by omega, by omega⟩
    · exact ⟨m, by rw [if_neg h], by omega, by omega⟩
  obtain ⟨hK, hK16, hKm⟩ := hK
  have eK : ((K : Int)).toNat = K := by omega
  refine Ctr.intro Try.func7 rfl rfl (by decide +kernel) fun F hpre => ?_
  have r0 : SvsR F.heap A m ss := hpre.1
  have rc : CfR F.heap d y := hpre.2
  have hfit := fun n => fits_spec d y hd hf rc.len p n
  have hlen := r0.rd.1
  obtain ⟨tt, htt⟩ : ∃ tt, ss.take K = tt := ⟨_, rfl⟩
  have hsub : ∀ s ∈ tt, s ∈ ss := fun s hs => List.mem_of_mem_take (by rw [htt]; exact hs)
  have hS : ∀ s ∈ tt, s.Ok := fun s hs => hS s (hsub s hs)
  have r1 : SvsR F.heap A K tt := ⟨by rw [← htt]; exact r0.rd.take K hKm, fun s hs => r0.sub s (hsub s hs)⟩
  have tlen : K = tt.length := r1.rd.1
  clear hsub htt
  have hp := sum_spec A K c tt (by omega) hS
  obtain ⟨⟨n, e⟩, hX⟩ : ∃ X, sumR (tt.map key) = X := ⟨_, rfl⟩
  rw [hX] at hp
  have hp : FnC Try.prog 21 [.slice A K c] (fun g => SvsR g A K tt) (.tuple #[ndV n.a n.b n.c n.d, iV e]) := hp
  by_cases he : e = 0
  · subst he
    obtain ⟨_, hgood, hn⟩ := sumR_ok hX
    have hpos := totN_pos _ hgood
    have hna : n.a = K := by rw [hn, totN_len, List.length_map, ← tlen]
    rw [← hn, List.length_map, ← tlen] at hpos
    repeat' (first | (refine XL_id ?_; first | refine XL_nil ?_ | (refine XG_box ?_; (refine XL_box rfl (fun _ => rfl) (fun b4 => ?_); refine XL_nB (by repeat' (first | exact .nil | apply NL.cons)) ?_)) | (refine XG_call ?_; first | (refine XL_op tt_ok rfl rfl ?_; refine XL_int hK ?_) | (refine XL_op tt_ok rfl rfl ?_) | refine XL_fn works_spec rfl rfl (fun _ _ _ => trivial) ?_ | refine XL_fn hp rfl rfl (fun g hg hL => r1.le hg) ?_) | (refine XG_slice ?_; (refine XL_slice0 tt_ok rfl rfl rfl (.hi (by omega) (by omega)) rfl rfl rfl rfl ?_; rw [eK])) | (refine XG_alloc ?_; (refine XL_alloc tt_ok rfl rfl (fun _ => rfl) (fun b7 => ?_); refine XL_nB (by repeat' (first | exact .nil | apply NL.cons)) ?_)) | (refine XG_store ?_; (refine XL_storeW tt_ok 0 rfl rfl rfl rfl rfl rfl rfl ?_; refine XL_nK 0 rfl (by repeat' (first | exact .nil | apply NL.cons)) ?_)) | (refine XL_op tt_ok rfl rfl ?_; try (first | refine XL_int (wrap_i64 (by omega) (by omega)) ?_ | refine XL_dec_f (by omega) ?_))) | (refine X_id ?_; first | refine X_block (id := 0) (hold ?_) | refine X_seq ?_ | (refine X_regionN (by repeat' (first | exact .nil | apply NL.cons)) ?_) | refine X_skip ?_ | refine X_cond_f rfl ?_) | (refine Y_id ?_; refine Y_then ?_))
    all_goals first
      | (exfalso; omega)
      | (rename_i h9; exact absurd rfl h9)
      | skip
    intro _
    refine X_loopD4 [0, 2, 4, 7] (fun (i : Nat) (B : Option Addr) (k : Nat) (z : Int) => [(10, .int .i64 z), (9, .slice B i k)]) (fun i B k z => [own encSv B i k (tt.drop (K - i)).reverse, blk b7 [iV n.a, iV n.b, iV n.c, iV n.d] 45, blk b4 (cfL d y) 65]) (fun i B k z => i ≤ K ∧ z = (K : Int) - 1 - (i : Int)) (fun i _ _ _ => K - i) 0 none 0 ((K : Int) - 1) rfl ⟨Nat.zero_le _, by omega⟩ (by (repeat' (first | exact trivial | refine And.intro rfl ?_)); done) (fun h hs => stars_new (show own encSv none 0 0 (tt.drop (K - 0)).reverse _ by rw [List.drop_of_length_le (by omega)]; exact own_nil encSv _) hs) ?_
    intro i B k z hi
    obtain ⟨hi, hz⟩ := hi
    by_cases hlt : i < K
    · obtain ⟨j, hj⟩ : ∃ j, j = K - 1 - i := ⟨_, rfl⟩
      obtain rfl : z = (j : Int) := by omega
      have hrev := drop_rev (l := tt) (j := j) (by omega)
      rw [show j + 1 = K - i from by omega] at hrev
      have rr := r1.rd
      repeat' (first | (refine XL_id ?_; first | refine XL_nil ?_ | (refine XG_load ?_; refine XL_elW tt_ok rfl (by assumption) rfl (by omega) (by omega) rfl rfl rfl rfl ?_) | (refine XG_idx ?_; refine XL_idx tt_ok rfl rfl rfl rfl rfl (by assumption) (by omega) (by omega) rfl ?_) | (refine XG_call ?_; (refine XL_app1 (E := encSv) tt_ok 1 0 (Cof.get tt (j : Int)) rfl rfl rfl rfl rfl rfl rfl rfl rfl rfl rfl (by show (_ : Nat) * 32 ≤ _; omega) (by omega) (fun _ _ => rfl) (fun B2 k2 => ?_))) | (refine XG_lit ?_; (refine XL_lit tt_ok rfl rfl rfl rfl rfl rfl rfl rfl rfl (fun _ => rfl) (fun b => ?_); refine XL_nB (by repeat' (first | exact .nil | apply NL.cons)) ?_)) | (refine XL_op tt_ok rfl rfl ?_; try (first | refine XL_int (wrap_i64 (by omega) (by omega)) ?_ | refine XL_dec_t (by omega) ?_))) | (refine X_id ?_; first | refine X_seq ?_ | (refine X_regionN (by repeat' (first | exact .nil | apply NL.cons)) ?_) | refine X_skip ?_ | refine X_block ?_ | refine X_cond_t rfl ?_) | (refine Y_id ?_; first | refine Y_then ?_ | refine Y_block_normal ?_))
      all_goals first
        | exact Y_again (i + 1, B2, k2, (j : Int) - 1) fun _ _ hf hs => ⟨⟨by show i + 1 ≤ K; omega, by show (j : Int) - 1 = (K : Int) - 1 - ((i + 1 : Nat) : Int); omega⟩, by show K - (i + 1) < K - i; omega, hf.sub (by (repeat' (first | exact trivial | refine And.intro rfl ?_)); done), hs.imp fun h hs => by
            have h1 := stars_only [1, 1, 1] rfl h hs
            rw [← hrev, show j = K - (i + 1) from by omega] at h1
            exact h1⟩
        | (exfalso; omega)
        | skip
      
    · obtain rfl : i = K := by omega
      rw [Nat.sub_self, List.drop_zero]
      have hp2 := sum_spec B i k tt.reverse (by omega) (fun s hs => hS s (List.mem_reverse.1 hs))
      have hX2 : sumR (tt.reverse.map key) = (n, 0) := by
        rw [List.map_reverse, sumR_good (by rw [List.length_reverse, List.length_map]; omega) (fun q hq => hgood q (List.mem_reverse.1 hq)), totN_reverse, ← hn]
      rw [hX2] at hp2
      have hp2 : FnC Try.prog 21 [.slice B i k] (fun g => SvsR g B i tt.reverse) (.tuple #[ndV n.a n.b n.c n.d, iV 0]) := hp2
      obtain ⟨⟨ft, fe⟩, hF⟩ : ∃ X, fitR d p n = X := ⟨_, rfl⟩
      have hfn := hfit n
      rw [hF] at hfn
      have hfn : FnC Try.prog 29 [cfV d y, iV p, ndV n.a n.b n.c n.d] (fun h => CfR h d y) (.tuple #[.bool ft, iV fe]) := hfn
      have hone : 0 < i → ∃ n3 : Nd, FnC Try.prog 21 [.slice (sbA A 2 1 c) (i - 1) (c - 1)] (fun g => SvsR g (sbA A 2 1 c) (i - 1) (tt.drop 1)) (.tuple #[ndV n3.a n3.b n3.c n3.d, iV 0]) ∧ n3.b ≤ n.b ∧ n3.c < n.c ∧ n3.d ≤ n.d := fun h0 => by
        have hp3 := sum_spec (sbA A 2 1 c) (i - 1) (c - 1) (tt.drop 1) (by omega) (fun s hs => hS s (List.mem_of_mem_drop hs))
        have hg3 : ∀ q ∈ (tt.drop 1).map key, scheck q.1 q.2 = 0 := fun q hq => by
          obtain ⟨s, hs, rfl⟩ := List.mem_map.1 hq
          exact hgood _ (List.mem_map.2 ⟨s, List.mem_of_mem_drop hs, rfl⟩)
        rw [sumR_good (by rw [List.length_map, List.length_drop]; omega) hg3] at hp3
        refine ⟨totN ((tt.drop 1).map key), hp3, ?_⟩
        have e : tt.map key = key (Cof.get tt ((0 : Nat) : Int)) :: (tt.drop 1).map key := by
          conv => lhs; rw [show tt = tt.drop 0 from rfl, Vm.drop_get tt 0 (by omega)]
          rfl
        have hs0 := sgood_iff.1 (hgood (key (Cof.get tt ((0 : Nat) : Int))) (by rw [e]; simp))
        have p1 := pages_rng hs0.fine
        have p2 := tables_rng (key (Cof.get tt ((0 : Nat) : Int))).1
        rw [hn, e]
        exact ⟨by show _ ≤ pagesN _ + _; omega, by show _ < tablesN _ + _; omega, by show _ ≤ (((key (Cof.get tt ((0 : Nat) : Int))).1.length : Nat) : Int) + _; omega⟩
      have r3 : 0 < i → SvsR F.heap (sbA A 2 1 c) (i - 1) (tt.drop 1) := fun h0 => by
        have := r1.rd.sub (l := 1) (k := i) (cc := c) (by omega) (Nat.le_refl _) (by omega)
        rw [List.take_of_length_le (by omega)] at this
        exact ⟨this, fun s hs => r1.sub s (List.mem_of_mem_drop hs)⟩
      cases ft
      · by_cases h0 : 0 < i
        · obtain ⟨n3, hp3, m1, m2, m3⟩ := hone h0
          have r3 := r3 h0
          repeat' (first | (refine XL_id ?_; first | refine XL_nil ?_ | refine XL_guard_yes rfl rfl rfl ?_ | refine XL_guard_no rfl rfl rfl rfl rfl ?_ | (refine XL_neq (a := n) (b := n) eqNd rfl rfl rfl ?_; refine XL_dec_f (fun h => h rfl) ?_) | (refine XG_call ?_; first | (refine XL_op tt_ok rfl rfl ?_) | refine XL_fn hp2 rfl rfl (fun g hg hL => ⟨rd_at 0 rfl hL, fun s hs => (r1.sub s (List.mem_reverse.1 hs)).le hg⟩) ?_ | refine XL_fn hp3 rfl rfl (fun g hg hL => r3.le hg) ?_ | refine XL_fn hfn rfl rfl (fun g hg hL => rc.le hg) ?_) | (refine XG_load ?_; first | refine XL_loadW tt_ok 0 rfl rfl rfl rfl rfl rfl ?_ | refine XL_loadW tt_ok 2 rfl rfl rfl rfl rfl rfl ?_ | refine XL_loadW tt_ok 3 rfl rfl rfl rfl rfl rfl ?_ | refine XL_loadW tt_ok 4 rfl rfl rfl rfl rfl rfl ?_ | refine XL_load tt_ok 0 rfl rfl rfl rfl rfl rfl ?_ | refine XL_load tt_ok 2 rfl rfl rfl rfl rfl rfl ?_ | refine XL_load tt_ok 3 rfl rfl rfl rfl rfl rfl ?_) | (refine XG_slice ?_; refine XL_slice tt_ok rfl rfl rfl rfl (.lo (by omega) (by omega)) rfl rfl rfl rfl ?_) | (refine XG_alloc ?_; (refine XL_alloc tt_ok rfl rfl (fun _ => rfl) (fun b => ?_); refine XL_nB (by repeat' (first | exact .nil | apply NL.cons)) ?_)) | (refine XG_store ?_; (refine XL_storeW tt_ok 0 rfl rfl rfl rfl rfl rfl rfl ?_; refine XL_nK 0 rfl (by repeat' (first | exact .nil | apply NL.cons)) ?_)) | (refine XL_op tt_ok rfl rfl ?_; try (first | refine XL_dec_t (by omega) ?_ | refine XL_dec_f (by omega) ?_ | refine XL_dec (fun _ => ?_) (fun _ => ?_)))) | (refine X_id ?_; first | refine X_seq ?_ | (refine X_regionN (by repeat' (first | exact .nil | apply NL.cons)) ?_) | refine X_skip ?_ | refine X_ret ?_ | refine X_exit ?_ | refine X_cond_t rfl ?_ | refine X_cond_f rfl ?_) | (refine Y_id ?_; first | refine Y_then ?_ | refine Y_then_ret ?_ | refine Y_then_exit ?_ | refine Y_block_hit ?_))
          all_goals first
            | exact Y_fn1 rfl rfl rfl
            | (exfalso; omega)
            | (rename_i h9; exact absurd rfl h9)
            | skip
          
        · skip
          repeat' (first | (refine XL_id ?_; first | refine XL_nil ?_ | refine XL_guard_yes rfl rfl rfl ?_ | refine XL_guard_no rfl rfl rfl rfl rfl ?_ | (refine XL_neq (a := n) (b := n) eqNd rfl rfl rfl ?_; refine XL_dec_f (fun h => h rfl) ?_) | (refine XG_call ?_; first | (refine XL_op tt_ok rfl rfl ?_) | refine XL_fn hp2 rfl rfl (fun g hg hL => ⟨rd_at 0 rfl hL, fun s hs => (r1.sub s (List.mem_reverse.1 hs)).le hg⟩) ?_ | refine XL_fn hfn rfl rfl (fun g hg hL => rc.le hg) ?_) | (refine XG_load ?_; first | refine XL_loadW tt_ok 0 rfl rfl rfl rfl rfl rfl ?_ | refine XL_loadW tt_ok 2 rfl rfl rfl rfl rfl rfl ?_ | refine XL_loadW tt_ok 3 rfl rfl rfl rfl rfl rfl ?_ | refine XL_load tt_ok 2 rfl rfl rfl rfl rfl rfl ?_) | (refine XG_alloc ?_; (refine XL_alloc tt_ok rfl rfl (fun _ => rfl) (fun b => ?_); refine XL_nB (by repeat' (first | exact .nil | apply NL.cons)) ?_)) | (refine XG_store ?_; (refine XL_storeW tt_ok 0 rfl rfl rfl rfl rfl rfl rfl ?_; refine XL_nK 0 rfl (by repeat' (first | exact .nil | apply NL.cons)) ?_)) | (refine XL_op tt_ok rfl rfl ?_; try (first | refine XL_dec_f (by omega) ?_ | refine XL_dec (fun _ => ?_) (fun _ => ?_)))) | (refine X_id ?_; first | refine X_seq ?_ | (refine X_regionN (by repeat' (first | exact .nil | apply NL.cons)) ?_) | refine X_skip ?_ | refine X_ret ?_ | refine X_exit ?_ | refine X_cond_t rfl ?_ | refine X_cond_f rfl ?_) | (refine Y_id ?_; first | refine Y_then ?_ | refine Y_then_ret ?_ | refine Y_then_exit ?_ | refine Y_block_hit ?_))
          all_goals first
            | exact Y_fn1 rfl rfl rfl
            | (exfalso; omega)
            | (rename_i h9; exact absurd rfl h9)
            | skip
          
      · by_cases hfe : fe = 0
        · subst hfe
          have hl : ∀ k : Nd, (0 ≤ k.a ∧ k.a ≤ n.a) → (0 ≤ k.b ∧ k.b ≤ n.b) → (0 ≤ k.c ∧ k.c ≤ n.c) → (0 ≤ k.d ∧ k.d ≤ n.d) → FnC Try.prog 29 [cfV d y, iV p, ndV k.a k.b k.c k.d] (fun h => CfR h d y) (.tuple #[.bool true, iV 0]) := fun k a1 a2 a3 a4 => by
            have := hfit k
            rw [fit_less hF a1 a2 a3 a4] at this
            exact this
          have g0 := hl ⟨n.a / 2, n.b, n.c, n.d⟩ (by show 0 ≤ n.a / 2 ∧ n.a / 2 ≤ n.a; omega) (by show 0 ≤ n.b ∧ n.b ≤ n.b; omega) (by show 0 ≤ n.c ∧ n.c ≤ n.c; omega) (by show 0 ≤ n.d ∧ n.d ≤ n.d; omega)
          have g1 := hl ⟨n.a, n.b / 2, n.c, n.d⟩ (by show 0 ≤ n.a ∧ n.a ≤ n.a; omega) (by show 0 ≤ n.b / 2 ∧ n.b / 2 ≤ n.b; omega) (by show 0 ≤ n.c ∧ n.c ≤ n.c; omega) (by show 0 ≤ n.d ∧ n.d ≤ n.d; omega)
          have g2 := hl ⟨n.a, n.b, n.c / 2, n.d⟩ (by show 0 ≤ n.a ∧ n.a ≤ n.a; omega) (by show 0 ≤ n.b ∧ n.b ≤ n.b; omega) (by show 0 ≤ n.c / 2 ∧ n.c / 2 ≤ n.c; omega) (by show 0 ≤ n.d ∧ n.d ≤ n.d; omega)
          have g3 := hl ⟨n.a, n.b, n.c, n.d / 2⟩ (by show 0 ≤ n.a ∧ n.a ≤ n.a; omega) (by show 0 ≤ n.b ∧ n.b ≤ n.b; omega) (by show 0 ≤ n.c ∧ n.c ≤ n.c; omega) (by show 0 ≤ n.d / 2 ∧ n.d / 2 ≤ n.d; omega)
          by_cases h0 : 0 < i
          · obtain ⟨n3, hp3, m1, m2, m3⟩ := hone h0
            have r3 := r3 h0
            repeat' (first | (refine XL_id ?_; first | refine XL_nil ?_ | refine XL_guard_yes rfl rfl rfl ?_ | (refine XL_neq (a := n) (b := n) eqNd rfl rfl rfl ?_; refine XL_dec_f (fun h => h rfl) ?_) | (refine XG_call ?_; first | (refine XL_op tt_ok rfl rfl ?_) | refine XL_fn hp2 rfl rfl (fun g hg hL => ⟨rd_at 0 rfl hL, fun s hs => (r1.sub s (List.mem_reverse.1 hs)).le hg⟩) ?_ | refine XL_fn hp3 rfl rfl (fun g hg hL => r3.le hg) ?_ | refine XL_fn hfn rfl rfl (fun g hg hL => rc.le hg) ?_) | (refine XG_load ?_; first | refine XL_loadW tt_ok 0 rfl rfl rfl rfl rfl rfl ?_ | refine XL_loadW tt_ok 2 rfl rfl rfl rfl rfl rfl ?_ | refine XL_loadW tt_ok 3 rfl rfl rfl rfl rfl rfl ?_ | refine XL_loadW tt_ok 4 rfl rfl rfl rfl rfl rfl ?_ | refine XL_load tt_ok 0 rfl rfl rfl rfl rfl rfl ?_ | refine XL_load tt_ok 2 rfl rfl rfl rfl rfl rfl ?_ | refine XL_load tt_ok 3 rfl rfl rfl rfl rfl rfl ?_) | (refine XG_slice ?_; refine XL_slice tt_ok rfl rfl rfl rfl (.lo (by omega) (by omega)) rfl rfl rfl rfl ?_) | (refine XG_alloc ?_; (refine XL_alloc tt_ok rfl rfl (fun _ => rfl) (fun b => ?_); refine XL_nB (by repeat' (first | exact .nil | apply NL.cons)) ?_)) | (refine XG_store ?_; (refine XL_storeW tt_ok 0 rfl rfl rfl rfl rfl rfl rfl ?_; refine XL_nK 0 rfl (by repeat' (first | exact .nil | apply NL.cons)) ?_)) | (refine XL_op tt_ok rfl rfl ?_; try (first | refine XL_dec_t (by omega) ?_ | refine XL_dec_f (by omega) ?_))) | (refine X_id ?_; first | refine X_block (id := 2) (hold ?_) | refine X_seq ?_ | (refine X_regionN (by repeat' (first | exact .nil | apply NL.cons)) ?_) | refine X_skip ?_ | refine X_exit ?_ | refine X_cond_t rfl ?_ | refine X_cond_f rfl ?_) | (refine Y_id ?_; first | refine Y_then ?_ | refine Y_then_exit ?_ | refine Y_block_hit ?_))
            all_goals first
              | exact Y_fn1 rfl rfl rfl
              | (exfalso; omega)
              | (rename_i h9; exact absurd rfl h9)
              | skip
            intro _
            refine X_loopD [2, 4, 7] (fun (q : Nat) => [(17, .int .i64 q)]) (fun _ => [blk b7 [iV n.a, iV n.b, iV n.c, iV n.d] 45, blk b4 (cfL d y) 65]) (fun q => q ≤ 4) (fun q => 4 - q) 0 rfl (Nat.zero_le _) (by (repeat' (first | exact trivial | refine And.intro rfl ?_)); done) (fun h hs => stars_only [3, 3] rfl h hs) ?_
            intro q hq
            replace hq : q ≤ 4 := hq
            by_cases hlt : q < 4
            · have h4 : q = 0 ∨ q = 1 ∨ q = 2 ∨ q = 3 := by omega
              rcases h4 with rfl | rfl | rfl | rfl
              all_goals (
                repeat' (first | (refine XL_id ?_; first | refine XL_nil ?_ | refine XL_guard_yes rfl rfl rfl ?_ | (refine XG_load ?_; first | refine XL_loadW tt_ok 0 rfl rfl rfl rfl rfl rfl ?_ | refine XL_loadW tt_ok 2 rfl rfl rfl rfl rfl rfl ?_ | refine XL_load tt_ok 0 rfl rfl rfl rfl rfl rfl ?_) | (refine XG_call ?_; first | refine XL_fn g0 rfl rfl (fun g hg hL => rc.le hg) ?_ | refine XL_fn g1 rfl rfl (fun g hg hL => rc.le hg) ?_ | refine XL_fn g2 rfl rfl (fun g hg hL => rc.le hg) ?_ | refine XL_fn g3 rfl rfl (fun g hg hL => rc.le hg) ?_) | (refine XG_alloc ?_; (refine XL_alloc tt_ok rfl rfl (fun _ => rfl) (fun b => ?_); refine XL_nB (by repeat' (first | exact .nil | apply NL.cons)) ?_)) | (refine XG_store ?_; first | (refine XL_storeW tt_ok 0 rfl rfl rfl rfl rfl rfl rfl ?_; refine XL_nK 0 rfl (by repeat' (first | exact .nil | apply NL.cons)) ?_) | (refine XL_store tt_ok 0 rfl rfl rfl rfl rfl rfl rfl rfl ?_; refine XL_nK 0 rfl (by repeat' (first | exact .nil | apply NL.cons)) ?_)) | (refine XL_op tt_ok rfl rfl ?_; try (first | refine XL_int (wrap_i64 (by omega) (by omega)) ?_ | refine XL_int (quo_i64 (by omega) (by omega) (by omega)) ?_ | refine XL_dec_t (by omega) ?_ | refine XL_dec_f (by omega) ?_))) | (refine X_id ?_; first | refine X_seq ?_ | (refine X_regionN (by repeat' (first | exact .nil | apply NL.cons)) ?_) | refine X_skip ?_ | refine X_block ?_ | refine X_cond_t rfl ?_ | refine X_cond_f rfl ?_) | (refine Y_id ?_; first | refine Y_then ?_ | refine Y_block_normal ?_))
                all_goals first
                  | exact Y_again (0 + 1) fun _ _ hf hs => ⟨by decide, by decide, hf.sub (by (repeat' (first | exact trivial | refine And.intro rfl ?_)); done), hs.imp fun h hs => stars_only [1, 1] rfl h hs⟩
                  | exact Y_again (1 + 1) fun _ _ hf hs => ⟨by decide, by decide, hf.sub (by (repeat' (first | exact trivial | refine And.intro rfl ?_)); done), hs.imp fun h hs => stars_only [1, 1] rfl h hs⟩
                  | exact Y_again (2 + 1) fun _ _ hf hs => ⟨by decide, by decide, hf.sub (by (repeat' (first | exact trivial | refine And.intro rfl ?_)); done), hs.imp fun h hs => stars_only [1, 1] rfl h hs⟩
                  | exact Y_again (3 + 1) fun _ _ hf hs => ⟨by decide, by decide, hf.sub (by (repeat' (first | exact trivial | refine And.intro rfl ?_)); done), hs.imp fun h hs => stars_only [1, 1] rfl h hs⟩
                  | (exfalso; omega)
                  | (rename_i h9; exact absurd rfl h9)
                  | skip
                
              )
            · repeat' (first | (refine XL_id ?_; first | refine XL_nil ?_ | (refine XL_op tt_ok rfl rfl ?_; try (refine XL_dec_f (by omega) ?_))) | (refine X_id ?_; first | refine X_seq ?_ | (refine X_regionN (by repeat' (first | exact .nil | apply NL.cons)) ?_) | refine X_ret ?_ | refine X_exit ?_ | refine X_cond_f rfl ?_) | (refine Y_id ?_; first | refine Y_then ?_ | refine Y_then_exit ?_ | refine Y_block_hit ?_))
              all_goals first
                | exact Y_fn1 rfl rfl rfl
                | (exfalso; omega)
                | skip
              
          · skip
            repeat' (first | (refine XL_id ?_; first | refine XL_nil ?_ | refine XL_guard_yes rfl rfl rfl ?_ | (refine XL_neq (a := n) (b := n) eqNd rfl rfl rfl ?_; refine XL_dec_f (fun h => h rfl) ?_) | (refine XG_call ?_; first | (refine XL_op tt_ok rfl rfl ?_) | refine XL_fn hp2 rfl rfl (fun g hg hL => ⟨rd_at 0 rfl hL, fun s hs => (r1.sub s (List.mem_reverse.1 hs)).le hg⟩) ?_ | refine XL_fn hfn rfl rfl (fun g hg hL => rc.le hg) ?_) | (refine XG_load ?_; first | refine XL_loadW tt_ok 0 rfl rfl rfl rfl rfl rfl ?_ | refine XL_loadW tt_ok 2 rfl rfl rfl rfl rfl rfl ?_ | refine XL_loadW tt_ok 3 rfl rfl rfl rfl rfl rfl ?_ | refine XL_load tt_ok 2 rfl rfl rfl rfl rfl rfl ?_) | (refine XG_alloc ?_; (refine XL_alloc tt_ok rfl rfl (fun _ => rfl) (fun b => ?_); refine XL_nB (by repeat' (first | exact .nil | apply NL.cons)) ?_)) | (refine XG_store ?_; (refine XL_storeW tt_ok 0 rfl rfl rfl rfl rfl rfl rfl ?_; refine XL_nK 0 rfl (by repeat' (first | exact .nil | apply NL.cons)) ?_)) | (refine XL_op tt_ok rfl rfl ?_; try (refine XL_dec_f (by omega) ?_))) | (refine X_id ?_; first | refine X_block (id := 2) (hold ?_) | refine X_seq ?_ | (refine X_regionN (by repeat' (first | exact .nil | apply NL.cons)) ?_) | refine X_skip ?_ | refine X_exit ?_ | refine X_cond_f rfl ?_) | (refine Y_id ?_; first | refine Y_then ?_ | refine Y_then_exit ?_ | refine Y_block_hit ?_))
            all_goals first
              | exact Y_fn1 rfl rfl rfl
              | (exfalso; omega)
              | (rename_i h9; exact absurd rfl h9)
              | skip
            intro _
            refine X_loopD [2, 4, 7] (fun (q : Nat) => [(17, .int .i64 q)]) (fun _ => [blk b7 [iV n.a, iV n.b, iV n.c, iV n.d] 45, blk b4 (cfL d y) 65]) (fun q => q ≤ 4) (fun q => 4 - q) 0 rfl (Nat.zero_le _) (by (repeat' (first | exact trivial | refine And.intro rfl ?_)); done) (fun h hs => stars_only [2, 2] rfl h hs) ?_
            intro q hq
            replace hq : q ≤ 4 := hq
            by_cases hlt : q < 4
            · have h4 : q = 0 ∨ q = 1 ∨ q = 2 ∨ q = 3 := by omega
              rcases h4 with rfl | rfl | rfl | rfl
              all_goals (
                repeat' (first | (refine XL_id ?_; first | refine XL_nil ?_ | refine XL_guard_yes rfl rfl rfl ?_ | (refine XG_load ?_; first | refine XL_loadW tt_ok 0 rfl rfl rfl rfl rfl rfl ?_ | refine XL_loadW tt_ok 2 rfl rfl rfl rfl rfl rfl ?_ | refine XL_load tt_ok 0 rfl rfl rfl rfl rfl rfl ?_) | (refine XG_call ?_; first | refine XL_fn g0 rfl rfl (fun g hg hL => rc.le hg) ?_ | refine XL_fn g1 rfl rfl (fun g hg hL => rc.le hg) ?_ | refine XL_fn g2 rfl rfl (fun g hg hL => rc.le hg) ?_ | refine XL_fn g3 rfl rfl (fun g hg hL => rc.le hg) ?_) | (refine XG_alloc ?_; (refine XL_alloc tt_ok rfl rfl (fun _ => rfl) (fun b => ?_); refine XL_nB (by repeat' (first | exact .nil | apply NL.cons)) ?_)) | (refine XG_store ?_; first | (refine XL_storeW tt_ok 0 rfl rfl rfl rfl rfl rfl rfl ?_; refine XL_nK 0 rfl (by repeat' (first | exact .nil | apply NL.cons)) ?_) | (refine XL_store tt_ok 0 rfl rfl rfl rfl rfl rfl rfl rfl ?_; refine XL_nK 0 rfl (by repeat' (first | exact .nil | apply NL.cons)) ?_)) | (refine XL_op tt_ok rfl rfl ?_; try (first | refine XL_int (wrap_i64 (by omega) (by omega)) ?_ | refine XL_int (quo_i64 (by omega) (by omega) (by omega)) ?_ | refine XL_dec_t (by omega) ?_ | refine XL_dec_f (by omega) ?_))) | (refine X_id ?_; first | refine X_seq ?_ | (refine X_regionN (by repeat' (first | exact .nil | apply NL.cons)) ?_) | refine X_skip ?_ | refine X_block ?_ | refine X_cond_t rfl ?_ | refine X_cond_f rfl ?_) | (refine Y_id ?_; first | refine Y_then ?_ | refine Y_block_normal ?_))
                all_goals first
                  | exact Y_again (0 + 1) fun _ _ hf hs => ⟨by decide, by decide, hf.sub (by (repeat' (first | exact trivial | refine And.intro rfl ?_)); done), hs.imp fun h hs => stars_only [1, 1] rfl h hs⟩
                  | exact Y_again (1 + 1) fun _ _ hf hs => ⟨by decide, by decide, hf.sub (by (repeat' (first | exact trivial | refine And.intro rfl ?_)); done), hs.imp fun h hs => stars_only [1, 1] rfl h hs⟩
                  | exact Y_again (2 + 1) fun _ _ hf hs => ⟨by decide, by decide, hf.sub (by (repeat' (first | exact trivial | refine And.intro rfl ?_)); done), hs.imp fun h hs => stars_only [1, 1] rfl h hs⟩
                  | exact Y_again (3 + 1) fun _ _ hf hs => ⟨by decide, by decide, hf.sub (by (repeat' (first | exact trivial | refine And.intro rfl ?_)); done), hs.imp fun h hs => stars_only [1, 1] rfl h hs⟩
                  | (exfalso; omega)
                  | (rename_i h9; exact absurd rfl h9)
                  | skip
                
              )
            · repeat' (first | (refine XL_id ?_; first | refine XL_nil ?_ | (refine XL_op tt_ok rfl rfl ?_; try (refine XL_dec_f (by omega) ?_))) | (refine X_id ?_; first | refine X_seq ?_ | (refine X_regionN (by repeat' (first | exact .nil | apply NL.cons)) ?_) | refine X_ret ?_ | refine X_exit ?_ | refine X_cond_f rfl ?_) | (refine Y_id ?_; first | refine Y_then ?_ | refine Y_then_exit ?_ | refine Y_block_hit ?_))
              all_goals first
                | exact Y_fn1 rfl rfl rfl
                | (exfalso; omega)
                | skip
              
        · by_cases h0 : 0 < i
          · obtain ⟨n3, hp3, m1, m2, m3⟩ := hone h0
            have r3 := r3 h0
            repeat' (first | (refine XL_id ?_; first | refine XL_nil ?_ | refine XL_guard_yes rfl rfl rfl ?_ | refine XL_guard_no rfl rfl rfl rfl rfl ?_ | (refine XL_neq (a := n) (b := n) eqNd rfl rfl rfl ?_; refine XL_dec_f (fun h => h rfl) ?_) | (refine XG_call ?_; first | (refine XL_op tt_ok rfl rfl ?_) | refine XL_fn hp2 rfl rfl (fun g hg hL => ⟨rd_at 0 rfl hL, fun s hs => (r1.sub s (List.mem_reverse.1 hs)).le hg⟩) ?_ | refine XL_fn hp3 rfl rfl (fun g hg hL => r3.le hg) ?_ | refine XL_fn hfn rfl rfl (fun g hg hL => rc.le hg) ?_) | (refine XG_load ?_; first | refine XL_loadW tt_ok 0 rfl rfl rfl rfl rfl rfl ?_ | refine XL_loadW tt_ok 2 rfl rfl rfl rfl rfl rfl ?_ | refine XL_loadW tt_ok 3 rfl rfl rfl rfl rfl rfl ?_ | refine XL_loadW tt_ok 4 rfl rfl rfl rfl rfl rfl ?_ | refine XL_load tt_ok 0 rfl rfl rfl rfl rfl rfl ?_ | refine XL_load tt_ok 2 rfl rfl rfl rfl rfl rfl ?_ | refine XL_load tt_ok 3 rfl rfl rfl rfl rfl rfl ?_) | (refine XG_slice ?_; refine XL_slice tt_ok rfl rfl rfl rfl (.lo (by omega) (by omega)) rfl rfl rfl rfl ?_) | (refine XG_alloc ?_; (refine XL_alloc tt_ok rfl rfl (fun _ => rfl) (fun b => ?_); refine XL_nB (by repeat' (first | exact .nil | apply NL.cons)) ?_)) | (refine XG_store ?_; (refine XL_storeW tt_ok 0 rfl rfl rfl rfl rfl rfl rfl ?_; refine XL_nK 0 rfl (by repeat' (first | exact .nil | apply NL.cons)) ?_)) | (refine XL_op tt_ok rfl rfl ?_; try (first | refine XL_dec_t (by omega) ?_ | refine XL_dec_f (by omega) ?_))) | (refine X_id ?_; first | refine X_seq ?_ | (refine X_regionN (by repeat' (first | exact .nil | apply NL.cons)) ?_) | refine X_skip ?_ | refine X_ret ?_ | refine X_exit ?_ | refine X_cond_t rfl ?_ | refine X_cond_f rfl ?_) | (refine Y_id ?_; first | refine Y_then ?_ | refine Y_then_ret ?_ | refine Y_then_exit ?_ | refine Y_block_hit ?_))
            all_goals first
              | exact Y_fn1 rfl rfl rfl
              | (exfalso; omega)
              | (rename_i h9; exact absurd rfl h9)
              | skip
            
          · skip
            repeat' (first | (refine XL_id ?_; first | refine XL_nil ?_ | refine XL_guard_yes rfl rfl rfl ?_ | refine XL_guard_no rfl rfl rfl rfl rfl ?_ | (refine XL_neq (a := n) (b := n) eqNd rfl rfl rfl ?_; refine XL_dec_f (fun h => h rfl) ?_) | (refine XG_call ?_; first | (refine XL_op tt_ok rfl rfl ?_) | refine XL_fn hp2 rfl rfl (fun g hg hL => ⟨rd_at 0 rfl hL, fun s hs => (r1.sub s (List.mem_reverse.1 hs)).le hg⟩) ?_ | refine XL_fn hfn rfl rfl (fun g hg hL => rc.le hg) ?_) | (refine XG_load ?_; first | refine XL_loadW tt_ok 0 rfl rfl rfl rfl rfl rfl ?_ | refine XL_loadW tt_ok 2 rfl rfl rfl rfl rfl rfl ?_ | refine XL_loadW tt_ok 3 rfl rfl rfl rfl rfl rfl ?_ | refine XL_load tt_ok 2 rfl rfl rfl rfl rfl rfl ?_) | (refine XG_alloc ?_; (refine XL_alloc tt_ok rfl rfl (fun _ => rfl) (fun b => ?_); refine XL_nB (by repeat' (first | exact .nil | apply NL.cons)) ?_)) | (refine XG_store ?_; (refine XL_storeW tt_ok 0 rfl rfl rfl rfl rfl rfl rfl ?_; refine XL_nK 0 rfl (by repeat' (first | exact .nil | apply NL.cons)) ?_)) | (refine XL_op tt_ok rfl rfl ?_; try (first | refine XL_dec_t (by omega) ?_ | refine XL_dec_f (by omega) ?_))) | (refine X_id ?_; first | refine X_seq ?_ | (refine X_regionN (by repeat' (first | exact .nil | apply NL.cons)) ?_) | refine X_skip ?_ | refine X_ret ?_ | refine X_exit ?_ | refine X_cond_t rfl ?_ | refine X_cond_f rfl ?_) | (refine Y_id ?_; first | refine Y_then ?_ | refine Y_then_ret ?_ | refine Y_then_exit ?_ | refine Y_block_hit ?_))
            all_goals first
              | exact Y_fn1 rfl rfl rfl
              | (exfalso; omega)
              | (rename_i h9; exact absurd rfl h9)
              | skip
            
  · have hn := sumR_bad hX he
    subst hn
    repeat' (first | (refine XL_id ?_; first | refine XL_nil ?_ | (refine XL_eq (a := (⟨0, 0, 0, 0⟩ : Nd)) (b := (⟨0, 0, 0, 0⟩ : Nd)) eqNd rfl rfl rfl ?_; refine XL_dec_t rfl ?_) | (refine XG_load ?_; refine XL_loadW tt_ok 0 rfl rfl rfl rfl rfl rfl ?_) | (refine XG_box ?_; (refine XL_box rfl (fun _ => rfl) (fun _ => ?_); refine XL_nB (by repeat' (first | exact .nil | apply NL.cons)) ?_)) | (refine XG_build ?_; (refine XL_build tt_ok rfl rfl rfl rfl rfl rfl rfl ?_; refine XL_aggN (by repeat' (first | exact .nil | apply NL.cons)) ?_)) | (refine XG_call ?_; first | (refine XL_op tt_ok rfl rfl ?_; refine XL_int hK ?_) | (refine XL_op tt_ok rfl rfl ?_) | refine XL_fn works_spec rfl rfl (fun _ _ _ => trivial) ?_ | refine XL_fn hp rfl rfl (fun g hg hL => r1.le hg) ?_) | (refine XG_slice ?_; (refine XL_slice0 tt_ok rfl rfl rfl (.hi (by omega) (by omega)) rfl rfl rfl rfl ?_; rw [eK])) | (refine XG_alloc ?_; (refine XL_alloc tt_ok rfl rfl (fun _ => rfl) (fun b => ?_); refine XL_nB (by repeat' (first | exact .nil | apply NL.cons)) ?_)) | (refine XG_store ?_; (refine XL_storeW tt_ok 0 rfl rfl rfl rfl rfl rfl rfl ?_; refine XL_nK 0 rfl (by repeat' (first | exact .nil | apply NL.cons)) ?_)) | (refine XL_op tt_ok rfl rfl ?_; try (refine XL_dec_t (by omega) ?_))) | (refine X_id ?_; first | refine X_seq ?_ | (refine X_regionN (by repeat' (first | exact .nil | apply NL.cons)) ?_) | refine X_skip ?_ | refine X_ret ?_ | refine X_cond_t rfl ?_ | refine X_cond_f rfl ?_) | (refine Y_id ?_; first | refine Y_then ?_ | refine Y_then_ret ?_))
    all_goals first
      | exact Y_fn1 rfl rfl rfl
      | (exfalso; omega)
      | (rename_i h9; exact absurd rfl h9)
      | skip
    
end Go.Proofs.Ytalkcemelegohaa
