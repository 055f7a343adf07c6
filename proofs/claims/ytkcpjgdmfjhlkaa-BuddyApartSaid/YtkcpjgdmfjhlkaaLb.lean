/- The lists, compared. -/
import Derived.Test.YtkcpjgdmfjhlkaaLa
set_option linter.unusedVariables false
namespace Go.Proofs.Ytkcpjgdmfjhlkaa
open Go.RowKit Go.Cof

theorem rlists_is (r : Nat) (op : List Bool) (tl : List Int) (hn : op.length ≤ 4096) : Ctr Try.prog 30 [ptr r] (fun _ => True) [isRb r op tl] (fun v L => ∃ q : In (In Int), q.xs.map In.xs = lsF op ∧ v = slV q ∧ L = [isLl q, isRb r op tl]) := by
  refine ⟨(rlists_spec r 0 0 [] (lsF []) (by decide) (lsF_pl [])).1, fun F w _ hs => ?_⟩
  obtain ⟨g, h1, h2, h3⟩ := hs.own
  obtain ⟨k1, k2, d', a', b', ⟨x, hx, hM⟩, hR⟩ := h3
  have hs2 : St F w ([] ++ rbM r op tl x) := ⟨hs.os, hs.tape, hs.output, hs.size, hs.frz, g, h1, h2, stars_up hM a'⟩
  refine (Ctr.call (A := []) (R := rbM r op tl x) (rlists_spec r x.1 x.2 op (lsF op) hn (lsF_pl op)) hs2 (fun g hg hL => ⟨blk_at 0 rfl hL, rd_at 1 rfl hL⟩)).mono fun e w' ⟨v, L', he, ⟨q, hq, hv, hL⟩, hs'⟩ => ⟨v, [isLl q, isRb r op tl], he, ⟨q, hq, hv, rfl⟩, ?_⟩
  subst hL
  refine hs'.imp fun g hg => ?_
  have h5 : stars (isRb r op tl :: [isLl q]) g := stars_shut (isRb_mk rfl hx) (stars_take [1, 1, 1] rfl hg)
  exact stars_swap h5
theorem rfree_is (r : Nat) (op : List Bool) (tl : List Int) (hn : op.length ≤ 4096) : Ctr Try.prog 17 [ptr r] (fun _ => True) [isRb r op tl] (fun v L => v = iV (cntB op) ∧ L = [isRb r op tl]) :=
  Ctr.on (rfree_spec r 0 0 [] (by decide)).1 (fun _ h => h) (fun x hx h hh => ⟨x, hx, hh⟩) fun x hx => Ctr.mono (rfree_spec r x.1 x.2 op hn) (fun g hg => ⟨blk_at 0 rfl hg, rd_at 1 rfl hg⟩) fun v L hv => ⟨L, hv, fun _ h => h⟩
theorem rwhole_is (r : Nat) (op : List Bool) (tl : List Int) (hn : op.length ≤ 4096) : Ctr Try.prog 19 [ptr r] (fun _ => True) [isRb r op tl] (fun v L => v = .bool (decide ((cntB op : Int) = op.length)) ∧ L = [isRb r op tl]) :=
  Ctr.on (rwhole_spec r 0 0 [] (by decide)).1 (fun _ h => h) (fun x hx h hh => ⟨x, hx, hh⟩) fun x hx => Ctr.mono (rwhole_spec r x.1 x.2 op hn) (fun g hg => ⟨blk_at 0 rfl hg, rd_at 1 rfl hg⟩) fun v L hv => ⟨L, hv, fun _ h => h⟩
theorem ll_at {L : List HProp} (k : Nat) {q : In (In Int)} (hk : L[k]? = some (isLl q)) {g : Hp} (hL : stars L g) : isLl q g := by
  obtain ⟨g1, hl, h1, h2⟩ := at_mem k hk hL
  exact ⟨h1, stars_up h2 hl⟩
set_option maxHeartbeats 8000000 in
theorem lists_walk (p n r : Nat) (op : List Bool) (fs : List (List Int)) (tk : Int → Option Int) (tl : List Int) (hn : op.length ≤ 4096) (hb : BOk op fs) : Ctr Try.prog 20 [ptr p, ptr r] (fun _ => True) [isBd p n fs tk, isRb r op tl] (fun v L => v = .bool true ∧ L = [isBd p n fs tk, isRb r op tl]) := by
  refine Ctr.intro Try.func20 rfl rfl (by decide +kernel) fun F hpre => ?_
  have hfs := hb.fs
  have hli := lists_is p n fs tk
  have hrl := rlists_is r op tl hn
  rw [← hfs] at hrl
  repeat' (first | (refine XL_id ?_; first | refine XL_nil ?_ | (refine XG_call ?_; first | (refine XL_callK [0] hli rfl rfl (fun _ => rfl) (fun _ _ _ => trivial) (fun u L hv => ?_); obtain ⟨qa, hqa, rfl, rfl⟩ := hv) | (refine XL_callK [1] hli rfl rfl (fun _ => rfl) (fun _ _ _ => trivial) (fun u L hv => ?_); obtain ⟨qc, hqc, rfl, rfl⟩ := hv) | (refine XL_callK [3] hrl rfl rfl (fun _ => rfl) (fun _ _ _ => trivial) (fun u L hv => ?_); obtain ⟨qw, hqw, rfl, rfl⟩ := hv) | (refine XL_fn (rsame_spec _ qw) rfl rfl (fun g hg hL => ⟨ll_at 4 rfl hL, ll_at 0 rfl hL⟩) ?_; refine XL_dec_t (by rw [hqw]; assumption) ?_)) | (refine XL_op tt_ok rfl rfl ?_)) | (refine X_id ?_; first | refine X_block (id := 0) (hold ?_) | refine X_seq ?_ | (refine X_regionN (by repeat' (first | exact .nil | apply NL.cons)) ?_) | refine X_skip ?_ | refine X_cond_f rfl ?_) | (refine Y_id ?_; refine Y_then ?_))
  intro _
  refine X_fact 4 rfl (fun h hs => hs.1) fun hfa => ?_
  obtain ⟨ha7, haf⟩ := hfa
  refine X_mem (fun _ hh => isLl_flat (stars_take [4] rfl hh)) ?_
  refine X_fact 0 rfl (fun _ o => (own_len o).1) fun hal => ?_
  refine X_loopD2 [0, 5, 6, 7] (fun (i : Nat) (l : List (In Int)) => [(8, .int .i64 i)]) (fun _ l => [own (encIn Int) qa.A qa.m qa.c l, allI encN l, isLl qw, isRb r op tl, isLl qc, isBd p n fs tk]) (fun i l => i ≤ 7 ∧ l.length = 7 ∧ ∀ j : Nat, i ≤ j → j < 7 → (Cof.get l (j : Int)).m ≤ 4096) (fun i _ => 7 - i) 0 qa.xs rfl ⟨Nat.zero_le _, by omega, fun j _ hj => haf _ (get_mem' (by omega) (by omega))⟩ (by (repeat' (first | exact trivial | refine And.intro rfl ?_)); done) (fun h hs => hs) ?_
  intro i l hi
  obtain ⟨hi, hl7, hlm⟩ := hi
  by_cases hlt : i < 7
  · have hmi := hlm i (Nat.le_refl _) hlt
    have hset : ∀ (q : In Int) (j : Nat), i + 1 ≤ j → j < 7 → (Cof.get (l.set i q) (j : Int)).m ≤ 4096 := fun q j h1 h2 => by
      rw [get_set (by omega), if_neg (by omega)]
      exact hlm j (by omega) h2
    repeat' (first | (refine XL_id ?_; first | refine XL_nil ?_ | (refine XL_op tt_ok rfl rfl ?_; try (refine XL_dec_t (by omega) ?_))) | (refine X_id ?_; first | refine X_block (id := 2) (hold ?_) | refine X_seq ?_ | (refine X_regionN (by repeat' (first | exact .nil | apply NL.cons)) ?_) | refine X_skip ?_ | refine X_block ?_ | refine X_cond_t rfl ?_) | (refine Y_id ?_; refine Y_then ?_))
    intro _
    refine X_mem (fun _ hh => allI_own (i := i) (by omega) (stars_swap hh)) ?_
    refine X_loopD2 [0, 5, 6, 7, 8] (fun (k : Nat) (zs : List Int) => [(9, .int .i64 k)]) (fun _ zs => [own encN (Cof.get l (i : Int)).A (Cof.get l (i : Int)).m (Cof.get l (i : Int)).c zs, allI encN (l.eraseIdx i), own (encIn Int) qa.A qa.m qa.c l, isLl qw, isRb r op tl, isLl qc, isBd p n fs tk]) (fun k _ => k ≤ (Cof.get l (i : Int)).m) (fun k _ => (Cof.get l (i : Int)).m - k) 0 (Cof.get l (i : Int)).xs rfl (Nat.zero_le _) (by (repeat' (first | exact trivial | refine And.intro rfl ?_)); done) (fun h hs => hs) ?_
    intro k zs hk
    have hk : k ≤ (Cof.get l (i : Int)).m := hk
    by_cases hlt2 : k < (Cof.get l (i : Int)).m
    · repeat' (first | (refine XL_id ?_; first | refine XL_nil ?_ | (refine XG_load ?_; refine XL_elo tt_ok 2 rfl rfl rfl (by omega) (by omega) rfl rfl rfl rfl ?_) | (refine XG_idx ?_; first | refine XL_idxo tt_ok 0 rfl rfl rfl rfl rfl rfl (by omega) (by omega) rfl ?_ | refine XL_idxo tt_ok 2 rfl rfl rfl rfl rfl rfl (by omega) (by omega) rfl ?_) | (refine XG_store ?_; refine XL_putO tt_ok 0 (-9 : Int) rfl rfl rfl rfl rfl rfl rfl (by omega) rfl ?_) | (refine XL_op tt_ok rfl rfl ?_; try (first | refine XL_int (wrap_i64 (by omega) (by omega)) ?_ | refine XL_dec_t (by omega) ?_))) | (refine X_id ?_; first | refine X_seq ?_ | (refine X_regionN (by repeat' (first | exact .nil | apply NL.cons)) ?_) | refine X_skip ?_ | refine X_block ?_ | refine X_cond_t rfl ?_) | (refine Y_id ?_; first | refine Y_then ?_ | refine Y_block_normal ?_))
      all_goals first
        | exact Y_again (k + 1, _) fun _ _ hf hs => ⟨hlt2, by show (Cof.get l (i : Int)).m - (k + 1) < (Cof.get l (i : Int)).m - k; omega, hf.sub (by (repeat' (first | exact trivial | refine And.intro rfl ?_)); done), hs⟩
        | (exfalso; omega)
        | skip
      
    · repeat' (first | (refine XL_id ?_; first | refine XL_nil ?_ | (refine XG_load ?_; refine XL_elo tt_ok 2 rfl rfl rfl (by omega) (by omega) rfl rfl rfl rfl ?_) | (refine XG_idx ?_; first | refine XL_idxo tt_ok 2 rfl rfl rfl rfl rfl rfl (by omega) (by omega) rfl ?_ | refine XL_idxo tt_ok 3 rfl rfl rfl rfl rfl rfl (by omega) (by omega) rfl ?_) | (refine XG_call ?_; first | (refine XL_op tt_ok rfl rfl ?_) | (refine XL_app (ys := [-8, -7]) tt_ok 1 rfl rfl (fun w hs => by obtain ⟨g, hg, _, hA⟩ := hs.at (k := 0) rfl; exact (blk_rdS (E := encN) (xs := [-8, -7]) (m := 2) hA rfl rfl).le hg) rfl rfl rfl rfl rfl rfl rfl (by show (_ : Nat) * 8 ≤ _; omega) (by omega) (fun _ _ => rfl) (fun A3 c3 => ?_))) | (refine XG_store ?_; refine XL_putO tt_ok 3 (⟨A3, (Cof.get l (i : Int)).m + 2, c3, zs ++ [-8, -7]⟩ : In Int) rfl rfl rfl rfl rfl rfl rfl (by omega) rfl ?_) | (refine XG_lit ?_; (refine XL_lit tt_ok rfl rfl rfl rfl rfl rfl rfl rfl rfl (fun _ => rfl) (fun b => ?_); refine XL_nB (by repeat' (first | exact .nil | apply NL.cons)) ?_)) | (refine XL_op tt_ok rfl rfl ?_; try (first | refine XL_int (wrap_i64 (by omega) (by omega)) ?_ | refine XL_dec_f (by omega) ?_))) | (refine X_id ?_; first | refine X_seq ?_ | (refine X_regionN (by repeat' (first | exact .nil | apply NL.cons)) ?_) | refine X_exit ?_ | refine X_cond_f rfl ?_) | (refine Y_id ?_; first | refine Y_then ?_ | refine Y_then_exit ?_ | refine Y_block_hit ?_ | refine Y_block_normal ?_))
      all_goals first
        | exact Y_again (i + 1, l.set i ⟨A3, (Cof.get l (i : Int)).m + 2, c3, zs ++ [-8, -7]⟩) fun _ _ hf hs => ⟨⟨hlt, by rw [List.length_set]; exact hl7, hset _⟩, by show 7 - (i + 1) < 7 - i; omega, hf.sub (by (repeat' (first | exact trivial | refine And.intro rfl ?_)); done), hs.imp fun h hs => stars_swap (allI_put (i := i) (by omega) ⟨A3, (Cof.get l (i : Int)).m + 2, c3, zs ++ [-8, -7]⟩ (stars_only [1, 1, 1, 1, 1, 1, 1] rfl h hs))⟩
        | (exfalso; omega)
        | skip
      
  · repeat' (first | (refine XL_id ?_; first | refine XL_nil ?_ | refine XL_guard_yes rfl rfl rfl ?_ | (refine XG_call ?_; first | (refine XL_op tt_ok rfl rfl ?_) | (refine XL_fn (rsame_spec qc qw) rfl rfl (fun g hg hL => ⟨ll_at 4 rfl hL, ll_at 2 rfl hL⟩) ?_; refine XL_dec_t (by rw [hqw]; exact hqc) ?_) | (refine XL_callK [5] hli rfl rfl (fun _ => rfl) (fun _ _ _ => trivial) (fun u L hv => ?_); obtain ⟨qd, hqd, rfl, rfl⟩ := hv) | (refine XL_fn (rsame_spec qd qw) rfl rfl (fun g hg hL => ⟨ll_at 0 rfl hL, ll_at 4 rfl hL⟩) ?_; refine XL_dec_t (by rw [hqw]; exact hqd) ?_)) | (refine XL_op tt_ok rfl rfl ?_; try (refine XL_dec_f (by omega) ?_))) | (refine X_id ?_; first | refine X_seq ?_ | (refine X_regionN (by repeat' (first | exact .nil | apply NL.cons)) ?_) | refine X_ret ?_ | refine X_exit ?_ | refine X_cond_f rfl ?_) | (refine Y_id ?_; first | refine Y_then ?_ | refine Y_then_exit ?_ | refine Y_block_hit ?_))
    all_goals first
      | exact Y_ret1 rfl rfl (stars_only [1, 4] rfl) ⟨rfl, rfl⟩
      | (exfalso; omega)
      | skip
    
end Go.Proofs.Ytkcpjgdmfjhlkaa
