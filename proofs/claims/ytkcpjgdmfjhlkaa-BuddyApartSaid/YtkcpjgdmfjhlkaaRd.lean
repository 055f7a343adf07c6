/- The document's answer: Take, Give. -/
import Derived.Test.YtkcpjgdmfjhlkaaRc
set_option linter.unusedVariables false
namespace Go.Proofs.Ytkcpjgdmfjhlkaa
open Go.RowKit Go.Cof

theorem setN_step {op : List Bool} {a i : Nat} {v : Bool} (h : a ≤ i) : setN op a (i + 1 - a) v = (setN op a (i - a) v).set i v := by
  rw [Nat.succ_sub h, setN, Nat.add_sub_cancel' h]
theorem isLl_flat {q : In (In Int)} {L : List HProp} {h : Hp} (hs : stars (isLl q :: L) h) : stars ([own (encIn Int) q.A q.m q.c q.xs, allI encN q.xs] ++ L) h := starsFlat (stars_imp (fun _ o => o.2) hs)
theorem rtakeBad_spec (r : Nat) (o : Int) (ho : o < 0 ∨ 6 < o) : FnC Try.prog 12 [ptr r, iV o] (fun _ => True) (.tuple #[iV 0, iV 2]) := by
  refine Ctr.intro Try.func12 rfl rfl (by decide +kernel) fun F hpre => ?_
  repeat' (first | (refine XL_id ?_; first | refine XL_nil ?_ | refine XL_guard_yes rfl rfl rfl ?_ | refine XL_guard_no rfl rfl rfl rfl rfl ?_ | (refine XL_op tt_ok rfl rfl ?_; try (first | refine XL_dec_t (by omega) ?_ | refine XL_dec (fun _ => ?_) (fun _ => ?_)))) | (refine X_id ?_; first | refine X_seq ?_ | (refine X_regionN (by repeat' (exact .nil)) ?_) | refine X_ret ?_ | refine X_cond_t rfl ?_) | (refine Y_id ?_; first | refine Y_then ?_ | refine Y_then_ret ?_))
  all_goals first
    | exact Y_fn2 rfl rfl rfl rfl
    | (exfalso; omega)
    | skip
  
set_option maxHeartbeats 8000000 in
theorem rtakeNo_spec (r : Nat) (op : List Bool) (tl : List Int) (fs : List (List Int)) (o : Nat) (ho : o ≤ 6) (hn : op.length ≤ 4096) (hfs : Pl fs (Mx op)) (he : ∀ j : Nat, o ≤ j → j ≤ 6 → Cof.get fs (j : Int) = []) : Ctr Try.prog 12 [ptr r, iV o] (fun _ => True) [isRb r op tl] (fun v L => v = .tuple #[iV 0, iV 90] ∧ L = [isRb r op tl]) := by
  refine Ctr.intro Try.func12 rfl rfl (by decide +kernel) fun F hpre => ?_
  refine X_openp 0 rfl (fun _ hh => hh) fun x htl => ?_
  repeat' (first | (refine XL_id ?_; first | refine XL_nil ?_ | refine XL_guard_yes rfl rfl rfl ?_ | (refine XG_call ?_; (refine XL_callK [] (rlists_spec r x.1 x.2 op fs hn hfs) rfl rfl (fun _ => rfl) (fun g hg hL => ⟨blk_at 0 rfl hL, rd_at 1 rfl hL⟩) (fun u L hv => ?_); obtain ⟨q, hq, rfl, rfl⟩ := hv; refine XL_fact 0 rfl (fun h hs => hs.1) (fun hfit => ?_); obtain ⟨hq7, hqf⟩ := hfit; refine XL_mem (fun h hs => isLl_flat hs) ?_)) | (refine XL_op tt_ok rfl rfl ?_; try (refine XL_dec_f (by omega) ?_))) | (refine X_id ?_; first | refine X_block (id := 0) (hold ?_) | refine X_seq ?_ | (refine X_regionN (by repeat' (first | exact .nil | apply NL.cons)) ?_) | refine X_skip ?_ | refine X_cond_f rfl ?_) | (refine Y_id ?_; refine Y_then ?_))
  all_goals first
    | (exfalso; omega)
    | skip
  intro _
  refine X_fact 0 rfl (fun _ o => own_len o) fun hlen => ?_
  obtain ⟨hl, _, _⟩ := hlen
  refine X_loopD [0, 1, 6] (fun (i : Nat) => [(7, .int .i64 i)]) (fun _ => [own (encIn Int) q.A q.m q.c q.xs, allI encN q.xs] ++ rbM r op tl x) (fun i => o ≤ i ∧ i ≤ 7) (fun i => 7 - i) o rfl ⟨Nat.le_refl _, by omega⟩ (by (repeat' (first | exact trivial | refine And.intro rfl ?_)); done) (fun _ h => h) ?_
  intro i hi
  obtain ⟨hoi, hi⟩ := hi
  by_cases hlt : i ≤ 6
  · have hei := he i hoi hlt
    rw [← hq, get_map In.xs (by omega)] at hei
    refine X_fact 1 rfl (fun _ o => (allI_rd o (i := i) (by omega)).1) fun hm0 => ?_
    rw [hei, List.length_nil] at hm0
    repeat' (first | (refine XL_id ?_; first | refine XL_nil ?_ | (refine XG_load ?_; refine XL_elo tt_ok 0 rfl rfl rfl (by omega) (by omega) rfl rfl rfl rfl ?_) | (refine XG_idx ?_; refine XL_idxo tt_ok 0 rfl rfl rfl rfl rfl rfl (by omega) (by omega) rfl ?_) | (refine XL_op tt_ok rfl rfl ?_; try (first | refine XL_int (wrap_i64 (by omega) (by omega)) ?_ | refine XL_dec_t (by omega) ?_))) | (refine X_id ?_; first | refine X_seq ?_ | (refine X_regionN (by repeat' (first | exact .nil | apply NL.cons)) ?_) | refine X_skip ?_ | refine X_exit ?_ | refine X_block ?_ | refine X_cond_t rfl ?_) | (refine Y_id ?_; first | refine Y_then ?_ | refine Y_then_exit ?_ | refine Y_block_hit ?_))
    all_goals first
      | exact Y_again (i + 1) fun _ _ hf hs => ⟨⟨by omega, by omega⟩, by show 7 - (i + 1) < 7 - i; omega, hf.sub (by (repeat' (first | exact trivial | refine And.intro rfl ?_)); done), hs⟩
      | (exfalso; omega)
      | skip
    
  · repeat' (first | (refine XL_id ?_; first | refine XL_nil ?_ | (refine XL_op tt_ok rfl rfl ?_; try (refine XL_dec_f (by omega) ?_))) | (refine X_id ?_; first | refine X_seq ?_ | (refine X_regionN (by repeat' (first | exact .nil | apply NL.cons)) ?_) | refine X_ret ?_ | refine X_exit ?_ | refine X_cond_f rfl ?_) | (refine Y_id ?_; first | refine Y_then ?_ | refine Y_then_exit ?_ | refine Y_block_hit ?_))
    all_goals first
      | exact Y_ret2 rfl rfl rfl (stars_fin [2, 2, 2] rfl (isRb_mk rfl htl)) ⟨rfl, rfl⟩
      | (exfalso; omega)
      | skip
    
set_option maxHeartbeats 8000000 in
theorem rtakeOk_spec (r : Nat) (op : List Bool) (tl : List Int) (fs : List (List Int)) (o k a : Nat) (hn : op.length ≤ 4096) (hfs : Pl fs (Mx op)) (hok6 : k ≤ 6) (hok1 : o ≤ k) (he : ∀ j : Nat, o ≤ j → j < k → Cof.get fs (j : Int) = []) (hne : Cof.get fs (k : Int) ≠ []) (ha : Cof.get (Cof.get fs (k : Int)) 0 = a) (hal : a + 2 ^ o ≤ op.length) :
    Ctr Try.prog 12 [ptr r, iV o] (fun _ => True) [isRb r op tl] (fun v L => v = .tuple #[iV a, iV 0] ∧ L = [isRb r (setN op a (2 ^ o) false) (tl.set a (1 + o))]) := by
  have hlk : 0 < (Cof.get fs (k : Int)).length := List.length_pos_iff.2 hne
  obtain ⟨P, hP⟩ : ∃ P, 2 ^ o = P := ⟨_, rfl⟩
  have hP0 := two_pos o
  rw [hP] at hal ⊢
  refine Ctr.intro Try.func12 rfl rfl (by decide +kernel) fun F hpre => ?_
  refine X_openp 0 rfl (fun _ hh => hh) fun x htl => ?_
  repeat' (first | (refine XL_id ?_; first | refine XL_nil ?_ | refine XL_guard_yes rfl rfl rfl ?_ | (refine XG_call ?_; (refine XL_callK [] (rlists_spec r x.1 x.2 op fs hn hfs) rfl rfl (fun _ => rfl) (fun g hg hL => ⟨blk_at 0 rfl hL, rd_at 1 rfl hL⟩) (fun u L hv => ?_); obtain ⟨q, hq, rfl, rfl⟩ := hv; refine XL_fact 0 rfl (fun h hs => hs.1) (fun hfit => ?_); obtain ⟨hq7, hqf⟩ := hfit; refine XL_mem (fun h hs => isLl_flat hs) ?_)) | (refine XL_op tt_ok rfl rfl ?_; try (refine XL_dec_f (by omega) ?_))) | (refine X_id ?_; first | refine X_block (id := 0) (hold ?_) | refine X_seq ?_ | (refine X_regionN (by repeat' (first | exact .nil | apply NL.cons)) ?_) | refine X_skip ?_ | refine X_cond_f rfl ?_) | (refine Y_id ?_; refine Y_then ?_))
  all_goals first
    | (exfalso; omega)
    | skip
  intro _
  refine X_fact 0 rfl (fun _ o => own_len o) fun hlen => ?_
  obtain ⟨hl, _, _⟩ := hlen
  refine X_loopD [0, 1, 6] (fun (i : Nat) => [(7, .int .i64 i)]) (fun _ => [own (encIn Int) q.A q.m q.c q.xs, allI encN q.xs] ++ rbM r op tl x) (fun i => o ≤ i ∧ i ≤ k) (fun i => k - i) o rfl ⟨Nat.le_refl _, hok1⟩ (by (repeat' (first | exact trivial | refine And.intro rfl ?_)); done) (fun _ h => h) ?_
  intro i hi
  obtain ⟨hoi, hi⟩ := hi
  refine X_fact 1 rfl (fun _ o => (allI_rd o (i := i) (by omega)).1) fun hm0 => ?_
  by_cases hlt : i < k
  · have hei := he i hoi hlt
    rw [← hq, get_map In.xs (by omega)] at hei
    rw [hei, List.length_nil] at hm0
    repeat' (first | (refine XL_id ?_; first | refine XL_nil ?_ | (refine XG_load ?_; refine XL_elo tt_ok 0 rfl rfl rfl (by omega) (by omega) rfl rfl rfl rfl ?_) | (refine XG_idx ?_; refine XL_idxo tt_ok 0 rfl rfl rfl rfl rfl rfl (by omega) (by omega) rfl ?_) | (refine XL_op tt_ok rfl rfl ?_; try (first | refine XL_int (wrap_i64 (by omega) (by omega)) ?_ | refine XL_dec_t (by omega) ?_))) | (refine X_id ?_; first | refine X_seq ?_ | (refine X_regionN (by repeat' (first | exact .nil | apply NL.cons)) ?_) | refine X_skip ?_ | refine X_exit ?_ | refine X_block ?_ | refine X_cond_t rfl ?_) | (refine Y_id ?_; first | refine Y_then ?_ | refine Y_then_exit ?_ | refine Y_block_hit ?_))
    all_goals first
      | exact Y_again (i + 1) fun _ _ hf hs => ⟨⟨by omega, by omega⟩, by show k - (i + 1) < k - i; omega, hf.sub (by (repeat' (first | exact trivial | refine And.intro rfl ?_)); done), hs⟩
      | (exfalso; omega)
      | skip
    
  · obtain rfl : i = k := by omega
    rw [← hq, get_map In.xs (by omega)] at hlk ha
    refine X_mem (fun _ hh => allI_own (i := i) (by omega) (stars_swap hh)) ?_
    repeat' (first | (refine XL_id ?_; first | refine XL_int ha ?_ | refine XL_nil ?_ | (refine XG_load ?_; first | refine XL_elo tt_ok 0 rfl rfl rfl (by omega) (by omega) rfl rfl rfl rfl ?_ | refine XL_elo tt_ok 2 rfl rfl rfl (by omega) (by omega) rfl rfl rfl rfl ?_) | (refine XG_idx ?_; first | refine XL_idxo tt_ok 0 rfl rfl rfl rfl rfl rfl (by omega) (by omega) rfl ?_ | refine XL_idxo tt_ok 2 rfl rfl rfl rfl rfl rfl (by omega) (by omega) rfl ?_) | (refine XL_op tt_ok rfl rfl ?_; try (first | refine XL_dec_t (by omega) ?_ | refine XL_dec_f (by omega) ?_))) | (refine X_id ?_; first | refine X_block (id := 2) (hold ?_) | refine X_seq ?_ | (refine X_regionN (by repeat' (first | exact .nil | apply NL.cons)) ?_) | refine X_skip ?_ | refine X_block ?_ | refine X_cond_t rfl ?_ | refine X_cond_f rfl ?_) | (refine Y_id ?_; refine Y_then ?_))
    all_goals first
      | (exfalso; omega)
      | skip
    intro _
    refine X_loopD [0, 1, 6, 7, 8] (fun (j : Nat) => [(9, .int .i64 j)]) (fun j => [rbB r x.1 x.2 op.length, own encB (some ⟨x.1, 0, none⟩) op.length op.length (setN op a (j - a) false), own encN (some ⟨x.2, 0, none⟩) op.length op.length tl]) (fun j => a ≤ j ∧ j ≤ a + P) (fun j => a + P - j) a rfl ⟨Nat.le_refl _, by omega⟩ (by (repeat' (first | exact trivial | refine And.intro rfl ?_)); done) (fun h hs => by rw [Nat.sub_self]; exact stars_only [3, 3, 3] rfl h hs) ?_
    intro j hj
    obtain ⟨hj1, hj2⟩ := hj
    by_cases hlt2 : j < a + P
    · repeat' (first | (refine XL_id ?_; first | refine XL_nil ?_ | (refine XG_load ?_; refine XL_load tt_ok 0 rfl rfl rfl rfl rfl rfl ?_) | (refine XG_idx ?_; refine XL_idxl tt_ok rfl rfl rfl rfl rfl (by omega) (by omega) rfl ?_) | (refine XG_store ?_; refine XL_put1 tt_ok 1 false rfl rfl rfl rfl rfl rfl rfl (by omega) rfl ?_) | (refine XL_op tt_ok (opV_shl rfl rfl (by omega)) rfl ?_; refine XL_int (shl_o (by omega) hP) ?_) | (refine XL_op tt_ok rfl rfl ?_; try (first | refine XL_int (wrap_i64 (by omega) (by omega)) ?_ | refine XL_dec_t (by omega) ?_))) | (refine X_id ?_; first | refine X_seq ?_ | (refine X_regionN (by repeat' (first | exact .nil | apply NL.cons)) ?_) | refine X_skip ?_ | refine X_block ?_ | refine X_cond_t rfl ?_) | (refine Y_id ?_; first | refine Y_then ?_ | refine Y_block_normal ?_))
      all_goals first
        | exact Y_again (j + 1) fun _ _ hf hs => ⟨⟨by omega, by omega⟩, by show a + P - (j + 1) < a + P - j; omega, hf.sub (by (repeat' (first | exact trivial | refine And.intro rfl ?_)); done), hs.imp fun g hg => stars_conv (k := 1) rfl (fun _ o => by have e : 0 + ((j : Nat) : Int).toNat * 1 = j := (by simp); rw [e, ← setN_step hj1] at o; exact o) hg⟩
        | (exfalso; omega)
        | skip
      
    · obtain rfl : j = a + P := by omega
      rw [Nat.add_sub_cancel_left]
      repeat' (first | (refine XL_id ?_; first | refine XL_nil ?_ | (refine XG_load ?_; refine XL_load tt_ok 0 rfl rfl rfl rfl rfl rfl ?_) | (refine XG_idx ?_; refine XL_idxl tt_ok rfl rfl rfl rfl rfl (by omega) (by omega) rfl ?_) | (refine XG_store ?_; refine XL_put1 tt_ok 2 (1 + (o : Int)) rfl rfl rfl rfl rfl rfl rfl (by omega) rfl ?_) | (refine XL_op tt_ok (opV_shl rfl rfl (by omega)) rfl ?_; refine XL_int (shl_o (by omega) hP) ?_) | (refine XL_op tt_ok rfl rfl ?_; try (first | refine XL_int (wrap_i64 (by omega) (by omega)) ?_ | refine XL_dec_f (by omega) ?_))) | (refine X_id ?_; first | refine X_seq ?_ | (refine X_regionN (by repeat' (first | exact .nil | apply NL.cons)) ?_) | refine X_ret ?_ | refine X_exit ?_ | refine X_cond_f rfl ?_) | (refine Y_id ?_; first | refine Y_then ?_ | refine Y_then_ret ?_ | refine Y_then_exit ?_ | refine Y_block_hit ?_ | refine Y_block_ret ?_))
      all_goals first
        | exact Y_ret2 rfl rfl rfl (fun g hg => stars_fin [0, 0, 0] rfl (isRb_mk (setN_len ..).symm (by rw [List.length_set, setN_len]; exact htl)) g (stars_conv (k := 2) rfl (fun _ o => by have e : 0 + ((a : Nat) : Int).toNat * 1 = a := (by simp); rw [e] at o; exact o) hg)) ⟨rfl, rfl⟩
        | (exfalso; omega)
        | skip
      
theorem rgiveBad_spec (r : Nat) (a o : Int) (ho : o < 0 ∨ 6 < o ∨ a < 0) : FnC Try.prog 14 [ptr r, iV a, iV o] (fun _ => True) (iV 2) := by
  refine Ctr.intro Try.func14 rfl rfl (by decide +kernel) fun F hpre => ?_
  repeat' (first | (refine XL_id ?_; first | refine XL_nil ?_ | refine XL_guard_yes rfl rfl rfl ?_ | refine XL_guard_no rfl rfl rfl rfl rfl ?_ | (refine XL_op tt_ok rfl rfl ?_; try (first | refine XL_dec_t (by omega) ?_ | refine XL_dec (fun _ => ?_) (fun _ => ?_)))) | (refine X_id ?_; first | refine X_seq ?_ | (refine X_regionN (by repeat' (exact .nil)) ?_) | refine X_ret ?_ | refine X_cond_t rfl ?_) | (refine Y_id ?_; first | refine Y_then ?_ | refine Y_then_ret ?_))
  all_goals first
    | exact Y_fn1 rfl rfl rfl
    | (exfalso; omega)
    | skip
  
theorem rgiveNo_spec (r : Nat) (op : List Bool) (tl : List Int) (a o : Int) (hn : op.length ≤ 4096) (ho : 0 ≤ o ∧ o ≤ 6) (ha : 0 ≤ a ∧ a ≤ 9223372036854775807) (ht : a < op.length → Cof.get tl a ≠ 1 + o) : Ctr Try.prog 14 [ptr r, iV a, iV o] (fun _ => True) [isRb r op tl] (fun v L => v = iV 91 ∧ L = [isRb r op tl]) := by
  refine Ctr.intro Try.func14 rfl rfl (by decide +kernel) fun F hpre => ?_
  refine X_openp 0 rfl (fun _ hh => hh) fun x htl => ?_
  repeat' (first | (refine XL_id ?_; first | refine XL_nil ?_ | refine XL_guard_yes rfl rfl rfl ?_ | refine XL_guard_no rfl rfl rfl rfl rfl ?_ | (refine XG_load ?_; first | refine XL_load tt_ok 0 rfl rfl rfl rfl rfl rfl ?_ | refine XL_elo tt_ok 2 rfl rfl rfl (by omega) (by omega) rfl rfl rfl rfl ?_) | (refine XG_idx ?_; refine XL_idxo tt_ok 2 rfl rfl rfl rfl rfl rfl (by omega) (by omega) rfl ?_) | (refine XL_op tt_ok rfl rfl ?_; try (first | refine XL_int (wrap_i64 (by omega) (by omega)) ?_ | refine XL_dec_t (by omega) ?_ | refine XL_dec_f (by omega) ?_ | refine XL_dec (fun _ => ?_) (fun _ => ?_)))) | (refine X_id ?_; first | refine X_seq ?_ | (refine X_regionN (by repeat' (first | exact .nil | apply NL.cons)) ?_) | refine X_skip ?_ | refine X_ret ?_ | refine X_cond_t rfl ?_ | refine X_cond_f rfl ?_) | (refine Y_id ?_; first | refine Y_then ?_ | refine Y_then_ret ?_))
  all_goals first
    | exact Y_ret1 rfl rfl (stars_fin [0, 0, 0] rfl (isRb_mk rfl htl)) ⟨rfl, rfl⟩
    | (exfalso; omega)
    | (exfalso; exact ht (by omega) (by assumption))
    | skip
  
set_option maxHeartbeats 8000000 in
theorem rgiveOk_spec (r : Nat) (op : List Bool) (tl : List Int) (a o : Nat) (hn : op.length ≤ 4096) (ho : o ≤ 6) (hal : a + 2 ^ o ≤ op.length) (ht : Cof.get tl (a : Int) = 1 + o) : Ctr Try.prog 14 [ptr r, iV a, iV o] (fun _ => True) [isRb r op tl] (fun v L => v = iV 0 ∧ L = [isRb r (setN op a (2 ^ o) true) (tl.set a 0)]) := by
  obtain ⟨P, hP⟩ : ∃ P, 2 ^ o = P := ⟨_, rfl⟩
  have hP0 := two_pos o
  rw [hP] at hal ⊢
  refine Ctr.intro Try.func14 rfl rfl (by decide +kernel) fun F hpre => ?_
  refine X_openp 0 rfl (fun _ hh => hh) fun x htl => ?_
  repeat' (first | (refine XL_id ?_; first | refine XL_nil ?_ | refine XL_guard_yes rfl rfl rfl ?_ | (refine XL_ld tt_ok 2 (i := a) (f := 0) rfl rfl (by show 0 + ((a : Nat) : Int).toNat * 1 = a * 1 + 0; simp) (by omega) rfl rfl rfl rfl ?_) | (refine XG_load ?_; refine XL_load tt_ok 0 rfl rfl rfl rfl rfl rfl ?_) | (refine XG_idx ?_; refine XL_idxl tt_ok rfl rfl rfl rfl rfl (by omega) (by omega) rfl ?_) | (refine XG_store ?_; refine XL_put1 tt_ok 2 (0 : Int) rfl rfl rfl rfl rfl rfl rfl (by omega) rfl ?_) | (refine XL_op tt_ok rfl rfl ?_; try (first | refine XL_int (wrap_i64 (by omega) (by omega)) ?_ | refine XL_dec_f (by omega) ?_))) | (refine X_id ?_; first | refine X_block (id := 0) (hold ?_) | refine X_seq ?_ | (refine X_regionN (by repeat' (first | exact .nil | apply NL.cons)) ?_) | refine X_skip ?_ | refine X_cond_f rfl ?_) | (refine Y_id ?_; refine Y_then ?_))
  all_goals first
    | (exfalso; omega)
    | (exfalso; rename_i h9; exact h9 ht)
    | skip
  intro _
  refine X_loopD [0, 1, 2] (fun (j : Nat) => [(7, .int .i64 j)]) (fun j => [rbB r x.1 x.2 op.length, own encB (some ⟨x.1, 0, none⟩) op.length op.length (setN op a (j - a) true), own encN (some ⟨x.2, 0, none⟩) op.length op.length (tl.set a 0)]) (fun j => a ≤ j ∧ j ≤ a + P) (fun j => a + P - j) a rfl ⟨Nat.le_refl _, by omega⟩ (by (repeat' (first | exact trivial | refine And.intro rfl ?_)); done) (fun h hs => by rw [Nat.sub_self]; exact stars_conv (k := 2) rfl (fun _ o => by have e : 0 + ((a : Nat) : Int).toNat * 1 = a := (by simp); rw [e] at o; exact o) hs) ?_
  intro j hj
  obtain ⟨hj1, hj2⟩ := hj
  by_cases hlt2 : j < a + P
  · repeat' (first | (refine XL_id ?_; first | refine XL_nil ?_ | (refine XG_load ?_; refine XL_load tt_ok 0 rfl rfl rfl rfl rfl rfl ?_) | (refine XG_idx ?_; refine XL_idxl tt_ok rfl rfl rfl rfl rfl (by omega) (by omega) rfl ?_) | (refine XG_store ?_; refine XL_put1 tt_ok 1 true rfl rfl rfl rfl rfl rfl rfl (by omega) rfl ?_) | (refine XL_op tt_ok (opV_shl rfl rfl (by omega)) rfl ?_; refine XL_int (shl_o (by omega) hP) ?_) | (refine XL_op tt_ok rfl rfl ?_; try (first | refine XL_int (wrap_i64 (by omega) (by omega)) ?_ | refine XL_dec_t (by omega) ?_))) | (refine X_id ?_; first | refine X_seq ?_ | (refine X_regionN (by repeat' (first | exact .nil | apply NL.cons)) ?_) | refine X_skip ?_ | refine X_block ?_ | refine X_cond_t rfl ?_) | (refine Y_id ?_; first | refine Y_then ?_ | refine Y_block_normal ?_))
    all_goals first
      | exact Y_again (j + 1) fun _ _ hf hs => ⟨⟨by omega, by omega⟩, by show a + P - (j + 1) < a + P - j; omega, hf.sub (by (repeat' (first | exact trivial | refine And.intro rfl ?_)); done), hs.imp fun g hg => stars_conv (k := 1) rfl (fun _ o => by have e : 0 + ((j : Nat) : Int).toNat * 1 = j := (by simp); rw [e, ← setN_step hj1] at o; exact o) hg⟩
      | (exfalso; omega)
      | skip
    
  · obtain rfl : j = a + P := by omega
    rw [Nat.add_sub_cancel_left]
    repeat' (first | (refine XL_id ?_; first | refine XL_nil ?_ | (refine XL_op tt_ok (opV_shl rfl rfl (by omega)) rfl ?_; refine XL_int (shl_o (by omega) hP) ?_) | (refine XL_op tt_ok rfl rfl ?_; try (first | refine XL_int (wrap_i64 (by omega) (by omega)) ?_ | refine XL_dec_f (by omega) ?_))) | (refine X_id ?_; first | refine X_seq ?_ | (refine X_regionN (by repeat' (first | exact .nil | apply NL.cons)) ?_) | refine X_ret ?_ | refine X_exit ?_ | refine X_cond_f rfl ?_) | (refine Y_id ?_; first | refine Y_then ?_ | refine Y_then_exit ?_ | refine Y_block_hit ?_))
    all_goals first
      | exact Y_ret1 rfl rfl (stars_fin [0, 0, 0] rfl (isRb_mk (setN_len ..).symm (by rw [List.length_set, setN_len]; exact htl))) ⟨rfl, rfl⟩
      | (exfalso; omega)
      | skip
    
end Go.Proofs.Ytkcpjgdmfjhlkaa
