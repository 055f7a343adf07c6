/- BuddyApart: fits, taken, back. -/
import Derived.Test.YtkcpjgdmfjhlkaaPf
import Derived.Test.YtkcpjgdmfjhlkaaLc
set_option linter.unusedVariables false
namespace Go.Proofs.Ytkcpjgdmfjhlkaa
open Go.RowKit Go.Cof

set_option maxHeartbeats 4000000 in
theorem fits_spec (A : Option Addr) (c : Nat) (op : List Bool) (hn : op.length ≤ 4096) (o : Nat) (ho : o ≤ 6) (b : Bool) (hb : b = true ↔ ∃ a, 2 ^ o ∣ a ∧ a + 2 ^ o ≤ op.length ∧ ∀ i, a ≤ i → i < a + 2 ^ o → O op i) : FnC Try.prog 21 [.slice A op.length c, iV o] (fun h => rdS encB h A op.length (neg op)) (.bool b) := by
  obtain ⟨P, hP⟩ : ∃ P, 2 ^ o = P := ⟨_, rfl⟩
  have hp := two_pos o
  have hP6 : P ≤ 64 := by rw [← hP]; exact Nat.pow_le_pow_right (n := 2) (by decide) ho
  rw [hP] at hp hb
  refine Ctr.intro Try.func21 rfl rfl (by decide +kernel) fun F hpre => ?_
  have r1 : rdS encB F.heap A op.length (neg op) := hpre
  repeat' (first | (refine XL_id ?_; first | refine XL_nil ?_ | (refine XL_op tt_ok rfl rfl ?_)) | (refine X_id ?_; first | refine X_block (id := 0) (hold ?_) | refine X_seq ?_ | (refine X_regionN (by repeat' (exact .nil)) ?_)) | (refine Y_id ?_; refine Y_then ?_))
  intro _
  refine X_loopD [0, 1] (fun (a : Nat) => [(5, .int .i64 a)]) (fun _ => []) (fun a => a ≤ op.length ∧ P ∣ a ∧ ∀ a' : Nat, a' < a → P ∣ a' → ¬ ∀ i, a' ≤ i → i < a' + P → O op i) (fun a => op.length - a) 0 rfl ⟨Nat.zero_le _, Nat.dvd_zero P, fun a' h => by omega⟩ (by (repeat' (first | exact trivial | refine And.intro rfl ?_)); done) (fun _ _ => trivial) ?_
  intro a ha
  obtain ⟨ha, had, hx⟩ := ha
  by_cases hlt : a + P ≤ op.length
  · repeat' (first | (refine XL_id ?_; first | refine XL_nil ?_ | (refine XL_op tt_ok (opV_shl rfl rfl (by omega)) rfl ?_; refine XL_int (shl_o ho hP) ?_) | (refine XL_op tt_ok rfl rfl ?_; try (first | refine XL_int (wrap_i64 (by omega) (by omega)) ?_ | refine XL_dec_t (by omega) ?_))) | (refine X_id ?_; first | refine X_block (id := 2) (hold ?_) | refine X_seq ?_ | (refine X_regionN (by repeat' (exact .nil)) ?_) | refine X_skip ?_ | refine X_block ?_ | refine X_cond_t rfl ?_) | (refine Y_id ?_; refine Y_then ?_))
    all_goals first
      | (exfalso; omega)
      | skip
    intro _
    refine X_loopD2 [0, 1, 5] (fun (i : Nat) (B : Bool) => [(7, .int .i64 i), (6, .bool B)]) (fun _ _ => []) (fun i B => a ≤ i ∧ i ≤ a + P ∧ (B = true ↔ ∀ j, a ≤ j → j < i → O op j)) (fun i _ => a + P - i) a true rfl ⟨Nat.le_refl _, by omega, ⟨fun _ j h1 h2 => by omega, fun _ => rfl⟩⟩ (by (repeat' (first | exact trivial | refine And.intro rfl ?_)); done) (fun _ _ => trivial) ?_
    intro i B hi
    obtain ⟨hi1, hi2, hB⟩ := hi
    by_cases hil : i < a + P
    · cases B with
      | true =>
        have hB1 := hB.1 rfl
        by_cases ho1 : O op i
        · have hg := neg_t (show i < op.length by omega) ho1
          repeat' (first | (refine XL_id ?_; first | refine XL_head (show Value.bool (Cof.get (neg op) (i : Int)) = .bool false from congrArg _ hg) ?_ | refine XL_nil ?_ | refine XL_guard_yes rfl rfl rfl ?_ | (refine XG_load ?_; refine XL_el tt_ok rfl (by assumption) rfl (by omega) (by omega) rfl rfl rfl rfl ?_) | (refine XG_idx ?_; refine XL_idx tt_ok rfl rfl rfl rfl rfl (by assumption) (by omega) (by omega) rfl ?_) | (refine XL_op tt_ok (opV_shl rfl rfl (by omega)) rfl ?_; refine XL_int (shl_o ho hP) ?_) | (refine XL_op tt_ok rfl rfl ?_; try (first | refine XL_int (wrap_i64 (by omega) (by omega)) ?_ | refine XL_dec_t (by omega) ?_))) | (refine X_id ?_; first | refine X_seq ?_ | (refine X_regionN (by repeat' (exact .nil)) ?_) | refine X_skip ?_ | refine X_block ?_ | refine X_cond_t rfl ?_) | (refine Y_id ?_; first | refine Y_then ?_ | refine Y_block_normal ?_))
          all_goals first
            | exact Y_again (i + 1, true) fun _ _ hf hs => ⟨⟨by omega, by omega, ⟨fun _ j h1 h2 => by (by_cases e : j = i; (subst e; exact ho1); exact hB1 j h1 (by omega)), fun _ => rfl⟩⟩, by show a + P - (i + 1) < a + P - i; omega, hf.sub (by (repeat' (first | exact trivial | refine And.intro rfl ?_)); done), hs⟩
            | (exfalso; omega)
            | skip
          
        · have hg := neg_f (show i < op.length by omega) ho1
          repeat' (first | (refine XL_id ?_; first | refine XL_head (show Value.bool (Cof.get (neg op) (i : Int)) = .bool true from congrArg _ hg) ?_ | refine XL_nil ?_ | refine XL_guard_yes rfl rfl rfl ?_ | (refine XG_load ?_; refine XL_el tt_ok rfl (by assumption) rfl (by omega) (by omega) rfl rfl rfl rfl ?_) | (refine XG_idx ?_; refine XL_idx tt_ok rfl rfl rfl rfl rfl (by assumption) (by omega) (by omega) rfl ?_) | (refine XL_op tt_ok (opV_shl rfl rfl (by omega)) rfl ?_; refine XL_int (shl_o ho hP) ?_) | (refine XL_op tt_ok rfl rfl ?_; try (first | refine XL_int (wrap_i64 (by omega) (by omega)) ?_ | refine XL_dec_t (by omega) ?_))) | (refine X_id ?_; first | refine X_seq ?_ | (refine X_regionN (by repeat' (exact .nil)) ?_) | refine X_skip ?_ | refine X_block ?_ | refine X_cond_t rfl ?_) | (refine Y_id ?_; first | refine Y_then ?_ | refine Y_block_normal ?_))
          all_goals first
            | exact Y_again (i + 1, false) fun _ _ hf hs => ⟨⟨by omega, by omega, ⟨fun h => (by cases h), fun h => absurd (h i hi1 (by omega)) ho1⟩⟩, by show a + P - (i + 1) < a + P - i; omega, hf.sub (by (repeat' (first | exact trivial | refine And.intro rfl ?_)); done), hs⟩
            | (exfalso; omega)
            | skip
          
      | false =>
        repeat' (first | (refine XL_id ?_; first | refine XL_nil ?_ | refine XL_guard_no rfl rfl rfl rfl rfl ?_ | (refine XL_op tt_ok (opV_shl rfl rfl (by omega)) rfl ?_; refine XL_int (shl_o ho hP) ?_) | (refine XL_op tt_ok rfl rfl ?_; try (first | refine XL_int (wrap_i64 (by omega) (by omega)) ?_ | refine XL_dec_t (by omega) ?_))) | (refine X_id ?_; first | refine X_seq ?_ | (refine X_regionN (by repeat' (exact .nil)) ?_) | refine X_skip ?_ | refine X_block ?_ | refine X_cond_t rfl ?_) | (refine Y_id ?_; first | refine Y_then ?_ | refine Y_block_normal ?_))
        all_goals first
          | exact Y_again (i + 1, false) fun _ _ hf hs => ⟨⟨by omega, by omega, ⟨fun h => (by cases h), fun h => hB.2 fun j h1 h2 => h j h1 (by omega)⟩⟩, by show a + P - (i + 1) < a + P - i; omega, hf.sub (by (repeat' (first | exact trivial | refine And.intro rfl ?_)); done), hs⟩
          | (exfalso; omega)
          | skip
        
    · obtain rfl : i = a + P := by omega
      cases B with
      | true =>
        have hbt : b = true := hb.2 ⟨a, had, hlt, hB.1 rfl⟩
        rw [hbt]
        repeat' (first | (refine XL_id ?_; first | refine XL_nil ?_ | (refine XL_op tt_ok (opV_shl rfl rfl (by omega)) rfl ?_; refine XL_int (shl_o ho hP) ?_) | (refine XL_op tt_ok rfl rfl ?_; try (first | refine XL_int (wrap_i64 (by omega) (by omega)) ?_ | refine XL_dec_f (by omega) ?_))) | (refine X_id ?_; first | refine X_seq ?_ | (refine X_regionN (by repeat' (exact .nil)) ?_) | refine X_ret ?_ | refine X_exit ?_ | refine X_cond_t rfl ?_ | refine X_cond_f rfl ?_) | (refine Y_id ?_; first | refine Y_then ?_ | refine Y_then_ret ?_ | refine Y_then_exit ?_ | refine Y_block_hit ?_ | refine Y_block_ret ?_))
        all_goals first
          | exact Y_fn1 rfl rfl rfl
          | (exfalso; omega)
          | skip
        
      | false =>
        have hno : ¬ ∀ i, a ≤ i → i < a + P → O op i := fun h => by have := hB.2 h; cases this
        repeat' (first | (refine XL_id ?_; first | refine XL_nil ?_ | (refine XL_op tt_ok (opV_shl rfl rfl (by omega)) rfl ?_; refine XL_int (shl_o ho hP) ?_) | (refine XL_op tt_ok rfl rfl ?_; try (first | refine XL_int (wrap_i64 (by omega) (by omega)) ?_ | refine XL_dec_f (by omega) ?_))) | (refine X_id ?_; first | refine X_seq ?_ | (refine X_regionN (by repeat' (exact .nil)) ?_) | refine X_skip ?_ | refine X_exit ?_ | refine X_cond_f rfl ?_) | (refine Y_id ?_; first | refine Y_then ?_ | refine Y_then_exit ?_ | refine Y_block_hit ?_ | refine Y_block_normal ?_))
        all_goals first
          | exact Y_again (a + P) fun _ _ hf hs => ⟨⟨hlt, Nat.dvd_add had (Nat.dvd_refl P), fun a' h1 h2 => by (rcases dvd_next hp had h2 h1 with h3 | h3; exact hx a' h3 h2; (rw [h3]; exact hno))⟩, by show op.length - (a + P) < op.length - a; omega, hf.sub (by (repeat' (first | exact trivial | refine And.intro rfl ?_)); done), hs⟩
          | (exfalso; omega)
          | skip
        
  · have hbf : b = false := by
      cases e : b with
      | false => rfl
      | true =>
        obtain ⟨a', h1, h2, h3⟩ := hb.1 e
        exfalso
        by_cases h4 : a' < a
        · exact hx a' h4 h1 h3
        · omega
    rw [hbf]
    repeat' (first | (refine XL_id ?_; first | refine XL_nil ?_ | (refine XL_op tt_ok (opV_shl rfl rfl (by omega)) rfl ?_; refine XL_int (shl_o ho hP) ?_) | (refine XL_op tt_ok rfl rfl ?_; try (first | refine XL_int (wrap_i64 (by omega) (by omega)) ?_ | refine XL_dec_f (by omega) ?_))) | (refine X_id ?_; first | refine X_seq ?_ | (refine X_regionN (by repeat' (exact .nil)) ?_) | refine X_ret ?_ | refine X_exit ?_ | refine X_cond_f rfl ?_) | (refine Y_id ?_; first | refine Y_then ?_ | refine Y_then_exit ?_ | refine Y_block_hit ?_))
    all_goals first
      | exact Y_fn1 rfl rfl rfl
      | (exfalso; omega)
      | skip
    
theorem tmod_dvd {a P : Nat} (h : P ∣ a) : ((a : Int)).tmod (P : Int) = 0 := by
  obtain ⟨x, rfl⟩ := h
  rw [Int.tmod_eq_emod_of_nonneg (by omega)]
  rw [Int.natCast_mul]
  exact Int.mul_emod_right _ _
set_option maxHeartbeats 4000000 in
theorem taken_spec (A : Option Addr) (c : Nat) (op : List Bool) (hn : op.length ≤ 4096) (a o : Nat) (ho : o ≤ 6) (hd : 2 ^ o ∣ a) (hl : a + 2 ^ o ≤ op.length) (hc : ∀ i, a ≤ i → i < a + 2 ^ o → O op i) : Ctr Try.prog 22 [.slice A op.length c, iV a, iV o] (fun _ => True) [own encB A op.length c (neg op)] (fun v L => v = .bool true ∧ L = [own encB A op.length c (neg (setN op a (2 ^ o) false))]) := by
  obtain ⟨P, hP⟩ : ∃ P, 2 ^ o = P := ⟨_, rfl⟩
  have hp := two_pos o
  have hrem := tmod_dvd hd
  rw [hP] at hp hl hc hrem ⊢
  refine Ctr.intro Try.func22 rfl rfl (by decide +kernel) fun F hpre => ?_
  repeat' (first | (refine XL_id ?_; first | refine XL_nil ?_ | refine XL_guard_yes rfl rfl rfl ?_ | (refine XL_op tt_ok (opV_shl rfl rfl (by omega)) rfl ?_; refine XL_int (shl_o ho hP) ?_) | (refine XL_op tt_ok (opV_rem rfl rfl (by omega)) rfl ?_; refine XL_int hrem ?_) | (refine XL_op tt_ok rfl rfl ?_; try (first | refine XL_int (wrap_i64 (by omega) (by omega)) ?_ | refine XL_dec_f (by omega) ?_))) | (refine X_id ?_; first | refine X_block (id := 0) (hold ?_) | refine X_seq ?_ | (refine X_regionN (by repeat' (first | exact .nil | apply NL.cons)) ?_) | refine X_skip ?_ | refine X_cond_f rfl ?_) | (refine Y_id ?_; refine Y_then ?_))
  all_goals first
    | (exfalso; omega)
    | skip
  intro _
  refine X_loopD [0, 1, 2] (fun (j : Nat) => [(7, .int .i64 j)]) (fun j => [own encB A op.length c (neg (setN op a (j - a) false))]) (fun j => a ≤ j ∧ j ≤ a + P) (fun j => a + P - j) a rfl ⟨Nat.le_refl _, by omega⟩ (by (repeat' (first | exact trivial | refine And.intro rfl ?_)); done) (fun h hs => by rw [Nat.sub_self]; exact hs) ?_
  intro j hj
  obtain ⟨hj1, hj2⟩ := hj
  by_cases hlt : j < a + P
  · have hstep := neg_step (op := op) (v := false) hj1
    have hg : Cof.get (neg (setN op a (j - a) false)) (j : Int) = false := neg_t (by rw [setN_len]; omega) (by rw [setN_at, if_neg (by omega)]; exact hc j hj1 hlt)
    repeat' (first | (refine XL_id ?_; first | refine XL_head (show Value.bool (Cof.get (neg (setN op a (j - a) false)) (j : Int)) = .bool false from congrArg _ hg) ?_ | refine XL_nil ?_ | (refine XG_load ?_; refine XL_elo tt_ok 0 rfl rfl rfl (by omega) (by omega) rfl rfl rfl rfl ?_) | (refine XG_idx ?_; refine XL_idxo tt_ok 0 rfl rfl rfl rfl rfl rfl (by omega) (by omega) rfl ?_) | (refine XG_store ?_; refine XL_putO tt_ok 0 true rfl rfl rfl rfl rfl rfl rfl (by omega) rfl ?_) | (refine XL_op tt_ok (opV_shl rfl rfl (by omega)) rfl ?_; refine XL_int (shl_o ho hP) ?_) | (refine XL_op tt_ok rfl rfl ?_; try (first | refine XL_int (wrap_i64 (by omega) (by omega)) ?_ | refine XL_dec_t (by omega) ?_))) | (refine X_id ?_; first | refine X_seq ?_ | (refine X_regionN (by repeat' (first | exact .nil | apply NL.cons)) ?_) | refine X_skip ?_ | refine X_block ?_ | refine X_cond_t rfl ?_ | refine X_cond_f rfl ?_) | (refine Y_id ?_; first | refine Y_then ?_ | refine Y_block_normal ?_))
    all_goals first
      | exact Y_again (j + 1) fun _ _ hf hs => ⟨⟨by omega, by omega⟩, by show a + P - (j + 1) < a + P - j; omega, hf.sub (by (repeat' (first | exact trivial | refine And.intro rfl ?_)); done), hs.imp fun g hg => stars_conv (k := 0) rfl (fun _ o => by rw [← hstep]; exact o) hg⟩
      | (exfalso; omega)
      | skip
    
  · obtain rfl : j = a + P := by omega
    rw [Nat.add_sub_cancel_left]
    repeat' (first | (refine XL_id ?_; first | refine XL_nil ?_ | (refine XL_op tt_ok (opV_shl rfl rfl (by omega)) rfl ?_; refine XL_int (shl_o ho hP) ?_) | (refine XL_op tt_ok rfl rfl ?_; try (first | refine XL_int (wrap_i64 (by omega) (by omega)) ?_ | refine XL_dec_f (by omega) ?_))) | (refine X_id ?_; first | refine X_seq ?_ | (refine X_regionN (by repeat' (first | exact .nil | apply NL.cons)) ?_) | refine X_ret ?_ | refine X_exit ?_ | refine X_cond_f rfl ?_) | (refine Y_id ?_; first | refine Y_then ?_ | refine Y_then_exit ?_ | refine Y_block_hit ?_))
    all_goals first
      | exact Y_ret1 rfl rfl (stars_only [0] rfl) ⟨rfl, rfl⟩
      | (exfalso; omega)
      | skip
    
set_option maxHeartbeats 4000000 in
theorem back_spec (p n : Nat) (fs : List (List Int)) (tk : Int → Option Int) (A : Option Addr) (c : Nat) (op : List Bool) (hn : op.length ≤ 4096) (hb : BOk op fs) (x : Hb) (a o : Nat) (e1 : x.1 = a) (e2 : x.2 = o) (hk : Tkb op a o) (ht : tk x.1 = some x.2) : Ctr Try.prog 23 [ptr p, .slice A op.length c, .agg #[iV x.1, iV x.2]] (fun _ => True) [isBd p n fs tk, own encB A op.length c (neg op)] (fun v L => ∃ gs, BOk (setN op a (2 ^ o) true) gs ∧ v = .bool true ∧ L = [isBd p n gs (updI tk x.1 none), own encB A op.length c (neg (setN op a (2 ^ o) true))]) := by
  have hG := giveX_spec p n op fs tk x a o e1 e2 hn hb hk ht
  have hnt : updI tk x.1 none x.1 ≠ some x.2 := fun h => by
    have h : (if x.1 = x.1 then none else tk x.1) = some x.2 := h
    rw [if_pos rfl] at h; cases h
  have hle := hk.le
  have ho := hk.k6
  rw [e1, e2] at *
  obtain ⟨P, hP⟩ : ∃ P, 2 ^ o = P := ⟨_, rfl⟩
  have hp := two_pos o
  rw [hP] at hp hle hG ⊢
  refine Ctr.intro Try.func23 rfl rfl (by decide +kernel) fun F hpre => ?_
  repeat' (first | (refine XL_id ?_; first | refine XL_nil ?_ | (refine XG_box ?_; (refine XL_box rfl (fun _ => rfl) (fun bx => ?_); refine XL_nB (by repeat' (first | exact .nil | apply NL.cons)) ?_)) | (refine XG_load ?_; refine XL_load tt_ok 0 rfl rfl rfl rfl rfl rfl ?_) | (refine XG_idx ?_; refine XL_idxal tt_ok rfl rfl rfl rfl rfl (by decide) (by decide) rfl ?_) | (refine XL_op tt_ok rfl rfl ?_)) | (refine X_id ?_; first | refine X_block (id := 0) (hold ?_) | refine X_seq ?_ | (refine X_regionN (by repeat' (first | exact .nil | apply NL.cons)) ?_)) | (refine Y_id ?_; refine Y_then ?_))
  intro _
  refine X_mem (fun _ hh => stars_take [1, 1] rfl hh) ?_
  refine X_loopD [0, 1, 5] (fun (j : Nat) => [(7, .int .i64 j)]) (fun j => [isBd p n fs tk, own encB A op.length c (neg (setN op a (j - a) true)), blk bx [iV a, iV o] 38]) (fun j => a ≤ j ∧ j ≤ a + P) (fun j => a + P - j) a rfl ⟨Nat.le_refl _, by omega⟩ (by (repeat' (first | exact trivial | refine And.intro rfl ?_)); done) (fun h hs => by rw [Nat.sub_self]; exact hs) ?_
  intro j hj
  obtain ⟨hj1, hj2⟩ := hj
  by_cases hlt : j < a + P
  · have hstep := neg_step (op := op) (v := true) hj1
    repeat' (first | (refine XL_id ?_; first | refine XL_nil ?_ | (refine XG_idx ?_; refine XL_idxo tt_ok 1 rfl rfl rfl rfl rfl rfl (by omega) (by omega) rfl ?_) | (refine XG_store ?_; refine XL_putO tt_ok 1 false rfl rfl rfl rfl rfl rfl rfl (by omega) rfl ?_) | (refine XL_op tt_ok rfl rfl ?_; try (refine XL_int (wrap_i64 (by omega) (by omega)) ?_))) | (refine XD_id ?_; first | (refine XD_s rfl rfl rfl (XV_op tt_ok (opV_shl rfl rfl (by omega))) rfl ?_; refine XD_int (shl_o ho hP) ?_) | (refine XD_thaw thaw ?_; refine XD_nil ?_) | (refine XD_id ?_; (first | (refine XD_uL rfl ?_; refine XD_s rfl rfl rfl (XV_load tt_ok rfl (blk_at 0 rfl hM) rfl rfl rfl) rfl ?_) | (refine XD_uI rfl ?_; refine XD_s rfl rfl rfl (XV_idxal tt_ok rfl rfl rfl rfl rfl (by decide) (by decide)) rfl ?_) | (refine XD_u rfl rfl ?_; refine XD_s rfl rfl rfl (XV_op tt_ok rfl) rfl ?_)); try (first | refine XD_int (wrap_i64 (by omega) (by omega)) ?_ | refine XD_dec_t (by omega) ?_))) | (refine X_id ?_; first | (refine X_drawS (id := 2) [0, 1, 2, 3, 4, 5, 6, 7] (fun _ => .s) 8 (by repeat' (first | exact Split.nil | apply Split.blk | apply Split.keep)) mixed (by decide +kernel) ?_; intro G hFG hM thaw; show XD _ _ _ _ _ _ [0, 1, 2, 3, 4, 5, 6, 7] _ _ _) | refine X_seq ?_ | (refine X_regionN (by repeat' (first | exact .nil | apply NL.cons)) ?_) | refine X_skip ?_ | refine X_block ?_ | refine X_cond_t rfl ?_) | (refine Y_id ?_; first | refine Y_then ?_ | refine Y_block_normal ?_))
    all_goals first
      | exact Y_again (j + 1) fun _ _ hf hs => ⟨⟨by omega, by omega⟩, by show a + P - (j + 1) < a + P - j; omega, hf.sub (by (repeat' (first | exact trivial | refine And.intro rfl ?_)); done), hs.imp fun g hg => stars_conv (k := 1) rfl (fun _ o => by rw [← hstep]; exact o) hg⟩
      | (exfalso; omega)
      | skip
    
  · obtain rfl : j = a + P := by omega
    rw [Nat.add_sub_cancel_left]
    repeat' (first | (refine XL_id ?_; first | refine XL_nil ?_ | refine XL_guard_yes rfl rfl rfl ?_ | (refine XG_load ?_; refine XL_load tt_ok 2 rfl rfl rfl rfl rfl rfl ?_) | (refine XG_idx ?_; refine XL_idxal tt_ok rfl rfl rfl rfl rfl (by decide) (by decide) rfl ?_) | (refine XG_call ?_; first | (refine XL_callK [0] hG rfl rfl (fun _ => rfl) (fun _ _ _ => trivial) (fun u L hv => ?_); obtain ⟨gs, hgs, rfl, rfl⟩ := hv) | refine XL_callE [0] (giveNo_spec p n _ _ (a : Int) (o : Int) (by omega) (by omega) hnt) rfl rfl rfl (fun _ _ _ => trivial) ?_) | (refine XL_op tt_ok rfl rfl ?_; try (refine XL_dec_t (by omega) ?_))) | (refine XD_id ?_; first | (refine XD_s rfl rfl rfl (XV_op tt_ok (opV_shl rfl rfl (by omega))) rfl ?_; refine XD_int (shl_o ho hP) ?_) | (refine XD_thaw thaw ?_; refine XD_nil ?_) | (refine XD_id ?_; (first | (refine XD_uL rfl ?_; refine XD_s rfl rfl rfl (XV_load tt_ok rfl (blk_at 0 rfl hM) rfl rfl rfl) rfl ?_) | (refine XD_uI rfl ?_; refine XD_s rfl rfl rfl (XV_idxal tt_ok rfl rfl rfl rfl rfl (by decide) (by decide)) rfl ?_) | (refine XD_u rfl rfl ?_; refine XD_s rfl rfl rfl (XV_op tt_ok rfl) rfl ?_)); try (first | refine XD_int (wrap_i64 (by omega) (by omega)) ?_ | refine XD_dec_f (by omega) ?_))) | (refine X_id ?_; first | (refine X_drawS (id := 2) [0, 1, 2, 3, 4, 5, 6, 7] (fun _ => .s) 8 (by repeat' (first | exact Split.nil | apply Split.blk | apply Split.keep)) mixed (by decide +kernel) ?_; intro G hFG hM thaw; show XD _ _ _ _ _ _ [0, 1, 2, 3, 4, 5, 6, 7] _ _ _) | refine X_seq ?_ | (refine X_regionN (by repeat' (first | exact .nil | apply NL.cons)) ?_) | refine X_ret ?_ | refine X_exit ?_ | refine X_cond_f rfl ?_) | (refine Y_id ?_; first | refine Y_then ?_ | refine Y_then_exit ?_ | refine Y_block_hit ?_))
    all_goals first
      | exact Y_ret1 rfl rfl (stars_only [0, 0] rfl) ⟨_, by assumption, rfl, rfl⟩
      | exact Y_ret1 rfl rfl (stars_only [0, 1] rfl) ⟨_, by assumption, rfl, rfl⟩
      | (exfalso; omega)
      | skip
    
end Go.Proofs.Ytkcpjgdmfjhlkaa
