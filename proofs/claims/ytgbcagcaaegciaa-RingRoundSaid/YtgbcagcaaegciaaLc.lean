/- The law RingRound, walked. -/
import Derived.Test.YtgbcagcaaegciaaLb
import Derived.Test.YtgbcagcaaegciaaPb
set_option linter.unusedVariables false
namespace Go.Proofs.Ytgbcagcaaegciaa
open Go.RowKit Go.Cof

/-- Where the hand stands ahead of the i-th number of the k-th round. -/
def hAt (n : Nat) (pin : Int) (k i : Nat) : Nat := if 0 < i ∧ pin = (i : Int) - 1 then i - 1 else if i = 0 ∧ 0 < k ∧ pin = (n : Int) - 1 then n - 1 else i % n
theorem hAt_pin {n : Nat} {pin : Int} {k i : Nat} (hn : 2 ≤ n) (hi : i < n) (h : (i : Int) = pin) : hAt n pin k (i + 1) = hAt n pin k i := by
  unfold hAt
  rw [if_pos ⟨by omega, by omega⟩, if_neg (by omega), if_neg (by omega), Nat.mod_eq_of_lt hi]
  rfl
theorem hAt_next {n : Nat} {pin : Int} {k i : Nat} (h : ¬ (i : Int) = pin) : hAt n pin k (i + 1) = (i + 1) % n := by
  unfold hAt
  rw [if_neg (by omega), if_neg (by omega)]
theorem hAt_b {n : Nat} {pin : Int} {k i : Nat} (hn : 2 ≤ n) (hi : i < n) (h : 0 < i ∧ pin = (i : Int) - 1 ∨ i = 0 ∧ 0 < k ∧ pin = (n : Int) - 1) : hAt n pin k i < n ∧ (hAt n pin k i : Int) = pin ∧ (hAt n pin k i + 1) % n = i := by
  unfold hAt
  rcases h with h | h
  · rw [if_pos h]
    exact ⟨by omega, by omega, by rw [Nat.mod_eq_of_lt (by omega)]; omega⟩
  · rw [if_neg (by omega), if_pos h]
    refine ⟨by omega, by omega, ?_⟩
    rw [show n - 1 + 1 = n from by omega, Nat.mod_self]
    exact h.1.symm
theorem hAt_c {n : Nat} {pin : Int} {k i : Nat} (hi : i < n) (h1 : ¬ (0 < i ∧ pin = (i : Int) - 1)) (h2 : ¬ (i = 0 ∧ 0 < k ∧ pin = (n : Int) - 1)) : hAt n pin k i = i := by
  unfold hAt
  rw [if_neg h1, if_neg h2, Nat.mod_eq_of_lt hi]
theorem hAt_round {n : Nat} {pin : Int} {k : Nat} (hn : 2 ≤ n) : hAt n pin k n = hAt n pin (k + 1) 0 := by
  unfold hAt
  by_cases h : pin = (n : Int) - 1
  · rw [if_pos ⟨by omega, h⟩, if_neg (by omega), if_pos ⟨rfl, by omega, h⟩]
  · rw [if_neg (by omega), if_neg (by omega), if_neg (by omega), if_neg (by omega), Nat.mod_self, Nat.zero_mod]
theorem hAt_zero {n : Nat} {pin : Int} (hn : 2 ≤ n) : hAt n pin 0 0 = 0 := by
  unfold hAt
  rw [if_neg (by omega), if_neg (by omega), Nat.zero_mod]
structure Rest (n : Nat) (pin : Int) (i : Nat) (zs : List Int) : Prop where
  len : zs.length = n + 1
  pos : ∀ x ∈ zs, 0 ≤ x
  row : ¬ pin = (n : Int) - 1 → i ≤ n → zs = rotL (seqI (n + 1)) i
theorem Rest.start {n : Nat} {pin : Int} {k : Nat} (hn : 2 ≤ n) (hk : 0 < k) : Rest n pin 0 (rotL (seqI n) (hAt n pin k 0) ++ [(n : Int)]) := by
  refine ⟨by rw [List.length_append, rotL_len, seqI_len]; rfl, fun x hx => ?_, fun hp _ => ?_⟩
  · rcases List.mem_append.1 hx with h | h
    · exact (seqI_mem.1 (rotL_mem.1 h)).1
    · rw [List.mem_singleton.1 h]; omega
  · have : hAt n pin k 0 = 0 := by
      unfold hAt
      rw [if_neg (by omega), if_neg (by omega), Nat.zero_mod]
    rw [this, rotL_zero, rotL_zero, seqI_succ]
theorem Rest.step {n : Nat} {pin : Int} {i : Nat} {y : Int} {t : List Int} (h : Rest n pin i (y :: t)) : 0 ≤ y ∧ (¬ pin = (n : Int) - 1 → i ≤ n → y = i) ∧ Rest n pin (i + 1) (t ++ [y]) := by
  have key : ¬ pin = (n : Int) - 1 → i ≤ n → y = i ∧ t ++ [y] = rotL (seqI (n + 1)) ((i + 1) % (n + 1)) := fun hp hi => by
    have hr := h.row hp hi
    obtain ⟨u, g1, g2⟩ := rotL_step (xs := seqI (n + 1)) (h := i) (by rw [seqI_len]; omega)
    rw [seqI_len] at g2
    rw [seqI_get (by omega)] at g1 g2
    rw [g1] at hr
    obtain ⟨e1, e2⟩ := List.cons.inj hr
    exact ⟨e1, by rw [e1, e2, g2]⟩
  refine ⟨h.pos y List.mem_cons_self, fun hp hi => (key hp hi).1, ⟨by rw [List.length_append]; exact h.len, fun x hx => h.pos x ?_, fun hp hi => ?_⟩⟩
  · rcases List.mem_append.1 hx with h1 | h1
    · exact List.mem_cons_of_mem _ h1
    · rw [List.mem_singleton.1 h1]; exact List.mem_cons_self
  · rw [(key hp (by omega)).2, Nat.mod_eq_of_lt (by omega)]
set_option maxRecDepth 100000 in
set_option maxHeartbeats 16000000 in
theorem ringRound_walk (n0 p0 r0 : Int) (hn0 : -9223372036854775808 ≤ n0 ∧ n0 ≤ 9223372036854775807) (hp0 : -9223372036854775808 ≤ p0 ∧ p0 ≤ 9223372036854775807) (hr0 : -9223372036854775808 ≤ r0 ∧ r0 ≤ 9223372036854775807) :
    FnC Try.prog 7 [iV n0, iV p0, iV r0] (fun _ => True) (.bool true) := by
  have hw1 := within_spec n0 20 hn0.1 hn0.2 (by decide) (by decide)
  obtain ⟨n, hn⟩ : ∃ n : Nat, (n : Int) = 2 + n0 % 20 := ⟨(2 + n0 % 20).toNat, by omega⟩
  have hn2 : 2 ≤ n := by omega
  have hn22 : n ≤ 21 := by omega
  have hw2 := within_spec p0 ((n : Int) + 3) hp0.1 hp0.2 (by omega) (by omega)
  have hm1 := Int.emod_nonneg p0 (show (n : Int) + 3 ≠ 0 by omega)
  have hm2 := Int.emod_lt_of_pos p0 (show 0 < (n : Int) + 3 by omega)
  obtain ⟨q, hq⟩ : ∃ q, q = p0 % ((n : Int) + 3) := ⟨_, rfl⟩
  rw [← hq] at hw2 hm1 hm2
  obtain ⟨pin, hpin⟩ : ∃ pin : Int, pin = q - 2 := ⟨_, rfl⟩
  have hw3 := within_spec r0 4 hr0.1 hr0.2 (by decide) (by decide)
  obtain ⟨R, hR⟩ : ∃ R : Nat, (R : Int) = 1 + r0 % 4 := ⟨(1 + r0 % 4).toNat, by omega⟩
  refine Ctr.intro Try.func7 rfl rfl (by decide +kernel) fun F hpre => ?_
  repeat' (first | (refine XL_id ?_; first | refine XL_nil ?_ | (refine XG_call ?_; first | (refine XL_op tt_ok rfl rfl ?_) | refine XL_fn works_spec rfl rfl (fun _ _ _ => trivial) ?_ | refine XL_fn hw1 rfl rfl (fun _ _ _ => trivial) ?_ | refine XL_fn hw2 rfl rfl (fun _ _ _ => trivial) ?_ | refine XL_fn hw3 rfl rfl (fun _ _ _ => trivial) ?_ | (refine XL_callK [] new_spec rfl rfl (fun _ => rfl) (fun _ _ _ => trivial) (fun u L hv => ?_); obtain ⟨r, rfl, rfl⟩ := hv) | (refine XL_callE [0] (addC_spec r (rotL (seqI n) (hAt n pin R 0)) (rotL (seqI n) (hAt n pin R 0) ++ [(n : Int)]) n 0 (addE_ok (by omega) (fun hm => by have := (seqI_mem.1 (rotL_mem.1 hm)); omega) (by rw [rotL_len, seqI_len]; omega)) (addT_ok (addE_ok (by omega) (fun hm => by have := (seqI_mem.1 (rotL_mem.1 hm)); omega) (by rw [rotL_len, seqI_len]; omega)))) rfl rfl rfl (fun _ _ _ => trivial) ?_) | (refine XL_callK [0] (list_spec _ zs) rfl rfl (fun _ => rfl) (fun _ _ _ => trivial) (fun u L hv => ?_); obtain ⟨A2, c2, rfl, rfl⟩ := hv)) | (refine XL_op tt_ok rfl rfl ?_; refine XL_int (show _ = (n : Int) from (wrap_i64 (by omega) (by omega)).trans hn.symm) ?_) | (refine XL_op tt_ok rfl rfl ?_; refine XL_int (show _ = pin from (wrap_i64 (by omega) (by omega)).trans hpin.symm) ?_) | (refine XL_op tt_ok rfl rfl ?_; refine XL_int (show _ = (R : Int) from (wrap_i64 (by omega) (by omega)).trans hR.symm) ?_) | (refine XL_op tt_ok rfl rfl ?_; try (first | refine XL_int (wrap_i64 (by omega) (by omega)) ?_ | refine XL_dec_t (by omega) ?_ | refine XL_dec_f (by omega) ?_))) | (refine X_id ?_; first | refine X_cutD (c := .block 0 _) [0, 1, 2, 7] (fun (_ : Unit) => []) (fun _ => [isRing r (seqI n)]) (fun _ => True) rfl (X_block ?_) (fun _ _ => ?_) | refine X_cutD (c := .block 2 _) [0, 1, 7] (fun (_ : Unit) => []) (fun _ => [isRing r (rotL (seqI n) (hAt n pin R 0))]) (fun _ => True) rfl (X_block ?_) (fun _ _ => ?_) | refine X_cutD (c := .block 6 _) [0, 7] (fun (zs : List Int) => []) (fun zs => [isRing r zs]) (fun zs => zs.length = n + 1) rfl (X_block ?_) (fun zs hzs => ?_) | refine X_seq ?_ | (refine X_regionN (by repeat' (first | exact .nil | apply NL.cons)) ?_) | refine X_skip ?_ | refine X_ret ?_ | refine X_cond_f rfl ?_) | (refine Y_id ?_; refine Y_then ?_))
  · refine X_loopD [0, 1, 2, 7] (fun (i : Nat) => [(8, .int .i64 i)]) (fun i => [isRing r (seqI i)]) (fun i => i ≤ n) (fun i => n - i) 0 rfl (Nat.zero_le _) (by (repeat' (first | exact trivial | refine And.intro rfl ?_)); done) (fun h hs => hs) ?_
    intro i hi
    have hi : i ≤ n := hi
    by_cases hlt : i < n
    · have ha := seqI_add (n := i) (by omega)
      repeat' (first | (refine XL_id ?_; first | refine XL_nil ?_ | (refine XG_call ?_; refine XL_callE [0] (addC_spec r (seqI i) (seqI (i + 1)) i 0 ha.1 ha.2) rfl rfl rfl (fun _ _ _ => trivial) ?_) | (refine XL_op tt_ok rfl rfl ?_; try (first | refine XL_int (wrap_i64 (by omega) (by omega)) ?_ | refine XL_dec_t (by omega) ?_ | refine XL_dec_f (by omega) ?_))) | (refine X_id ?_; first | refine X_seq ?_ | (refine X_regionN (by repeat' (first | exact .nil | apply NL.cons)) ?_) | refine X_skip ?_ | refine X_block ?_ | refine X_cond_t rfl ?_ | refine X_cond_f rfl ?_) | (refine Y_id ?_; first | refine Y_then ?_ | refine Y_block_normal ?_))
      all_goals first
        | exact Y_again (i + 1) fun _ _ hf hs => ⟨by show i + 1 ≤ n; omega, by show n - (i + 1) < n - i; omega, hf.sub (by (repeat' (first | exact trivial | refine And.intro rfl ?_)); done), hs⟩
        | (exfalso; omega)
        | skip
      
    · obtain rfl : i = n := by omega
      repeat' (first | (refine XL_id ?_; first | refine XL_nil ?_ | (refine XL_op tt_ok rfl rfl ?_; try (refine XL_dec_f (by omega) ?_))) | (refine X_id ?_; first | refine X_seq ?_ | (refine X_regionN (by repeat' (first | exact .nil | apply NL.cons)) ?_) | refine X_exit ?_ | refine X_cond_f rfl ?_) | (refine Y_id ?_; first | refine Y_then ?_ | refine Y_then_exit ?_ | refine Y_block_hit ?_))
      all_goals first
        | exact Y_again () fun _ _ hf hs => ⟨trivial, hf.sub (by (repeat' (first | exact trivial | refine And.intro rfl ?_)); done), hs⟩
        | (exfalso; omega)
        | skip
      
  · refine X_loopD [0, 1, 2, 7] (fun (k : Nat) => [(9, .int .i64 k)]) (fun k => [isRing r (rotL (seqI n) (hAt n pin k 0))]) (fun k => k ≤ R) (fun k => R - k) 0 rfl (Nat.zero_le _) (by (repeat' (first | exact trivial | refine And.intro rfl ?_)); done) (fun h hs => by rw [hAt_zero hn2, rotL_zero]; exact hs) ?_
    intro k hk
    have hk : k ≤ R := hk
    by_cases hlt : k < R
    · repeat' (first | (refine XL_id ?_; first | refine XL_nil ?_ | (refine XL_op tt_ok rfl rfl ?_; try (first | refine XL_int (wrap_i64 (by omega) (by omega)) ?_ | refine XL_dec_t (by omega) ?_))) | (refine X_id ?_; first | refine X_cutQ (c := .block 4 _) [0, 1, 2, 7, 9] (fun (_ : Unit) => []) (fun _ => [isRing r (rotL (seqI n) (hAt n pin k n))]) (fun _ => True) rfl (X_block ?_) (fun _ _ => ?_) | refine X_seq ?_ | (refine X_regionN (by repeat' (first | exact .nil | apply NL.cons)) ?_) | refine X_skip ?_ | refine X_block ?_ | refine X_cond_t rfl ?_) | (refine Y_id ?_; first | refine Y_then ?_ | refine Y_block_normal ?_))
      · refine X_loopD [0, 1, 2, 7, 9] (fun (i : Nat) => [(10, .int .i64 i)]) (fun i => [isRing r (rotL (seqI n) (hAt n pin k i))]) (fun i => i ≤ n) (fun i => n - i) 0 rfl (Nat.zero_le _) (by (repeat' (first | exact trivial | refine And.intro rfl ?_)); done) (fun h hs => hs) ?_
        intro i hi
        have hi : i ≤ n := hi
        by_cases hlt2 : i < n
        · by_cases hip : (i : Int) = pin
          · have hh := hAt_pin (k := k) hn2 hlt2 hip
            repeat' (first | (refine XL_id ?_; first | refine XL_nil ?_ | (refine XL_op tt_ok rfl rfl ?_; try (first | refine XL_int (wrap_i64 (by omega) (by omega)) ?_ | refine XL_dec_t (by omega) ?_))) | (refine X_id ?_; first | refine X_seq ?_ | (refine X_regionN (by repeat' (first | exact .nil | apply NL.cons)) ?_) | refine X_skip ?_ | refine X_exit ?_ | refine X_block ?_ | refine X_cond_t rfl ?_) | (refine Y_id ?_; first | refine Y_then ?_ | refine Y_then_exit ?_ | refine Y_block_hit ?_))
            all_goals first
              | exact Y_again (i + 1) fun _ _ hf hs => ⟨by show i + 1 ≤ n; omega, by show n - (i + 1) < n - i; omega, hf.sub (by (repeat' (first | exact trivial | refine And.intro rfl ?_)); done), by rw [hh]; exact hs⟩
              | (exfalso; omega)
              | skip
            
          · have hh := hAt_next (n := n) (k := k) hip
            by_cases hb : 0 < i ∧ pin = (i : Int) - 1 ∨ i = 0 ∧ 0 < k ∧ pin = (n : Int) - 1
            · obtain ⟨b1, b2, b3⟩ := hAt_b hn2 hlt2 hb
              have hnx := next_pin hn2 b1 b2
              rw [b3, ← hh] at hnx
              rcases hb with hb | hb
              · repeat' (first | (refine XL_id ?_; first | refine XL_nil ?_ | refine XL_guard_yes rfl rfl rfl ?_ | refine XL_guard_no rfl rfl rfl rfl rfl ?_ | refine XL_guard_nou rfl rfl rfl rfl ?_ | (refine XG_call ?_; refine XL_callE [0] (nextN_is r _ pin _ _ hnx) rfl rfl rfl (fun _ _ _ => trivial) ?_) | (refine XL_op tt_ok rfl rfl ?_; try (first | refine XL_int (wrap_i64 (by omega) (by omega)) ?_ | refine XL_dec_t (by omega) ?_ | refine XL_dec_f (by omega) ?_ | refine XL_dec (fun _ => ?_) (fun _ => ?_)))) | (refine X_id ?_; first | refine X_seq ?_ | (refine X_regionN (by repeat' (first | exact .nil | apply NL.cons)) ?_) | refine X_skip ?_ | refine X_block ?_ | refine X_cond_t rfl ?_ | refine X_cond_f rfl ?_) | (refine Y_id ?_; first | refine Y_then ?_ | refine Y_block_normal ?_))
                all_goals first
                  | exact Y_again (i + 1) fun _ _ hf hs => ⟨by show i + 1 ≤ n; omega, by show n - (i + 1) < n - i; omega, hf.sub (by (repeat' (first | exact trivial | refine And.intro rfl ?_)); done), hs⟩
                  | (exfalso; rename_i h9; exact absurd rfl h9)
                  | (exfalso; omega)
                  | skip
                
              · repeat' (first | (refine XL_id ?_; first | refine XL_nil ?_ | refine XL_guard_yes rfl rfl rfl ?_ | refine XL_guard_no rfl rfl rfl rfl rfl ?_ | (refine XG_call ?_; refine XL_callE [0] (nextN_is r _ pin _ _ hnx) rfl rfl rfl (fun _ _ _ => trivial) ?_) | (refine XL_op tt_ok rfl rfl ?_; try (first | refine XL_int (wrap_i64 (by omega) (by omega)) ?_ | refine XL_dec_t (by omega) ?_ | refine XL_dec_f (by omega) ?_ | refine XL_dec (fun _ => ?_) (fun _ => ?_)))) | (refine X_id ?_; first | refine X_seq ?_ | (refine X_regionN (by repeat' (first | exact .nil | apply NL.cons)) ?_) | refine X_skip ?_ | refine X_block ?_ | refine X_cond_t rfl ?_ | refine X_cond_f rfl ?_) | (refine Y_id ?_; first | refine Y_then ?_ | refine Y_block_normal ?_))
                all_goals first
                  | exact Y_again (i + 1) fun _ _ hf hs => ⟨by show i + 1 ≤ n; omega, by show n - (i + 1) < n - i; omega, hf.sub (by (repeat' (first | exact trivial | refine And.intro rfl ?_)); done), hs⟩
                  | (exfalso; rename_i h9; exact absurd rfl h9)
                  | (exfalso; omega)
                  | skip
                
            · have hc1 : ¬ (0 < i ∧ pin = (i : Int) - 1) := fun h => hb (.inl h)
              have hc2 : ¬ (i = 0 ∧ 0 < k ∧ pin = (n : Int) - 1) := fun h => hb (.inr h)
              have hc := hAt_c (n := n) hlt2 hc1 hc2
              have hnx := next_at (pin := pin) hlt2 hip
              rw [← hh] at hnx
              rw [hc]
              repeat' (first | (refine XL_id ?_; first | refine XL_nil ?_ | refine XL_guard_yes rfl rfl rfl ?_ | refine XL_guard_no rfl rfl rfl rfl rfl ?_ | (refine XG_call ?_; refine XL_callE [0] (nextN_is r _ pin _ _ hnx) rfl rfl rfl (fun _ _ _ => trivial) ?_) | (refine XL_op tt_ok rfl rfl ?_; try (first | refine XL_int (wrap_i64 (by omega) (by omega)) ?_ | refine XL_dec_t (by omega) ?_ | refine XL_dec_f (by omega) ?_ | refine XL_dec (fun _ => ?_) (fun _ => ?_)))) | (refine X_id ?_; first | refine X_seq ?_ | (refine X_regionN (by repeat' (first | exact .nil | apply NL.cons)) ?_) | refine X_skip ?_ | refine X_block ?_ | refine X_cond_t rfl ?_ | refine X_cond_f rfl ?_) | (refine Y_id ?_; first | refine Y_then ?_ | refine Y_block_normal ?_))
              all_goals first
                | exact Y_again (i + 1) fun _ _ hf hs => ⟨by show i + 1 ≤ n; omega, by show n - (i + 1) < n - i; omega, hf.sub (by (repeat' (first | exact trivial | refine And.intro rfl ?_)); done), hs⟩
                | (exfalso; rename_i h9; exact absurd rfl h9)
                | (exfalso; omega)
                | skip
              
        · obtain rfl : i = n := by omega
          repeat' (first | (refine XL_id ?_; first | refine XL_nil ?_ | (refine XL_op tt_ok rfl rfl ?_; try (refine XL_dec_f (by omega) ?_))) | (refine X_id ?_; first | refine X_seq ?_ | (refine X_regionN (by repeat' (first | exact .nil | apply NL.cons)) ?_) | refine X_exit ?_ | refine X_cond_f rfl ?_) | (refine Y_id ?_; first | refine Y_then ?_ | refine Y_then_exit ?_ | refine Y_block_hit ?_))
          all_goals first
            | exact Y_again () fun _ _ hf hs => ⟨trivial, hf.sub (by (repeat' (first | exact trivial | refine And.intro rfl ?_)); done), hs⟩
            | (exfalso; omega)
            | skip
          
      · have hrd := hAt_round (pin := pin) (k := k) hn2
        exact Y_again (k + 1) fun _ _ hf hs => ⟨by show k + 1 ≤ R; omega, by show R - (k + 1) < R - k; omega, hf.sub (by (repeat' (first | exact trivial | refine And.intro rfl ?_)); done), by rw [← hrd]; exact hs⟩
    · obtain rfl : k = R := by omega
      repeat' (first | (refine XL_id ?_; first | refine XL_nil ?_ | (refine XL_op tt_ok rfl rfl ?_; try (refine XL_dec_f (by omega) ?_))) | (refine X_id ?_; first | refine X_seq ?_ | (refine X_regionN (by repeat' (first | exact .nil | apply NL.cons)) ?_) | refine X_exit ?_ | refine X_cond_f rfl ?_) | (refine Y_id ?_; first | refine Y_then ?_ | refine Y_then_exit ?_ | refine Y_block_hit ?_))
      all_goals first
        | exact Y_again () fun _ _ hf hs => ⟨trivial, hf.sub (by (repeat' (first | exact trivial | refine And.intro rfl ?_)); done), hs⟩
        | (exfalso; omega)
        | skip
      
  · refine X_loopD2 [0, 1, 7] (fun (i : Nat) (zs : List Int) => [(15, .int .i64 i)]) (fun _ zs => [isRing r zs]) (fun i zs => i ≤ n + 1 ∧ Rest n pin i zs) (fun i _ => n + 1 - i) 0 (rotL (seqI n) (hAt n pin R 0) ++ [(n : Int)]) rfl ⟨Nat.zero_le _, Rest.start hn2 (by omega)⟩ (by (repeat' (first | exact trivial | refine And.intro rfl ?_)); done) (fun h hs => hs) ?_
    intro i zs hi
    obtain ⟨hi, hz⟩ := hi
    by_cases hlt : i < n + 1
    · obtain ⟨y, t, rfl⟩ : ∃ y t, zs = y :: t := by cases zs with | nil => have := hz.len; simp at this | cons y t => exact ⟨y, t, rfl⟩
      obtain ⟨h1, h2, h3⟩ := hz.step
      have hnx := nextC_head (t := t) (show ¬ y = -1 by omega)
      by_cases hp : pin = (n : Int) - 1
      · repeat' (first | (refine XL_id ?_; first | refine XL_nil ?_ | refine XL_guard_no rfl rfl rfl rfl rfl ?_ | (refine XG_call ?_; refine XL_callE [0] (nextN_is r _ (-1) _ _ hnx) rfl rfl rfl (fun _ _ _ => trivial) ?_) | (refine XL_op tt_ok rfl rfl ?_; try (first | refine XL_int (wrap_i64 (by omega) (by omega)) ?_ | refine XL_dec_t (by omega) ?_ | refine XL_dec_f (by omega) ?_ | refine XL_dec (fun _ => ?_) (fun _ => ?_)))) | (refine X_id ?_; first | refine X_seq ?_ | (refine X_regionN (by repeat' (first | exact .nil | apply NL.cons)) ?_) | refine X_skip ?_ | refine X_ret ?_ | refine X_block ?_ | refine X_cond_t rfl ?_ | refine X_cond_f rfl ?_) | (refine Y_id ?_; first | refine Y_then ?_ | refine Y_then_ret ?_ | refine Y_block_normal ?_ | refine Y_block_ret ?_))
        all_goals first
          | exact Y_again (i + 1, t ++ [y]) fun _ _ hf hs => ⟨⟨by show i + 1 ≤ n + 1; omega, h3⟩, by show n + 1 - (i + 1) < n + 1 - i; omega, hf.sub (by (repeat' (first | exact trivial | refine And.intro rfl ?_)); done), hs⟩
          | (exfalso; rename_i h9; exact absurd rfl h9)
          | (exfalso; omega)
          | skip
        
      · have hyi := h2 hp (by omega)
        subst hyi
        repeat' (first | (refine XL_id ?_; first | refine XL_nil ?_ | refine XL_guard_yes rfl rfl rfl ?_ | (refine XG_call ?_; refine XL_callE [0] (nextN_is r _ (-1) _ _ hnx) rfl rfl rfl (fun _ _ _ => trivial) ?_) | (refine XL_op tt_ok rfl rfl ?_; try (first | refine XL_int (wrap_i64 (by omega) (by omega)) ?_ | refine XL_dec_t (by omega) ?_ | refine XL_dec_f (by omega) ?_ | refine XL_dec (fun _ => ?_) (fun _ => ?_)))) | (refine X_id ?_; first | refine X_seq ?_ | (refine X_regionN (by repeat' (first | exact .nil | apply NL.cons)) ?_) | refine X_skip ?_ | refine X_ret ?_ | refine X_block ?_ | refine X_cond_t rfl ?_ | refine X_cond_f rfl ?_) | (refine Y_id ?_; first | refine Y_then ?_ | refine Y_then_ret ?_ | refine Y_block_normal ?_ | refine Y_block_ret ?_))
        all_goals first
          | exact Y_again (i + 1, t ++ [(i : Int)]) fun _ _ hf hs => ⟨⟨by show i + 1 ≤ n + 1; omega, h3⟩, by show n + 1 - (i + 1) < n + 1 - i; omega, hf.sub (by (repeat' (first | exact trivial | refine And.intro rfl ?_)); done), hs⟩
          | (exfalso; rename_i h9; exact absurd rfl h9)
          | (exfalso; omega)
          | skip
        
    · repeat' (first | (refine XL_id ?_; first | refine XL_nil ?_ | (refine XL_op tt_ok rfl rfl ?_; try (refine XL_dec_f (by omega) ?_))) | (refine X_id ?_; first | refine X_seq ?_ | (refine X_regionN (by repeat' (first | exact .nil | apply NL.cons)) ?_) | refine X_exit ?_ | refine X_cond_f rfl ?_) | (refine Y_id ?_; first | refine Y_then ?_ | refine Y_then_exit ?_ | refine Y_block_hit ?_))
      all_goals first
        | exact Y_again zs fun _ _ hf hs => ⟨hz.len, hf.sub (by (repeat' (first | exact trivial | refine And.intro rfl ?_)); done), hs⟩
        | (exfalso; omega)
        | skip
      
  all_goals first
    | exact Y_fn1 rfl rfl rfl
    | (exfalso; omega)
    | skip
  
end Go.Proofs.Ytgbcagcaaegciaa
