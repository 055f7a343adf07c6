/- Tables: the document's answer. -/
import Derived.Test.YtalkcemelegohaaAdWc
set_option linter.unusedVariables false
set_option maxRecDepth 100000
namespace Go.Proofs.Ytalkcemelegohaa.Ad
open Go.RowKit Go.Cof

theorem rmay_spec (s : Sp) : FnC Try.prog 84 [.agg #[iV s.p, iV s.n]] (fun _ => True) (.bool (decide s.May)) := by
  have hs : s.May ↔ (0 ≤ s.p ∧ 0 ≤ s.n ∧ s.p ≤ 1048576 ∧ s.n ≤ 1048576 - s.p) := Iff.rfl
  refine Ctr.intro Try.func84 rfl rfl (by decide +kernel) fun F hpre => ?_
  repeat' (first | (refine XL_id ?_; first | refine XL_nil ?_ | refine XL_guard_yes rfl rfl rfl ?_ | refine XL_guard_no rfl rfl rfl rfl rfl ?_ | (refine XG_load ?_; refine XL_load tt_ok 0 rfl rfl rfl rfl rfl rfl ?_) | (refine XG_box ?_; (refine XL_box rfl (fun _ => rfl) (fun _ => ?_); refine XL_nB (by repeat' (first | exact .nil | apply NL.cons)) ?_)) | (refine XL_op tt_ok rfl rfl ?_; try (first | refine XL_int (wrap_i64 (by omega) (by omega)) ?_ | refine XL_dec (fun _ => ?_) (fun _ => ?_)))) | (refine X_id ?_; first | refine X_seq ?_ | (refine X_regionN (by repeat' (first | exact .nil | apply NL.cons)) ?_) | refine X_ret ?_) | (refine Y_id ?_; refine Y_then ?_))
  all_goals first
    | exact Y_fn1 rfl rfl (bool_t (hs.2 (by omega)))
    | exact Y_fn1 rfl rfl (bool_f (fun h => by have := hs.1 h; omega))
    | skip
  
theorem cnt_put {b : List Bool} {k : Nat} (hk : k < b.length) : cntB (b.set k true) = if O b k then cntB b else cntB b + 1 := by
  have h := cnt_set (l := b) (i := k) (v := true) hk
  by_cases ho : O b k
  · rw [if_pos ho] at h ⊢; simp at h; omega
  · rw [if_neg ho] at h ⊢; simp at h; omega
theorem put_same {b : List Bool} {k : Nat} (hk : k < b.length) (ho : O b k) : b.set k true = b := by
  have e : b[k] = true := by
    unfold O at ho
    rw [List.getD_eq_getElem?_getD, List.getElem?_eq_getElem hk] at ho
    exact ho
  rw [← e, List.set_getElem_self]
set_option maxHeartbeats 8000000 in
theorem rtables_spec (A : Option Addr) (m c : Nat) (l : List Sp) (hi64 : ∀ s ∈ l, i64In s.p ∧ i64In s.n) (hm : m ≤ 9223372036854775807) : FnC Try.prog 54 [.slice A m c] (fun h => rdS encSp h A m l) (pr2 (iV (tabsF l).1) (iV (tabsF l).2)) := by
  by_cases h1024 : 1024 < l.length
  · have hF : tabsF l = (0, 3) := if_pos h1024
    rw [hF]
    refine Ctr.intro Try.func54 rfl rfl (by decide +kernel) fun F hpre => ?_
    have rl : rdS encSp F.heap A m l := hpre
    have hll := rl.1
    repeat' (first | (refine XL_id ?_; first | refine XL_nil ?_ | (refine XL_op tt_ok rfl rfl ?_; try (refine XL_dec_t (by omega) ?_))) | (refine X_id ?_; first | refine X_seq ?_ | (refine X_regionN (by repeat' (exact .nil)) ?_) | refine X_ret ?_ | refine X_cond_t rfl ?_) | (refine Y_id ?_; first | refine Y_then ?_ | refine Y_then_ret ?_))
    all_goals first
      | exact Y_fn2 rfl rfl rfl rfl
      | (exfalso; omega)
      | skip
    
  · refine Ctr.intro Try.func54 rfl rfl (by decide +kernel) fun F hpre => ?_
    have rl : rdS encSp F.heap A m l := hpre
    have hll := rl.1
    repeat' (first | (refine XL_id ?_; first | refine XL_nil ?_ | (refine XL_op tt_ok rfl rfl ?_; try (refine XL_dec_f (by omega) ?_))) | (refine X_id ?_; first | refine X_block (id := 0) (hold ?_) | refine X_seq ?_ | (refine X_regionN (by repeat' (exact .nil)) ?_) | refine X_skip ?_ | refine X_cond_f rfl ?_) | (refine Y_id ?_; refine Y_then ?_))
    all_goals first
      | (exfalso; omega)
      | skip
    intro _
    refine X_loopD [0] (fun (i : Nat) => [(4, .int .i64 i)]) (fun _ => []) (fun i => i ≤ m ∧ ∀ s ∈ l.take i, s.May) (fun i => m - i) 0 rfl ⟨Nat.zero_le _, fun s hs => by simp at hs⟩ (by (repeat' (first | exact trivial | refine And.intro rfl ?_)); done) (fun _ _ => trivial) ?_
    intro i hq0
    obtain ⟨him, hmay⟩ := hq0
    by_cases hlt : i < m
    · have hsp := rmay_spec (Cof.get l (i : Int))
      by_cases hM : (Cof.get l (i : Int)).May
      · rw [decide_eq_true hM] at hsp
        have hmay2 : ∀ s ∈ l.take (i + 1), s.May := fun s hs => by
          rw [take_snoc' _ _ (show i < l.length by omega)] at hs
          rcases List.mem_append.1 hs with hs | hs
          · exact hmay s hs
          · rw [List.mem_singleton.1 hs]; exact hM
        repeat' (first | (refine XL_id ?_; first | refine XL_nil ?_ | (refine XG_load ?_; refine XL_elW tt_ok rfl (by assumption) rfl (by omega) (by omega) rfl rfl rfl rfl ?_) | (refine XG_idx ?_; refine XL_idx tt_ok rfl rfl rfl rfl rfl (by assumption) (by omega) (by omega) rfl ?_) | (refine XG_call ?_; first | (refine XL_op tt_ok rfl rfl ?_) | refine XL_fn hsp rfl rfl (fun _ _ _ => trivial) ?_) | (refine XL_op tt_ok rfl rfl ?_; try (first | refine XL_int (wrap_i64 (by omega) (by omega)) ?_ | refine XL_dec_t (by omega) ?_))) | (refine X_id ?_; first | refine X_seq ?_ | (refine X_regionN (by repeat' (exact .nil)) ?_) | refine X_skip ?_ | refine X_block ?_ | refine X_cond_t rfl ?_ | refine X_cond_f rfl ?_) | (refine Y_id ?_; first | refine Y_then ?_ | refine Y_block_normal ?_))
        all_goals first
          | exact Y_again (i + 1) fun _ _ hf hs => ⟨⟨hlt, hmay2⟩, by show m - (i + 1) < m - i; omega, hf.sub (by (repeat' (first | exact trivial | refine And.intro rfl ?_)); done), hs⟩
          | (exfalso; omega)
          | skip
        
      · rw [decide_eq_false hM] at hsp
        have hF : tabsF l = (0, 2) := by
          unfold tabsF
          rw [if_neg h1024, if_neg (fun h => hM (h _ (get_mem' (l := l) (i := (i : Int)) (by omega) (by omega))))]
        rw [hF]
        repeat' (first | (refine XL_id ?_; first | refine XL_nil ?_ | (refine XG_load ?_; refine XL_elW tt_ok rfl (by assumption) rfl (by omega) (by omega) rfl rfl rfl rfl ?_) | (refine XG_idx ?_; refine XL_idx tt_ok rfl rfl rfl rfl rfl (by assumption) (by omega) (by omega) rfl ?_) | (refine XG_call ?_; first | (refine XL_op tt_ok rfl rfl ?_) | refine XL_fn hsp rfl rfl (fun _ _ _ => trivial) ?_) | (refine XL_op tt_ok rfl rfl ?_; try (refine XL_dec_t (by omega) ?_))) | (refine X_id ?_; first | refine X_seq ?_ | (refine X_regionN (by repeat' (exact .nil)) ?_) | refine X_skip ?_ | refine X_ret ?_ | refine X_block ?_ | refine X_cond_t rfl ?_) | (refine Y_id ?_; first | refine Y_then ?_ | refine Y_then_ret ?_ | refine Y_block_ret ?_))
        all_goals first
          | exact Y_fn2 rfl rfl rfl rfl
          | (exfalso; omega)
          | skip
        
    · obtain rfl : i = m := by omega
      rw [List.take_of_length_le (by omega)] at hmay
      have hF : tabsF l = ((total l : Int), 0) := by unfold tabsF; rw [if_neg h1024, if_pos hmay]
      rw [hF]
      repeat' (first | (refine XL_id ?_; first | refine XL_nil ?_ | (refine XL_op tt_ok rfl rfl ?_; try (refine XL_dec_f (by omega) ?_))) | (refine X_id ?_; first | refine X_block (id := 2) (hold ?_) | refine X_seq ?_ | (refine X_regionN (by repeat' (exact .nil)) ?_) | refine X_exit ?_ | refine X_cond_f rfl ?_) | (refine Y_id ?_; first | refine Y_then ?_ | refine Y_then_exit ?_ | refine Y_block_hit ?_))
      all_goals first
        | (exfalso; omega)
        | skip
      intro _
      refine X_loopD [0] (fun (v : Nat) => [(6, .int .i64 v), (5, .int .i64 (ahead3 l v))]) (fun _ => []) (fun v => v ≤ 3) (fun v => 3 - v) 0 rfl (Nat.zero_le _) (by (repeat' (first | exact trivial | refine And.intro rfl ?_)); done) (fun _ _ => trivial) ?_
      intro v hv
      have hv : v ≤ 3 := hv
      have hca := ahead_cap l v
      by_cases hv3 : v < 3
      · obtain ⟨D, hD⟩ : ∃ D, 32 ^ (v + 1) = D := ⟨_, rfl⟩
        obtain ⟨M, hMM⟩ : ∃ M, 1048576 / D = M := ⟨_, rfl⟩
        have hD0 : 0 < D := by rw [← hD]; exact Nat.pow_pos (by decide)
        have hDM : D * M = 1048576 := by
          subst hD hMM
          match v, hv3 with
          | 0, _ => rfl
          | 1, _ => rfl
          | 2, _ => rfl
        have hpw : pow32 ((v : Int) + 1) = (D : Int) := by
          subst hD
          match v, hv3 with
          | 0, _ => rfl
          | 1, _ => rfl
          | 2, _ => rfl
        have hM2 : M ≤ 1048576 := by rw [← hMM]; exact Nat.div_le_self _ _
        have hstep := ahead_step l (k := v) (by omega) hD hMM
        have hov : ∀ p : Int, 0 ≤ p ∧ p ≤ 4294967296 → FnC Try.prog 85 [iV p, iV ((v : Int) + 1)] (fun _ => True) (iV (p / (D : Int))) := fun p hp => by
          have h := over_spec p ((v : Int) + 1) hp (by omega)
          rw [hpw] at h; exact h
        have hov0 := hov 1048576 (by decide)
        rw [show (1048576 : Int) / (D : Int) = (M : Int) by rw [← hMM]; rfl] at hov0
        obtain ⟨C0, hC0⟩ : ∃ C0, ahead3 l v = C0 := ⟨_, rfl⟩
        rw [hC0] at hca hstep ⊢
        repeat' (first | (refine XL_id ?_; first | refine XL_nil ?_ | (refine XG_call ?_; refine XL_fn hov0 rfl rfl (fun _ _ _ => trivial) ?_) | (refine XG_make ?_; (refine XL_make encB false tt_ok rfl rfl rfl rfl rfl rfl rfl rfl (by omega) (by omega) (by show (1 : Int) * _ ≤ _; omega) (by omega) (fun _ => rfl) (fun tb => ?_))) | (refine XL_op tt_ok rfl rfl ?_; try (first | refine XL_int (wrap_i64 (by omega) (by omega)) ?_ | refine XL_dec_t (by omega) ?_))) | (refine X_id ?_; first | refine X_block (id := 4) (hold ?_) | refine X_seq ?_ | (refine X_regionN (by repeat' (first | exact .nil | apply NL.cons)) ?_) | refine X_skip ?_ | refine X_block ?_ | refine X_cond_t rfl ?_) | (refine Y_id ?_; refine Y_then ?_))
        all_goals first
          | (exfalso; omega)
          | skip
        intro _
        refine X_loopD2 [0, 6, 7] (fun (j C : Nat) => [(8, .int .i64 j), (5, .int .i64 C)]) (fun j _ => [own encB (some ⟨tb, 0, none⟩) M M (marks D M (l.take j))]) (fun j C => j ≤ i ∧ C = C0 + cntB (marks D M (l.take j))) (fun j _ => i - j) 0 C0 rfl ⟨Nat.zero_le _, by show C0 = C0 + cntB (marks D M []); rw [show cntB (marks D M []) = 0 from cnt_none M]; rfl⟩ (by (repeat' (first | exact trivial | refine And.intro rfl ?_)); done) (fun h hs => hs) ?_
        intro j C hj
        obtain ⟨hj, hC⟩ := hj
        have hcap := marks_cap D M (l.take j)
        by_cases hjl : j < i
        · have hmem := get_mem' (l := l) (i := (j : Int)) (by omega) (by omega)
          obtain ⟨g0, g1, g2, g3⟩ := hmay _ hmem
          have htk : l.take (j + 1) = l.take j ++ [Cof.get l (j : Int)] := take_snoc' _ _ (by omega)
          by_cases hn : 0 < (Cof.get l (j : Int)).n
          · have hhi := hi_lt (s := Cof.get l (j : Int)) ⟨g0, g1, g2, g3⟩ hn hD0 hDM
            have hlh := lo_le_hi hD0 hn
            have hmk : marks D M (l.take (j + 1)) = setN (marks D M (l.take j)) (lo D (Cof.get l (j : Int))) (hi D (Cof.get l (j : Int)) + 1 - lo D (Cof.get l (j : Int))) true := by rw [htk, marks_snoc]; exact if_pos hn
            have hovl := hov ((Cof.get l (j : Int)).p + (Cof.get l (j : Int)).n - 1) (by omega)
            have hovf := hov (Cof.get l (j : Int)).p (by omega)
            rw [hi_int g0 hn] at hovl
            rw [lo_int g0] at hovf
            obtain ⟨L, hL⟩ : ∃ L, lo D (Cof.get l (j : Int)) = L := ⟨_, rfl⟩
            obtain ⟨H, hH⟩ : ∃ H, hi D (Cof.get l (j : Int)) = H := ⟨_, rfl⟩
            rw [hL] at hovf
            rw [hH] at hovl hhi
            rw [hL, hH] at hmk hlh
            obtain ⟨b0, hb0⟩ : ∃ b0, marks D M (l.take j) = b0 := ⟨_, rfl⟩
            have hbl : b0.length = M := by rw [← hb0, marks_len]
            rw [hb0] at hC hmk ⊢
            repeat' (first | (refine XL_id ?_; first | refine XL_nil ?_ | (refine XG_load ?_; first | refine XL_el tt_ok rfl (by assumption) rfl (by omega) (by omega) rfl rfl rfl rfl ?_ | refine XL_elf tt_ok rfl (by assumption) rfl (by omega) (by omega) rfl rfl rfl rfl ?_) | (refine XG_idx ?_; refine XL_idx tt_ok rfl rfl rfl rfl rfl (by assumption) (by omega) (by omega) rfl ?_) | (refine XG_call ?_; first | (refine XL_op tt_ok rfl rfl ?_) | refine XL_fn hovl rfl rfl (fun _ _ _ => trivial) ?_ | refine XL_fn hovf rfl rfl (fun _ _ _ => trivial) ?_) | (refine XL_op tt_ok rfl rfl ?_; try (first | refine XL_int (wrap_i64 (by omega) (by omega)) ?_ | refine XL_dec_t (by omega) ?_ | refine XL_dec_f (by omega) ?_))) | (refine XD_id ?_; first | (refine XD_thaw thaw ?_; refine XD_nil ?_) | (refine XD_id ?_; (first | (refine XD_uL rfl ?_; first | refine XD_s rfl rfl rfl (XV_el tt_ok rfl (rdS.le (by assumption) hFG) rfl (by omega) (by omega) rfl rfl rfl) rfl ?_ | refine XD_s rfl rfl rfl (XV_elf tt_ok rfl (rdS.le (by assumption) hFG) rfl (by omega) (by omega) rfl rfl rfl) rfl ?_) | (refine XD_uI rfl ?_; refine XD_s rfl rfl rfl (XV_idx tt_ok rfl rfl rfl rfl rfl (rdS.le (by assumption) hFG) (by omega) (by omega)) rfl ?_) | (refine XD_u rfl rfl ?_; refine XD_s rfl rfl rfl (XV_op tt_ok rfl) rfl ?_)); try (refine XD_int (wrap_i64 (by omega) (by omega)) ?_)) | refine XD_m rfl rfl ?_) | (refine X_id ?_; first | refine X_block (id := 6) (hold ?_) | (refine X_drawS (id := 17) [0, 1, 2, 3, 4, 5, 6, 7, 8, 9, 10, 11, 12, 13, 14, 15] (fun | 14 => .m | _ => .s) 8 (by repeat' (first | exact Split.nil | apply Split.keep)) mixed (by decide +kernel) ?_; intro G hFG hM thaw; show XD _ _ _ _ _ _ [0, 1, 2, 3, 4, 5, 6, 7, 8, 9, 10, 11, 12, 13, 14, 15] _ _ _) | refine X_seq ?_ | (refine X_regionN (by repeat' (first | exact .nil | apply NL.cons)) ?_) | refine X_skip ?_ | refine X_block ?_ | refine X_cond_t rfl ?_ | refine X_cond_f rfl ?_) | (refine Y_id ?_; first | refine Y_then ?_ | refine Y_m ?_))
            all_goals first
              | (exfalso; omega)
              | skip
            intro _
            refine X_loopD3 [0, 6, 7, 8, 9] (fun (k n : Nat) (b : List Bool) => [(10, .int .i64 k), (5, .int .i64 n)]) (fun _ _ b => [own encB (some ⟨tb, 0, none⟩) M M b]) (fun k n b => L ≤ k ∧ k ≤ H + 1 ∧ n = C0 + cntB b ∧ b = setN b0 L (k - L) true) (fun k _ _ => H + 1 - k) L C b0 rfl ⟨Nat.le_refl _, by omega, hC, by rw [Nat.sub_self]; rfl⟩ (by (repeat' (first | exact trivial | refine And.intro rfl ?_)); done) (fun h hs => hs) ?_
            intro k n b hk
            obtain ⟨hk1, hk2, hnn, hb⟩ := hk
            have hblen : b.length = M := by rw [hb, setN_len, hbl]
            have hcb := cnt_len b
            by_cases hkl : k ≤ H
            · have hst := setN_step (op := b0) (v := true) hk1
              rw [← hb] at hst
              have hcp := cnt_put (b := b) (k := k) (by omega)
              by_cases ho : O b k
              · have hg : Cof.get b (k : Int) = true := ho
                have hsame := put_same (b := b) (by omega) ho
                repeat' (first | (refine XL_id ?_; first | refine XL_head (show Value.bool (Cof.get b (k : Int)) = .bool true from congrArg _ hg) ?_ | refine XL_nil ?_ | (refine XG_load ?_; refine XL_elo tt_ok 0 rfl rfl rfl (by omega) (by omega) rfl rfl rfl rfl ?_) | (refine XG_idx ?_; refine XL_idxo tt_ok 0 rfl rfl rfl rfl rfl rfl (by omega) (by omega) rfl ?_) | (refine XL_op tt_ok rfl rfl ?_; try (first | refine XL_int (wrap_i64 (by omega) (by omega)) ?_ | refine XL_dec_t (by omega) ?_))) | (refine X_id ?_; first | refine X_seq ?_ | (refine X_regionN (by repeat' (first | exact .nil | apply NL.cons)) ?_) | refine X_skip ?_ | refine X_block ?_ | refine X_cond_t rfl ?_ | refine X_cond_f rfl ?_) | (refine Y_id ?_; first | refine Y_then ?_ | refine Y_block_normal ?_))
                all_goals first
                  | exact Y_again (k + 1, n, b) fun _ _ hf hs => ⟨⟨by show L ≤ k + 1; omega, by show k + 1 ≤ H + 1; omega, hnn, by show b = setN b0 L (k + 1 - L) true; rw [hst, hsame]⟩, by show H + 1 - (k + 1) < H + 1 - k; omega, hf.sub (by (repeat' (first | exact trivial | refine And.intro rfl ?_)); done), hs⟩
                  | (exfalso; omega)
                  | skip
                
              · have hg : Cof.get b (k : Int) = false := by
                  cases e : Cof.get b (k : Int) with
                  | false => rfl
                  | true => exact absurd e ho
                rw [if_neg ho] at hcp
                repeat' (first | (refine XL_id ?_; first | refine XL_head (show Value.bool (Cof.get b (k : Int)) = .bool false from congrArg _ hg) ?_ | refine XL_nil ?_ | (refine XG_load ?_; refine XL_elo tt_ok 0 rfl rfl rfl (by omega) (by omega) rfl rfl rfl rfl ?_) | (refine XG_idx ?_; refine XL_idxo tt_ok 0 rfl rfl rfl rfl rfl rfl (by omega) (by omega) rfl ?_) | (refine XG_store ?_; refine XL_putO tt_ok 0 true rfl rfl rfl rfl rfl rfl rfl (by omega) rfl ?_) | (refine XL_op tt_ok rfl rfl ?_; try (first | refine XL_int (wrap_i64 (by omega) (by omega)) ?_ | refine XL_dec_t (by omega) ?_))) | (refine X_id ?_; first | refine X_seq ?_ | (refine X_regionN (by repeat' (first | exact .nil | apply NL.cons)) ?_) | refine X_skip ?_ | refine X_block ?_ | refine X_cond_t rfl ?_) | (refine Y_id ?_; first | refine Y_then ?_ | refine Y_block_normal ?_))
                all_goals first
                  | exact Y_again (k + 1, n + 1, b.set k true) fun _ _ hf hs => ⟨⟨by show L ≤ k + 1; omega, by show k + 1 ≤ H + 1; omega, by show n + 1 = C0 + cntB (b.set k true); omega, by show b.set k true = setN b0 L (k + 1 - L) true; rw [hst]⟩, by show H + 1 - (k + 1) < H + 1 - k; omega, hf.sub (by (repeat' (first | exact trivial | refine And.intro rfl ?_)); done), hs⟩
                  | (exfalso; omega)
                  | skip
                
            · obtain rfl : k = H + 1 := by omega
              rw [← hmk] at hb
              subst hb
              repeat' (first | (refine XL_id ?_; first | refine XL_nil ?_ | (refine XL_op tt_ok rfl rfl ?_; try (first | refine XL_int (wrap_i64 (by omega) (by omega)) ?_ | refine XL_dec_f (by omega) ?_))) | (refine X_id ?_; first | refine X_seq ?_ | (refine X_regionN (by repeat' (first | exact .nil | apply NL.cons)) ?_) | refine X_exit ?_ | refine X_cond_f rfl ?_) | (refine Y_id ?_; first | refine Y_then ?_ | refine Y_then_exit ?_ | refine Y_block_hit ?_ | refine Y_block_normal ?_))
              all_goals first
                | exact Y_again (j + 1, n) fun _ _ hf hs => ⟨⟨hjl, hnn⟩, by show i - (j + 1) < i - j; omega, hf.sub (by (repeat' (first | exact trivial | refine And.intro rfl ?_)); done), hs⟩
                | (exfalso; omega)
                | skip
              
          · have hmk : marks D M (l.take (j + 1)) = marks D M (l.take j) := by rw [htk, marks_snoc]; exact if_neg hn
            repeat' (first | (refine XL_id ?_; first | refine XL_nil ?_ | (refine XG_load ?_; refine XL_elf tt_ok rfl (by assumption) rfl (by omega) (by omega) rfl rfl rfl rfl ?_) | (refine XG_idx ?_; refine XL_idx tt_ok rfl rfl rfl rfl rfl (by assumption) (by omega) (by omega) rfl ?_) | (refine XL_op tt_ok rfl rfl ?_; try (first | refine XL_int (wrap_i64 (by omega) (by omega)) ?_ | refine XL_dec_t (by omega) ?_))) | (refine X_id ?_; first | refine X_seq ?_ | (refine X_regionN (by repeat' (first | exact .nil | apply NL.cons)) ?_) | refine X_skip ?_ | refine X_exit ?_ | refine X_block ?_ | refine X_cond_t rfl ?_) | (refine Y_id ?_; first | refine Y_then ?_ | refine Y_then_exit ?_ | refine Y_block_hit ?_))
            all_goals first
              | exact Y_again (j + 1, C) fun _ _ hf hs => ⟨⟨hjl, by show C = C0 + cntB (marks D M (l.take (j + 1))); rw [hmk]; exact hC⟩, by show i - (j + 1) < i - j; omega, hf.sub (by (repeat' (first | exact trivial | refine And.intro rfl ?_)); done), hs.imp fun g hg => by (show stars [own encB (some ⟨tb, 0, none⟩) M M (marks D M (l.take (j + 1)))] g; rw [hmk]; exact hg)⟩
              | (exfalso; omega)
              | skip
            
        · obtain rfl : j = i := by omega
          rw [List.take_of_length_le (by omega)] at hC
          have hC2 : C = ahead3 l (v + 1) := by omega
          subst hC2
          repeat' (first | (refine XL_id ?_; first | refine XL_nil ?_ | (refine XL_op tt_ok rfl rfl ?_; try (first | refine XL_int (wrap_i64 (by omega) (by omega)) ?_ | refine XL_dec_f (by omega) ?_))) | (refine X_id ?_; first | refine X_seq ?_ | (refine X_regionN (by repeat' (first | exact .nil | apply NL.cons)) ?_) | refine X_exit ?_ | refine X_cond_f rfl ?_) | (refine Y_id ?_; first | refine Y_then ?_ | refine Y_then_exit ?_ | refine Y_block_hit ?_ | refine Y_block_normal ?_))
          all_goals first
            | exact Y_again (v + 1) fun _ _ hf hs => ⟨hv3, by show 3 - (v + 1) < 3 - v; omega, hf.sub (by (repeat' (first | exact trivial | refine And.intro rfl ?_)); done), hs.imp fun _ _ => trivial⟩
            | (exfalso; omega)
            | skip
          
      · obtain rfl : v = 3 := by omega
        have ht3 : ahead3 l 3 = total l := rfl
        rw [ht3]
        repeat' (first | (refine XL_id ?_; first | refine XL_nil ?_ | (refine XL_op tt_ok rfl rfl ?_; try (refine XL_dec_f (by omega) ?_))) | (refine X_id ?_; first | refine X_seq ?_ | (refine X_regionN (by repeat' (exact .nil)) ?_) | refine X_ret ?_ | refine X_exit ?_ | refine X_cond_f rfl ?_) | (refine Y_id ?_; first | refine Y_then ?_ | refine Y_then_exit ?_ | refine Y_block_hit ?_))
        all_goals first
          | exact Y_fn2 rfl rfl rfl rfl
          | (exfalso; omega)
          | skip
        
end Go.Proofs.Ytalkcemelegohaa.Ad
