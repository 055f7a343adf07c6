/- The law RingTurns, walked. -/
import Derived.Test.YtgbcagcaaegciaaLb
import Derived.Test.YtgbcagcaaegciaaPd
set_option linter.unusedVariables false
namespace Go.Proofs.Ytgbcagcaaegciaa
open Go.RowKit Go.Cof

abbrev thB (q : Nat) (s : List Bool) : HProp := own encB (some ⟨q, 0, none⟩) 30 30 s
theorem rmI_no {ys : List Int} {id : Int} (h : id ∉ ys) : remE ys id = 190 ∧ rmI id ys = ys := ⟨if_neg h, rmI_none h⟩
theorem get_snoc (ys : List Int) (x : Int) {c : Nat} (h : ys.length = c) : Cof.get (ys ++ [x]) (c : Int) = x := by
  rw [get_app, if_neg (by omega), show c - ys.length = 0 from by omega]
  rfl
theorem take_snoc (ys : List Int) (x : Int) {c : Nat} (h : ys.length = c) : (ys ++ [x]).take c = ys := by rw [← h]; exact List.take_left
set_option maxRecDepth 100000 in
set_option maxHeartbeats 16000000 in
theorem ringTurns_walk (A : Option Addr) (m c : Nat) (l : List Do) (hm : m ≤ 9223372036854775807) (hl : ∀ x ∈ l, -9223372036854775808 ≤ x.k ∧ x.k ≤ 9223372036854775807) (hli : ∀ x ∈ l, -9223372036854775808 ≤ x.i ∧ x.i ≤ 9223372036854775807) :
    FnC Try.prog 5 [.slice A m c] (fun h => rdS encDo h A m l ∧ ∀ x ∈ l, ∃ bs, rdS encB h x.B x.m bs) (.bool true) := by
  refine Ctr.intro Try.func5 rfl rfl (by decide +kernel) fun F hpre => ?_
  obtain ⟨r1, hbs⟩ := hpre
  have hlen := r1.1
  repeat' (first | (refine XL_id ?_; first | refine XL_nil ?_ | (refine XG_alloc ?_; (refine XL_alloc (et := 47) tt_ok rfl rfl (fun _ => rfl) (fun bq => ?_); refine XL_conv 0 (thB bq (List.replicate 30 false)) rfl (fun h o => own_of_blk o rfl rfl (by decide)) ?_)) | (refine XG_call ?_; first | refine XL_fn works_spec rfl rfl (fun _ _ _ => trivial) ?_ | (refine XL_callK [] new_spec rfl rfl (fun _ => rfl) (fun _ _ _ => trivial) (fun u L hv => ?_); obtain ⟨r, rfl, rfl⟩ := hv)) | (refine XL_op tt_ok rfl rfl ?_)) | (refine X_id ?_; first | refine X_seq ?_ | (refine X_regionN (by repeat' (first | exact .nil | apply NL.cons)) ?_) | refine X_skip ?_ | refine X_block ?_ | refine X_cond_f rfl ?_) | (refine Y_id ?_; refine Y_then ?_))
  refine X_loopD4 [0, 3, 4] (fun (i : Nat) (ys : List Int) (s : List Bool) (n : Nat) => [(6, .int .i64 i), (5, .int .i64 n)]) (fun _ ys s _ => [isRing r ys, thB bq s]) (fun i ys s n => i ≤ m ∧ There ys s n) (fun i _ _ _ => m - i) 0 [] (List.replicate 30 false) 0 rfl ⟨Nat.zero_le _, There.start⟩ (by (repeat' (first | exact trivial | refine And.intro rfl ?_)); done) (fun h hs => stars_only [1, 0] rfl h hs) ?_
  intro i ys s n hi
  obtain ⟨hi, ht⟩ := hi
  by_cases hlt : i < m ∧ i < 120
  · have hmem := get_mem' (l := l) (i := (i : Int)) (by omega) (by omega)
    obtain ⟨bs, hb⟩ := hbs _ hmem
    have hk := hl _ hmem
    have hii := hli _ hmem
    have hw1 := within_spec (Cof.get l (i : Int)).i 30 hii.1 hii.2 (by decide) (by decide)
    have hw2 := within_spec (Cof.get l (i : Int)).k 3 hk.1 hk.2 (by decide) (by decide)
    obtain ⟨j, hj⟩ : ∃ j : Nat, (j : Int) = (Cof.get l (i : Int)).i % 30 := ⟨((Cof.get l (i : Int)).i % 30).toNat, by omega⟩
    have hj30 : j < 30 := by omega
    rw [← hj] at hw1
    have hk3 : (Cof.get l (i : Int)).k % 3 = 0 ∨ (Cof.get l (i : Int)).k % 3 = 1 ∨ (Cof.get l (i : Int)).k % 3 = 2 := by omega
    have hn30 := ht.few
    have hyn := ht.len
    have hls := list_spec r ys
    rw [hyn] at hls
    have hsl := ht.bits
    repeat' (first | (refine XL_id ?_; first | refine XL_nil ?_ | refine XL_guard_yes rfl rfl rfl ?_ | (refine XG_load ?_; first | refine XL_el tt_ok rfl (by assumption) rfl (by omega) (by omega) rfl rfl rfl rfl ?_ | refine XL_elf tt_ok rfl (by assumption) rfl (by omega) (by omega) rfl rfl rfl rfl ?_) | (refine XG_idx ?_; refine XL_idx tt_ok rfl rfl rfl rfl rfl (by assumption) (by omega) (by omega) rfl ?_) | (refine XG_call ?_; first | (refine XL_op tt_ok rfl rfl ?_) | refine XL_fn hw1 rfl rfl (fun _ _ _ => trivial) ?_ | refine XL_fn hw2 rfl rfl (fun _ _ _ => trivial) ?_ | (refine XL_callK [0] hls rfl rfl (fun _ => rfl) (fun _ _ _ => trivial) (fun u L hv => ?_); obtain ⟨A2, c2, rfl, rfl⟩ := hv)) | (refine XL_op tt_ok rfl rfl ?_; try (refine XL_dec_t (by omega) ?_))) | (refine X_id ?_; first | refine X_cutD (c := .block 2 _) [0, 3, 4, 6] (fun (x : List Int × List Bool × Nat) => [(5, .int .i64 x.2.2)]) (fun x => [isRing r x.1, thB bq x.2.1]) (fun x => There x.1 x.2.1 x.2.2) rfl (X_block (hold ?_)) (fun x hx => hold ?_) | refine X_seq ?_ | (refine X_regionN (by repeat' (first | exact .nil | apply NL.cons)) ?_) | refine X_skip ?_ | refine X_block ?_ | refine X_cond_t rfl ?_) | (refine Y_id ?_; refine Y_then ?_))
    · intro _
      rcases hk3 with hk0 | hk0 | hk0
      · cases hbj : Cof.get s (j : Int) with
        | true =>
          have hin := of_decide_eq_true (ht.has hj30 hbj).symm
          have he : addE ys j = 91 := by unfold addE; rw [if_neg (by omega), if_pos hin]
          have had := addC_spec r ys ys j 91 he (addT_no (by rw [he]; decide))
          repeat' (first | (refine XL_id ?_; first | refine XL_head (congrArg Value.bool hbj) ?_ | refine XL_nil ?_ | refine XL_guard_yes rfl rfl rfl ?_ | refine XL_guard_no rfl rfl rfl rfl rfl ?_ | refine XL_guard_nou rfl rfl rfl rfl ?_ | (refine XL_ld (i := j) (f := 0) tt_ok 2 rfl rfl (by show 0 + (j : Nat) * 1 = j * 1 + 0; omega) (by omega) rfl rfl rfl rfl ?_) | (refine XG_idx ?_; refine XL_idxal tt_ok rfl rfl rfl rfl rfl (by omega) (by omega) rfl ?_) | (refine XG_call ?_; refine XL_callE [1] had rfl rfl rfl (fun _ _ _ => trivial) ?_) | (refine XL_op tt_ok rfl rfl ?_; try (first | refine XL_dec_t (by omega) ?_ | refine XL_dec_f (by omega) ?_ | refine XL_dec (fun _ => ?_) (fun _ => ?_)))) | (refine X_id ?_; first | refine X_seq ?_ | (refine X_regionN (by repeat' (first | exact .nil | apply NL.cons)) ?_) | refine X_skip ?_ | refine X_ret ?_ | refine X_cond_t rfl ?_ | refine X_cond_f rfl ?_) | (refine Y_id ?_; first | refine Y_then ?_ | refine Y_then_ret ?_ | refine Y_block_normal ?_ | refine Y_block_ret ?_))
          all_goals first
            | exact Y_again (ys, s, n) fun _ _ hf hs => ⟨ht, hf.sub (by (repeat' (first | exact trivial | refine And.intro rfl ?_)); done), hs.imp fun h hs => stars_only [0, 1] rfl h hs⟩
            | (exfalso; rename_i h9; exact absurd rfl h9)
            | (exfalso; rename_i h9; exact Bool.noConfusion h9)
            | (exfalso; omega)
            | skip
          
        | false =>
          have hin := of_decide_eq_false (ht.has hj30 hbj).symm
          obtain ⟨he, ht2⟩ := ht.add hj30 hin
          have had := addC_spec r ys (ys ++ [(j : Int)]) j 0 he (addT_ok he)
          have hls2 := list_spec r (ys ++ [(j : Int)])
          rw [ht2.len] at hls2
          have hEq := fun A3 c3 => eqC_spec A3 A2 n c3 n c2 ys ys (by omega) (by omega) rfl
          have htk := take_snoc ys j hyn
          have hgt := get_snoc ys j hyn
          repeat' (first | (refine XL_id ?_; first | refine XL_head (congrArg Value.bool hbj) ?_ | refine XL_nil ?_ | refine XL_guard_yes rfl rfl rfl ?_ | refine XL_guard_no rfl rfl rfl rfl rfl ?_ | refine XL_guard_nou rfl rfl rfl rfl ?_ | (refine XL_ld (E := encB) (i := j) (f := 0) tt_ok 2 rfl rfl (by show 0 + (j : Nat) * 1 = j * 1 + 0; omega) (by omega) rfl rfl rfl rfl ?_) | (refine XL_ld (E := encN) (i := n) (f := 0) tt_ok 0 rfl rfl (by show 0 + (n : Nat) * 1 = n * 1 + 0; omega) (by omega) rfl rfl rfl rfl ?_) | (refine XG_idx ?_; first | refine XL_idxal tt_ok rfl rfl rfl rfl rfl (by omega) (by omega) rfl ?_ | refine XL_idxl tt_ok rfl rfl rfl rfl rfl (by omega) (by omega) rfl ?_) | (refine XG_call ?_; first | (refine XL_op tt_ok rfl rfl ?_) | refine XL_callE [1] had rfl rfl rfl (fun _ _ _ => trivial) ?_ | (refine XL_callK [0] hls2 rfl rfl (fun _ => rfl) (fun _ _ _ => trivial) (fun u L hv => ?_); obtain ⟨A3, c3, rfl, rfl⟩ := hv; refine XL_fact 0 rfl (fun _ o => And.intro (own_some o (by omega)) (own_len o)) fun hq3 => ?_; obtain ⟨⟨b3, rfl⟩, _, hc3, _⟩ := hq3) | (refine XL_fn (hEq _ _) rfl rfl (fun g hg hL => ⟨by have h1 := (rd_at 0 rfl hL).take n (by omega); rw [htk] at h1; exact h1, (by exact rd_at 2 rfl hL)⟩) ?_)) | (refine XG_slice ?_; refine XL_slice0 tt_ok rfl rfl rfl (.hi (by omega) (by omega)) rfl rfl rfl rfl ?_) | (refine XG_store ?_; (refine XL_put1 (o := j) tt_ok 2 true rfl (by show some (Value.pointer (some (⟨bq, 0 + j * 1, none⟩ : Addr))) = some (Value.pointer (some ⟨bq, j, none⟩)); rw [Nat.zero_add, Nat.mul_one]) rfl rfl rfl rfl rfl (by omega) rfl ?_)) | (refine XL_op tt_ok rfl rfl ?_; refine XL_int (show _ = (n : Int) from (wrap_i64 (by omega) (by omega)).trans (by omega)) ?_) | (refine XL_op tt_ok rfl rfl ?_; try (first | refine XL_int (wrap_i64 (by omega) (by omega)) ?_ | refine XL_dec_t (by omega) ?_ | refine XL_dec_f (by omega) ?_ | refine XL_dec (fun _ => ?_) (fun _ => ?_)))) | (refine X_id ?_; first | refine X_seq ?_ | (refine X_regionN (by repeat' (first | exact .nil | apply NL.cons)) ?_) | refine X_skip ?_ | refine X_ret ?_ | refine X_cond_t rfl ?_ | refine X_cond_f rfl ?_) | (refine Y_id ?_; first | refine Y_then ?_ | refine Y_then_ret ?_ | refine Y_block_normal ?_ | refine Y_block_ret ?_))
          all_goals first
            | exact Y_again (ys ++ [(j : Int)], s.set j true, n + 1) fun _ _ hf hs => ⟨ht2, hf.sub (by (repeat' (first | exact trivial | refine And.intro rfl ?_)); done), hs.imp fun h hs => stars_only [1, 2] rfl h hs⟩
            | (exfalso; rename_i h9; exact absurd rfl h9)
            | (exfalso; rename_i h9; exact Bool.noConfusion h9)
            | (exfalso; omega)
            | skip
          
      · cases hbj : Cof.get s (j : Int) with
        | true =>
          have hin := of_decide_eq_true (ht.has hj30 hbj).symm
          obtain ⟨ht2, hpos⟩ := ht.rm hj30 hin
          have hrm := removeC_spec r ys (rmI j ys) j 0 (if_pos hin) rfl
          have hcn : (n : Int) - 1 = ((n - 1 : Nat) : Int) := by omega
          repeat' (first | (refine XL_id ?_; first | refine XL_head (congrArg Value.bool hbj) ?_ | refine XL_nil ?_ | refine XL_guard_yes rfl rfl rfl ?_ | refine XL_guard_no rfl rfl rfl rfl rfl ?_ | (refine XL_ld (E := encB) (i := j) (f := 0) tt_ok 2 rfl rfl (by show 0 + (j : Nat) * 1 = j * 1 + 0; omega) (by omega) rfl rfl rfl rfl ?_) | (refine XG_idx ?_; refine XL_idxal tt_ok rfl rfl rfl rfl rfl (by omega) (by omega) rfl ?_) | (refine XG_call ?_; refine XL_callE [1] hrm rfl rfl rfl (fun _ _ _ => trivial) ?_) | (refine XG_store ?_; (refine XL_put1 (o := j) tt_ok 2 false rfl (by show some (Value.pointer (some (⟨bq, 0 + j * 1, none⟩ : Addr))) = some (Value.pointer (some ⟨bq, j, none⟩)); rw [Nat.zero_add, Nat.mul_one]) rfl rfl rfl rfl rfl (by omega) rfl ?_)) | (refine XL_op tt_ok rfl rfl ?_; refine XL_int (show _ = ((n - 1 : Nat) : Int) from (wrap_i64 (by omega) (by omega)).trans hcn) ?_) | (refine XL_op tt_ok rfl rfl ?_; try (first | refine XL_dec_t (by omega) ?_ | refine XL_dec_f (by omega) ?_))) | (refine X_id ?_; first | refine X_seq ?_ | (refine X_regionN (by repeat' (first | exact .nil | apply NL.cons)) ?_) | refine X_skip ?_ | refine X_cond_t rfl ?_ | refine X_cond_f rfl ?_) | (refine Y_id ?_; first | refine Y_then ?_ | refine Y_block_normal ?_))
          all_goals first
            | exact Y_again (rmI j ys, s.set j false, n - 1) fun _ _ hf hs => ⟨ht2, hf.sub (by (repeat' (first | exact trivial | refine And.intro rfl ?_)); done), hs.imp fun h hs => stars_only [0, 1] rfl h hs⟩
            | (exfalso; rename_i h9; exact absurd rfl h9)
            | (exfalso; rename_i h9; exact Bool.noConfusion h9)
            | (exfalso; omega)
            | skip
          
        | false =>
          have hin := of_decide_eq_false (ht.has hj30 hbj).symm
          have hrm := removeC_spec r ys ys j 190 (rmI_no hin).1 (rmI_no hin).2
          repeat' (first | (refine XL_id ?_; first | refine XL_head (congrArg Value.bool hbj) ?_ | refine XL_nil ?_ | refine XL_guard_yes rfl rfl rfl ?_ | (refine XL_ld (E := encB) (i := j) (f := 0) tt_ok 2 rfl rfl (by show 0 + (j : Nat) * 1 = j * 1 + 0; omega) (by omega) rfl rfl rfl rfl ?_) | (refine XG_idx ?_; refine XL_idxal tt_ok rfl rfl rfl rfl rfl (by omega) (by omega) rfl ?_) | (refine XG_call ?_; refine XL_callE [1] hrm rfl rfl rfl (fun _ _ _ => trivial) ?_) | (refine XL_op tt_ok rfl rfl ?_; try (first | refine XL_dec_t (by omega) ?_ | refine XL_dec_f (by omega) ?_))) | (refine X_id ?_; first | refine X_seq ?_ | (refine X_regionN (by repeat' (first | exact .nil | apply NL.cons)) ?_) | refine X_skip ?_ | refine X_cond_t rfl ?_ | refine X_cond_f rfl ?_) | (refine Y_id ?_; first | refine Y_then ?_ | refine Y_block_normal ?_))
          all_goals first
            | exact Y_again (ys, s, n) fun _ _ hf hs => ⟨ht, hf.sub (by (repeat' (first | exact trivial | refine And.intro rfl ?_)); done), hs.imp fun h hs => stars_only [0, 1] rfl h hs⟩
            | (exfalso; rename_i h9; exact absurd rfl h9)
            | (exfalso; rename_i h9; exact Bool.noConfusion h9)
            | (exfalso; omega)
            | skip
          
      · obtain ⟨hlk, hrot⟩ := nextF_rot (ansA bs (Cof.get l (i : Int)).r) nxA (j : Int) ys []
        have hpm := nextF_perm (ansA bs (Cof.get l (i : Int)).r) nxA (j : Int) ys []
        have hnx := fun q => next_spec r ys (j : Int) _ #[ptr q] #[] _ _ _ _ _ (ask_used q (Cof.get l (i : Int)) bs ys) [] (Nat.zero_le _)
        have hnil : n = 0 → (nextF (ansA bs (Cof.get l (i : Int)).r) nxA (j : Int) ys []).1.2.2 = 190 := fun h0 => by
          have : ys = [] := List.eq_nil_of_length_eq_zero (by omega)
          rw [this, nextF_nil]
        obtain ⟨⟨⟨id, lk, e⟩, zs, s3⟩, hR⟩ : ∃ R, R = nextF (ansA bs (Cof.get l (i : Int)).r) nxA (j : Int) ys [] := ⟨_, rfl⟩
        rw [← hR] at hlk hrot hpm hnx hnil
        dsimp only at hlk hrot hpm hnil
        have hnx2 : ∀ q, Ctr Try.prog 18 [ptr r, iV j, fvV 21 #[ptr q] #[]] (fun h => rdS encB h (Cof.get l (i : Int)).B (Cof.get l (i : Int)).m bs) [isRing r ys, isAsk q (Cof.get l (i : Int)) []] (fun v L => v = .tuple #[iV id, iV (lk : Nat), iV e] ∧ L = [isRing r zs, isAsk q (Cof.get l (i : Int)) s3]) := fun q => hnx q
        have hzt := ht.perm hpm
        have hls4 := list_spec r zs
        have hzl := hzt.len
        rw [hzl] at hls4
        by_cases h0 : n = 0
        · have he := hnil h0
          repeat' (first | (refine XL_id ?_; first | refine XL_nil ?_ | refine XL_guard_yes rfl rfl rfl ?_ | (refine XL_conv 0 (isAsk _ (Cof.get l (i : Int)) []) rfl (ask_conv _ (Cof.get l (i : Int))) ?_; refine XL_callE [2, 0] (hnx2 _) rfl rfl rfl (fun g hg hL => hb.le hg) ?_) | (refine XG_load ?_; refine XL_elW tt_ok rfl (by assumption) rfl (by omega) (by omega) rfl rfl rfl rfl ?_) | (refine XG_idx ?_; refine XL_idx tt_ok rfl rfl rfl rfl rfl (by assumption) (by omega) (by omega) rfl ?_) | (refine XG_box ?_; (refine XL_box rfl (fun _ => rfl) (fun _ => ?_); refine XL_nB (by repeat' (first | exact .nil | apply NL.cons)) ?_)) | (refine XG_build ?_; (refine XL_build tt_ok rfl rfl rfl rfl rfl rfl rfl ?_; refine XL_aggN (by repeat' (first | exact .nil | apply NL.cons)) ?_)) | (refine XG_call ?_; first | (refine XL_op tt_ok rfl rfl ?_) | (refine XL_callK [0] hls4 rfl rfl (fun _ => rfl) (fun _ _ _ => trivial) (fun u L hv => ?_); obtain ⟨A3, c3, rfl, rfl⟩ := hv)) | (refine XL_op tt_ok rfl rfl ?_; try (first | refine XL_dec_t (by omega) ?_ | refine XL_dec_f (by omega) ?_))) | (refine X_id ?_; first | refine X_seq ?_ | (refine X_regionN (by repeat' (first | exact .nil | apply NL.cons)) ?_) | refine X_skip ?_ | refine X_block ?_ | refine X_cond_f rfl ?_) | (refine Y_id ?_; refine Y_then ?_))
          all_goals first
            | (exfalso; rename_i h9; exact absurd rfl h9)
            | (exfalso; omega)
            | skip
          refine X_loopD [0, 3, 4, 5, 6, 8, 14, 16] (fun (k : Nat) => [(17, .int .i64 k)]) (fun _ => [own encN A3 n c3 zs, own encN A2 n c2 ys, isRing r zs, thB bq s]) (fun k => k ≤ n) (fun k => n - k) 0 rfl (Nat.zero_le _) (by (repeat' (first | exact trivial | refine And.intro rfl ?_)); done) (fun h hs => stars_only [0, 2, 0, 1] rfl h hs) ?_
          intro k hkk
          have hkk : k ≤ n := hkk
          by_cases hlt3 : k < n
          · obtain ⟨q, hcq, hqn, hgq⟩ : ∃ q : Nat, ((k : Int) + (lk : Int)) % (n : Int) = q ∧ q < n ∧ Cof.get zs (k : Int) = Cof.get ys (q : Int) := ⟨(k + lk) % n, rfl, Nat.mod_lt _ (by omega), by rw [hrot.get k (by omega), hyn]⟩
            refine X_fact 0 rfl (fun _ o => own_some o (by omega)) fun hq3 => ?_
            obtain ⟨b3, rfl⟩ := hq3
            refine X_fact 1 rfl (fun _ o => own_some o (by omega)) fun hq3 => ?_
            obtain ⟨b2, rfl⟩ := hq3
            repeat' (first | (refine XL_id ?_; first | refine XL_nil ?_ | (refine XL_op tt_ok rfl rfl ?_; try (refine XL_dec_t (by omega) ?_))) | (refine XD_id ?_; first | refine XD_int hcq ?_ | (refine XD_thaw thaw ?_; refine XD_nil ?_) | (refine XD_id ?_; (first | (refine XD_uL rfl ?_; first | refine XD_s rfl rfl rfl (XV_el tt_ok rfl (rd_at 0 rfl hM) rfl (by omega) (by omega) rfl rfl rfl) rfl ?_ | refine XD_s rfl rfl rfl (XV_el tt_ok rfl (rd_at 1 rfl hM) rfl (by omega) (by omega) rfl rfl rfl) rfl ?_) | (refine XD_uI rfl ?_; first | refine XD_s rfl rfl rfl (XV_idx tt_ok rfl rfl rfl rfl rfl (rd_at 0 rfl hM) (by omega) (by omega)) rfl ?_ | refine XD_s rfl rfl rfl (XV_idx tt_ok rfl rfl rfl rfl rfl (rd_at 1 rfl hM) (by omega) (by omega)) rfl ?_) | (refine XD_u rfl rfl ?_; first | refine XD_s rfl rfl rfl (XV_op tt_ok rfl) rfl ?_ | refine XD_s rfl rfl rfl (XV_op tt_ok (opV_rem rfl rfl (by omega))) rfl ?_)); try (first | refine XD_int (wrap_i64 (by omega) (by omega)) ?_ | refine XD_int (rem_pos (by omega)) ?_ | refine XD_dec_t (by omega) ?_))) | (refine X_id ?_; first | (refine X_drawS (id := 20) [0, 1, 2, 3, 4, 5, 6, 7, 8, 9, 10, 11, 12, 13] (fun _ => .s) 8 (by (repeat apply Split.blk); apply Split.frz; (repeat apply Split.blk); apply Split.frz; (repeat apply Split.blk); apply Split.keep; (repeat apply Split.blk); apply Split.keep; repeat' (exact Split.nil)) mixed (by decide +kernel) ?_; intro G hFG hM thaw; show XD _ _ _ _ _ _ [0, 1, 2, 3, 4, 5, 6, 7, 8, 9, 10, 11, 12, 13] _ _ _) | refine X_seq ?_ | (refine X_regionN (by repeat' (first | exact .nil | apply NL.cons)) ?_) | refine X_skip ?_ | refine X_ret ?_ | refine X_block ?_ | refine X_cond_t rfl ?_) | (refine Y_id ?_; first | refine Y_then ?_ | refine Y_then_ret ?_ | refine Y_block_ret ?_))
            all_goals first
              | exact Y_again (k + 1) fun _ _ hf hs => ⟨by show k + 1 ≤ n; omega, by show n - (k + 1) < n - k; omega, hf.sub (by (repeat' (fail)); done), hs.imp fun h hs => stars_only [2, 2, 0, 0] rfl h hs⟩
              | (exfalso; omega)
              | skip
            
          · repeat' (first | (refine XL_id ?_; first | refine XL_nil ?_ | (refine XL_op tt_ok rfl rfl ?_; try (refine XL_dec_f (by omega) ?_))) | (refine X_id ?_; first | refine X_seq ?_ | (refine X_regionN (by repeat' (first | exact .nil | apply NL.cons)) ?_) | refine X_exit ?_ | refine X_cond_f rfl ?_) | (refine Y_id ?_; first | refine Y_then ?_ | refine Y_then_exit ?_ | refine Y_block_hit ?_ | refine Y_block_normal ?_))
            all_goals first
              | exact Y_again (zs, s, n) fun _ _ hf hs => ⟨hzt, hf.sub (by (repeat' (first | exact trivial | refine And.intro rfl ?_)); done), hs.imp fun h hs => stars_only [2, 2] rfl h hs⟩
              | (exfalso; omega)
              | skip
            
        · repeat' (first | (refine XL_id ?_; first | refine XL_nil ?_ | refine XL_guard_yes rfl rfl rfl ?_ | refine XL_guard_no rfl rfl rfl rfl rfl ?_ | (refine XL_conv 0 (isAsk _ (Cof.get l (i : Int)) []) rfl (ask_conv _ (Cof.get l (i : Int))) ?_; refine XL_callE [2, 0] (hnx2 _) rfl rfl rfl (fun g hg hL => hb.le hg) ?_) | (refine XG_load ?_; refine XL_elW tt_ok rfl (by assumption) rfl (by omega) (by omega) rfl rfl rfl rfl ?_) | (refine XG_idx ?_; refine XL_idx tt_ok rfl rfl rfl rfl rfl (by assumption) (by omega) (by omega) rfl ?_) | (refine XG_box ?_; (refine XL_box rfl (fun _ => rfl) (fun _ => ?_); refine XL_nB (by repeat' (first | exact .nil | apply NL.cons)) ?_)) | (refine XG_build ?_; (refine XL_build tt_ok rfl rfl rfl rfl rfl rfl rfl ?_; refine XL_aggN (by repeat' (first | exact .nil | apply NL.cons)) ?_)) | (refine XG_call ?_; first | (refine XL_op tt_ok rfl rfl ?_) | (refine XL_callK [0] hls4 rfl rfl (fun _ => rfl) (fun _ _ _ => trivial) (fun u L hv => ?_); obtain ⟨A3, c3, rfl, rfl⟩ := hv)) | (refine XL_op tt_ok rfl rfl ?_; try (refine XL_dec_f (by omega) ?_))) | (refine X_id ?_; first | refine X_seq ?_ | (refine X_regionN (by repeat' (first | exact .nil | apply NL.cons)) ?_) | refine X_skip ?_ | refine X_block ?_ | refine X_cond_f rfl ?_) | (refine Y_id ?_; refine Y_then ?_))
          all_goals first
            | (exfalso; rename_i h9; exact absurd rfl h9)
            | (exfalso; omega)
            | skip
          refine X_loopD [0, 3, 4, 5, 6, 8, 14, 16] (fun (k : Nat) => [(17, .int .i64 k)]) (fun _ => [own encN A3 n c3 zs, own encN A2 n c2 ys, isRing r zs, thB bq s]) (fun k => k ≤ n) (fun k => n - k) 0 rfl (Nat.zero_le _) (by (repeat' (first | exact trivial | refine And.intro rfl ?_)); done) (fun h hs => stars_only [0, 2, 0, 1] rfl h hs) ?_
          intro k hkk
          have hkk : k ≤ n := hkk
          by_cases hlt3 : k < n
          · obtain ⟨q, hcq, hqn, hgq⟩ : ∃ q : Nat, ((k : Int) + (lk : Int)) % (n : Int) = q ∧ q < n ∧ Cof.get zs (k : Int) = Cof.get ys (q : Int) := ⟨(k + lk) % n, rfl, Nat.mod_lt _ (by omega), by rw [hrot.get k (by omega), hyn]⟩
            refine X_fact 0 rfl (fun _ o => own_some o (by omega)) fun hq3 => ?_
            obtain ⟨b3, rfl⟩ := hq3
            refine X_fact 1 rfl (fun _ o => own_some o (by omega)) fun hq3 => ?_
            obtain ⟨b2, rfl⟩ := hq3
            repeat' (first | (refine XL_id ?_; first | refine XL_nil ?_ | (refine XL_op tt_ok rfl rfl ?_; try (first | refine XL_int (wrap_i64 (by omega) (by omega)) ?_ | refine XL_dec_t (by omega) ?_))) | (refine XD_id ?_; first | refine XD_int hcq ?_ | (refine XD_thaw thaw ?_; refine XD_nil ?_) | (refine XD_id ?_; (first | (refine XD_uL rfl ?_; first | refine XD_s rfl rfl rfl (XV_el tt_ok rfl (rd_at 0 rfl hM) rfl (by omega) (by omega) rfl rfl rfl) rfl ?_ | refine XD_s rfl rfl rfl (XV_el tt_ok rfl (rd_at 1 rfl hM) rfl (by omega) (by omega) rfl rfl rfl) rfl ?_) | (refine XD_uI rfl ?_; first | refine XD_s rfl rfl rfl (XV_idx tt_ok rfl rfl rfl rfl rfl (rd_at 0 rfl hM) (by omega) (by omega)) rfl ?_ | refine XD_s rfl rfl rfl (XV_idx tt_ok rfl rfl rfl rfl rfl (rd_at 1 rfl hM) (by omega) (by omega)) rfl ?_) | (refine XD_u rfl rfl ?_; first | refine XD_s rfl rfl rfl (XV_op tt_ok rfl) rfl ?_ | refine XD_s rfl rfl rfl (XV_op tt_ok (opV_rem rfl rfl (by omega))) rfl ?_)); try (first | refine XD_int (wrap_i64 (by omega) (by omega)) ?_ | refine XD_int (rem_pos (by omega)) ?_ | refine XD_dec_f (by omega) ?_))) | (refine X_id ?_; first | (refine X_drawS (id := 20) [0, 1, 2, 3, 4, 5, 6, 7, 8, 9, 10, 11, 12, 13] (fun _ => .s) 8 (by (repeat apply Split.blk); apply Split.frz; (repeat apply Split.blk); apply Split.frz; (repeat apply Split.blk); apply Split.keep; (repeat apply Split.blk); apply Split.keep; repeat' (exact Split.nil)) mixed (by decide +kernel) ?_; intro G hFG hM thaw; show XD _ _ _ _ _ _ [0, 1, 2, 3, 4, 5, 6, 7, 8, 9, 10, 11, 12, 13] _ _ _) | refine X_seq ?_ | (refine X_regionN (by repeat' (first | exact .nil | apply NL.cons)) ?_) | refine X_skip ?_ | refine X_block ?_ | refine X_cond_t rfl ?_ | refine X_cond_f rfl ?_) | (refine Y_id ?_; first | refine Y_then ?_ | refine Y_block_normal ?_))
            all_goals first
              | exact Y_again (k + 1) fun _ _ hf hs => ⟨by show k + 1 ≤ n; omega, by show n - (k + 1) < n - k; omega, hf.sub (by (repeat' (first | exact trivial | refine And.intro rfl ?_)); done), hs.imp fun h hs => stars_only [2, 2, 0, 0] rfl h hs⟩
              | (exfalso; omega)
              | skip
            
          · repeat' (first | (refine XL_id ?_; first | refine XL_nil ?_ | (refine XL_op tt_ok rfl rfl ?_; try (refine XL_dec_f (by omega) ?_))) | (refine X_id ?_; first | refine X_seq ?_ | (refine X_regionN (by repeat' (first | exact .nil | apply NL.cons)) ?_) | refine X_exit ?_ | refine X_cond_f rfl ?_) | (refine Y_id ?_; first | refine Y_then ?_ | refine Y_then_exit ?_ | refine Y_block_hit ?_ | refine Y_block_normal ?_))
            all_goals first
              | exact Y_again (zs, s, n) fun _ _ hf hs => ⟨hzt, hf.sub (by (repeat' (first | exact trivial | refine And.intro rfl ?_)); done), hs.imp fun h hs => stars_only [2, 2] rfl h hs⟩
              | (exfalso; omega)
              | skip
            
    · intro _
      refine Y_then ?_
      obtain ⟨zs, s2, n2⟩ := x
      have hx30 := hx.few
      have hls3 := list_spec r zs
      rw [hx.len] at hls3
      dsimp only at hx30 hls3 ⊢
      repeat' (first | (refine XL_id ?_; first | refine XL_nil ?_ | (refine XG_call ?_; first | (refine XL_op tt_ok rfl rfl ?_) | (refine XL_callK [0] hls3 rfl rfl (fun _ => rfl) (fun _ _ _ => trivial) (fun u L hv => ?_); obtain ⟨A3, c3, rfl, rfl⟩ := hv)) | (refine XL_op tt_ok rfl rfl ?_; try (first | refine XL_int (wrap_i64 (by omega) (by omega)) ?_ | refine XL_dec_f (by omega) ?_))) | (refine X_id ?_; first | refine X_seq ?_ | (refine X_regionN (by repeat' (first | exact .nil | apply NL.cons)) ?_) | refine X_skip ?_ | refine X_cond_f rfl ?_) | (refine Y_id ?_; first | refine Y_then ?_ | refine Y_block_normal ?_))
      all_goals first
        | exact Y_again (i + 1, zs, s2, n2) fun _ _ hf hs => ⟨⟨by show i + 1 ≤ m; omega, hx⟩, by show m - (i + 1) < m - i; omega, hf.sub (by (repeat' (first | exact trivial | refine And.intro rfl ?_)); done), hs.imp fun h hs => stars_only [1, 1] rfl h hs⟩
        | (exfalso; omega)
        | skip
      
  · repeat' (first | (refine XL_id ?_; first | refine XL_nil ?_ | refine XL_guard_yes rfl rfl rfl ?_ | refine XL_guard_no rfl rfl rfl rfl rfl ?_ | (refine XL_op tt_ok rfl rfl ?_; try (first | refine XL_dec_f (by omega) ?_ | refine XL_dec (fun _ => ?_) (fun _ => ?_)))) | (refine X_id ?_; first | refine X_seq ?_ | (refine X_regionN (by repeat' (first | exact .nil | apply NL.cons)) ?_) | refine X_ret ?_ | refine X_exit ?_ | refine X_cond_f rfl ?_) | (refine Y_id ?_; first | refine Y_then ?_ | refine Y_then_exit ?_ | refine Y_block_hit ?_))
    all_goals first
      | exact Y_fn1 rfl rfl rfl
      | (exfalso; omega)
      | skip
    
end Go.Proofs.Ytgbcagcaaegciaa
