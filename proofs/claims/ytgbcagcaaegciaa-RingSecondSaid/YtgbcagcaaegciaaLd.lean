/- The law RingSecond, walked. -/
import Derived.Test.YtgbcagcaaegciaaLb
import Derived.Test.YtgbcagcaaegciaaPc
set_option linter.unusedVariables false
namespace Go.Proofs.Ytgbcagcaaegciaa
open Go.RowKit Go.Cof

abbrev bitB (q : Nat) (s : List Bool) : HProp := own encB (some ⟨q, 0, none⟩) 64 64 s
set_option maxHeartbeats 4000000 in
theorem usedB_spec (q : Nat) (s : List Bool) (y : Int) (hy : 0 ≤ y) : Ctr Try.prog 19 [ptr q, iV y] (fun _ => True) [bitB q s] (fun v L => v = .bool (ansB s y) ∧ L = [bitB q (nxB s y)]) := by
  refine Ctr.intro Try.func19 rfl rfl (by decide +kernel) fun F hpre => ?_
  obtain ⟨i, hi⟩ : ∃ i : Nat, (i : Int) = y % 64 := ⟨(y % 64).toNat, by omega⟩
  have hi64 : i < 64 := by omega
  unfold ansB nxB
  rw [← hi, Int.toNat_natCast]
  repeat' (first | (refine XL_id ?_; first | refine XL_nil ?_ | (refine XL_ld (i := i) (f := 0) tt_ok 0 rfl rfl (by show 0 + (i : Nat) * 1 = i * 1 + 0; omega) (by omega) rfl rfl rfl rfl ?_) | (refine XG_idx ?_; refine XL_idxal tt_ok rfl rfl rfl rfl rfl (by omega) (by omega) rfl ?_) | (refine XG_store ?_; (refine XL_put1 (o := i) tt_ok 0 false rfl (by show some (Value.pointer (some (⟨q, 0 + i * 1, none⟩ : Addr))) = some (Value.pointer (some ⟨q, i, none⟩)); rw [Nat.zero_add, Nat.mul_one]) rfl rfl rfl rfl rfl (by omega) rfl ?_)) | (refine XL_op tt_ok rfl rfl ?_; refine XL_int (show _ = (i : Int) from (rem_pos hy).trans hi.symm) ?_) | (refine XL_op tt_ok rfl rfl ?_)) | (refine X_id ?_; first | refine X_seq ?_ | (refine X_regionN (by repeat' (first | exact .nil | apply NL.cons)) ?_) | refine X_ret ?_) | (refine Y_id ?_; refine Y_then ?_))
  all_goals first
    | exact Y_ret1 rfl rfl (fun _ h => h) ⟨rfl, rfl⟩
    | (exfalso; omega)
    | skip
  
theorem bits_used (q n : Nat) : Used 19 #[ptr q] #[] (fun _ => True) (bitB q) ansB nxB (fun _ _ => True) (seqI n) :=
  ⟨fun _ _ _ _ => trivial, fun _ _ _ => trivial, fun s k y hy _ _ => usedB_spec q s y (seqI_mem.1 hy).1, fun _ _ _ _ _ => trivial⟩
theorem nextB_is (r q n : Nat) (pin : Int) (s s' : List Bool) (x e : Int) (k : Nat) (zs : List Int) (h : nextF ansB nxB pin (seqI n) s = ((x, k, e), zs, s')) : Ctr Try.prog 18 [ptr r, iV pin, fvV 19 #[ptr q] #[]] (fun _ => True) [isRing r (seqI n), bitB q s] (fun v L => v = .tuple #[iV x, iV (k : Int), iV e] ∧ L = [isRing r zs, bitB q s']) := by
  have := next_spec r (seqI n) pin _ #[ptr q] #[] _ _ _ _ _ (bits_used q n) s trivial
  rw [h] at this
  exact this
def isF (xs : List Bool) (j : Nat) : Bool := decide (j < xs.length) && Cof.get xs (j : Int)
structure Noted (xs : List Bool) (pin : Int) (i : Nat) (f w : Int) (s : List Bool) : Prop where
  first : FirstOk pin i f
  want : WantOk (isF xs) pin i w
  len : s.length = 64
  bit : ∀ j : Nat, j < i → Cof.get s j = isF xs j
theorem Noted.start (xs : List Bool) (pin : Int) : Noted xs pin 0 (-1) (-1) (List.replicate 64 false) := ⟨FirstOk.start pin, WantOk.start _ pin, List.length_replicate, fun j hj => by omega⟩
theorem Noted.step {xs : List Bool} {pin : Int} {i : Nat} {f w f' w' : Int} {s : List Bool} {b : Bool} (h : Noted xs pin i f w s) (hi : i < 64) (hb : isF xs i = b) (h1 : FirstOk pin (i + 1) f') (h2 : WantOk (isF xs) pin (i + 1) w') : Noted xs pin (i + 1) f' w' (s.set i b) :=
  ⟨h1, h2, by rw [List.length_set]; exact h.len, fun j hj => by
    rw [get_set (by rw [h.len]; omega)]
    by_cases e : i = j
    · rw [if_pos e, ← e, hb]
    · rw [if_neg e, h.bit j (by omega)]⟩
theorem isF_in {xs : List Bool} {i : Nat} {b : Bool} (h : i < xs.length) (hb : Cof.get xs i = b) : isF xs i = b := by unfold isF; rw [decide_eq_true h, hb]; rfl
theorem isF_out {xs : List Bool} {i : Nat} (h : ¬ i < xs.length) : isF xs i = false := by unfold isF; rw [decide_eq_false h]; rfl
set_option maxRecDepth 100000 in
set_option maxHeartbeats 16000000 in
theorem ringSecond_walk (n0 : Int) (B : Option Addr) (m c : Nat) (xs : List Bool) (p0 : Int) (hn0 : -9223372036854775808 ≤ n0 ∧ n0 ≤ 9223372036854775807) (hp0 : -9223372036854775808 ≤ p0 ∧ p0 ≤ 9223372036854775807) (hm : m ≤ 9223372036854775807) :
    FnC Try.prog 4 [iV n0, .slice B m c, iV p0] (fun h => rdS encB h B m xs) (.bool true) := by
  have hw1 := within_spec n0 60 hn0.1 hn0.2 (by decide) (by decide)
  have hw2 := within_spec p0 70 hp0.1 hp0.2 (by decide) (by decide)
  obtain ⟨n, hn⟩ : ∃ n : Nat, (n : Int) = 1 + n0 % 60 := ⟨(1 + n0 % 60).toNat, by omega⟩
  have hn1 : 1 ≤ n := by omega
  have hn60 : n ≤ 60 := by omega
  obtain ⟨pin, hpin⟩ : ∃ pin : Int, pin = p0 % 70 - 5 := ⟨_, rfl⟩
  refine Ctr.intro Try.func4 rfl rfl (by decide +kernel) fun F hpre => ?_
  have r1 : rdS encB F.heap B m xs := hpre
  have hml := r1.1
  repeat' (first | (refine XL_id ?_; first | refine XL_nil ?_ | (refine XG_box ?_; (refine XL_box rfl (fun _ => rfl) (fun bq => ?_); refine XL_conv 0 (bitB bq (List.replicate 64 false)) rfl (fun h o => own_of_blk o rfl rfl (by decide)) ?_)) | (refine XG_build ?_; (refine XL_build tt_ok rfl rfl rfl rfl rfl rfl rfl ?_; refine XL_aggN (by repeat' (first | exact .nil | apply NL.cons)) ?_)) | (refine XG_call ?_; first | refine XL_fn works_spec rfl rfl (fun _ _ _ => trivial) ?_ | refine XL_fn hw1 rfl rfl (fun _ _ _ => trivial) ?_ | refine XL_fn hw2 rfl rfl (fun _ _ _ => trivial) ?_ | (refine XL_callK [] new_spec rfl rfl (fun _ => rfl) (fun _ _ _ => trivial) (fun u L hv => ?_); obtain ⟨r, rfl, rfl⟩ := hv)) | (refine XL_op tt_ok rfl rfl ?_; refine XL_int (show _ = (n : Int) from (wrap_i64 (by omega) (by omega)).trans hn.symm) ?_) | (refine XL_op tt_ok rfl rfl ?_; refine XL_int (show _ = pin from (wrap_i64 (by omega) (by omega)).trans hpin.symm) ?_) | (refine XL_op tt_ok rfl rfl ?_)) | (refine X_id ?_; first | refine X_cutD (c := .block 0 _) [0, 2, 7, 8] (fun (j : Int × Int × List Bool) => [(9, .int .i64 j.2.1), (10, .int .i64 j.1)]) (fun j => [isRing r (seqI n), bitB bq j.2.2]) (fun j => Noted xs pin n j.1 j.2.1 j.2.2) rfl (X_block ?_) (fun j hj => hold ?_) | refine X_seq ?_ | (refine X_regionN (by repeat' (first | exact .nil | apply NL.cons)) ?_) | refine X_skip ?_ | refine X_cond_f rfl ?_) | (refine Y_id ?_; refine Y_then ?_))
  · refine X_loopD4 [0, 1, 2, 7, 8] (fun (i : Nat) (f w : Int) (s : List Bool) => [(11, .int .i64 i), (10, .int .i64 f), (9, .int .i64 w)]) (fun i f w s => [isRing r (seqI i), bitB bq s]) (fun i f w s => i ≤ n ∧ Noted xs pin i f w s) (fun i _ _ _ => n - i) 0 (-1) (-1) (List.replicate 64 false) rfl ⟨Nat.zero_le _, Noted.start xs pin⟩ (by (repeat' (first | exact trivial | refine And.intro rfl ?_)); done) (fun h hs => stars_only [1, 0] rfl h hs) ?_
    intro i f w s hi
    obtain ⟨hi, hnt⟩ := hi
    by_cases hlt : i < n
    · have ha := seqI_add (n := i) (by omega)
      have hff := hnt.first
      have hww := hnt.want
      by_cases him : i < m
      · cases hb : Cof.get xs (i : Int) with
        | true =>
          have his := isF_in (by omega) hb
          repeat' (first | (refine XL_id ?_; first | refine XL_head (congrArg Value.bool hb) ?_ | refine XL_nil ?_ | refine XL_guard_yes rfl rfl rfl ?_ | refine XL_guard_no rfl rfl rfl rfl rfl ?_ | (refine XG_load ?_; refine XL_el tt_ok rfl (by assumption) rfl (by omega) (by omega) rfl rfl rfl rfl ?_) | (refine XG_idx ?_; first | refine XL_idx tt_ok rfl rfl rfl rfl rfl (by assumption) (by omega) (by omega) rfl ?_ | refine XL_idxal tt_ok rfl rfl rfl rfl rfl (by omega) (by omega) rfl ?_) | (refine XG_call ?_; first | (refine XL_op tt_ok rfl rfl ?_) | refine XL_callE [0] (addC_spec r (seqI i) (seqI (i + 1)) i 0 ha.1 ha.2) rfl rfl rfl (fun _ _ _ => trivial) ?_) | (refine XG_store ?_; (refine XL_put1 (o := i) tt_ok 1 true rfl (by show some (Value.pointer (some (⟨bq, 0 + i * 1, none⟩ : Addr))) = some (Value.pointer (some ⟨bq, i, none⟩)); rw [Nat.zero_add, Nat.mul_one]) rfl rfl rfl rfl rfl (by omega) rfl ?_)) | (refine XL_op tt_ok rfl rfl ?_; try (first | refine XL_int (wrap_i64 (by omega) (by omega)) ?_ | refine XL_dec_t (by omega) ?_ | refine XL_dec_f (by omega) ?_ | refine XL_dec (fun _ => ?_) (fun _ => ?_)))) | (refine X_id ?_; first | refine X_seq ?_ | (refine X_regionN (by repeat' (first | exact .nil | apply NL.cons)) ?_) | refine X_skip ?_ | refine X_block ?_ | refine X_cond_t rfl ?_ | refine X_cond_f rfl ?_) | (refine Y_id ?_; first | refine Y_then ?_ | refine Y_block_normal ?_))
          all_goals first
            | exact Y_again (i + 1, _, _, s.set i true) fun _ _ hf hs => ⟨⟨by show i + 1 ≤ n; omega, hnt.step (by omega) his (by first | exact hff.new (by omega) (by omega) | exact hff.keep (by omega)) (hww.keep (.inr his))⟩, by show n - (i + 1) < n - i; omega, hf.sub (by (repeat' (first | exact trivial | refine And.intro rfl ?_)); done), hs⟩
            | (exfalso; omega)
            | skip
          
        | false =>
          have his := isF_in (by omega) hb
          repeat' (first | (refine XL_id ?_; first | refine XL_head (congrArg Value.bool hb) ?_ | refine XL_nil ?_ | refine XL_guard_yes rfl rfl rfl ?_ | refine XL_guard_no rfl rfl rfl rfl rfl ?_ | (refine XG_load ?_; refine XL_el tt_ok rfl (by assumption) rfl (by omega) (by omega) rfl rfl rfl rfl ?_) | (refine XG_idx ?_; first | refine XL_idx tt_ok rfl rfl rfl rfl rfl (by assumption) (by omega) (by omega) rfl ?_ | refine XL_idxal tt_ok rfl rfl rfl rfl rfl (by omega) (by omega) rfl ?_) | (refine XG_call ?_; first | (refine XL_op tt_ok rfl rfl ?_) | refine XL_callE [0] (addC_spec r (seqI i) (seqI (i + 1)) i 0 ha.1 ha.2) rfl rfl rfl (fun _ _ _ => trivial) ?_) | (refine XG_store ?_; (refine XL_put1 (o := i) tt_ok 1 false rfl (by show some (Value.pointer (some (⟨bq, 0 + i * 1, none⟩ : Addr))) = some (Value.pointer (some ⟨bq, i, none⟩)); rw [Nat.zero_add, Nat.mul_one]) rfl rfl rfl rfl rfl (by omega) rfl ?_)) | (refine XL_op tt_ok rfl rfl ?_; try (first | refine XL_int (wrap_i64 (by omega) (by omega)) ?_ | refine XL_dec_t (by omega) ?_ | refine XL_dec_f (by omega) ?_ | refine XL_dec (fun _ => ?_) (fun _ => ?_)))) | (refine X_id ?_; first | refine X_seq ?_ | (refine X_regionN (by repeat' (first | exact .nil | apply NL.cons)) ?_) | refine X_skip ?_ | refine X_block ?_ | refine X_cond_t rfl ?_ | refine X_cond_f rfl ?_) | (refine Y_id ?_; first | refine Y_then ?_ | refine Y_block_normal ?_))
          all_goals first
            | exact Y_again (i + 1, _, _, s.set i false) fun _ _ hf hs => ⟨⟨by show i + 1 ≤ n; omega, hnt.step (by omega) his (by first | exact hff.new (by omega) (by omega) | exact hff.keep (by omega)) (by first | exact hww.new (by omega) his (by omega) | exact hww.keep (.inl (by omega)))⟩, by show n - (i + 1) < n - i; omega, hf.sub (by (repeat' (first | exact trivial | refine And.intro rfl ?_)); done), hs⟩
            | (exfalso; omega)
            | skip
          
      · have his := isF_out (xs := xs) (i := i) (by omega)
        repeat' (first | (refine XL_id ?_; first | refine XL_nil ?_ | refine XL_guard_yes rfl rfl rfl ?_ | refine XL_guard_no rfl rfl rfl rfl rfl ?_ | (refine XG_idx ?_; refine XL_idxal tt_ok rfl rfl rfl rfl rfl (by omega) (by omega) rfl ?_) | (refine XG_call ?_; first | (refine XL_op tt_ok rfl rfl ?_) | refine XL_callE [0] (addC_spec r (seqI i) (seqI (i + 1)) i 0 ha.1 ha.2) rfl rfl rfl (fun _ _ _ => trivial) ?_) | (refine XG_store ?_; (refine XL_put1 (o := i) tt_ok 1 false rfl (by show some (Value.pointer (some (⟨bq, 0 + i * 1, none⟩ : Addr))) = some (Value.pointer (some ⟨bq, i, none⟩)); rw [Nat.zero_add, Nat.mul_one]) rfl rfl rfl rfl rfl (by omega) rfl ?_)) | (refine XL_op tt_ok rfl rfl ?_; try (first | refine XL_int (wrap_i64 (by omega) (by omega)) ?_ | refine XL_dec_t (by omega) ?_ | refine XL_dec_f (by omega) ?_ | refine XL_dec (fun _ => ?_) (fun _ => ?_)))) | (refine X_id ?_; first | refine X_seq ?_ | (refine X_regionN (by repeat' (first | exact .nil | apply NL.cons)) ?_) | refine X_skip ?_ | refine X_block ?_ | refine X_cond_t rfl ?_ | refine X_cond_f rfl ?_) | (refine Y_id ?_; first | refine Y_then ?_ | refine Y_block_normal ?_))
        all_goals first
          | exact Y_again (i + 1, _, _, s.set i false) fun _ _ hf hs => ⟨⟨by show i + 1 ≤ n; omega, hnt.step (by omega) his (by first | exact hff.new (by omega) (by omega) | exact hff.keep (by omega)) (by first | exact hww.new (by omega) his (by omega) | exact hww.keep (.inl (by omega)))⟩, by show n - (i + 1) < n - i; omega, hf.sub (by (repeat' (first | exact trivial | refine And.intro rfl ?_)); done), hs⟩
          | (exfalso; omega)
          | skip
        
    · obtain rfl : i = n := by omega
      repeat' (first | (refine XL_id ?_; first | refine XL_nil ?_ | (refine XL_op tt_ok rfl rfl ?_; try (refine XL_dec_f (by omega) ?_))) | (refine X_id ?_; first | refine X_seq ?_ | (refine X_regionN (by repeat' (first | exact .nil | apply NL.cons)) ?_) | refine X_exit ?_ | refine X_cond_f rfl ?_) | (refine Y_id ?_; first | refine Y_then ?_ | refine Y_then_exit ?_ | refine Y_block_hit ?_))
      all_goals first
        | exact Y_again (f, w, s) fun _ _ hf hs => ⟨hnt, hf.sub (by (repeat' (first | exact trivial | refine And.intro rfl ?_)); done), hs⟩
        | (exfalso; omega)
        | skip
      
  · intro _
    obtain ⟨f, w, s⟩ := j
    obtain ⟨hff, hww, hsl, hsb⟩ := hj
    dsimp only at hff hww hsl hsb ⊢
    rcases hww with ⟨rfl, hall⟩ | ⟨a, rfl, ha1, ha2, ha3, ha4⟩
    · have hall2 : ∀ j : Nat, j < n → (j : Int) = pin ∨ Cof.get s j = true := fun j hj => by
        rcases hall j hj with h | h
        · exact .inl h
        · exact .inr (by rw [hsb j hj]; exact h)
      rcases hff with ⟨rfl, hf⟩ | ⟨a, rfl, ha1, ha2, ha3⟩
      · have h0 := hf 0 (by omega)
        have hn1 : n = 1 := by
          refine Decidable.byContradiction fun hh => ?_
          have h1 := hf 1 (by omega)
          omega
        have hp0 : pin = 0 := by omega
        have hnx := nextB_is r bq 1 0 s s 0 190 3 (seqI 1) (second_n s)
        rw [hn1, hp0]
        repeat' (first | (refine XL_id ?_; first | refine XL_nil ?_ | refine XL_guard_yes rfl rfl rfl ?_ | (refine XG_call ?_; refine XL_callE [0, 0] hnx rfl rfl rfl (fun _ _ _ => trivial) ?_) | (refine XL_op tt_ok rfl rfl ?_; try (first | refine XL_int (wrap_i64 (by omega) (by omega)) ?_ | refine XL_dec_t (by omega) ?_))) | (refine X_id ?_; first | refine X_seq ?_ | (refine X_regionN (by repeat' (first | exact .nil | apply NL.cons)) ?_) | refine X_ret ?_ | refine X_cond_t rfl ?_) | (refine Y_id ?_; first | refine Y_then ?_ | refine Y_then_ret ?_))
        all_goals first
          | exact Y_fn1 rfl rfl rfl
          | (exfalso; rename_i h9; exact absurd rfl h9)
          | (exfalso; omega)
          | skip
        
      · obtain ⟨s', e1, e2⟩ := second_f (by omega) hsl ha1 ha2 ha3 hall2
        have hnx := nextB_is r bq n pin s s' a 0 (n + a + 1) _ e1
        obtain ⟨z1, z2, z3⟩ := row_ends ha1
        obtain ⟨zs, hzs⟩ : ∃ zs, zs = rotL (seqI n) ((a + 1) % n) := ⟨_, rfl⟩
        rw [← hzs] at hnx z1 z2 z3
        obtain ⟨h2, hcast, hh2⟩ : ∃ h2 : Nat, ((a : Int) + 1) % (n : Int) = (h2 : Int) ∧ h2 = (a + 1) % n := ⟨_, rfl, rfl⟩
        rw [← hh2] at z3
        have hca : ((n + a + 1 : Nat) : Int) = (n : Int) + a + 1 := by omega
        have hls := list_spec r zs
        rw [z1] at hls
        repeat' (first | (refine XL_id ?_; first | refine XL_nil ?_ | refine XL_guard_yes rfl rfl rfl ?_ | (refine XG_call ?_; first | refine XL_callE [0, 0] hnx rfl rfl rfl (fun _ _ _ => trivial) ?_ | (refine XL_callK [0] hls rfl rfl (fun _ => rfl) (fun _ _ _ => trivial) (fun u L hv => ?_); obtain ⟨A2, c2, rfl, rfl⟩ := hv)) | (refine XL_op tt_ok rfl rfl ?_; try (first | refine XL_int (wrap_i64 (by omega) (by omega)) ?_ | refine XL_dec_t (by omega) ?_ | refine XL_dec_f (by omega) ?_))) | (refine X_id ?_; first | refine X_cutD (c := .block 2 _) [0, 7, 9] (fun (_ : Unit) => []) (fun _ => [isRing r zs]) (fun _ => True) rfl (X_block ?_) (fun _ _ => ?_) | refine X_cutD (c := .region 34 _ _) [0, 9] (fun (x : Option Addr × Nat) => [(18, .slice x.1 n x.2)]) (fun x => [own encN x.1 n x.2 zs]) (fun _ => True) rfl (X_region ?_) (fun x _ => hold ?_) | refine X_seq ?_ | (refine X_regionN (by repeat' (first | exact .nil | apply NL.cons)) ?_) | refine X_skip ?_ | refine X_cond_t rfl ?_ | refine X_cond_f rfl ?_) | (refine Y_id ?_; refine Y_then ?_))
        all_goals first
          | (exfalso; rename_i h9; exact absurd rfl h9)
          | (exfalso; rename_i h9; exact h9 hca)
          | (exfalso; omega)
          | skip
        · refine X_loopD [0, 2, 7, 8, 9] (fun (i : Nat) => [(17, .int .i64 i)]) (fun _ => [isRing r zs, bitB bq s']) (fun i => i ≤ a) (fun i => a - i) 0 rfl (Nat.zero_le _) (by (repeat' (first | exact trivial | refine And.intro rfl ?_)); done) (fun h hs => hs) ?_
          intro i hi
          have hi : i ≤ a := hi
          by_cases hlt : i < a
          · have hip := ha3 i hlt
            repeat' (first | (refine XL_id ?_; first | refine XL_nil ?_ | refine XL_guard_no rfl rfl rfl rfl rfl ?_ | (refine XL_op tt_ok rfl rfl ?_; try (first | refine XL_int (wrap_i64 (by omega) (by omega)) ?_ | refine XL_dec_t (by omega) ?_ | refine XL_dec_f (by omega) ?_))) | (refine X_id ?_; first | refine X_seq ?_ | (refine X_regionN (by repeat' (first | exact .nil | apply NL.cons)) ?_) | refine X_skip ?_ | refine X_block ?_ | refine X_cond_t rfl ?_ | refine X_cond_f rfl ?_) | (refine Y_id ?_; first | refine Y_then ?_ | refine Y_block_normal ?_))
            all_goals first
              | exact Y_again (i + 1) fun _ _ hf hs => ⟨by show i + 1 ≤ a; omega, by show a - (i + 1) < a - i; omega, hf.sub (by (repeat' (first | exact trivial | refine And.intro rfl ?_)); done), hs⟩
              | (exfalso; omega)
              | skip
            
          · repeat' (first | (refine XL_id ?_; first | refine XL_nil ?_ | (refine XL_op tt_ok rfl rfl ?_; try (refine XL_dec_f (by omega) ?_))) | (refine X_id ?_; first | refine X_seq ?_ | (refine X_regionN (by repeat' (first | exact .nil | apply NL.cons)) ?_) | refine X_exit ?_ | refine X_cond_f rfl ?_) | (refine Y_id ?_; first | refine Y_then ?_ | refine Y_then_exit ?_ | refine Y_block_hit ?_))
            all_goals first
              | exact Y_again () fun _ _ hf hs => ⟨trivial, hf.sub (by (repeat' (first | exact trivial | refine And.intro rfl ?_)); done), hs.imp fun h hs => stars_only [0] rfl h hs⟩
              | (exfalso; omega)
              | skip
            
        · exact Y_again (A2, c2) fun _ _ hf hs => ⟨trivial, hf.sub (by (repeat' (first | exact trivial | refine And.intro rfl ?_)); done), hs.imp fun h hs => stars_only [0] rfl h hs⟩
        · intro _
          obtain ⟨A3, c3⟩ := x
          refine Y_then ?_
          refine X_fact 0 rfl (fun _ o => own_some o (by omega)) fun hq2 => ?_
          obtain ⟨b3, rfl⟩ := hq2
          repeat' (first | (refine XD_id ?_; first | refine XD_int hcast ?_ | (refine XD_thaw thaw ?_; refine XD_nil ?_) | (refine XD_id ?_; (first | (refine XD_gL rfl ?_; refine XD_sy rfl rfl rfl rfl rfl (XV_el tt_ok rfl (rd_at 0 rfl hM) rfl (by omega) (by omega) rfl rfl rfl) rfl ?_) | (refine XD_gI rfl ?_; refine XD_sy rfl rfl rfl rfl rfl (XV_idx tt_ok rfl rfl rfl rfl rfl (rd_at 0 rfl hM) (by omega) (by omega)) rfl ?_) | (refine XD_u rfl rfl ?_; refine XD_s rfl rfl rfl (XV_op tt_ok rfl) rfl ?_) | (refine XD_g rfl rfl ?_; first | refine XD_sy rfl rfl rfl rfl rfl (XV_op tt_ok rfl) rfl ?_ | refine XD_sy rfl rfl rfl rfl rfl (XV_op tt_ok (opV_rem rfl rfl (by omega))) rfl ?_)); try (first | refine XD_int (wrap_i64 (by omega) (by omega)) ?_ | refine XD_int (rem_pos (by omega)) ?_ | refine XD_dec_t (by omega) ?_))) | (refine X_id ?_; first | (refine X_drawS (id := 35) [0, 1, 2, 3, 4, 5, 6, 7, 8, 9, 10, 11, 12, 13, 14, 15, 16, 17, 18, 19, 20, 21, 22, 23] (fun _ => .s) 8 (by (repeat apply Split.blk); apply Split.frz; repeat' (exact Split.nil)) mixed (by decide +kernel) ?_; intro G hFG hM thaw; show XD _ _ _ _ _ _ [0, 1, 2, 3, 4, 5, 6, 7, 8, 9, 10, 11, 12, 13, 14, 15, 16, 17, 18, 19, 20, 21, 22, 23] _ _ _) | refine X_seq ?_ | refine X_ret ?_) | (refine Y_id ?_; refine Y_then ?_))
          all_goals first
            | exact Y_fn1 rfl rfl rfl
            | (exfalso; omega)
            | skip
          
    · have hf0 : 0 ≤ f := by
        rcases hff with ⟨_, hf⟩ | ⟨b, h1, _⟩
        · exact absurd (hf a ha1) ha2
        · omega
      obtain ⟨s', e1, e2, e3⟩ := second_w (by omega) hsl ha1 ha2 (by rw [hsb a ha1]; exact ha3) (fun j hj => by
        rcases ha4 j hj with h | h
        · exact .inl h
        · exact .inr (by rw [hsb j (by omega)]; exact h))
      have hnx := nextB_is r bq n pin s s' a 0 (a + 1) _ e1
      obtain ⟨z1, z2, z3⟩ := row_ends ha1
      obtain ⟨zs, hzs⟩ : ∃ zs, zs = rotL (seqI n) ((a + 1) % n) := ⟨_, rfl⟩
      rw [← hzs] at hnx z1 z2 z3
      obtain ⟨h2, hcast, hh2⟩ : ∃ h2 : Nat, ((a : Int) + 1) % (n : Int) = (h2 : Int) ∧ h2 = (a + 1) % n := ⟨_, rfl, rfl⟩
      rw [← hh2] at z3
      have hls := list_spec r zs
      rw [z1] at hls
      repeat' (first | (refine XL_id ?_; first | refine XL_nil ?_ | refine XL_guard_yes rfl rfl rfl ?_ | (refine XG_call ?_; first | refine XL_callE [0, 0] hnx rfl rfl rfl (fun _ _ _ => trivial) ?_ | (refine XL_callK [0] hls rfl rfl (fun _ => rfl) (fun _ _ _ => trivial) (fun u L hv => ?_); obtain ⟨A2, c2, rfl, rfl⟩ := hv)) | (refine XL_op tt_ok rfl rfl ?_; try (first | refine XL_int (wrap_i64 (by omega) (by omega)) ?_ | refine XL_dec_f (by omega) ?_))) | (refine X_id ?_; first | refine X_cutD (c := .block 2 _) [0, 7, 9] (fun (_ : Unit) => []) (fun _ => [isRing r zs]) (fun _ => True) rfl (X_block ?_) (fun _ _ => ?_) | refine X_cutD (c := .region 34 _ _) [0, 9] (fun (x : Option Addr × Nat) => [(18, .slice x.1 n x.2)]) (fun x => [own encN x.1 n x.2 zs]) (fun _ => True) rfl (X_region ?_) (fun x _ => hold ?_) | refine X_seq ?_ | (refine X_regionN (by repeat' (first | exact .nil | apply NL.cons)) ?_) | refine X_skip ?_ | refine X_cond_f rfl ?_) | (refine Y_id ?_; refine Y_then ?_))
      all_goals first
        | (exfalso; rename_i h9; exact absurd rfl h9)
        | (exfalso; omega)
        | skip
      · refine X_loopD [0, 2, 7, 8, 9] (fun (i : Nat) => [(17, .int .i64 i)]) (fun _ => [isRing r zs, bitB bq s']) (fun i => i ≤ a) (fun i => a - i) 0 rfl (Nat.zero_le _) (by (repeat' (first | exact trivial | refine And.intro rfl ?_)); done) (fun h hs => hs) ?_
        intro i hi
        have hi : i ≤ a := hi
        by_cases hlt : i < a
        · by_cases hip : (i : Int) = pin
          · repeat' (first | (refine XL_id ?_; first | refine XL_nil ?_ | refine XL_guard_no rfl rfl rfl rfl rfl ?_ | (refine XL_op tt_ok rfl rfl ?_; try (first | refine XL_int (wrap_i64 (by omega) (by omega)) ?_ | refine XL_dec_t (by omega) ?_ | refine XL_dec_f (by omega) ?_))) | (refine X_id ?_; first | refine X_seq ?_ | (refine X_regionN (by repeat' (first | exact .nil | apply NL.cons)) ?_) | refine X_skip ?_ | refine X_block ?_ | refine X_cond_t rfl ?_ | refine X_cond_f rfl ?_) | (refine Y_id ?_; first | refine Y_then ?_ | refine Y_block_normal ?_))
            all_goals first
              | exact Y_again (i + 1) fun _ _ hf hs => ⟨by show i + 1 ≤ a; omega, by show a - (i + 1) < a - i; omega, hf.sub (by (repeat' (first | exact trivial | refine And.intro rfl ?_)); done), hs⟩
              | (exfalso; omega)
              | skip
            
          · have hb := e3 i hlt hip
            repeat' (first | (refine XL_id ?_; first | refine XL_head (congrArg Value.bool hb) ?_ | refine XL_nil ?_ | refine XL_guard_yes rfl rfl rfl ?_ | (refine XL_ld (i := i) (f := 0) tt_ok 1 rfl rfl (by show 0 + (i : Nat) * 1 = i * 1 + 0; omega) (by omega) rfl rfl rfl rfl ?_) | (refine XG_idx ?_; refine XL_idxal tt_ok rfl rfl rfl rfl rfl (by omega) (by omega) rfl ?_) | (refine XL_op tt_ok rfl rfl ?_; try (first | refine XL_int (wrap_i64 (by omega) (by omega)) ?_ | refine XL_dec_t (by omega) ?_))) | (refine X_id ?_; first | refine X_seq ?_ | (refine X_regionN (by repeat' (first | exact .nil | apply NL.cons)) ?_) | refine X_skip ?_ | refine X_block ?_ | refine X_cond_t rfl ?_ | refine X_cond_f rfl ?_) | (refine Y_id ?_; first | refine Y_then ?_ | refine Y_block_normal ?_))
            all_goals first
              | exact Y_again (i + 1) fun _ _ hf hs => ⟨by show i + 1 ≤ a; omega, by show a - (i + 1) < a - i; omega, hf.sub (by (repeat' (first | exact trivial | refine And.intro rfl ?_)); done), hs⟩
              | (exfalso; omega)
              | skip
            
        · repeat' (first | (refine XL_id ?_; first | refine XL_nil ?_ | (refine XL_op tt_ok rfl rfl ?_; try (refine XL_dec_f (by omega) ?_))) | (refine X_id ?_; first | refine X_seq ?_ | (refine X_regionN (by repeat' (first | exact .nil | apply NL.cons)) ?_) | refine X_exit ?_ | refine X_cond_f rfl ?_) | (refine Y_id ?_; first | refine Y_then ?_ | refine Y_then_exit ?_ | refine Y_block_hit ?_))
          all_goals first
            | exact Y_again () fun _ _ hf hs => ⟨trivial, hf.sub (by (repeat' (first | exact trivial | refine And.intro rfl ?_)); done), hs.imp fun h hs => stars_only [0] rfl h hs⟩
            | (exfalso; omega)
            | skip
          
      · exact Y_again (A2, c2) fun _ _ hf hs => ⟨trivial, hf.sub (by (repeat' (first | exact trivial | refine And.intro rfl ?_)); done), hs.imp fun h hs => stars_only [0] rfl h hs⟩
      · intro _
        obtain ⟨A3, c3⟩ := x
        refine Y_then ?_
        refine X_fact 0 rfl (fun _ o => own_some o (by omega)) fun hq2 => ?_
        obtain ⟨b3, rfl⟩ := hq2
        repeat' (first | (refine XD_id ?_; first | refine XD_int hcast ?_ | (refine XD_thaw thaw ?_; refine XD_nil ?_) | (refine XD_id ?_; (first | (refine XD_gL rfl ?_; refine XD_sy rfl rfl rfl rfl rfl (XV_el tt_ok rfl (rd_at 0 rfl hM) rfl (by omega) (by omega) rfl rfl rfl) rfl ?_) | (refine XD_gI rfl ?_; refine XD_sy rfl rfl rfl rfl rfl (XV_idx tt_ok rfl rfl rfl rfl rfl (rd_at 0 rfl hM) (by omega) (by omega)) rfl ?_) | (refine XD_u rfl rfl ?_; refine XD_s rfl rfl rfl (XV_op tt_ok rfl) rfl ?_) | (refine XD_g rfl rfl ?_; first | refine XD_sy rfl rfl rfl rfl rfl (XV_op tt_ok rfl) rfl ?_ | refine XD_sy rfl rfl rfl rfl rfl (XV_op tt_ok (opV_rem rfl rfl (by omega))) rfl ?_)); try (first | refine XD_int (wrap_i64 (by omega) (by omega)) ?_ | refine XD_int (rem_pos (by omega)) ?_ | refine XD_dec_t (by omega) ?_))) | (refine X_id ?_; first | (refine X_drawS (id := 35) [0, 1, 2, 3, 4, 5, 6, 7, 8, 9, 10, 11, 12, 13, 14, 15, 16, 17, 18, 19, 20, 21, 22, 23] (fun _ => .s) 8 (by (repeat apply Split.blk); apply Split.frz; repeat' (exact Split.nil)) mixed (by decide +kernel) ?_; intro G hFG hM thaw; show XD _ _ _ _ _ _ [0, 1, 2, 3, 4, 5, 6, 7, 8, 9, 10, 11, 12, 13, 14, 15, 16, 17, 18, 19, 20, 21, 22, 23] _ _ _) | refine X_seq ?_ | refine X_ret ?_) | (refine Y_id ?_; refine Y_then ?_))
        all_goals first
          | exact Y_fn1 rfl rfl rfl
          | (exfalso; omega)
          | skip
        
end Go.Proofs.Ytgbcagcaaegciaa
