/- Walk of works; the law TlbPlays. -/
import Derived.Test.YtocilbkjbikeeaaNa
set_option linter.unusedVariables false
namespace Go.Proofs.Ytocilbkjbikeeaa
open Go.RowKit Go.Cof

theorem w_f1 (p : Nat) : Ctr Try.prog 13 [ptr p, trV (trx 1)] (fun _ => True) [isTlb p 2 []] (fun v L => v = .int .i64 0 ∧ L = [isTlb p 2 [trx 1]]) := fill_is p 2 [] (trx 1)
theorem w_f2 (p : Nat) : Ctr Try.prog 13 [ptr p, trV (trx 2)] (fun _ => True) [isTlb p 2 [trx 1]] (fun v L => v = .int .i64 0 ∧ L = [isTlb p 2 [trx 2, trx 1]]) := by
  have h := fill_is p 2 [trx 1] (trx 2)
  rw [show fillE (trx 2) = 0 from by decide, show fillT 2 [trx 1] (trx 2) = [trx 2, trx 1] from by decide] at h
  exact h
theorem w_fd (p : Nat) : Ctr Try.prog 11 [ptr p, .int .i64 0, .int .i64 1] (fun _ => True) [isTlb p 2 [trx 2, trx 1]] (fun v L => v = peekV (trx 1, true, 0) ∧ L = [isTlb p 2 [trx 1, trx 2]]) := by
  have h := find_is p 2 [trx 2, trx 1] 0 1
  rw [show peekR [trx 2, trx 1] 0 1 = (trx 1, true, 0) from by decide, show findT [trx 2, trx 1] 0 1 = [trx 1, trx 2] from by decide] at h
  exact h
theorem w_f3 (p : Nat) : Ctr Try.prog 13 [ptr p, trV (trx 3)] (fun _ => True) [isTlb p 2 [trx 1, trx 2]] (fun v L => v = .int .i64 0 ∧ L = [isTlb p 2 [trx 3, trx 1]]) := by
  have h := fill_is p 2 [trx 1, trx 2] (trx 3)
  rw [show fillE (trx 3) = 0 from by decide, show fillT 2 [trx 1, trx 2] (trx 3) = [trx 3, trx 1] from by decide] at h
  exact h
theorem w_pk (p : Nat) : Ctr Try.prog 19 [ptr p, .int .i64 0, .int .i64 2] (fun _ => True) [isTlb p 2 [trx 3, trx 1]] (fun v L => v = peekV (tr0, false, 0) ∧ L = [isTlb p 2 [trx 3, trx 1]]) := by
  have h := peek_is p 2 [trx 3, trx 1] 0 2
  rw [show peekR [trx 3, trx 1] 0 2 = (tr0, false, 0) from by decide] at h
  exact h
theorem w_all (p : Nat) : Ctr Try.prog 17 [ptr p] (fun _ => True) [isTlb p 2 [trx 3, trx 1]] (fun v L => ∃ A c, v = .slice A 2 c ∧ L = [own encTr A 2 c [trx 3, trx 1], isTlb p 2 [trx 3, trx 1]]) := all_is p 2 [trx 3, trx 1]
set_option maxRecDepth 100000 in
set_option maxHeartbeats 8000000 in
theorem works_spec : FnC Try.prog 8 [] (fun _ => True) (.bool true) := by
  refine Ctr.intro Try.func8 rfl rfl (by decide +kernel) fun F hpre => ?_
  repeat' (first | (refine XL_id ?_; first | refine XL_nil ?_ | refine XL_guard_yes rfl rfl rfl ?_ | (refine XG_call ?_; first | (refine XL_callK [] (new_ok 2 (by decide) (by decide)) rfl rfl (fun _ => rfl) (fun _ _ _ => trivial) (fun u L hv => ?_); obtain ⟨p, rfl, rfl⟩ := hv) | refine XL_fn (trans_spec _ (by decide)) rfl rfl (fun _ _ _ => trivial) ?_ | refine XL_callE [0] (w_f1 _) rfl rfl rfl (fun _ _ _ => trivial) ?_ | refine XL_callE [0] (w_f2 _) rfl rfl rfl (fun _ _ _ => trivial) ?_ | refine XL_callE [0] (w_fd _) rfl rfl rfl (fun _ _ _ => trivial) ?_ | refine XL_callE [1] (w_f3 _) rfl rfl rfl (fun _ _ _ => trivial) ?_ | refine XL_callE [0] (w_pk _) rfl rfl rfl (fun _ _ _ => trivial) ?_ | (refine XL_callK [0] (w_all _) rfl rfl (fun _ => rfl) (fun _ _ _ => trivial) (fun u L hv => ?_); obtain ⟨A1, c1, rfl, rfl⟩ := hv) | (refine XL_fn (same_spec _ _ 2 _ 2 _ [trx 3, trx 1] [trx 3, trx 1] (by decide) (by decide)) rfl rfl (fun g hg hL => ⟨by exact rd_at 1 rfl hL, by exact blk_rdS (blk_at 0 rfl hL) rfl rfl⟩) ?_; refine XL_dec_t rfl ?_)) | (refine XG_alloc ?_; (refine XL_alloc tt_ok rfl rfl (fun _ => rfl) (fun b => ?_); refine XL_nB (by repeat' (first | exact .nil | apply NL.cons)) ?_)) | (refine XG_lit ?_; (refine XL_lit tt_ok rfl rfl rfl rfl rfl rfl rfl rfl rfl (fun _ => rfl) (fun b => ?_); refine XL_nB (by repeat' (first | exact .nil | apply NL.cons)) ?_)) | (refine XG_store ?_; (refine XL_storeW tt_ok 0 rfl rfl rfl rfl rfl rfl rfl ?_; refine XL_nK 0 rfl (by repeat' (first | exact .nil | apply NL.cons)) ?_)) | (refine XL_op tt_ok rfl rfl ?_; try (first | refine XL_dec_t (by omega) ?_ | refine XL_dec_f (by omega) ?_))) | (refine XD_id ?_; first | (refine XD_thaw thaw ?_; refine XD_nil ?_) | refine XD_no rfl rfl rfl rfl rfl rfl ?_ | (refine XD_id ?_; (first | (refine XD_gL rfl ?_; refine XD_sy rfl rfl rfl rfl rfl (XV_loadW tt_ok rfl (blk_at 1 rfl hM) rfl rfl rfl) rfl ?_) | (refine XD_u rfl rfl ?_; refine XD_s rfl rfl rfl (XV_op tt_ok rfl) rfl ?_) | (refine XD_g rfl rfl ?_; first | refine XD_sy rfl rfl rfl rfl rfl (XV_op tt_ok rfl) rfl ?_ | refine XD_sy rfl rfl rfl rfl rfl (XV_eq (a := trx 1) (b := trx 1) eqTr rfl rfl) rfl ?_)); try (first | refine XD_dec_t (by omega) ?_ | refine XD_dec_f (by omega) ?_ | refine XD_dec (fun _ => ?_) (fun _ => ?_))) | refine XD_m rfl rfl ?_) | (refine X_id ?_; first | (refine X_drawS (id := 8) [0, 1, 2, 3, 4, 5, 6, 7, 8, 9, 10, 11, 12, 13, 14, 15, 16, 17, 18, 19, 20, 21, 22, 23, 24, 25, 26, 27, 28, 29, 30, 31, 32, 33, 34, 35, 36, 37, 38] (fun | 23 => .m | 32 => .m | 33 => .m | 34 => .m | 35 => .m | 36 => .m | _ => .s) 8 (by repeat' (first | exact Split.nil | apply Split.blk | apply Split.keep)) mixed (by decide +kernel) ?_; intro G hFG hM thaw; show XD _ _ _ _ _ _ [0, 1, 2, 3, 4, 5, 6, 7, 8, 9, 10, 11, 12, 13, 14, 15, 16, 17, 18, 19, 20, 21, 22, 23, 24, 25, 26, 27, 28, 29, 30, 31, 32, 33, 34, 35, 36, 37, 38] _ _ _) | refine X_seq ?_ | (refine X_regionN (by repeat' (first | exact .nil | apply NL.cons)) ?_) | refine X_skip ?_ | refine X_ret ?_ | refine X_cond_f rfl ?_) | (refine Y_id ?_; first | refine Y_then ?_ | refine Y_m ?_))
  all_goals first
    | exact Y_fn1 rfl rfl rfl
    | (exfalso; rename_i h; exact h rfl)
    | skip
  
set_option maxRecDepth 100000 in
set_option maxHeartbeats 16000000 in
theorem tlbPlays_walk (n : Int) (A : Option Addr) (m c : Nat) (l : List Dd) (hn : -9223372036854775808 ≤ n ∧ n ≤ 9223372036854775807) (hm : m ≤ 9223372036854775807) (hl : ∀ x ∈ l, x.In) :
    FnC Try.prog 6 [.int .i64 n, .slice A m c] (fun h => rdS encDd h A m l) (.bool true) := by
  refine Ctr.intro Try.func6 rfl rfl (by decide +kernel) fun F hpre => ?_
  have r1 : rdS encDd F.heap A m l := hpre
  have hlen := r1.1
  by_cases hnn : 1 ≤ n ∧ n ≤ 64
  · have hn1 := new_ok n hnn.1 hnn.2
    have hn2 := rnew_ok n hnn.1 hnn.2
    repeat' (first | (refine XL_id ?_; first | refine XL_nil ?_ | refine XL_guard_yes rfl rfl rfl ?_ | (refine XG_call ?_; first | (refine XL_callK [] hn1 rfl rfl (fun _ => rfl) (fun _ _ _ => trivial) (fun u L hv => ?_); obtain ⟨p, rfl, rfl⟩ := hv) | (refine XL_callK [] hn2 rfl rfl (fun _ => rfl) (fun _ _ _ => trivial) (fun u L hv => ?_); obtain ⟨r, rfl, rfl⟩ := hv)) | (refine XL_op tt_ok rfl rfl ?_; try (refine XL_dec_f (by omega) ?_))) | (refine X_id ?_; first | refine X_seq ?_ | (refine X_regionN (by repeat' (first | exact .nil | apply NL.cons)) ?_) | refine X_skip ?_ | refine X_block ?_ | refine X_cond_f rfl ?_) | (refine Y_id ?_; refine Y_then ?_))
    refine X_loopD2 [1, 5, 7] (fun (i : Nat) (ys : List Tr) => [(9, .int .i64 i)]) (fun _ ys => [isTlb p n ys, isRef r n ys]) (fun i ys => i ≤ m ∧ TOk n ys) (fun i _ => m - i) 0 [] rfl ⟨Nat.zero_le _, TOk.nil hnn.1 hnn.2⟩ (by (repeat' (first | exact trivial | refine And.intro rfl ?_)); done) (stars_only [1, 0] rfl) ?_
    intro i ys hi
    obtain ⟨hi, hok⟩ := hi
    by_cases hlt : i < m ∧ i < 100
    · have hx := hl _ (get_mem' (l := l) (i := (i : Int)) (by omega) (by omega))
      have hd := done_spec p r n ys (Cof.get l (i : Int)) hx hok
      have hok2 := hok.step (Cof.get l (i : Int))
      generalize hzs : stepT n ys (Cof.get l (i : Int)) = zs at hd hok2
      have hzl := hok2.len
      have hal := all_is p n zs
      have hral := rall_is r n zs
      repeat' (first | (refine XL_id ?_; first | refine XL_nil ?_ | refine XL_guard_yes rfl rfl rfl ?_ | (refine XG_load ?_; refine XL_elW tt_ok rfl (by assumption) rfl (by omega) (by omega) rfl rfl rfl rfl ?_) | (refine XG_idx ?_; refine XL_idx tt_ok rfl rfl rfl rfl rfl (by assumption) (by omega) (by omega) rfl ?_) | (refine XG_call ?_; first | (refine XL_op tt_ok rfl rfl ?_) | refine XL_callE [0, 0] hd rfl rfl rfl (fun _ _ _ => trivial) ?_ | (refine XL_callK [0] hal rfl rfl (fun _ => rfl) (fun _ _ _ => trivial) (fun u L hv => ?_); obtain ⟨A1, c1, rfl, rfl⟩ := hv) | (refine XL_callK [1] hal rfl rfl (fun _ => rfl) (fun _ _ _ => trivial) (fun u L hv => ?_); obtain ⟨A2, c2, rfl, rfl⟩ := hv) | (refine XL_callK [3] hral rfl rfl (fun _ => rfl) (fun _ _ _ => trivial) (fun u L hv => ?_); obtain ⟨A3, c3, rfl, rfl⟩ := hv) | (refine XL_callK [2] hral rfl rfl (fun _ => rfl) (fun _ _ _ => trivial) (fun u L hv => ?_); obtain ⟨A3, c3, rfl, rfl⟩ := hv) | (refine XL_fn (same_spec A1 A3 zs.length c1 zs.length c3 zs zs (by omega) (by omega)) rfl rfl (fun g hg hL => ⟨by exact rd_at 4 rfl hL, rd_at 0 rfl hL⟩) ?_; refine XL_dec_t rfl ?_) | (refine XL_fn (same_spec A2 A3 zs.length c2 zs.length c3 zs zs (by omega) (by omega)) rfl rfl (fun g hg hL => ⟨by exact rd_at 2 rfl hL, rd_at 0 rfl hL⟩) ?_; refine XL_dec_t rfl ?_)) | (refine XL_op tt_ok rfl rfl ?_; try (first | refine XL_int (wrap_i64 (by omega) (by omega)) ?_ | refine XL_dec_t (by omega) ?_))) | (refine X_id ?_; first | refine X_cutD (c := .block 2 _) [1, 5, 7, 9, 10, 11] (fun (ws : List Tr) => []) (fun ws => [own encTr A1 zs.length c1 ws, own encTr A2 zs.length c2 zs, isTlb p n zs, isRef r n zs]) (fun ws => True) rfl (X_block ?_) (fun ws _ => ?_) | refine X_cutD (c := .block 4 _) [1, 5, 7, 9, 11] (fun (_ : Unit) => []) (fun _ => [own encTr A2 zs.length c2 zs, isTlb p n zs, isRef r n zs]) (fun _ => True) rfl (X_block ?_) (fun _ _ => ?_) | refine X_seq ?_ | (refine X_regionN (by repeat' (first | exact .nil | apply NL.cons)) ?_) | refine X_skip ?_ | refine X_block ?_ | refine X_cond_t rfl ?_ | refine X_cond_f rfl ?_) | (refine Y_id ?_; first | refine Y_then ?_ | refine Y_block_normal ?_))
      · refine X_loopD2 [1, 5, 7, 9, 10, 11] (fun (k : Nat) (ws : List Tr) => [(12, .int .i64 k)]) (fun _ ws => [own encTr A1 zs.length c1 ws, own encTr A2 zs.length c2 zs, isTlb p n zs, isRef r n zs]) (fun k ws => k ≤ zs.length) (fun k _ => zs.length - k) 0 zs rfl (Nat.zero_le _) (by (repeat' (first | exact trivial | refine And.intro rfl ?_)); done) (stars_only [4, 2, 2, 1] rfl) ?_
        intro k ws hk
        have hk : k ≤ zs.length := hk
        by_cases hlt2 : k < zs.length
        · refine X_fact 0 rfl (fun _ o => own_some o (by omega)) fun hq => ?_
          obtain ⟨q, rfl⟩ := hq
          repeat' (first | (refine XL_id ?_; first | refine XL_nil ?_ | (refine XG_idx ?_; refine XL_idxl tt_ok rfl rfl rfl rfl rfl (by omega) (by omega) rfl ?_) | (refine XG_build ?_; (refine XL_build tt_ok rfl rfl rfl rfl rfl rfl rfl ?_; refine XL_aggN (by repeat' (first | exact .nil | apply NL.cons)) ?_)) | (refine XG_store ?_; (refine XL_putW (i := k) tt_ok 0 (⟨0, -9, 0, false, false, false⟩ : Tr) rfl rfl (by show 0 + _ * 6 = _ * 6; omega) rfl rfl rfl (by omega) ?_)) | (refine XL_op tt_ok rfl rfl ?_; try (first | refine XL_int (wrap_i64 (by omega) (by omega)) ?_ | refine XL_dec_t (by omega) ?_))) | (refine X_id ?_; first | refine X_seq ?_ | (refine X_regionN (by repeat' (first | exact .nil | apply NL.cons)) ?_) | refine X_skip ?_ | refine X_block ?_ | refine X_cond_t rfl ?_) | (refine Y_id ?_; first | refine Y_then ?_ | refine Y_block_normal ?_))
          all_goals first
            | exact Y_again (k + 1, _) fun _ _ hf hs => ⟨by show k + 1 ≤ zs.length; omega, by show zs.length - (k + 1) < zs.length - k; omega, hf.sub (by (repeat' (first | exact trivial | refine And.intro rfl ?_)); done), hs⟩
            | skip
          
        · repeat' (first | (refine XL_id ?_; first | refine XL_nil ?_ | (refine XL_op tt_ok rfl rfl ?_; try (refine XL_dec_f (by omega) ?_))) | (refine X_id ?_; first | refine X_seq ?_ | (refine X_regionN (by repeat' (first | exact .nil | apply NL.cons)) ?_) | refine X_exit ?_ | refine X_cond_f rfl ?_) | (refine Y_id ?_; first | refine Y_then ?_ | refine Y_then_exit ?_ | refine Y_block_hit ?_))
          all_goals exact Y_again ws fun _ _ hf hs => ⟨trivial, hf.sub (by (repeat' (first | exact trivial | refine And.intro rfl ?_)); done), hs⟩
      · refine X_loopD4 [1, 5, 7, 9, 11] (fun (k : Nat) (A4 : Option Addr) (c4 : Nat) (vs : List Tr) => [(13, .int .i64 k), (10, .slice A4 (zs.length + k) c4)]) (fun k A4 c4 vs => [own encTr A4 (zs.length + k) c4 vs, own encTr A2 zs.length c2 zs, isTlb p n zs, isRef r n zs]) (fun k _ _ _ => k ≤ 70) (fun k _ _ _ => 70 - k) 0 A1 c1 ws rfl (Nat.zero_le _) (by (repeat' (first | exact trivial | refine And.intro rfl ?_)); done) (fun _ h => h) ?_
        intro k A4 c4 vs hk
        have hk : k ≤ 70 := hk
        by_cases hlt2 : k < 70
        · repeat' (first | (refine XL_id ?_; first | refine XL_nil ?_ | (refine XG_build ?_; (refine XL_build tt_ok rfl rfl rfl rfl rfl rfl rfl ?_; refine XL_aggN (by repeat' (first | exact .nil | apply NL.cons)) ?_)) | (refine XG_call ?_; (refine XL_app1 tt_ok 1 0 (⟨0, -8, 0, false, false, false⟩ : Tr) rfl rfl rfl rfl rfl rfl rfl rfl rfl rfl rfl (by show (_ : Nat) * 32 ≤ _; omega) (by omega) (fun _ _ => rfl) (fun A5 c5 => ?_))) | (refine XG_lit ?_; (refine XL_lit tt_ok rfl rfl rfl rfl rfl rfl rfl rfl rfl (fun _ => rfl) (fun b => ?_); refine XL_nB (by repeat' (first | exact .nil | apply NL.cons)) ?_)) | (refine XL_op tt_ok rfl rfl ?_; try (first | refine XL_int (wrap_i64 (by omega) (by omega)) ?_ | refine XL_dec_t (by omega) ?_))) | (refine X_id ?_; first | refine X_seq ?_ | (refine X_regionN (by repeat' (first | exact .nil | apply NL.cons)) ?_) | refine X_skip ?_ | refine X_block ?_ | refine X_cond_t rfl ?_) | (refine Y_id ?_; first | refine Y_then ?_ | refine Y_block_normal ?_))
          all_goals first
            | exact Y_again (k + 1, A5, c5, _) fun _ _ hf hs => ⟨by show k + 1 ≤ 70; omega, by show 70 - (k + 1) < 70 - k; omega, hf.sub (by (repeat' (first | exact trivial | refine And.intro rfl ?_)); done), hs.imp fun h hs => stars_only [1, 1, 1, 1] rfl h hs⟩
            | skip
          
        · repeat' (first | (refine XL_id ?_; first | refine XL_nil ?_ | (refine XL_op tt_ok rfl rfl ?_; try (refine XL_dec_f (by omega) ?_))) | (refine X_id ?_; first | refine X_seq ?_ | (refine X_regionN (by repeat' (first | exact .nil | apply NL.cons)) ?_) | refine X_exit ?_ | refine X_cond_f rfl ?_) | (refine Y_id ?_; first | refine Y_then ?_ | refine Y_then_exit ?_ | refine Y_block_hit ?_))
          all_goals exact Y_again () fun _ _ hf hs => ⟨trivial, hf.sub (by (repeat' (first | exact trivial | refine And.intro rfl ?_)); done), hs.imp fun h hs => stars_only [1, 1, 1] rfl h hs⟩
      · exact Y_again (i + 1, zs) fun _ _ hf hs => ⟨⟨by show i + 1 ≤ m; omega, hok2⟩, by show m - (i + 1) < m - i; omega, hf.sub (by (repeat' (first | exact trivial | refine And.intro rfl ?_)); done), hs.imp fun h hs => stars_only [3, 1] rfl h hs⟩
      
    · repeat' (first | (refine XL_id ?_; first | refine XL_nil ?_ | refine XL_guard_yes rfl rfl rfl ?_ | refine XL_guard_no rfl rfl rfl rfl rfl ?_ | (refine XG_call ?_; first | (refine XL_op tt_ok rfl rfl ?_) | refine XL_fn works_spec rfl rfl (fun _ _ _ => trivial) ?_) | (refine XL_op tt_ok rfl rfl ?_; try (first | refine XL_dec_f (by omega) ?_ | refine XL_dec (fun _ => ?_) (fun _ => ?_)))) | (refine X_id ?_; first | refine X_seq ?_ | (refine X_regionN (by repeat' (first | exact .nil | apply NL.cons)) ?_) | refine X_ret ?_ | refine X_exit ?_ | refine X_cond_f rfl ?_) | (refine Y_id ?_; first | refine Y_then ?_ | refine Y_then_exit ?_ | refine Y_block_hit ?_))
      all_goals first
        | exact Y_fn1 rfl rfl rfl
        | (exfalso; omega)
        | skip
      
  · have hn1 := new_bad n (by omega)
    have hn2 := rnew_bad n (by omega)
    repeat' (first | (refine XL_id ?_; first | refine XL_nil ?_ | refine XL_guard_yes rfl rfl rfl ?_ | (refine XG_call ?_; first | refine XL_fn hn1 rfl rfl (fun _ _ _ => trivial) ?_ | refine XL_fn hn2 rfl rfl (fun _ _ _ => trivial) ?_) | (refine XL_op tt_ok rfl rfl ?_; try (refine XL_dec_f (by omega) ?_))) | (refine X_id ?_; first | refine X_seq ?_ | (refine X_regionN (by repeat' (exact .nil)) ?_) | refine X_skip ?_ | refine X_block ?_ | refine X_cond_f rfl ?_) | (refine Y_id ?_; refine Y_then ?_))
    refine X_loopD [1, 5, 7] (fun (i : Nat) => [(9, .int .i64 i)]) (fun _ => []) (fun i => i ≤ m) (fun i => m - i) 0 rfl (Nat.zero_le _) (by (repeat' (first | exact trivial | refine And.intro rfl ?_)); done) (fun _ h => h) ?_
    intro i hi
    have hi : i ≤ m := hi
    by_cases hlt : i < m ∧ i < 100
    · have hx := hl _ (get_mem' (l := l) (i := (i : Int)) (by omega) (by omega))
      have hd := done_nil (Cof.get l (i : Int)) hx
      repeat' (first | (refine XL_id ?_; first | refine XL_nil ?_ | refine XL_guard_yes rfl rfl rfl ?_ | (refine XG_load ?_; refine XL_elW tt_ok rfl (by assumption) rfl (by omega) (by omega) rfl rfl rfl rfl ?_) | (refine XG_idx ?_; refine XL_idx tt_ok rfl rfl rfl rfl rfl (by assumption) (by omega) (by omega) rfl ?_) | (refine XG_call ?_; first | (refine XL_op tt_ok rfl rfl ?_) | refine XL_fn hd rfl rfl (fun _ _ _ => trivial) ?_ | refine XL_fn nAll_n rfl rfl (fun _ _ _ => trivial) ?_ | refine XL_fn qAll_n rfl rfl (fun _ _ _ => trivial) ?_ | (refine XL_fn (same_spec none none 0 0 0 0 [] [] (by decide) (by decide)) rfl rfl (fun g hg hL => ⟨rdS.nil _ _ _, rdS.nil _ _ _⟩) ?_; refine XL_dec_t rfl ?_)) | (refine XL_op tt_ok rfl rfl ?_; try (first | refine XL_int (wrap_i64 (by omega) (by omega)) ?_ | refine XL_dec_t (by omega) ?_ | refine XL_dec_f (by omega) ?_))) | (refine X_id ?_; first | refine X_unroll (c := .seq (.seq (.region 14 _ _) _) _) 1 ?_ | refine X_cutD (c := .block 4 _) [1, 5, 7, 9, 11] (fun (_ : Unit) => []) (fun _ => []) (fun _ => True) rfl (X_block ?_) (fun _ _ => ?_) | refine X_seq ?_ | (refine X_regionN (by repeat' (exact .nil)) ?_) | refine X_skip ?_ | refine X_exit ?_ | refine X_block ?_ | refine X_cond_t rfl ?_ | refine X_cond_f rfl ?_) | (refine Y_id ?_; first | refine Y_then ?_ | refine Y_then_exit ?_ | refine Y_block_hit ?_ | refine Y_block_normal ?_))
      · refine X_loopD4 [1, 5, 7, 9, 11] (fun (k : Nat) (A4 : Option Addr) (c4 : Nat) (vs : List Tr) => [(13, .int .i64 k), (10, .slice A4 k c4)]) (fun k A4 c4 vs => [own encTr A4 k c4 vs]) (fun k _ _ _ => k ≤ 70) (fun k _ _ _ => 70 - k) 0 none 0 [] rfl (Nat.zero_le _) (by (repeat' (first | exact trivial | refine And.intro rfl ?_)); done) (fun h hs => stars_new (own_nil _ _) trivial) ?_
        intro k A4 c4 vs hk
        have hk : k ≤ 70 := hk
        by_cases hlt2 : k < 70
        · repeat' (first | (refine XL_id ?_; first | refine XL_nil ?_ | (refine XG_build ?_; (refine XL_build tt_ok rfl rfl rfl rfl rfl rfl rfl ?_; refine XL_aggN (by repeat' (first | exact .nil | apply NL.cons)) ?_)) | (refine XG_call ?_; (refine XL_app1 tt_ok 1 0 (⟨0, -8, 0, false, false, false⟩ : Tr) rfl rfl rfl rfl rfl rfl rfl rfl rfl rfl rfl (by show (_ : Nat) * 32 ≤ _; omega) (by omega) (fun _ _ => rfl) (fun A5 c5 => ?_))) | (refine XG_lit ?_; (refine XL_lit tt_ok rfl rfl rfl rfl rfl rfl rfl rfl rfl (fun _ => rfl) (fun b => ?_); refine XL_nB (by repeat' (first | exact .nil | apply NL.cons)) ?_)) | (refine XL_op tt_ok rfl rfl ?_; try (first | refine XL_int (wrap_i64 (by omega) (by omega)) ?_ | refine XL_dec_t (by omega) ?_))) | (refine X_id ?_; first | refine X_seq ?_ | (refine X_regionN (by repeat' (first | exact .nil | apply NL.cons)) ?_) | refine X_skip ?_ | refine X_block ?_ | refine X_cond_t rfl ?_) | (refine Y_id ?_; first | refine Y_then ?_ | refine Y_block_normal ?_))
          all_goals first
            | exact Y_again (k + 1, A5, c5, _) fun _ _ hf hs => ⟨by show k + 1 ≤ 70; omega, by show 70 - (k + 1) < 70 - k; omega, hf.sub (by (repeat' (first | exact trivial | refine And.intro rfl ?_)); done), hs.imp fun h hs => stars_only [1] rfl h hs⟩
            | skip
          
        · repeat' (first | (refine XL_id ?_; first | refine XL_nil ?_ | (refine XL_op tt_ok rfl rfl ?_; try (refine XL_dec_f (by omega) ?_))) | (refine X_id ?_; first | refine X_seq ?_ | (refine X_regionN (by repeat' (first | exact .nil | apply NL.cons)) ?_) | refine X_exit ?_ | refine X_cond_f rfl ?_) | (refine Y_id ?_; first | refine Y_then ?_ | refine Y_then_exit ?_ | refine Y_block_hit ?_))
          all_goals exact Y_again () fun _ _ hf hs => ⟨trivial, hf.sub (by (repeat' (first | exact trivial | refine And.intro rfl ?_)); done), hs.imp fun h hs => trivial⟩
      · exact Y_again (i + 1) fun _ _ hf hs => ⟨by show i + 1 ≤ m; omega, by show m - (i + 1) < m - i; omega, hf.sub (by (repeat' (first | exact trivial | refine And.intro rfl ?_)); done), hs⟩
      
    · repeat' (first | (refine XL_id ?_; first | refine XL_nil ?_ | refine XL_guard_yes rfl rfl rfl ?_ | refine XL_guard_no rfl rfl rfl rfl rfl ?_ | (refine XG_call ?_; first | (refine XL_op tt_ok rfl rfl ?_) | refine XL_fn works_spec rfl rfl (fun _ _ _ => trivial) ?_) | (refine XL_op tt_ok rfl rfl ?_; try (first | refine XL_dec_f (by omega) ?_ | refine XL_dec (fun _ => ?_) (fun _ => ?_)))) | (refine X_id ?_; first | refine X_seq ?_ | (refine X_regionN (by repeat' (exact .nil)) ?_) | refine X_ret ?_ | refine X_exit ?_ | refine X_cond_f rfl ?_) | (refine Y_id ?_; first | refine Y_then ?_ | refine Y_then_exit ?_ | refine Y_block_hit ?_))
      all_goals first
        | exact Y_fn1 rfl rfl rfl
        | (exfalso; omega)
        | skip
      
end Go.Proofs.Ytocilbkjbikeeaa
