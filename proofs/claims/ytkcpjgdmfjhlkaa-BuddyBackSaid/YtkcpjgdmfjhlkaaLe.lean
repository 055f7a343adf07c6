/- BuddyBack: there and back; the least place. -/
import Derived.Test.YtkcpjgdmfjhlkaaPe
import Derived.Test.YtkcpjgdmfjhlkaaLc
set_option linter.unusedVariables false
namespace Go.Proofs.Ytkcpjgdmfjhlkaa
open Go.RowKit Go.Cof

theorem allI_back {α : Type} {E : Enc α} {l : List (In α)} {i : Nat} (hi : i < l.length) {M : List HProp} {h : Hp} (hs : stars (own E (Cof.get l (i : Int)).A (Cof.get l (i : Int)).m (Cof.get l (i : Int)).c (Cof.get l (i : Int)).xs :: allI E (l.eraseIdx i) :: M) h) : stars (allI E l :: M) h := by
  have := allI_put hi (Cof.get l (i : Int)) hs
  have e : l.set i (Cof.get l (i : Int)) = l := by rw [get_getElem hi, List.set_getElem_self]
  rwa [e] at this
abbrev bkM (p n : Nat) (s : Bst) : List HProp := [isBd p n s.fs s.tk, own encH s.A s.m s.c s.hs]
theorem rem7 {v : Int} (h : 0 ≤ v) : ∃ o : Nat, v % 7 = o ∧ o ≤ 6 := ⟨(v % 7).toNat, by omega, by omega⟩
set_option maxRecDepth 100000 in
set_option maxHeartbeats 16000000 in
theorem buddyBack_walk (n order : Int) (hn : i64R n) (ho : i64R order) (A : Option Addr) (m c : Nat) (l : List Int) (hl : ∀ x ∈ l, i64R x) (hm : m ≤ 9223372036854775807) : FnC Try.prog 6 [iV n, .slice A m c, iV order] (fun h => rdS encN h A m l) (.bool true) := by
  refine Ctr.intro Try.func6 rfl rfl (by decide +kernel) fun F hpre => ?_
  have rl : rdS encN F.heap A m l := hpre
  have hll := rl.1
  have hwn := within_spec n 300 hn.1 hn.2 (by omega) (by omega)
  obtain ⟨N, hN⟩ : ∃ N : Nat, n % 300 = N := ⟨(n % 300).toNat, by omega⟩
  have hN3 : N < 300 := by omega
  rw [hN] at hwn
  have hwo := within_spec order 7 ho.1 ho.2 (by omega) (by omega)
  obtain ⟨o, hoN⟩ : ∃ o : Nat, order % 7 = o := ⟨(order % 7).toNat, by omega⟩
  have ho6 : o ≤ 6 := by omega
  rw [hoN] at hwo
  repeat' (first | (refine XL_id ?_; first | refine XL_nil ?_ | (refine XG_call ?_; first | refine XL_fn awake_spec rfl rfl (fun _ _ _ => trivial) ?_ | refine XL_fn hwn rfl rfl (fun _ _ _ => trivial) ?_ | (refine XL_callK [] (new_spec N (by omega)) rfl rfl (fun _ => rfl) (fun _ _ _ => trivial) (fun u L hv => ?_); obtain ⟨p, f0, hb0, rfl, rfl⟩ := hv)) | (refine XL_op tt_ok rfl rfl ?_; try (refine XL_dec_f (by omega) ?_))) | (refine X_id ?_; first | refine X_block (id := 0) (hold ?_) | refine X_seq ?_ | (refine X_regionN (by repeat' (first | exact .nil | apply NL.cons)) ?_) | refine X_skip ?_ | refine X_cond_f rfl ?_) | (refine Y_id ?_; refine Y_then ?_))
  intro _
  refine X_loopD [1, 2, 7] (fun (s : Bst) => [(10, .int .i64 s.i), (9, .slice s.A s.m s.c)]) (fun s => bkM p N s) (fun s => s.Ok N ∧ s.i ≤ m ∧ s.m ≤ s.i) (fun s => m - s.i) ⟨0, allO N, f0, fun _ => none, none, 0, 0, []⟩ rfl ⟨⟨List.length_replicate, hb0, TkOk.nil, HOk.nil⟩, Nat.zero_le _, Nat.le_refl _⟩ (by (repeat' (first | exact trivial | refine And.intro rfl ?_)); done) (fun h hs => stars_take [1] rfl (stars_new (own_nil encH _) hs)) ?_
  intro s hs
  obtain ⟨hok, hi, hmi⟩ := hs
  have hlen := hok.len
  by_cases hlt : s.i < m ∧ s.i < 100
  · have hxv := hl _ (get_mem' (l := l) (i := (s.i : Int)) (by omega) (by omega))
    by_cases hv0 : 0 ≤ Cof.get l (s.i : Int)
    · obtain ⟨q, hq, hq6⟩ := rem7 hv0
      have hrem : (Cof.get l (s.i : Int)).tmod 7 = q := by rw [rem_pos hv0]; exact hq
      rcases take_way s.op q hq6 with hno | ⟨k, a, h1, h2, h3, h4, h5, h6⟩
      · have hT := takeN_spec p N s.op s.fs s.tk q hq6 hok.b hno
        repeat' (first | (refine XL_id ?_; first | refine XL_nil ?_ | refine XL_guard_yes rfl rfl rfl ?_ | (refine XG_load ?_; refine XL_el tt_ok rfl (by assumption) rfl (by omega) (by omega) rfl rfl rfl rfl ?_) | (refine XG_idx ?_; refine XL_idx tt_ok rfl rfl rfl rfl rfl (by assumption) (by omega) (by omega) rfl ?_) | (refine XG_call ?_; first | (refine XL_op tt_ok rfl rfl ?_) | refine XL_callE [0] hT rfl rfl rfl (fun _ _ _ => trivial) ?_) | (refine XL_op tt_ok (opV_rem rfl rfl (by omega)) rfl ?_; refine XL_int hrem ?_) | (refine XL_op tt_ok rfl rfl ?_; try (first | refine XL_int (wrap_i64 (by omega) (by omega)) ?_ | refine XL_dec_t (by omega) ?_ | refine XL_dec_f (by omega) ?_))) | (refine X_id ?_; first | refine X_seq ?_ | (refine X_regionN (by repeat' (first | exact .nil | apply NL.cons)) ?_) | refine X_skip ?_ | refine X_block ?_ | refine X_cond_t rfl ?_ | refine X_cond_f rfl ?_) | (refine Y_id ?_; first | refine Y_then ?_ | refine Y_block_normal ?_))
        all_goals first
          | exact Y_again ⟨s.i + 1, s.op, s.fs, s.tk, s.A, s.m, s.c, s.hs⟩ fun _ _ hf hs => ⟨⟨⟨hok.len, hok.b, hok.t, hok.h⟩, by show s.i + 1 ≤ m; omega, by show s.m ≤ s.i + 1; omega⟩, by show m - (s.i + 1) < m - s.i; omega, hf.sub (by (repeat' (first | exact trivial | refine And.intro rfl ?_)); done), hs⟩
          | (exfalso; omega)
          | skip
        
      · have hT := takeA_spec p N s.op s.fs s.tk q k a (by omega) hok.b h2 h1 h3 h4 h5
        repeat' (first | (refine XL_id ?_; first | refine XL_nil ?_ | refine XL_guard_yes rfl rfl rfl ?_ | (refine XG_load ?_; refine XL_el tt_ok rfl (by assumption) rfl (by omega) (by omega) rfl rfl rfl rfl ?_) | (refine XG_idx ?_; refine XL_idx tt_ok rfl rfl rfl rfl rfl (by assumption) (by omega) (by omega) rfl ?_) | (refine XG_build ?_; refine XL_buildA tt_ok rfl rfl rfl rfl rfl rfl rfl ?_) | (refine XG_call ?_; first | (refine XL_op tt_ok rfl rfl ?_) | (refine XL_callK [0] hT rfl rfl (fun _ => rfl) (fun _ _ _ => trivial) (fun u L hv => ?_); obtain ⟨gs, hgs, rfl, rfl⟩ := hv) | (refine XL_app1 (E := encH) tt_ok 2 0 ((a : Int), (q : Int)) rfl rfl rfl rfl rfl rfl rfl rfl rfl rfl rfl (by show (_ : Nat) * 16 ≤ _; omega) (by omega) (fun _ _ => rfl) (fun A3 c3 => ?_))) | (refine XG_lit ?_; (refine XL_lit tt_ok rfl rfl rfl rfl rfl rfl rfl rfl rfl (fun _ => rfl) (fun b => ?_); refine XL_nB (by repeat' (first | exact .nil | apply NL.cons)) ?_)) | (refine XL_op tt_ok (opV_rem rfl rfl (by omega)) rfl ?_; refine XL_int hrem ?_) | (refine XL_op tt_ok rfl rfl ?_; try (first | refine XL_int (wrap_i64 (by omega) (by omega)) ?_ | refine XL_dec_t (by omega) ?_))) | (refine X_id ?_; first | refine X_seq ?_ | (refine X_regionN (by repeat' (first | exact .nil | apply NL.cons)) ?_) | refine X_skip ?_ | refine X_block ?_ | refine X_cond_t rfl ?_) | (refine Y_id ?_; first | refine Y_then ?_ | refine Y_block_normal ?_))
        all_goals first
          | exact Y_again ⟨s.i + 1, setN s.op a (2 ^ q) false, gs, updI s.tk a (some q), A3, s.m + 1, c3, s.hs ++ [((a : Int), (q : Int))]⟩ fun _ _ hf hs => ⟨⟨hok.took hgs h1 h2 h6, by show s.i + 1 ≤ m; omega, by show s.m + 1 ≤ s.i + 1; omega⟩, by show m - (s.i + 1) < m - s.i; omega, hf.sub (by (repeat' (first | exact trivial | refine And.intro rfl ?_)); done), hs.imp fun g hg => stars_only [1, 1] rfl g hg⟩
          | (exfalso; omega)
          | skip
        
    · by_cases hm0 : 0 < s.m
      · have hm1 := Int.emod_nonneg (Cof.get l (s.i : Int)) (show (s.m : Int) ≠ 0 by omega)
        have hm2 := Int.emod_lt_of_pos (Cof.get l (s.i : Int)) (show 0 < (s.m : Int) by omega)
        have hw2 := within_spec (Cof.get l (s.i : Int)) (s.m : Int) hxv.1 hxv.2 (by omega) (by omega)
        obtain ⟨q, hq⟩ : ∃ q : Nat, Cof.get l (s.i : Int) % (s.m : Int) = q := ⟨(Cof.get l (s.i : Int) % (s.m : Int)).toNat, by omega⟩
        rw [hq] at hw2 hm2
        refine X_fact 1 rfl (fun _ o => (own_len o).1) fun hlm => ?_
        obtain ⟨a, k, e1, e2, hk, htk⟩ := hok.held (q := q) (by omega)
        have hG := giveX_spec p N s.op s.fs s.tk (Cof.get s.hs (q : Int)) a k e1 e2 (by omega) hok.b hk htk
        have hwo2 := without_spec s.A s.m s.c s.hs (q : Int) (by omega)
        have hera : outI (q : Int) s.hs s.m = s.hs.eraseIdx q := by rw [outI_era (by omega), List.take_of_length_le (by omega)]
        rw [hera] at hwo2
        repeat' (first | (refine XL_id ?_; first | refine XL_nil ?_ | refine XL_guard_yes rfl rfl rfl ?_ | (refine XG_load ?_; refine XL_el tt_ok rfl (by assumption) rfl (by omega) (by omega) rfl rfl rfl rfl ?_) | (refine XG_idx ?_; refine XL_idx tt_ok rfl rfl rfl rfl rfl (by assumption) (by omega) (by omega) rfl ?_) | (refine XG_call ?_; first | (refine XL_op tt_ok rfl rfl ?_) | refine XL_fn hw2 rfl rfl (fun _ _ _ => trivial) ?_ | (refine XL_callK [0] hG rfl rfl (fun _ => rfl) (fun _ _ _ => trivial) (fun u L hv => ?_); obtain ⟨gs, hgs, rfl, rfl⟩ := hv) | (refine XL_callK [] hwo2 rfl rfl (fun _ => rfl) (fun g hg hL => rd_at 1 rfl hL) (fun u L hv => ?_); obtain ⟨A2, m2, c2, rfl, rfl⟩ := hv; refine XL_fact 0 rfl (fun _ o => (own_len o).1) (fun hm2 => ?_))) | (refine XL_op tt_ok rfl rfl ?_; try (first | refine XL_int (wrap_i64 (by omega) (by omega)) ?_ | refine XL_dec_t (by omega) ?_ | refine XL_dec_f (by omega) ?_))) | (refine XD_id ?_; first | (refine XD_thaw thaw ?_; refine XD_nil ?_) | (refine XD_id ?_; (first | (refine XD_uL rfl ?_; first | refine XD_s rfl rfl rfl (XV_el tt_ok rfl (rd_at 0 rfl hM) rfl (by omega) (by omega) rfl rfl rfl) rfl ?_ | refine XD_s rfl rfl rfl (XV_elf tt_ok rfl (rd_at 0 rfl hM) rfl (by omega) (by omega) rfl rfl rfl) rfl ?_) | (refine XD_uI rfl ?_; first | refine XD_s rfl rfl rfl (XV_idx tt_ok rfl rfl rfl rfl rfl (rd_at 0 rfl hM) (by omega) (by omega)) rfl ?_ | refine XD_s rfl rfl rfl (XV_idxa tt_ok rfl rfl rfl rfl rfl (by decide) (by decide)) rfl ?_) | (refine XD_u rfl rfl ?_; refine XD_s rfl rfl rfl (XV_op tt_ok rfl) rfl ?_)); try (refine XD_dec_f (by omega) ?_)) | refine XD_m rfl rfl ?_) | (refine X_id ?_; first | (refine X_drawS (id := 17) [0, 1, 2, 3, 4, 5, 6, 7, 8, 9, 10, 11, 12] (fun | 11 => .m | _ => .s) 8 (by (repeat apply Split.blk); apply Split.keep; (repeat apply Split.blk); apply Split.frz; repeat' (exact Split.nil)) mixed (by decide +kernel) ?_; intro G hFG hM thaw; show XD _ _ _ _ _ _ [0, 1, 2, 3, 4, 5, 6, 7, 8, 9, 10, 11, 12] _ _ _) | refine X_seq ?_ | (refine X_regionN (by repeat' (first | exact .nil | apply NL.cons)) ?_) | refine X_skip ?_ | refine X_block ?_ | refine X_cond_t rfl ?_ | refine X_cond_f rfl ?_) | (refine Y_id ?_; first | refine Y_then ?_ | refine Y_block_normal ?_ | refine Y_m ?_))
        all_goals first
          | exact Y_again ⟨s.i + 1, setN s.op a (2 ^ k) true, gs, updI s.tk (Cof.get s.hs (q : Int)).1 none, A2, m2, c2, s.hs.eraseIdx q⟩ fun _ _ hf hs => ⟨⟨hok.gave (by omega) e1 e2 htk hgs, by show s.i + 1 ≤ m; omega, by show m2 ≤ s.i + 1; rw [hm2, List.length_eraseIdx_of_lt (by omega)]; omega⟩, by show m - (s.i + 1) < m - s.i; omega, hf.sub (by (repeat' (first | exact trivial | refine And.intro rfl ?_)); done), hs.imp fun g hg => stars_only [1, 0] rfl g hg⟩
          | (exfalso; omega)
          | skip
        
      · repeat' (first | (refine XL_id ?_; first | refine XL_nil ?_ | refine XL_guard_yes rfl rfl rfl ?_ | (refine XG_load ?_; refine XL_el tt_ok rfl (by assumption) rfl (by omega) (by omega) rfl rfl rfl rfl ?_) | (refine XG_idx ?_; refine XL_idx tt_ok rfl rfl rfl rfl rfl (by assumption) (by omega) (by omega) rfl ?_) | (refine XL_op tt_ok rfl rfl ?_; try (first | refine XL_int (wrap_i64 (by omega) (by omega)) ?_ | refine XL_dec_t (by omega) ?_ | refine XL_dec_f (by omega) ?_))) | (refine X_id ?_; first | refine X_seq ?_ | (refine X_regionN (by repeat' (first | exact .nil | apply NL.cons)) ?_) | refine X_skip ?_ | refine X_block ?_ | refine X_cond_t rfl ?_ | refine X_cond_f rfl ?_) | (refine Y_id ?_; first | refine Y_then ?_ | refine Y_block_normal ?_))
        all_goals first
          | exact Y_again ⟨s.i + 1, s.op, s.fs, s.tk, s.A, s.m, s.c, s.hs⟩ fun _ _ hf hs => ⟨⟨⟨hok.len, hok.b, hok.t, hok.h⟩, by show s.i + 1 ≤ m; omega, by show s.m ≤ s.i + 1; omega⟩, by show m - (s.i + 1) < m - s.i; omega, hf.sub (by (repeat' (first | exact trivial | refine And.intro rfl ?_)); done), hs⟩
          | (exfalso; omega)
          | skip
        
  · have hli := lists_is p N s.fs s.tk
    rcases take_way s.op o ho6 with hno | ⟨k, a, h1, h2, h3, h4, h5, h6⟩
    · have hT := takeN_spec p N s.op s.fs s.tk o ho6 hok.b hno
      repeat' (first | (refine XL_id ?_; first | refine XL_nil ?_ | refine XL_guard_yes rfl rfl rfl ?_ | refine XL_guard_no rfl rfl rfl rfl rfl ?_ | (refine XG_call ?_; first | (refine XL_op tt_ok rfl rfl ?_) | refine XL_fn hwo rfl rfl (fun _ _ _ => trivial) ?_ | (refine XL_callK [0] hli rfl rfl (fun _ => rfl) (fun _ _ _ => trivial) (fun u L hv => ?_); obtain ⟨qw, hqw, rfl, rfl⟩ := hv; refine XL_fact 0 rfl (fun h hs => hs.1) (fun hfit => ?_); obtain ⟨hq7, hqf⟩ := hfit; refine XL_mem (fun h hs => isLl_flat hs) ?_; refine XL_fact 0 rfl (fun _ o => (own_len o).1) (fun hql => ?_)) | refine XL_callE [2] hT rfl rfl rfl (fun _ _ _ => trivial) ?_) | (refine XL_op tt_ok rfl rfl ?_; try (first | refine XL_dec_f (by omega) ?_ | refine XL_dec (fun _ => ?_) (fun _ => ?_)))) | (refine X_id ?_; first | refine X_block (id := 2) (hold ?_) | refine X_seq ?_ | (refine X_regionN (by repeat' (first | exact .nil | apply NL.cons)) ?_) | refine X_skip ?_ | refine X_exit ?_ | refine X_cond_f rfl ?_) | (refine Y_id ?_; first | refine Y_then ?_ | refine Y_then_exit ?_ | refine Y_block_hit ?_))
      all_goals first
        | (exfalso; omega)
        | skip
      all_goals
        intro _
        refine X_loopD [2, 7, 14, 15, 16] (fun (j : Nat) => [(18, .int .i64 j), (17, .int .i64 (-1))]) (fun _ => [own (encIn Int) qw.A qw.m qw.c qw.xs, allI encN qw.xs]) (fun j => o ≤ j ∧ j ≤ 7) (fun j => 7 - j) o rfl ⟨Nat.le_refl _, by omega⟩ (by (repeat' (first | exact trivial | refine And.intro rfl ?_)); done) (stars_only [1, 1] rfl) ?_
        intro j hj
        obtain ⟨hj1, hj2⟩ := hj
        by_cases hj7 : j < 7
        · have hx := row_at hqw hok.b rfl (j := j) hj7
          rw [hno j hj1 (by omega)] at hx
          refine X_fact 1 rfl (fun _ o => (allI_rd o (i := j) (by omega)).1) fun hm0 => ?_
          rw [hx, List.length_nil] at hm0
          repeat' (first | (refine XL_id ?_; first | refine XL_nil ?_ | refine XL_guard_yes rfl rfl rfl ?_ | (refine XG_load ?_; refine XL_elo tt_ok 0 rfl rfl rfl (by omega) (by omega) rfl rfl rfl rfl ?_) | (refine XG_idx ?_; refine XL_idxo tt_ok 0 rfl rfl rfl rfl rfl rfl (by omega) (by omega) rfl ?_) | (refine XL_op tt_ok rfl rfl ?_; try (first | refine XL_int (wrap_i64 (by omega) (by omega)) ?_ | refine XL_dec_t (by omega) ?_ | refine XL_dec_f (by omega) ?_))) | (refine X_id ?_; first | refine X_seq ?_ | (refine X_regionN (by repeat' (first | exact .nil | apply NL.cons)) ?_) | refine X_skip ?_ | refine X_block ?_ | refine X_cond_t rfl ?_ | refine X_cond_f rfl ?_) | (refine Y_id ?_; first | refine Y_then ?_ | refine Y_block_normal ?_))
          all_goals first
            | exact Y_again (j + 1) fun _ _ hf hs => ⟨⟨by omega, by omega⟩, by show 7 - (j + 1) < 7 - j; omega, hf.sub (by (repeat' (first | exact trivial | refine And.intro rfl ?_)); done), hs⟩
            | (exfalso; omega)
            | skip
          
        · repeat' (first | (refine XL_id ?_; first | refine XL_nil ?_ | refine XL_guard_yes rfl rfl rfl ?_ | refine XL_guard_no rfl rfl rfl rfl rfl ?_ | (refine XL_op tt_ok rfl rfl ?_; try (first | refine XL_dec_t (by omega) ?_ | refine XL_dec_f (by omega) ?_))) | (refine X_id ?_; first | refine X_seq ?_ | (refine X_regionN (by repeat' (first | exact .nil | apply NL.cons)) ?_) | refine X_ret ?_ | refine X_exit ?_ | refine X_cond_t rfl ?_ | refine X_cond_f rfl ?_) | (refine Y_id ?_; first | refine Y_then ?_ | refine Y_then_ret ?_ | refine Y_then_exit ?_ | refine Y_block_hit ?_))
          all_goals first
            | exact Y_fn1 rfl rfl rfl
            | (exfalso; omega)
            | skip
          
    · have hT := takeA_spec p N s.op s.fs s.tk o k a (by omega) hok.b h2 h1 h3 h4 h5
      have hro := h6.open h1
      have hre := reopen hro.2.1 hro.2.2
      have hpo := two_pos o
      repeat' (first | (refine XL_id ?_; first | refine XL_nil ?_ | refine XL_guard_yes rfl rfl rfl ?_ | refine XL_guard_no rfl rfl rfl rfl rfl ?_ | (refine XG_call ?_; first | (refine XL_op tt_ok rfl rfl ?_) | refine XL_fn hwo rfl rfl (fun _ _ _ => trivial) ?_ | (refine XL_callK [0] hli rfl rfl (fun _ => rfl) (fun _ _ _ => trivial) (fun u L hv => ?_); obtain ⟨qw, hqw, rfl, rfl⟩ := hv; refine XL_fact 0 rfl (fun h hs => hs.1) (fun hfit => ?_); obtain ⟨hq7, hqf⟩ := hfit; refine XL_mem (fun h hs => isLl_flat hs) ?_; refine XL_fact 0 rfl (fun _ o => (own_len o).1) (fun hql => ?_)) | (refine XL_callK [2] hT rfl rfl (fun _ => rfl) (fun _ _ _ => trivial) (fun u L hv => ?_); obtain ⟨gs, hgs, rfl, rfl⟩ := hv)) | (refine XL_op tt_ok rfl rfl ?_; try (first | refine XL_dec_f (by omega) ?_ | refine XL_dec (fun _ => ?_) (fun _ => ?_)))) | (refine X_id ?_; first | refine X_block (id := 2) (hold ?_) | refine X_seq ?_ | (refine X_regionN (by repeat' (first | exact .nil | apply NL.cons)) ?_) | refine X_skip ?_ | refine X_exit ?_ | refine X_cond_f rfl ?_) | (refine Y_id ?_; first | refine Y_then ?_ | refine Y_then_exit ?_ | refine Y_block_hit ?_))
      all_goals first
        | (exfalso; omega)
        | skip
      all_goals
        intro _
        refine X_loopD [2, 7, 14, 15, 16] (fun (j : Nat) => [(18, .int .i64 j), (17, .int .i64 (if j ≤ k then -1 else (a : Int)))]) (fun _ => [isBd p N gs (updI s.tk a (some o)), own (encIn Int) qw.A qw.m qw.c qw.xs, allI encN qw.xs]) (fun j => o ≤ j ∧ j ≤ k + 1) (fun j => k + 1 - j) o rfl ⟨Nat.le_refl _, by omega⟩ (by rw [if_pos h1]; exact (by (repeat' (first | exact trivial | refine And.intro rfl ?_)); done)) (stars_only [0, 0, 0] rfl) ?_
        intro j hj
        obtain ⟨hj1, hj2⟩ := hj
        by_cases hj7 : j < k
        · have hx := row_at hqw hok.b rfl (j := j) (by omega)
          rw [h3 j hj1 hj7] at hx
          refine X_fact 2 rfl (fun _ o => (allI_rd o (i := j) (by omega)).1) fun hm0 => ?_
          rw [hx, List.length_nil] at hm0
          rw [if_pos (by omega)]
          repeat' (first | (refine XL_id ?_; first | refine XL_nil ?_ | refine XL_guard_yes rfl rfl rfl ?_ | (refine XG_load ?_; refine XL_elo tt_ok 1 rfl rfl rfl (by omega) (by omega) rfl rfl rfl rfl ?_) | (refine XG_idx ?_; refine XL_idxo tt_ok 1 rfl rfl rfl rfl rfl rfl (by omega) (by omega) rfl ?_) | (refine XL_op tt_ok rfl rfl ?_; try (first | refine XL_int (wrap_i64 (by omega) (by omega)) ?_ | refine XL_dec_t (by omega) ?_ | refine XL_dec_f (by omega) ?_))) | (refine X_id ?_; first | refine X_seq ?_ | (refine X_regionN (by repeat' (first | exact .nil | apply NL.cons)) ?_) | refine X_skip ?_ | refine X_block ?_ | refine X_cond_t rfl ?_ | refine X_cond_f rfl ?_) | (refine Y_id ?_; first | refine Y_then ?_ | refine Y_block_normal ?_))
          all_goals first
            | exact Y_again (j + 1) fun _ _ hf hs => ⟨⟨by omega, by omega⟩, by show k + 1 - (j + 1) < k + 1 - j; omega, by rw [if_pos (by omega)]; exact hf.sub (by (repeat' (first | exact trivial | refine And.intro rfl ?_)); done), hs⟩
            | (exfalso; omega)
            | skip
          
        · by_cases hjk : j = k
          · subst hjk
            have hx := row_at hqw hok.b rfl (j := j) (by omega)
            refine X_fact 2 rfl (fun _ o => (allI_rd o (i := j) (by omega)).1) fun hm0 => ?_
            have hpos : 0 < (Cof.get qw.xs (j : Int)).xs.length := by rw [hx]; exact List.length_pos_iff.2 h4
            rw [← hx] at h5
            rw [if_pos (Nat.le_refl _)]
            refine X_mem (fun _ hh => stars_take [2, 0] rfl hh) ?_
            refine X_mem (fun _ hh => allI_own (i := j) (by omega) hh) ?_
            repeat' (first | (refine XL_id ?_; first | refine XL_int h5 ?_ | refine XL_nil ?_ | refine XL_guard_yes rfl rfl rfl ?_ | (refine XG_load ?_; first | refine XL_elo tt_ok 0 rfl rfl rfl (by omega) (by omega) rfl rfl rfl rfl ?_ | refine XL_elo tt_ok 3 rfl rfl rfl (by omega) (by omega) rfl rfl rfl rfl ?_) | (refine XG_idx ?_; first | refine XL_idxo tt_ok 0 rfl rfl rfl rfl rfl rfl (by omega) (by omega) rfl ?_ | refine XL_idxo tt_ok 3 rfl rfl rfl rfl rfl rfl (by omega) (by omega) rfl ?_) | (refine XL_op tt_ok rfl rfl ?_; try (first | refine XL_int (wrap_i64 (by omega) (by omega)) ?_ | refine XL_dec_t (by omega) ?_))) | (refine X_id ?_; first | refine X_seq ?_ | (refine X_regionN (by repeat' (first | exact .nil | apply NL.cons)) ?_) | refine X_skip ?_ | refine X_block ?_ | refine X_cond_t rfl ?_) | (refine Y_id ?_; first | refine Y_then ?_ | refine Y_block_normal ?_))
            all_goals first
              | exact Y_again (j + 1) fun _ _ hf hs => ⟨⟨by omega, by omega⟩, by show j + 1 - (j + 1) < j + 1 - j; omega, by rw [if_neg (by omega)]; exact hf.sub (by (repeat' (first | exact trivial | refine And.intro rfl ?_)); done), hs.imp fun g hg => stars_take [1, 1] rfl (allI_back (i := j) (by omega) hg)⟩
              | (exfalso; omega)
              | skip
            
          · obtain rfl : j = k + 1 := by omega
            rw [if_neg (by omega)]
            have hat : updI s.tk a (some (o : Int)) (a : Int) = some (o : Int) := if_pos rfl
            obtain ⟨a1, o1, e1, e2, hkb⟩ := (hok.t.take ho6 hro.1 hro.2.1 hro.2.2).blk _ _ hat
            obtain rfl : a = a1 := by omega
            obtain rfl : o = o1 := by omega
            have hG := giveX_spec p N (setN s.op a (2 ^ o) false) gs (updI s.tk a (some (o : Int))) ((a : Int), (o : Int)) a o rfl rfl (by rw [setN_len]; omega) hgs hkb hat
            repeat' (first | (refine XL_id ?_; first | refine XL_nil ?_ | refine XL_guard_yes rfl rfl rfl ?_ | refine XL_guard_no rfl rfl rfl rfl rfl ?_ | (refine XG_call ?_; first | (refine XL_callK [0] hG rfl rfl (fun _ => rfl) (fun _ _ _ => trivial) (fun u L hv => ?_); obtain ⟨gs2, hgs2, rfl, rfl⟩ := hv) | (refine XL_callK [0] (lists_is p N _ _) rfl rfl (fun _ => rfl) (fun _ _ _ => trivial) (fun u L hv => ?_); obtain ⟨q2, hq2, rfl, rfl⟩ := hv; refine XL_fact 0 rfl (fun h hs => hs.1) (fun hfit2 => ?_); obtain ⟨hq72, hqf2⟩ := hfit2; refine XL_mem (fun h hs => isLl_flat hs) ?_; refine XL_fact 0 rfl (fun _ o => (own_len o).1) (fun hql2 => ?_))) | (refine XL_op tt_ok rfl rfl ?_; try (first | refine XL_dec_f (by omega) ?_ | refine XL_dec (fun _ => ?_) (fun _ => ?_)))) | (refine X_id ?_; first | refine X_block (id := 4) (hold ?_) | refine X_seq ?_ | (refine X_regionN (by repeat' (first | exact .nil | apply NL.cons)) ?_) | refine X_skip ?_ | refine X_exit ?_ | refine X_cond_f rfl ?_) | (refine Y_id ?_; first | refine Y_then ?_ | refine Y_then_exit ?_ | refine Y_block_hit ?_))
            all_goals first
              | (exfalso; omega)
              | skip
            all_goals
              intro _
              rw [hre] at hgs2
              refine X_loopD [14, 19] (fun (j : Nat) => [(20, .int .i64 j)]) (fun _ => [own (encIn Int) q2.A q2.m q2.c q2.xs, allI encN q2.xs, isBd p N gs2 (updI (updI s.tk a (some (o : Int))) ((a : Int), (o : Int)).1 none), own (encIn Int) qw.A qw.m qw.c qw.xs, allI encN qw.xs]) (fun j => j ≤ 7) (fun j => 7 - j) 0 rfl (Nat.zero_le _) (by (repeat' (first | exact trivial | refine And.intro rfl ?_)); done) (stars_only [0, 0, 0, 0, 0] rfl) ?_
              intro j hj
              have hj : j ≤ 7 := hj
              by_cases hjl : j < 7
              · have hxw := row_at hqw hok.b rfl (j := j) hjl
                have hx2 := row_at hq2 hgs2 rfl (j := j) hjl
                have hm1 := hqf _ (get_mem' (l := qw.xs) (i := (j : Int)) (by omega) (by omega))
                have hm2 := hqf2 _ (get_mem' (l := q2.xs) (i := (j : Int)) (by omega) (by omega))
                have heq := eqInts_spec (Cof.get qw.xs (j : Int)).A (Cof.get q2.xs (j : Int)).A (Cof.get qw.xs (j : Int)).m (Cof.get qw.xs (j : Int)).c (Cof.get q2.xs (j : Int)).m (Cof.get q2.xs (j : Int)).c (Cof.get qw.xs (j : Int)).xs (Cof.get q2.xs (j : Int)).xs (by omega) (by omega)
                repeat' (first | (refine XL_id ?_; first | refine XL_nil ?_ | (refine XG_call ?_; (refine XL_fn heq rfl rfl (fun g hg hL => ⟨(allI_at 3 rfl hM (by omega) rfl).le hg, (allI_at 1 rfl hM (by omega) rfl).le hg⟩) ?_; refine XL_dec_t (by rw [hxw, hx2]) ?_)) | (refine XL_op tt_ok rfl rfl ?_; try (first | refine XL_int (wrap_i64 (by omega) (by omega)) ?_ | refine XL_dec_t (by omega) ?_))) | (refine XD_id ?_; first | (refine XD_thaw thaw ?_; refine XD_nil ?_) | (refine XD_id ?_; (first | (refine XD_uL rfl ?_; first | refine XD_s rfl rfl rfl (XV_el tt_ok rfl (rd_at 0 rfl hM) rfl (by omega) (by omega) rfl rfl rfl) rfl ?_ | refine XD_s rfl rfl rfl (XV_el tt_ok rfl (rd_at 2 rfl hM) rfl (by omega) (by omega) rfl rfl rfl) rfl ?_) | (refine XD_uI rfl ?_; first | refine XD_s rfl rfl rfl (XV_idx tt_ok rfl rfl rfl rfl rfl (rd_at 0 rfl hM) (by omega) (by omega)) rfl ?_ | refine XD_s rfl rfl rfl (XV_idx tt_ok rfl rfl rfl rfl rfl (rd_at 2 rfl hM) (by omega) (by omega)) rfl ?_) | (refine XD_u rfl rfl ?_; refine XD_s rfl rfl rfl (XV_op tt_ok rfl) rfl ?_))) | refine XD_m rfl rfl ?_) | (refine X_id ?_; first | (refine X_drawS (id := 39) [0, 1, 2, 3, 4, 5, 6, 7, 8, 9] (fun | 8 => .m | _ => .s) 8 (by (repeat apply Split.blk); apply Split.frz; (repeat apply Split.blk); apply Split.frz; (repeat apply Split.blk); apply Split.keep; (repeat apply Split.blk); apply Split.frz; (repeat apply Split.blk); apply Split.frz; repeat' (exact Split.nil)) mixed (by decide +kernel) ?_; intro G hFG hM thaw; show XD _ _ _ _ _ _ [0, 1, 2, 3, 4, 5, 6, 7, 8, 9] _ _ _) | refine X_seq ?_ | (refine X_regionN (by repeat' (first | exact .nil | apply NL.cons)) ?_) | refine X_skip ?_ | refine X_block ?_ | refine X_cond_t rfl ?_ | refine X_cond_f rfl ?_) | (refine Y_id ?_; first | refine Y_then ?_ | refine Y_block_normal ?_ | refine Y_m ?_))
                all_goals first
                  | exact Y_again (j + 1) fun _ _ hf hs => ⟨by show j + 1 ≤ 7; omega, by show 7 - (j + 1) < 7 - j; omega, hf.sub (by (repeat' (first | exact trivial | refine And.intro rfl ?_)); done), hs.imp fun g hg => stars_only [1, 1, 0, 0, 0] rfl g hg⟩
                  | (exfalso; omega)
                  | skip
                
              · repeat' (first | (refine XL_id ?_; first | refine XL_nil ?_ | (refine XL_op tt_ok rfl rfl ?_; try (first | refine XL_dec_t (by omega) ?_ | refine XL_dec_f (by omega) ?_))) | (refine X_id ?_; first | refine X_seq ?_ | (refine X_regionN (by repeat' (first | exact .nil | apply NL.cons)) ?_) | refine X_ret ?_ | refine X_exit ?_ | refine X_cond_f rfl ?_) | (refine Y_id ?_; first | refine Y_then ?_ | refine Y_then_exit ?_ | refine Y_block_hit ?_))
                all_goals first
                  | exact Y_fn1 rfl rfl rfl
                  | (exfalso; omega)
                  | skip
                
end Go.Proofs.Ytkcpjgdmfjhlkaa
