/- Give. -/
import Derived.Test.YtkcpjgdmfjhlkaaWb
import Derived.Test.YtkcpjgdmfjhlkaaPc
set_option linter.unusedVariables false
namespace Go.Proofs.Ytkcpjgdmfjhlkaa
open Go.RowKit Go.Cof

theorem bd_rd {L : List HProp} {y : Sq} {fs : List (List Int)} (h : y.Ok fs) {k : Nat} (hk : k < 7) (i : Nat) (hi : L[i]? = some (allI encN y.ss)) {g : Hp} (hL : stars L g) : rdS encN g (Cof.get y.ss (k : Int)).A (Cof.get y.ss (k : Int)).m (Cof.get fs (k : Int)) := by
  obtain ⟨g1, hl, hb⟩ := at_mem i hi hL
  have := (allI_rd hb (i := k) (by rw [h.len]; exact hk)).le hl
  rw [h.get hk] at this
  exact this
theorem giveBad_spec (p n : Nat) (fs : List (List Int)) (tk : Int → Option Int) (a o : Int) (ho : o < 0 ∨ 6 < o ∨ a < 0) : Ctr Try.prog 13 [ptr p, iV a, iV o] (fun _ => True) [isBd p n fs tk] (fun v L => v = iV 2 ∧ L = [isBd p n fs tk]) := by
  refine Ctr.intro Try.func13 rfl rfl (by decide +kernel) fun F hpre => ?_
  refine X_openp 0 rfl (fun _ hh => hh) fun y hok => ?_
  repeat' (first | (refine XL_id ?_; first | refine XL_nil ?_ | refine XL_guard_yes rfl rfl rfl ?_ | refine XL_guard_no rfl rfl rfl rfl rfl ?_ | (refine XG_call ?_; refine XL_fn (none_spec p n y.ss y.mb) rfl rfl (fun g hg hL => blk_at 0 rfl hL) ?_) | (refine XL_op tt_ok rfl rfl ?_; try (first | refine XL_dec_t (by omega) ?_ | refine XL_dec (fun _ => ?_) (fun _ => ?_)))) | (refine X_id ?_; first | refine X_scope ?_ | refine X_seq ?_ | (refine X_regionN (by repeat' (first | exact .nil | apply NL.cons)) ?_) | refine X_ret ?_ | refine X_block ?_ | refine X_cond_t rfl ?_ | refine X_cond_f rfl ?_) | (refine Y_id ?_; first | refine Y_scope_ret ?_ | refine Y_then ?_ | refine Y_then_ret ?_ | refine Y_block_ret ?_))
  all_goals first
    | exact Y_ret1 rfl rfl (stars_fin [0, 0, 0] rfl (isBd_mk hok)) ⟨rfl, rfl⟩
    | (exfalso; omega)
    | skip
  
theorem giveNo_spec (p n : Nat) (fs : List (List Int)) (tk : Int → Option Int) (a o : Int) (ho : 0 ≤ o ∧ o ≤ 6) (ha : 0 ≤ a ∧ a ≤ 9223372036854775807) (ht : tk a ≠ some o) : Ctr Try.prog 13 [ptr p, iV a, iV o] (fun _ => True) [isBd p n fs tk] (fun v L => v = iV 91 ∧ L = [isBd p n fs tk]) := by
  refine Ctr.intro Try.func13 rfl rfl (by decide +kernel) fun F hpre => ?_
  refine X_openp 0 rfl (fun _ hh => hh) fun y hok => ?_
  cases htk : tk a with
  | none =>
    repeat' (first | (refine XL_id ?_; first | refine XL_nil ?_ | refine XL_guard_yes rfl rfl rfl ?_ | refine XL_guard_no rfl rfl rfl rfl rfl ?_ | (refine XL_mpLook tt_ok 2 a rfl rfl rfl rfl rfl rfl rfl (KI_ok (by omega) (by omega)) (show _ = Value.tuple #[iV 0, .bool false] by rw [htk]; rfl) rfl ?_) | (refine XG_load ?_; refine XL_load tt_ok 0 rfl rfl rfl rfl rfl rfl ?_) | (refine XG_call ?_; refine XL_fn (none_spec p n y.ss y.mb) rfl rfl (fun g hg hL => blk_at 0 rfl hL) ?_) | (refine XL_op tt_ok rfl rfl ?_; try (refine XL_dec_f (by omega) ?_))) | (refine X_id ?_; first | refine X_scope ?_ | refine X_seq ?_ | (refine X_regionN (by repeat' (first | exact .nil | apply NL.cons)) ?_) | refine X_skip ?_ | refine X_ret ?_ | refine X_block ?_ | refine X_cond_t rfl ?_ | refine X_cond_f rfl ?_) | (refine Y_id ?_; first | refine Y_scope_ret ?_ | refine Y_then ?_ | refine Y_then_ret ?_ | refine Y_block_normal ?_))
    all_goals first
      | exact Y_ret1 rfl rfl (stars_fin [0, 0, 0] rfl (isBd_mk hok)) ⟨rfl, rfl⟩
      | (exfalso; omega)
      | skip
    
  | some k =>
    have hk : k ≠ o := fun e => ht (by rw [htk, e])
    repeat' (first | (refine XL_id ?_; first | refine XL_nil ?_ | refine XL_guard_yes rfl rfl rfl ?_ | (refine XL_mpLook tt_ok 2 a rfl rfl rfl rfl rfl rfl rfl (KI_ok (by omega) (by omega)) (show _ = Value.tuple #[iV k, .bool true] by rw [htk]; rfl) rfl ?_) | (refine XG_load ?_; refine XL_load tt_ok 0 rfl rfl rfl rfl rfl rfl ?_) | (refine XG_call ?_; refine XL_fn (none_spec p n y.ss y.mb) rfl rfl (fun g hg hL => blk_at 0 rfl hL) ?_) | (refine XL_op tt_ok rfl rfl ?_; try (first | refine XL_dec_t (by omega) ?_ | refine XL_dec_f (by omega) ?_))) | (refine X_id ?_; first | refine X_scope ?_ | refine X_seq ?_ | (refine X_regionN (by repeat' (first | exact .nil | apply NL.cons)) ?_) | refine X_skip ?_ | refine X_ret ?_ | refine X_block ?_ | refine X_cond_t rfl ?_ | refine X_cond_f rfl ?_) | (refine Y_id ?_; first | refine Y_scope_ret ?_ | refine Y_then ?_ | refine Y_then_ret ?_ | refine Y_block_normal ?_))
    all_goals first
      | exact Y_ret1 rfl rfl (stars_fin [0, 0, 0] rfl (isBd_mk hok)) ⟨rfl, rfl⟩
      | (exfalso; omega)
      | skip
    
set_option maxHeartbeats 8000000 in
theorem giveOk_spec (p n : Nat) (op : List Bool) (fs : List (List Int)) (tk : Int → Option Int) (o a : Nat) (hn : op.length ≤ 4096) (hb : BOk op fs) (ho : o ≤ 6) (hd : 2 ^ o ∣ a) (hl : a + 2 ^ o ≤ op.length) (hc : ∀ i, a ≤ i → i < a + 2 ^ o → ¬ O op i) (ht : tk a = some (o : Int)) :
    Ctr Try.prog 13 [ptr p, iV a, iV o] (fun _ => True) [isBd p n fs tk] (fun v L => ∃ gs, BOk (setN op a (2 ^ o) true) gs ∧ v = iV 0 ∧ L = [isBd p n gs (updI tk a none)]) := by
  have hpo := two_pos o
  refine Ctr.intro Try.func13 rfl rfl (by decide +kernel) fun F hpre => ?_
  refine X_openp 0 rfl (fun _ hh => hh) fun y hok => ?_
  repeat' (first | (refine XL_id ?_; first | refine XL_nil ?_ | refine XL_guard_yes rfl rfl rfl ?_ | (refine XL_mpLook tt_ok 2 (a : Int) rfl rfl rfl rfl rfl rfl rfl (KI_ok (by omega) (by omega)) (show _ = Value.tuple #[iV o, .bool true] by rw [ht]; rfl) rfl ?_) | refine XL_mpDel tt_ok 2 (a : Int) rfl rfl rfl rfl rfl (KI_ok (by omega) (by omega)) ?_ | (refine XG_load ?_; refine XL_load tt_ok 0 rfl rfl rfl rfl rfl rfl ?_) | (refine XG_call ?_; refine XL_fn (none_spec p n y.ss y.mb) rfl rfl (fun g hg hL => blk_at 0 rfl hL) ?_) | (refine XL_op tt_ok rfl rfl ?_; try (refine XL_dec_f (by omega) ?_))) | (refine X_id ?_; first | refine X_block (id := 1) (hold ?_) | refine X_scope ?_ | refine X_label ?_ | refine X_seq ?_ | (refine X_regionN (by repeat' (first | exact .nil | apply NL.cons)) ?_) | refine X_skip ?_ | refine X_block ?_ | refine X_cond_f rfl ?_) | (refine Y_id ?_; first | refine Y_then ?_ | refine Y_block_normal ?_))
  all_goals first
    | (exfalso; omega)
    | skip
  intro _
  refine X_loopD4 [0] (fun (c m : Nat) (z : Sq) (gs : List (List Int)) => [(1, .int .i64 c), (2, .int .i64 m)]) (fun _ _ z _ => [blk p (bdL n z.ss y.mb) 57, allI encN z.ss, isMp KI iVe y.mb (updI tk a none)])
    (fun c m z gs => (z.mb = y.mb ∧ z.Ok gs) ∧ Mg op a o c m fs gs) (fun _ m _ _ => 6 - m) a o y fs rfl ⟨⟨rfl, hok⟩, Mg.start hb ho hd hl hc⟩ (by (repeat' (first | exact trivial | refine And.intro rfl ?_)); done) (fun h hs => hs) ?_
  intro c m z gs hi
  obtain ⟨⟨hzm, hzok⟩, hmg⟩ := hi
  obtain ⟨zs, zm⟩ := z
  obtain rfl : zm = y.mb := hzm
  have hm6 := hmg.m6
  have hcl := hmg.lo
  have hch := hmg.hi
  have hfl := hmg.fb.len
  rw [setN_len] at hfl
  have hfin := hmg.done hb hl hc
  have hcnt := hb.sum
  have hco := cnt_open hl hc
  have hsm := hmg.sum
  have hle : cntB (setN op a (2 ^ o) true) ≤ op.length := by have := BOk.cnt_le.cle (setN op a (2 ^ o) true); rw [setN_len] at this; exact this
  have hpm := two_pos m
  have hml := hzok.mlen (k := m) (by omega)
  have hls := len_sum (fs := gs) (k := m) (by omega)
  have hput := put_spec p n ⟨zs, y.mb⟩ gs hzok (c : Int) m (by omega) (by rw [hml]; omega) (hmg.pl.srt m (by omega))
  by_cases hlt : m < 6
  · obtain ⟨P, hP⟩ : ∃ P, 2 ^ m = P := ⟨_, rfl⟩
    have hP6 : P ≤ 64 := by rw [← hP]; exact Nat.pow_le_pow_right (n := 2) (by decide) hm6
    have hbt := bud_two hmg.fb.1
    obtain ⟨B, hB⟩ : ∃ B, bud c m = B := ⟨_, rfl⟩
    have hxor : bits .xor .i64 (c : Int) (P : Int) = (B : Int) := by
      have e := xor_bud hmg.fb.1
      rw [hP, hB] at e
      rw [xor_nat (by omega) (by omega) (by rw [e]; omega), e]
    have hmem := hmg.mem hlt hl
    have hstep := hmg.step hlt hl hc
    rw [hB] at hbt hmem hstep hfin
    rw [hP] at hbt
    by_cases hbm : Mx op B m
    · have hin := hmem.2 hbm
      have hst := hstep hbm
      have hmin : (if (B : Int) < (c : Int) then (B : Int) else (c : Int)) = (par c m : Int) := by split <;> omega
      have hbs := bsearch_spec (Cof.get zs (m : Int)).A (Cof.get zs (m : Int)).m (Cof.get zs (m : Int)).c (Cof.get gs (m : Int)) (B : Int) (by have h : (Cof.get zs (m : Int)).m = _ := hml; omega) (hmg.pl.srt m (by omega))
      rw [decide_eq_true hin] at hbs
      obtain ⟨hrk, _⟩ := (rk_mem (hmg.pl.srt m (by omega))).2 hin
      obtain ⟨r, hr⟩ : ∃ r, rkI (B : Int) (Cof.get gs (m : Int)) = r := ⟨_, rfl⟩
      rw [hr] at hbs hrk hst
      have hml' : (Cof.get zs (m : Int)).m = (Cof.get gs (m : Int)).length := hml
      have hde := deleteA_spec (Cof.get zs (m : Int)).A (Cof.get zs (m : Int)).m (Cof.get zs (m : Int)).c (Cof.get gs (m : Int)) r (by omega) (by omega)
      have hset := hzok.set (k := m) (by omega) (q := ⟨(Cof.get zs (m : Int)).A, (Cof.get zs (m : Int)).m - 1, (Cof.get zs (m : Int)).c, (Cof.get gs (m : Int)).eraseIdx r⟩) (by show _ - 1 = _; rw [List.length_eraseIdx_of_lt hrk, hml']) (by show _ - 1 ≤ 4096; omega)
      refine X_mem (fun _ hh => bd_out (p := p) (n := n) (tk := tk) hzok (k := m) (by omega) (stars_swap hh)) ?_
      repeat' (first | (refine XL_id ?_; first | refine XL_int hxor ?_ | refine XL_int hmin ?_ | refine XL_nil ?_ | (refine XG_load ?_; refine XL_loadI tt_ok 2 rfl rfl rfl rfl rfl (bd_at (k := m) (bd_off rfl) (by omega)) rfl ?_) | (refine XG_idx ?_; refine XL_idxal tt_ok rfl rfl rfl rfl rfl (by omega) (by omega) rfl ?_) | (refine XG_call ?_; first | (refine XL_op tt_ok rfl rfl ?_) | refine XL_fn hbs rfl rfl (fun g hg hL => rd_at 0 rfl hL) ?_ | refine XL_callE [0] hde rfl rfl rfl (fun _ _ _ => trivial) ?_) | (refine XG_store ?_; refine XL_storeI tt_ok 3 rfl rfl rfl rfl rfl rfl rfl (bd_len (k := m) (bd_off rfl) (by omega)) ?_) | (refine XL_op tt_ok (opV_shl rfl rfl (by omega)) rfl ?_; refine XL_int (shl_o hm6 hP) ?_) | (refine XL_op tt_ok rfl rfl ?_; try (first | refine XL_int (wrap_i64 (by omega) (by omega)) ?_ | refine XL_dec_t (by omega) ?_))) | (refine XD_id ?_; first | refine XD_nil ?_ | (refine XD_id ?_; (first | (refine XD_uL rfl ?_; refine XD_s rfl rfl rfl (XV_loadI tt_ok (blk_at 0 rfl hM) rfl rfl rfl rfl (bd_at (k := m) (bd_off rfl) (by omega))) rfl ?_) | (refine XD_uI rfl ?_; refine XD_s rfl rfl rfl (XV_idxal tt_ok rfl rfl rfl rfl rfl (by omega) (by omega)) rfl ?_) | (refine XD_u rfl rfl ?_; refine XD_s rfl rfl rfl (XV_op tt_ok rfl) rfl ?_)); try (refine XD_int (wrap_i64 (by omega) (by omega)) ?_)) | refine XD_m rfl rfl ?_ | (refine XD_thaw thaw ?_; refine XD_l rfl rfl ?_)) | (refine X_id ?_; first | (refine X_drawS (id := 13) [0, 1, 2, 3, 4, 5, 6, 7, 8, 9, 10, 12, 13, 11, 14, 15] (fun | 11 => .m | 15 => .l | _ => .s) 8 (by (repeat apply Split.blk); apply Split.keep; (repeat apply Split.blk); apply Split.keep; (repeat apply Split.blk); apply Split.keep; repeat' (exact Split.nil)) mixed (by decide +kernel) ?_; intro G hFG hM thaw; show XD _ _ _ _ _ _ [0, 1, 2, 3, 4, 5, 6, 7, 8, 9, 10, 12, 13, 11, 14, 15] _ _ _) | refine X_seq ?_ | (refine X_regionN (by repeat' (first | exact .nil | apply NL.cons)) ?_) | refine X_skip ?_ | refine X_block ?_ | refine X_cond_t rfl ?_ | refine X_cond_f rfl ?_) | (refine Y_id ?_; first | refine Y_then ?_ | refine Y_block_normal ?_ | refine Y_m ?_ | refine Y_l ?_))
      all_goals first
        | exact Y_again (par c m, m + 1, ⟨zs.set m ⟨(Cof.get zs (m : Int)).A, (Cof.get zs (m : Int)).m - 1, (Cof.get zs (m : Int)).c, (Cof.get gs (m : Int)).eraseIdx r⟩, y.mb⟩, gs.set m ((Cof.get gs (m : Int)).eraseIdx r)) fun _ _ hf hs => ⟨⟨⟨rfl, hset⟩, hst⟩, by show 6 - (m + 1) < 6 - m; omega, hf.sub (by (repeat' (first | exact trivial | refine And.intro rfl ?_)); done), hs.imp fun g hg => bd_back hzok (k := m) (by omega) (q := ⟨(Cof.get zs (m : Int)).A, (Cof.get zs (m : Int)).m - 1, (Cof.get zs (m : Int)).c, (Cof.get gs (m : Int)).eraseIdx r⟩) (bd_off (i := (m : Int)) rfl) (stars_only [0, 0, 1, 0] rfl g hg)⟩
        | (exfalso; omega)
        | skip
      
    · have hnin : (B : Int) ∉ Cof.get gs (m : Int) := fun h => hbm (hmem.1 h)
      have hbs := bsearch_spec (Cof.get zs (m : Int)).A (Cof.get zs (m : Int)).m (Cof.get zs (m : Int)).c (Cof.get gs (m : Int)) (B : Int) (by have h : (Cof.get zs (m : Int)).m = _ := hml; omega) (hmg.pl.srt m (by omega))
      rw [decide_eq_false hnin] at hbs
      repeat' (first | (refine XL_id ?_; first | refine XL_int hxor ?_ | refine XL_nil ?_ | (refine XG_load ?_; refine XL_loadI tt_ok 0 rfl rfl rfl rfl rfl (bd_at (k := m) (bd_off rfl) (by omega)) rfl ?_) | (refine XG_idx ?_; refine XL_idxal tt_ok rfl rfl rfl rfl rfl (by omega) (by omega) rfl ?_) | (refine XG_call ?_; first | refine XL_fn hbs rfl rfl (fun g hg hL => bd_rd hzok (k := m) (by omega) 1 rfl hL) ?_ | (refine XL_callK [0, 0] hput rfl rfl (fun _ => rfl) (fun _ _ _ => trivial) (fun u L hv => ?_); obtain ⟨⟨ws, wm⟩, hwm, hwok, rfl, rfl⟩ := hv; obtain rfl : wm = y.mb := hwm)) | (refine XL_op tt_ok (opV_shl rfl rfl (by omega)) rfl ?_; refine XL_int (shl_o hm6 hP) ?_) | (refine XL_op tt_ok rfl rfl ?_; try (refine XL_dec_t (by omega) ?_))) | (refine X_id ?_; first | refine X_seq ?_ | (refine X_regionN (by repeat' (first | exact .nil | apply NL.cons)) ?_) | refine X_skip ?_ | refine X_ret ?_ | refine X_exit ?_ | refine X_block ?_ | refine X_cond_t rfl ?_) | (refine Y_id ?_; first | refine Y_scope_ret ?_ | refine Y_then ?_ | refine Y_then_exit ?_ | refine Y_block_hit ?_ | refine Y_block_miss rfl ?_))
      all_goals first
        | exact Y_ret1 rfl rfl (stars_fin [0, 0, 0] rfl (isBd_mk (y := ⟨ws, y.mb⟩) hwok)) ⟨_, hfin (.inr hbm), rfl, rfl⟩
        | (exfalso; omega)
        | skip
      
  · repeat' (first | (refine XL_id ?_; first | refine XL_nil ?_ | (refine XG_call ?_; (refine XL_callK [0, 0] hput rfl rfl (fun _ => rfl) (fun _ _ _ => trivial) (fun u L hv => ?_); obtain ⟨⟨ws, wm⟩, hwm, hwok, rfl, rfl⟩ := hv; obtain rfl : wm = y.mb := hwm)) | (refine XL_op tt_ok rfl rfl ?_; try (refine XL_dec_f (by omega) ?_))) | (refine X_id ?_; first | refine X_seq ?_ | (refine X_regionN (by repeat' (first | exact .nil | apply NL.cons)) ?_) | refine X_ret ?_ | refine X_exit ?_ | refine X_cond_f rfl ?_) | (refine Y_id ?_; first | refine Y_scope_ret ?_ | refine Y_then ?_ | refine Y_then_exit ?_ | refine Y_block_hit ?_))
    all_goals first
      | exact Y_ret1 rfl rfl (stars_fin [0, 0, 0] rfl (isBd_mk (y := ⟨ws, y.mb⟩) hwok)) ⟨_, hfin (.inl (by omega)), rfl, rfl⟩
      | (exfalso; omega)
      | skip
    
end Go.Proofs.Ytkcpjgdmfjhlkaa
