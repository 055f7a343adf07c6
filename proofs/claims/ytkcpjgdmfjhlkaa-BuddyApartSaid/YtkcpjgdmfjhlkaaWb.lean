/- Take. -/
import Derived.Test.YtkcpjgdmfjhlkaaWa
set_option linter.unusedVariables false
namespace Go.Proofs.Ytkcpjgdmfjhlkaa
open Go.RowKit Go.Cof

abbrev updI (tk : Int → Option Int) (k : Int) (v : Option Int) : Int → Option Int := fun j => if k = j then v else tk j
theorem BOk.cnt_le {op : List Bool} {fs : List (List Int)} (h : BOk op fs) : sumF fs 7 ≤ op.length := by
  rw [h.sum]
  exact cle op
where
  cle : ∀ op : List Bool, cntB op ≤ op.length
    | [] => Nat.le_refl _
    | b :: l => by
      have := cle l
      rw [cntB, List.length_cons]
      split <;> omega
theorem takeBad_spec (p n : Nat) (fs : List (List Int)) (tk : Int → Option Int) (o : Int) (ho : o < 0 ∨ 6 < o) : Ctr Try.prog 11 [ptr p, iV o] (fun _ => True) [isBd p n fs tk] (fun v L => v = .tuple #[iV 0, iV 2] ∧ L = [isBd p n fs tk]) := by
  refine Ctr.intro Try.func11 rfl rfl (by decide +kernel) fun F hpre => ?_
  refine X_openp 0 rfl (fun _ hh => hh) fun y hok => ?_
  repeat' (first | (refine XL_id ?_; first | refine XL_nil ?_ | refine XL_guard_yes rfl rfl rfl ?_ | refine XL_guard_no rfl rfl rfl rfl rfl ?_ | (refine XG_call ?_; refine XL_fn (none_spec p n y.ss y.mb) rfl rfl (fun g hg hL => blk_at 0 rfl hL) ?_) | (refine XL_op tt_ok rfl rfl ?_; try (first | refine XL_dec_t (by omega) ?_ | refine XL_dec (fun _ => ?_) (fun _ => ?_)))) | (refine X_id ?_; first | refine X_seq ?_ | (refine X_regionN (by repeat' (first | exact .nil | apply NL.cons)) ?_) | refine X_ret ?_ | refine X_block ?_ | refine X_cond_t rfl ?_ | refine X_cond_f rfl ?_) | (refine Y_id ?_; first | refine Y_then ?_ | refine Y_then_ret ?_ | refine Y_block_ret ?_))
  all_goals first
    | exact Y_ret2 rfl rfl rfl (stars_fin [0, 0, 0] rfl (isBd_mk hok)) ⟨rfl, rfl⟩
    | (exfalso; omega)
    | skip
  
theorem takeNo_spec (p n : Nat) (fs : List (List Int)) (tk : Int → Option Int) (o : Nat) (ho : o ≤ 6) (he : ∀ j : Nat, o ≤ j → j ≤ 6 → Cof.get fs (j : Int) = []) : Ctr Try.prog 11 [ptr p, iV o] (fun _ => True) [isBd p n fs tk] (fun v L => v = .tuple #[iV 0, iV 90] ∧ L = [isBd p n fs tk]) := by
  refine Ctr.intro Try.func11 rfl rfl (by decide +kernel) fun F hpre => ?_
  refine X_openp 0 rfl (fun _ hh => hh) fun y hok => ?_
  repeat' (first | (refine XL_id ?_; first | refine XL_nil ?_ | refine XL_guard_yes rfl rfl rfl ?_ | (refine XG_call ?_; refine XL_fn (none_spec p n y.ss y.mb) rfl rfl (fun g hg hL => blk_at 0 rfl hL) ?_) | (refine XL_op tt_ok rfl rfl ?_; try (refine XL_dec_f (by omega) ?_))) | (refine X_id ?_; first | refine X_block (id := 1) (hold ?_) | refine X_seq ?_ | (refine X_regionN (by repeat' (first | exact .nil | apply NL.cons)) ?_) | refine X_skip ?_ | refine X_block ?_ | refine X_cond_f rfl ?_) | (refine Y_id ?_; first | refine Y_then ?_ | refine Y_block_normal ?_))
  all_goals first
    | (exfalso; omega)
    | skip
  intro _
  refine X_loopD [0, 1] (fun (i : Nat) => [(6, .int .i64 i)]) (fun _ => bdM p n tk y) (fun i => o ≤ i ∧ i ≤ 7) (fun i => 7 - i) o rfl ⟨Nat.le_refl _, by omega⟩ (by (repeat' (first | exact trivial | refine And.intro rfl ?_)); done) (fun _ h => h) ?_
  intro i hi
  obtain ⟨hoi, hi⟩ := hi
  by_cases hlt : i ≤ 6
  · have hml := hok.mlen (k := i) (by omega)
    rw [he i hoi hlt, List.length_nil] at hml
    repeat' (first | (refine XL_id ?_; first | refine XL_nil ?_ | refine XL_guard_yes rfl rfl rfl ?_ | (refine XG_load ?_; refine XL_loadI tt_ok 0 rfl rfl rfl rfl rfl (bd_at (k := i) (bd_off rfl) (by omega)) rfl ?_) | (refine XG_idx ?_; refine XL_idxal tt_ok rfl rfl rfl rfl rfl (by omega) (by omega) rfl ?_) | (refine XL_op tt_ok rfl rfl ?_; try (first | refine XL_int (wrap_i64 (by omega) (by omega)) ?_ | refine XL_dec_t (by omega) ?_))) | (refine X_id ?_; first | refine X_seq ?_ | (refine X_regionN (by repeat' (first | exact .nil | apply NL.cons)) ?_) | refine X_skip ?_ | refine X_block ?_ | refine X_cond_t rfl ?_) | (refine Y_id ?_; first | refine Y_then ?_ | refine Y_block_normal ?_))
    all_goals first
      | exact Y_again (i + 1) fun _ _ hf hs => ⟨⟨by omega, by omega⟩, by show 7 - (i + 1) < 7 - i; omega, hf.sub (by (repeat' (first | exact trivial | refine And.intro rfl ?_)); done), hs⟩
      | (exfalso; omega)
      | skip
    
  · repeat' (first | (refine XL_id ?_; first | refine XL_nil ?_ | refine XL_guard_no rfl rfl rfl rfl rfl ?_ | (refine XL_op tt_ok rfl rfl ?_; try (first | refine XL_dec_t (by omega) ?_ | refine XL_dec_f (by omega) ?_))) | (refine X_id ?_; first | refine X_seq ?_ | (refine X_regionN (by repeat' (first | exact .nil | apply NL.cons)) ?_) | refine X_ret ?_ | refine X_exit ?_ | refine X_cond_t rfl ?_ | refine X_cond_f rfl ?_) | (refine Y_id ?_; first | refine Y_then ?_ | refine Y_then_ret ?_ | refine Y_then_exit ?_ | refine Y_block_hit ?_))
    all_goals first
      | exact Y_ret2 rfl rfl rfl (stars_fin [0, 0, 0] rfl (isBd_mk hok)) ⟨rfl, rfl⟩
      | (exfalso; omega)
      | skip
    
set_option maxHeartbeats 8000000 in
theorem takeOk_spec (p n : Nat) (op : List Bool) (fs : List (List Int)) (tk : Int → Option Int) (o k a : Nat) (hn : op.length ≤ 4096) (hb : BOk op fs) (hok6 : k ≤ 6) (hok1 : o ≤ k) (he : ∀ j : Nat, o ≤ j → j < k → Cof.get fs (j : Int) = []) (hne : Cof.get fs (k : Int) ≠ []) (ha : Cof.get (Cof.get fs (k : Int)) 0 = a) :
    Ctr Try.prog 11 [ptr p, iV o] (fun _ => True) [isBd p n fs tk] (fun v L => ∃ gs, BOk (setN op a (2 ^ o) false) gs ∧ v = .tuple #[iV a, iV 0] ∧ L = [isBd p n gs (updI tk a (some o))]) := by
  have hlk : 0 < (Cof.get fs (k : Int)).length := List.length_pos_iff.2 hne
  have hmx : Mx op a k := by
    obtain ⟨b, e, hb2⟩ := (hb.pl.mem k (by omega) _).1 (get_mem' (l := Cof.get fs (k : Int)) (i := 0) (by omega) (by omega))
    have : a = b := by omega
    rw [this]; exact hb2
  have hal := hmx.1.len
  have hpk := two_pos k
  refine Ctr.intro Try.func11 rfl rfl (by decide +kernel) fun F hpre => ?_
  refine X_openp 0 rfl (fun _ hh => hh) fun y hok => ?_
  repeat' (first | (refine XL_id ?_; first | refine XL_nil ?_ | refine XL_guard_yes rfl rfl rfl ?_ | (refine XG_call ?_; refine XL_fn (none_spec p n y.ss y.mb) rfl rfl (fun g hg hL => blk_at 0 rfl hL) ?_) | (refine XL_op tt_ok rfl rfl ?_; try (refine XL_dec_f (by omega) ?_))) | (refine X_id ?_; first | refine X_block (id := 1) (hold ?_) | refine X_seq ?_ | (refine X_regionN (by repeat' (first | exact .nil | apply NL.cons)) ?_) | refine X_skip ?_ | refine X_block ?_ | refine X_cond_f rfl ?_) | (refine Y_id ?_; first | refine Y_then ?_ | refine Y_block_normal ?_))
  all_goals first
    | (exfalso; omega)
    | skip
  intro _
  refine X_loopD [0, 1] (fun (i : Nat) => [(6, .int .i64 i)]) (fun _ => bdM p n tk y) (fun i => o ≤ i ∧ i ≤ k) (fun i => k - i) o rfl ⟨Nat.le_refl _, hok1⟩ (by (repeat' (first | exact trivial | refine And.intro rfl ?_)); done) (fun _ h => h) ?_
  intro i hi
  obtain ⟨hoi, hi⟩ := hi
  have hml := hok.mlen (k := i) (by omega)
  by_cases hlt : i < k
  · rw [he i hoi hlt, List.length_nil] at hml
    repeat' (first | (refine XL_id ?_; first | refine XL_nil ?_ | refine XL_guard_yes rfl rfl rfl ?_ | (refine XG_load ?_; refine XL_loadI tt_ok 0 rfl rfl rfl rfl rfl (bd_at (k := i) (bd_off rfl) (by omega)) rfl ?_) | (refine XG_idx ?_; refine XL_idxal tt_ok rfl rfl rfl rfl rfl (by omega) (by omega) rfl ?_) | (refine XL_op tt_ok rfl rfl ?_; try (first | refine XL_int (wrap_i64 (by omega) (by omega)) ?_ | refine XL_dec_t (by omega) ?_))) | (refine X_id ?_; first | refine X_seq ?_ | (refine X_regionN (by repeat' (first | exact .nil | apply NL.cons)) ?_) | refine X_skip ?_ | refine X_block ?_ | refine X_cond_t rfl ?_) | (refine Y_id ?_; first | refine Y_then ?_ | refine Y_block_normal ?_))
    all_goals first
      | exact Y_again (i + 1) fun _ _ hf hs => ⟨⟨by omega, by omega⟩, by show k - (i + 1) < k - i; omega, hf.sub (by (repeat' (first | exact trivial | refine And.intro rfl ?_)); done), hs⟩
      | (exfalso; omega)
      | skip
    
  · obtain rfl : i = k := by omega
    have hfit := hok.fit i (by omega)
    refine X_mem (fun _ hh => bd_out (p := p) (n := n) (tk := tk) hok (k := i) (by omega) (stars_swap hh)) ?_
    have hbm : (Cof.get fs (i : Int)).eraseIdx 0 = (Cof.get fs (i : Int)).eraseIdx (rkI a (Cof.get fs (i : Int))) := by
      have : rkI a (Cof.get fs (i : Int)) = 0 := rk_eq (Nat.zero_le _) (fun j hj => by omega) (fun _ => by have : Cof.get (Cof.get fs (i : Int)) ((0 : Nat) : Int) = a := ha; omega)
      rw [this]
    repeat' (first | (refine XL_id ?_; first | refine XL_int ha ?_ | refine XL_nil ?_ | refine XL_guard_yes rfl rfl rfl ?_ | (refine XG_load ?_; first | refine XL_loadI tt_ok 2 rfl rfl rfl rfl rfl (bd_at (k := i) (bd_off rfl) (by omega)) rfl ?_ | refine XL_elo tt_ok 0 rfl rfl rfl (by omega) (by omega) rfl rfl rfl rfl ?_) | (refine XG_idx ?_; first | refine XL_idxal tt_ok rfl rfl rfl rfl rfl (by omega) (by omega) rfl ?_ | refine XL_idxo tt_ok 0 rfl rfl rfl rfl rfl rfl (by omega) (by omega) rfl ?_) | (refine XG_call ?_; first | (refine XL_op tt_ok rfl rfl ?_) | refine XL_callE [0] (deleteA_spec _ _ _ (Cof.get fs (i : Int)) 0 (by omega) (by omega)) rfl rfl rfl (fun _ _ _ => trivial) ?_) | (refine XG_store ?_; refine XL_storeI tt_ok 3 rfl rfl rfl rfl rfl rfl rfl (bd_len (k := i) (bd_off rfl) (by omega)) ?_) | (refine XL_op tt_ok rfl rfl ?_; try (first | refine XL_dec_t (by omega) ?_ | refine XL_dec_f (by omega) ?_))) | (refine XD_id ?_; first | refine XD_nil ?_ | (refine XD_id ?_; (first | (refine XD_uL rfl ?_; refine XD_s rfl rfl rfl (XV_loadI tt_ok (blk_at 0 rfl hM) rfl rfl rfl rfl (bd_at (k := i) (bd_off rfl) (by omega))) rfl ?_) | (refine XD_uI rfl ?_; refine XD_s rfl rfl rfl (XV_idxal tt_ok rfl rfl rfl rfl rfl (by omega) (by omega)) rfl ?_) | (refine XD_u rfl rfl ?_; refine XD_s rfl rfl rfl (XV_op tt_ok rfl) rfl ?_))) | refine XD_m rfl rfl ?_ | (refine XD_thaw thaw ?_; refine XD_l rfl rfl ?_)) | (refine X_id ?_; first | refine X_block (id := 3) (hold ?_) | (refine X_drawS (id := 11) [0, 1, 2, 3, 4, 5, 6, 7, 9, 10, 8, 11, 12] (fun | 8 => .m | 12 => .l | _ => .s) 8 (by (repeat apply Split.blk); apply Split.keep; (repeat apply Split.blk); apply Split.keep; (repeat apply Split.blk); apply Split.keep; repeat' (exact Split.nil)) mixed (by decide +kernel) ?_; intro G hFG hM thaw; show XD _ _ _ _ _ _ [0, 1, 2, 3, 4, 5, 6, 7, 9, 10, 8, 11, 12] _ _ _) | refine X_seq ?_ | (refine X_regionN (by repeat' (first | exact .nil | apply NL.cons)) ?_) | refine X_skip ?_ | refine X_exit ?_ | refine X_cond_f rfl ?_) | (refine Y_id ?_; first | refine Y_then ?_ | refine Y_then_exit ?_ | refine Y_block_hit ?_ | refine Y_m ?_ | refine Y_l ?_))
    all_goals first
      | (exfalso; omega)
      | skip
    intro _
    have hdel := (hb.pl.del (a := a) (k := i) (by omega) hmx)
    have hsd := sum_del hb.pl.len (k := i) (by omega) (i := 0) hlk
    rw [← hbm] at hdel
    have hcl := hb.cnt_le
    refine X_loopD3 [0, 1, 7] (fun (q : Nat) (z : Sq) (gs : List (List Int)) => [(6, .int .i64 q)]) (fun _ z _ => [blk p (bdL n z.ss y.mb) 57, allI encN z.ss, isMp KI iVe y.mb tk])
      (fun q z gs => (z.mb = y.mb ∧ z.Ok gs) ∧ Pl gs (fun b j => (Mx op b j ∧ ¬ (b = a ∧ j = i)) ∨ (q ≤ j ∧ j < i ∧ b = a + 2 ^ j)) ∧ sumF gs 7 + 2 ^ q = sumF fs 7 ∧ o ≤ q ∧ q ≤ i) (fun q _ _ => q) i ⟨y.ss.set i ⟨(Cof.get y.ss (i : Int)).A, (Cof.get y.ss (i : Int)).m - 1, (Cof.get y.ss (i : Int)).c, (Cof.get fs (i : Int)).eraseIdx 0⟩, y.mb⟩ (fs.set i ((Cof.get fs (i : Int)).eraseIdx 0)) rfl
      ⟨⟨rfl, hok.set (by omega) (by show _ - 1 = _; rw [List.length_eraseIdx_of_lt hlk, hml]) (by show _ - 1 ≤ 4096; omega)⟩, hdel.iff fun b j hj => ⟨.inl, fun hh => hh.elim id fun g => by omega⟩, hsd, hoi, Nat.le_refl _⟩ (by (repeat' (first | exact trivial | refine And.intro rfl ?_)); done)
      (fun g hg => bd_back hok (k := i) (by omega) (q := ⟨(Cof.get y.ss (i : Int)).A, (Cof.get y.ss (i : Int)).m - 1, (Cof.get y.ss (i : Int)).c, (Cof.get fs (i : Int)).eraseIdx 0⟩) (bd_off (i := (i : Int)) rfl) (stars_only [0, 0, 1, 0] rfl g hg)) ?_
    intro q z gs hq
    obtain ⟨⟨hzm, hzok⟩, hpl, hsum, hoq, hqi⟩ := hq
    obtain ⟨zs, zm⟩ := z
    obtain rfl : zm = y.mb := hzm
    by_cases hgt : o < q
    · obtain ⟨r, rfl⟩ : ∃ r, q = r + 1 := ⟨q - 1, by omega⟩
      obtain ⟨P, hP⟩ : ∃ P, 2 ^ r = P := ⟨_, rfl⟩
      have hr0 := two_pos r
      have hrs := two_succ r
      have hle : 2 ^ (r + 1) ≤ 2 ^ i := Nat.pow_le_pow_right (by decide) hqi
      have hnS : ¬ ((Mx op (a + 2 ^ r) r ∧ ¬ (a + 2 ^ r = a ∧ r = i)) ∨ (r + 1 ≤ r ∧ r < i ∧ a + 2 ^ r = a + 2 ^ r)) := by
        rintro (⟨h1, h2⟩ | h1)
        · have := hmx.same h1 (by omega) hok6 (i := a + 2 ^ r) (Nat.le_refl _) (by omega) (by omega) (by omega)
          omega
        · omega
      have hins := hpl.ins (a := a + 2 ^ r) (k := r) (by omega) hnS
      have hsi := sum_ins hpl.len (k := r) (by omega) (v := ((a + 2 ^ r : Nat) : Int))
      have hml2 := hzok.mlen (k := r) (by omega)
      have hls := len_sum (fs := gs) (k := r) (by omega)
      have hav : ((a + 2 ^ r : Nat) : Int) = (a : Int) + (P : Int) := by rw [hP]; omega
      rw [hav] at hins hsi
      have hnew : Pl (gs.set r (insS ((a : Int) + (P : Int)) (Cof.get gs (r : Int)))) (fun b j => (Mx op b j ∧ ¬ (b = a ∧ j = i)) ∨ (r ≤ j ∧ j < i ∧ b = a + 2 ^ j)) := hins.iff fun b j hj => by
        constructor
        · rintro ((h1 | h1) | h1)
          · exact .inl h1
          · exact .inr (by omega)
          · exact .inr ⟨by omega, by omega, by rw [h1.1, h1.2]⟩
        · rintro (h1 | ⟨h1, h2, h3⟩)
          · exact .inl (.inl h1)
          · by_cases e : j = r
            · subst e; exact .inr ⟨h3, rfl⟩
            · exact .inl (.inr ⟨by omega, h2, h3⟩)
      have hput := put_spec p n ⟨zs, y.mb⟩ gs hzok ((a : Int) + (P : Int)) r (by omega) (by rw [hml2]; omega) (hpl.srt r (by omega))
      repeat' (first | (refine XL_id ?_; first | refine XL_nil ?_ | (refine XG_call ?_; (refine XL_callK [0, 0] hput rfl rfl (fun _ => rfl) (fun _ _ _ => trivial) (fun u L hv => ?_); obtain ⟨⟨ws, wm⟩, hwm, hwok, rfl, rfl⟩ := hv; obtain rfl : wm = y.mb := hwm)) | (refine XL_op tt_ok (opV_shl rfl rfl (by omega)) rfl ?_; refine XL_int (shl_o (by omega) hP) ?_) | (refine XL_op tt_ok rfl rfl ?_; refine XL_int (Eq.trans (wrap_i64 (by omega) (by omega)) (show ((r + 1 : Nat) : Int) - 1 = (r : Int) by omega)) ?_) | (refine XL_op tt_ok rfl rfl ?_; try (first | refine XL_int (wrap_i64 (by omega) (by omega)) ?_ | refine XL_dec_t (by omega) ?_))) | (refine X_id ?_; first | refine X_seq ?_ | (refine X_regionN (by repeat' (first | exact .nil | apply NL.cons)) ?_) | refine X_skip ?_ | refine X_block ?_ | refine X_cond_t rfl ?_) | (refine Y_id ?_; first | refine Y_then ?_ | refine Y_block_normal ?_))
      all_goals first
        | exact Y_again (r, ⟨ws, y.mb⟩, gs.set r (insS ((a : Int) + (P : Int)) (Cof.get gs (r : Int)))) fun _ _ hf hs => ⟨⟨⟨rfl, hwok⟩, hnew, by show sumF (gs.set r (insS ((a : Int) + (P : Int)) (Cof.get gs (r : Int)))) 7 + 2 ^ r = _; omega, by show o ≤ r; omega, by show r ≤ i; omega⟩, Nat.lt_succ_self r, hf.sub (by (repeat' (first | exact trivial | refine And.intro rfl ?_)); done), hs⟩
        | (exfalso; omega)
        | skip
      
    · obtain rfl : q = o := by omega
      have hbo : BOk (setN op a (2 ^ q) false) gs := by
        have hle : 2 ^ q ≤ 2 ^ i := Nat.pow_le_pow_right (by decide) hqi
        refine ⟨hpl.iff fun b j hj => ?_, ?_⟩
        · have := take_mx hqi hok6 hmx b j hj
          rw [setR_add] at this
          exact this.symm
        · have h1 := cnt_close (op := op) (x := a) (n := 2 ^ q) (by omega) fun i h1 h2 => hmx.1.2 i h1 (by omega)
          have h2 := hb.sum
          omega
      repeat' (first | (refine XL_id ?_; first | refine XL_nil ?_ | refine XL_mpPut tt_ok 2 (a : Int) (q : Int) rfl rfl rfl rfl rfl rfl (KI_ok (by omega) (by omega)) ?_ | (refine XG_load ?_; refine XL_load tt_ok 0 rfl rfl rfl rfl rfl rfl ?_) | (refine XL_op tt_ok rfl rfl ?_; try (refine XL_dec_f (by omega) ?_))) | (refine X_id ?_; first | refine X_seq ?_ | (refine X_regionN (by repeat' (first | exact .nil | apply NL.cons)) ?_) | refine X_ret ?_ | refine X_exit ?_ | refine X_cond_f rfl ?_) | (refine Y_id ?_; first | refine Y_then ?_ | refine Y_then_exit ?_ | refine Y_block_hit ?_))
      all_goals first
        | exact Y_ret2 rfl rfl rfl (stars_fin [0, 0, 0] rfl (isBd_mk (y := ⟨zs, y.mb⟩) hzok)) ⟨gs, hbo, rfl, rfl⟩
        | (exfalso; omega)
        | skip
      
end Go.Proofs.Ytkcpjgdmfjhlkaa
