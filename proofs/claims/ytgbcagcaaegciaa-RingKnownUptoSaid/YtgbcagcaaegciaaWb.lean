/- Walk of the program's ring, on: Next. -/
import Derived.Test.YtgbcagcaaegciaaWa
set_option linter.unusedVariables false
namespace Go.Proofs.Ytgbcagcaaegciaa
open Go.RowKit Go.Cof

abbrev fvV (f : FuncId) (fi ca : Array Value) : Value := .func (.func f) fi ca
/-- A function value 'used' with a state of its own. -/
structure Used {σ : Type} (f : FuncId) (fi ca : Array Value) (pre : Hp → Prop) (U : σ → HProp) (ans : σ → Int → Bool) (nx : σ → Int → σ) (I : σ → Nat → Prop) (ys : List Int) : Prop where
  up : ∀ h g, Hp.le h g → pre h → pre g
  more : ∀ s k, I s k → I s (k + 1)
  call : ∀ s k y, y ∈ ys → I s k → k ≤ 8193 → Ctr Try.prog f (fi.toList ++ [iV y] ++ ca.toList) pre [U s] (fun v L => v = .bool (ans s y) ∧ L = [U (nx s y)])
  next : ∀ s k y, y ∈ ys → I s k → I (nx s y) (k + 1)
abbrev nextV (x : Int × Nat × Int) : Value := .tuple #[iV x.1, iV (x.2.1 : Nat), iV x.2.2]
set_option maxHeartbeats 8000000 in
theorem next_spec {σ : Type} (p : Nat) (ys : List Int) (pin : Int) (f : FuncId) (fi ca : Array Value) (pre : Hp → Prop) (U : σ → HProp) (ans : σ → Int → Bool) (nx : σ → Int → σ) (I : σ → Nat → Prop) (hu : Used f fi ca pre U ans nx I ys) (s0 : σ) (hI0 : I s0 0) :
    Ctr Try.prog 18 [ptr p, iV pin, fvV f fi ca] pre [isRing p ys, U s0] (fun v L => v = nextV (nextF ans nx pin ys s0).1 ∧ L = [isRing p (nextF ans nx pin ys s0).2.1, U (nextF ans nx pin ys s0).2.2]) := by
  refine Ctr.intro Try.func18 rfl rfl (by decide +kernel) fun F hpre => ?_
  refine X_openp 0 rfl (fun _ h => h) fun x hok => ?_
  obtain ⟨⟨A, c⟩, xs, h⟩ := x
  obtain ⟨hok, hy⟩ := hok
  dsimp only at hok hy ⊢
  have hth := there_spec p A xs.length c h
  have hlen := hok.len
  obtain ⟨R, hR⟩ : ∃ R, R = nextF ans nx pin ys s0 := ⟨_, rfl⟩
  rw [← hR]
  have hyl : ys.length = xs.length := by rw [hy, rotL_len]
  by_cases hm0 : xs.length = 0
  · have hyn : ys = [] := List.eq_nil_of_length_eq_zero (by omega)
    rw [hyn, nextF_nil] at hR
    subst hR
    rw [hyn] at hy
    repeat' (first | (refine XL_id ?_; first | refine XL_nil ?_ | (refine XG_load ?_; refine XL_load tt_ok 0 rfl rfl rfl rfl rfl rfl ?_) | (refine XG_call ?_; first | (refine XL_op tt_ok rfl rfl ?_) | refine XL_fn hth rfl rfl (fun g hg hL => blk_at 0 rfl hL) ?_) | (refine XL_op tt_ok rfl rfl ?_; try (refine XL_dec_t (by omega) ?_))) | (refine X_id ?_; first | refine X_seq ?_ | (refine X_regionN (by repeat' (first | exact .nil | apply NL.cons)) ?_) | refine X_ret ?_ | refine X_block ?_ | refine X_cond_t rfl ?_ | refine X_cond_f rfl ?_) | (refine Y_id ?_; first | refine Y_then ?_ | refine Y_then_ret ?_ | refine Y_block_ret ?_))
    all_goals first
      | exact Y_res3 rfl (.tmp rfl) (.tmp rfl) (.tmp rfl) (fun _ hs => stars_shut (isRing_mk rfl hok rfl hy.symm) (stars_take [0, 0] rfl hs)) ⟨rfl, rfl⟩
      | (exfalso; omega)
      | skip
    
  · have hyn : ys ≠ [] := fun e => hm0 (by rw [← hyl, e]; rfl)
    rw [nextF_some _ _ _ hyn, hyl] at hR
    have hh0 : h < xs.length := hok.hand.elim (fun e => e) fun hh => absurd (by rw [hh.1]; rfl) hm0
    repeat' (first | (refine XL_id ?_; first | refine XL_nil ?_ | (refine XG_load ?_; refine XL_load tt_ok 0 rfl rfl rfl rfl rfl rfl ?_) | (refine XG_call ?_; first | (refine XL_op tt_ok rfl rfl ?_) | refine XL_fn hth rfl rfl (fun g hg hL => blk_at 0 rfl hL) ?_) | (refine XL_op tt_ok rfl rfl ?_; try (refine XL_dec_f (by omega) ?_))) | (refine X_id ?_; first | refine X_seq ?_ | (refine X_regionN (by repeat' (first | exact .nil | apply NL.cons)) ?_) | refine X_skip ?_ | refine X_block ?_ | refine X_cond_f rfl ?_) | (refine Y_id ?_; first | refine Y_then ?_ | refine Y_block_normal ?_))
    refine X_loopD4 [0, 1, 2] (fun (k h : Nat) (j : Int) (s : σ) => [(6, .int .i64 j), (7, .int .i64 k)]) (fun k h j s => [ringB p A xs.length c h, own encN A xs.length c xs, U s]) (fun k h j s => k ≤ 2 * xs.length + 1 ∧ h < xs.length ∧ I s k ∧ R = nextGo ans nx pin (2 * xs.length + 1 - k) k (rotL xs h) s) (fun k _ _ _ => 2 * xs.length + 1 - k) 0 h 0 s0 rfl ⟨Nat.zero_le _, hh0, hI0, by rw [hR, hy]; rfl⟩ (by (repeat' (first | exact trivial | refine And.intro rfl ?_)); done) (fun h hs => stars_only [0, 0, 0] rfl h hs) ?_
    clear hh0
    intro k h j s hi
    obtain ⟨hk, hh, hI, hRk⟩ := hi
    have hok : ROk xs h := ⟨hok.nodup, hok.len, .inl hh⟩
    by_cases hlt : k ≤ 2 * xs.length
    · obtain ⟨t, ht1, ht2⟩ := rotL_step hh
      have hmem : Cof.get xs h ∈ ys := by rw [hy, rotL_mem, get_getElem hh]; exact List.getElem_mem hh
      have hn : 2 * xs.length + 1 - k = (2 * xs.length + 1 - (k + 1)) + 1 := by omega
      have hcall := hu.call s k _ hmem hI (by omega)
      have hh2 : (h + 1) % xs.length < xs.length := Nat.mod_lt _ (by omega)
      have hok2 : ROk xs ((h + 1) % xs.length) := ⟨hok.nodup, hok.len, .inl hh2⟩
      rw [hn, ht1] at hRk
      obtain ⟨h2, hcast, hh2, ht2, hok2⟩ : ∃ h2 : Nat, ((h : Int) + 1) % (xs.length : Int) = (h2 : Int) ∧ h2 < xs.length ∧ rotL xs h2 = t ++ [Cof.get xs h] ∧ ROk xs h2 := ⟨_, rfl, hh2, ht2, hok2⟩
      by_cases hp : Cof.get xs h = pin
      · have hRn : R = nextGo ans nx pin (2 * xs.length + 1 - (k + 1)) (k + 1) (rotL xs h2) s := by rw [hRk, ht2, hp, nextGo_pin]
        have hIm := hu.more _ _ hI
        repeat' (first | (refine XL_id ?_; first | refine XL_nil ?_ | refine XL_guard_no rfl rfl rfl rfl rfl ?_ | (refine XG_load ?_; refine XL_load tt_ok 0 rfl rfl rfl rfl rfl rfl ?_) | (refine XG_store ?_; (refine XL_store tt_ok 2 rfl rfl rfl rfl rfl rfl rfl rfl ?_; refine XL_nK 2 rfl (by repeat' (first | exact .nil | apply NL.cons)) ?_)) | (refine XL_op tt_ok rfl rfl ?_; try (first | refine XL_int (wrap_i64 (by omega) (by omega)) ?_ | refine XL_dec_t (by omega) ?_ | refine XL_dec_f (by omega) ?_))) | (refine XD_id ?_; first | refine XD_int hcast ?_ | (refine XD_thaw thaw ?_; refine XD_nil ?_) | refine XD_nil ?_ | (refine XD_id ?_; (first | (refine XD_uL rfl ?_; first | refine XD_s rfl rfl rfl (XV_load tt_ok rfl (blk_at 0 rfl hM) rfl rfl rfl) rfl ?_ | refine XD_s rfl rfl rfl (XV_el tt_ok rfl (rd_at 1 rfl hM) rfl (by omega) (by omega) rfl rfl rfl) rfl ?_) | (refine XD_uI rfl ?_; refine XD_s rfl rfl rfl (XV_idx tt_ok rfl rfl rfl rfl rfl (rd_at 1 rfl hM) (by omega) (by omega)) rfl ?_) | (refine XD_u rfl rfl ?_; first | refine XD_s rfl rfl rfl (XV_op tt_ok rfl) rfl ?_ | refine XD_s rfl rfl rfl (XV_op tt_ok (opV_rem rfl rfl (by omega))) rfl ?_)); try (first | refine XD_int (wrap_i64 (by omega) (by omega)) ?_ | refine XD_int (rem_pos (by omega)) ?_)) | (refine XD_thaw thaw ?_; refine XD_l rfl rfl ?_)) | (refine X_id ?_; first | (refine X_drawS (id := 8) [0, 1, 2, 3, 4, 5, 6, 7, 8, 9, 10] (fun _ => .s) 8 (by (repeat apply Split.blk); apply Split.frz; (repeat apply Split.blk); apply Split.keep; repeat' (exact Split.nil)) mixed (by decide +kernel) ?_; intro G hFG hM thaw; show XD _ _ _ _ _ _ [0, 1, 2, 3, 4, 5, 6, 7, 8, 9, 10] _ _ _) | (refine X_drawS (id := 9) [0, 1, 2, 3, 4, 5, 6, 7, 8, 9, 10, 11, 12, 13, 14] (fun | 14 => .l | _ => .s) 8 (by repeat' (first | exact Split.nil | apply Split.blk | apply Split.keep)) mixed (by decide +kernel) ?_; intro G hFG hM thaw; show XD _ _ _ _ _ _ [0, 1, 2, 3, 4, 5, 6, 7, 8, 9, 10, 11, 12, 13, 14] _ _ _) | refine X_seq ?_ | (refine X_regionN (by repeat' (first | exact .nil | apply NL.cons)) ?_) | refine X_skip ?_ | refine X_block ?_ | refine X_cond_t rfl ?_ | refine X_cond_f rfl ?_) | (refine Y_id ?_; first | refine Y_then ?_ | refine Y_block_normal ?_ | refine Y_l ?_))
        all_goals first
          | exact Y_again (k + 1, h2, _, s) fun _ _ hf hs => ⟨⟨by show k + 1 ≤ _; omega, hh2, hIm, hRn⟩, by show 2 * xs.length + 1 - (k + 1) < 2 * xs.length + 1 - k; omega, hf.sub (by (repeat' (first | exact trivial | refine And.intro rfl ?_)); done), hs.imp fun h hs => stars_only [2, 0, 0] rfl h hs⟩
          | exact Y_again (k + 1, h2, _, s) fun _ _ hf hs => ⟨⟨by show k + 1 ≤ _; omega, hh2, hIm, hRn⟩, by show 2 * xs.length + 1 - (k + 1) < 2 * xs.length + 1 - k; omega, hf.sub (by (repeat' (first | exact trivial | refine And.intro rfl ?_)); done), hs.imp fun h hs => stars_only [2, 1, 0] rfl h hs⟩
          | (exfalso; omega)
          | skip
        
      · have hIn := hu.next _ _ _ hmem hI
        cases ha : ans s (Cof.get xs h) with
        | true =>
          have hRn : R = nextGo ans nx pin (2 * xs.length + 1 - (k + 1)) (k + 1) (rotL xs h2) (nx s (Cof.get xs h)) := by rw [hRk, ht2, nextGo_used _ _ _ hp ha]
          rw [ha] at hcall
          repeat' (first | (refine XL_id ?_; first | refine XL_nil ?_ | refine XL_guard_yes rfl rfl rfl ?_ | (refine XG_load ?_; refine XL_load tt_ok 0 rfl rfl rfl rfl rfl rfl ?_) | (refine XG_call ?_; first | (refine XL_op tt_ok rfl rfl ?_) | (refine XL_callV [0] hcall rfl rfl rfl rfl (fun _ => rfl) (fun g hg _ => hu.up _ _ hg hpre) (fun v L hv => ?_); obtain ⟨rfl, rfl⟩ := hv)) | (refine XG_store ?_; (refine XL_store tt_ok 2 rfl rfl rfl rfl rfl rfl rfl rfl ?_; refine XL_nK 2 rfl (by repeat' (first | exact .nil | apply NL.cons)) ?_)) | (refine XL_op tt_ok rfl rfl ?_; try (first | refine XL_int (wrap_i64 (by omega) (by omega)) ?_ | refine XL_dec_t (by omega) ?_))) | (refine XD_id ?_; first | refine XD_int hcast ?_ | (refine XD_thaw thaw ?_; refine XD_nil ?_) | refine XD_nil ?_ | (refine XD_id ?_; (first | (refine XD_uL rfl ?_; first | refine XD_s rfl rfl rfl (XV_load tt_ok rfl (blk_at 0 rfl hM) rfl rfl rfl) rfl ?_ | refine XD_s rfl rfl rfl (XV_el tt_ok rfl (rd_at 1 rfl hM) rfl (by omega) (by omega) rfl rfl rfl) rfl ?_) | (refine XD_uI rfl ?_; refine XD_s rfl rfl rfl (XV_idx tt_ok rfl rfl rfl rfl rfl (rd_at 1 rfl hM) (by omega) (by omega)) rfl ?_) | (refine XD_u rfl rfl ?_; first | refine XD_s rfl rfl rfl (XV_op tt_ok rfl) rfl ?_ | refine XD_s rfl rfl rfl (XV_op tt_ok (opV_rem rfl rfl (by omega))) rfl ?_)); try (first | refine XD_int (wrap_i64 (by omega) (by omega)) ?_ | refine XD_int (rem_pos (by omega)) ?_)) | (refine XD_thaw thaw ?_; refine XD_l rfl rfl ?_)) | (refine X_id ?_; first | (refine X_drawS (id := 8) [0, 1, 2, 3, 4, 5, 6, 7, 8, 9, 10] (fun _ => .s) 8 (by (repeat apply Split.blk); apply Split.frz; (repeat apply Split.blk); apply Split.keep; repeat' (exact Split.nil)) mixed (by decide +kernel) ?_; intro G hFG hM thaw; show XD _ _ _ _ _ _ [0, 1, 2, 3, 4, 5, 6, 7, 8, 9, 10] _ _ _) | (refine X_drawS (id := 9) [0, 1, 2, 3, 4, 5, 6, 7, 8, 9, 10, 11, 12, 13, 14] (fun | 14 => .l | _ => .s) 8 (by repeat' (first | exact Split.nil | apply Split.blk | apply Split.keep)) mixed (by decide +kernel) ?_; intro G hFG hM thaw; show XD _ _ _ _ _ _ [0, 1, 2, 3, 4, 5, 6, 7, 8, 9, 10, 11, 12, 13, 14] _ _ _) | refine X_seq ?_ | (refine X_regionN (by repeat' (first | exact .nil | apply NL.cons)) ?_) | refine X_skip ?_ | refine X_block ?_ | refine X_cond_t rfl ?_ | refine X_cond_f rfl ?_) | (refine Y_id ?_; first | refine Y_then ?_ | refine Y_block_normal ?_ | refine Y_l ?_))
          all_goals first
            | exact Y_again (k + 1, h2, _, nx s (Cof.get xs h)) fun _ _ hf hs => ⟨⟨by show k + 1 ≤ _; omega, hh2, hIn, hRn⟩, by show 2 * xs.length + 1 - (k + 1) < 2 * xs.length + 1 - k; omega, hf.sub (by (repeat' (first | exact trivial | refine And.intro rfl ?_)); done), hs.imp fun h hs => stars_only [2, 1, 0] rfl h hs⟩
            | exact Y_again (k + 1, h2, _, nx s (Cof.get xs h)) fun _ _ hf hs => ⟨⟨by show k + 1 ≤ _; omega, hh2, hIn, hRn⟩, by show 2 * xs.length + 1 - (k + 1) < 2 * xs.length + 1 - k; omega, hf.sub (by (repeat' (fail)); done), hs.imp fun h hs => stars_only [1, 1, 0] rfl h hs⟩
            | (exfalso; omega)
            | skip
          
        | false =>
          rw [nextGo_found _ _ _ hp ha] at hRk
          subst hRk
          rw [ha] at hcall
          repeat' (first | (refine XL_id ?_; first | refine XL_nil ?_ | refine XL_guard_yes rfl rfl rfl ?_ | (refine XG_load ?_; refine XL_load tt_ok 0 rfl rfl rfl rfl rfl rfl ?_) | (refine XG_call ?_; first | (refine XL_op tt_ok rfl rfl ?_) | (refine XL_callV [0] hcall rfl rfl rfl rfl (fun _ => rfl) (fun g hg _ => hu.up _ _ hg hpre) (fun v L hv => ?_); obtain ⟨rfl, rfl⟩ := hv)) | (refine XG_store ?_; (refine XL_store tt_ok 2 rfl rfl rfl rfl rfl rfl rfl rfl ?_; refine XL_nK 2 rfl (by repeat' (first | exact .nil | apply NL.cons)) ?_)) | (refine XL_op tt_ok rfl rfl ?_; try (first | refine XL_int (wrap_i64 (by omega) (by omega)) ?_ | refine XL_dec_t (by omega) ?_))) | (refine XD_id ?_; first | refine XD_int hcast ?_ | (refine XD_thaw thaw ?_; refine XD_nil ?_) | refine XD_nil ?_ | (refine XD_id ?_; (first | (refine XD_uL rfl ?_; first | refine XD_s rfl rfl rfl (XV_load tt_ok rfl (blk_at 0 rfl hM) rfl rfl rfl) rfl ?_ | refine XD_s rfl rfl rfl (XV_el tt_ok rfl (rd_at 1 rfl hM) rfl (by omega) (by omega) rfl rfl rfl) rfl ?_) | (refine XD_uI rfl ?_; refine XD_s rfl rfl rfl (XV_idx tt_ok rfl rfl rfl rfl rfl (rd_at 1 rfl hM) (by omega) (by omega)) rfl ?_) | (refine XD_u rfl rfl ?_; first | refine XD_s rfl rfl rfl (XV_op tt_ok rfl) rfl ?_ | refine XD_s rfl rfl rfl (XV_op tt_ok (opV_rem rfl rfl (by omega))) rfl ?_)); try (first | refine XD_int (wrap_i64 (by omega) (by omega)) ?_ | refine XD_int (rem_pos (by omega)) ?_)) | (refine XD_thaw thaw ?_; refine XD_l rfl rfl ?_)) | (refine X_id ?_; first | (refine X_drawS (id := 8) [0, 1, 2, 3, 4, 5, 6, 7, 8, 9, 10] (fun _ => .s) 8 (by (repeat apply Split.blk); apply Split.frz; (repeat apply Split.blk); apply Split.keep; repeat' (exact Split.nil)) mixed (by decide +kernel) ?_; intro G hFG hM thaw; show XD _ _ _ _ _ _ [0, 1, 2, 3, 4, 5, 6, 7, 8, 9, 10] _ _ _) | (refine X_drawS (id := 9) [0, 1, 2, 3, 4, 5, 6, 7, 8, 9, 10, 11, 12, 13, 14] (fun | 14 => .l | _ => .s) 8 (by repeat' (first | exact Split.nil | apply Split.blk | apply Split.keep)) mixed (by decide +kernel) ?_; intro G hFG hM thaw; show XD _ _ _ _ _ _ [0, 1, 2, 3, 4, 5, 6, 7, 8, 9, 10, 11, 12, 13, 14] _ _ _) | refine X_seq ?_ | (refine X_regionN (by repeat' (first | exact .nil | apply NL.cons)) ?_) | refine X_skip ?_ | refine X_ret ?_ | refine X_block ?_ | refine X_cond_t rfl ?_) | (refine Y_id ?_; first | refine Y_then ?_ | refine Y_then_ret ?_ | refine Y_block_ret ?_ | refine Y_l ?_))
          all_goals first
            | exact Y_res3 rfl (.tmp rfl) (.tmp rfl) (.tmp rfl) (fun _ hs => stars_shut (isRing_mk rfl hok2 rfl ht2) (stars_take [2, 1] rfl hs)) ⟨rfl, rfl⟩
            | exact Y_res3 rfl (.tmp rfl) (.tmp rfl) (.tmp rfl) (fun _ hs => stars_shut (isRing_mk rfl hok2 rfl ht2) (stars_take [1, 1] rfl hs)) ⟨rfl, rfl⟩
            | (exfalso; omega)
            | skip
          
    · obtain rfl : k = 2 * xs.length + 1 := by omega
      rw [Nat.sub_self] at hRk
      subst hRk
      repeat' (first | (refine XL_id ?_; first | refine XL_nil ?_ | (refine XG_load ?_; refine XL_load tt_ok 0 rfl rfl rfl rfl rfl rfl ?_) | (refine XL_op tt_ok rfl rfl ?_; try (first | refine XL_int (wrap_i64 (by omega) (by omega)) ?_ | refine XL_dec_f (by omega) ?_))) | (refine X_id ?_; first | refine X_seq ?_ | (refine X_regionN (by repeat' (first | exact .nil | apply NL.cons)) ?_) | refine X_ret ?_ | refine X_exit ?_ | refine X_cond_f rfl ?_) | (refine Y_id ?_; first | refine Y_then ?_ | refine Y_then_exit ?_ | refine Y_block_hit ?_))
      all_goals first
        | exact Y_res3 rfl (.tmp rfl) (.tmp rfl) (.tmp rfl) (fun _ hs => stars_shut (isRing_mk rfl hok rfl rfl) (stars_take [0, 0] rfl hs)) ⟨rfl, rfl⟩
        | (exfalso; omega)
        | skip
      
end Go.Proofs.Ytgbcagcaaegciaa
