/- New. -/
import Derived.Test.YtkcpjgdmfjhlkaaDefs
set_option linter.unusedVariables false
namespace Go.Proofs.Ytkcpjgdmfjhlkaa
open Go.RowKit Go.Cof

theorem shl_o {o P : Nat} (h : o ≤ 6) (hP : 2 ^ o = P) : IntKind.i64.wrap (1 * 2 ^ min ((o : Nat) : Int).toNat IntKind.i64.bits) = (P : Int) := by
  subst hP
  match o, h with
  | 0, _ => decide
  | 1, _ => decide
  | 2, _ => decide
  | 3, _ => decide
  | 4, _ => decide
  | 5, _ => decide
  | 6, _ => decide
abbrev allO (n : Nat) : List Bool := List.replicate n true
theorem allO_at {n i : Nat} (h : i < n) : O (allO n) i := by
  unfold O
  rw [List.getD_eq_getElem?_getD, List.getElem?_replicate_of_lt h]; rfl
theorem allO_mx {n a o : Nat} (ho : o ≤ 6) (hd : 2 ^ o ∣ a) (hn : a + 2 ^ o ≤ n) (hs : o < 6 → n < a + 2 ^ (o + 1) ∧ 2 ^ (o + 1) ∣ a) : Mx (allO n) a o := by
  refine ⟨⟨hd, fun i h1 h2 => allO_at (by omega)⟩, ?_⟩
  by_cases e : o = 6
  · exact .inl e
  · obtain ⟨h1, h2⟩ := hs (by omega)
    right
    intro hp
    have hl := hp.len
    have : par a o = a := Nat.div_mul_cancel h2
    rw [this, List.length_replicate] at hl
    omega
theorem cnt_all : ∀ n : Nat, cntB (allO n) = n
  | 0 => rfl
  | n + 1 => by rw [allO, List.replicate_succ, cntB, ← allO, cnt_all n]; simp; omega
abbrev q0 : In Int := ⟨none, 0, 0, []⟩
theorem all0 : ∀ (n : Nat) (h : Hp), allI encN (List.replicate n q0) h
  | 0, _ => trivial
  | n + 1, h => stars_new (own_nil encN _) (all0 n h)
theorem ok0 {mb : Nat} : (Sq.mk (List.replicate 7 q0) mb).Ok (List.replicate 7 []) := ⟨rfl, rfl, fun j hj => by
  show (Cof.get (List.replicate 7 q0) (j : Int)).m = (Cof.get (List.replicate 7 q0) (j : Int)).xs.length
  rw [get_getElem (by rw [List.length_replicate]; exact hj), List.getElem_replicate]; rfl, fun j hj => by
  show (Cof.get (List.replicate 7 q0) (j : Int)).m ≤ 4096
  rw [get_getElem (by rw [List.length_replicate]; exact hj), List.getElem_replicate]
  exact Nat.zero_le _⟩
set_option maxHeartbeats 8000000 in
theorem new_spec (n : Nat) (hn : n ≤ 4096) : Ctr Try.prog 7 [iV n] (fun _ => True) [] (fun v L => ∃ p fs, BOk (allO n) fs ∧ v = .tuple #[ptr p, iV 0] ∧ L = [isBd p n fs (fun _ => none)]) := by
  refine Ctr.intro Try.func7 rfl rfl (by decide +kernel) fun F hpre => ?_
  repeat' (first | (refine XL_id ?_; first | refine XL_nil ?_ | refine XL_guard_yes rfl rfl rfl ?_ | refine XL_mkMap KI iVe (fun _ => rfl) (fun mb => ?_) | (refine XG_box ?_; (refine XL_box rfl (fun _ => rfl) (fun p => ?_); refine XL_nB (by repeat' (first | exact .nil | apply NL.cons)) ?_)) | (refine XG_build ?_; (refine XL_build tt_ok rfl rfl rfl rfl rfl rfl rfl ?_; refine XL_aggN (by repeat' (first | exact .nil | apply NL.cons)) ?_)) | (refine XL_op tt_ok rfl rfl ?_; try (refine XL_dec_f (by omega) ?_))) | (refine X_id ?_; first | refine X_block (id := 0) (hold ?_) | refine X_seq ?_ | (refine X_regionN (by repeat' (first | exact .nil | apply NL.cons)) ?_) | refine X_skip ?_ | refine X_cond_f rfl ?_) | (refine Y_id ?_; refine Y_then ?_))
  intro _
  refine X_loopD4 [0, 4] (fun (at_ o : Nat) (y : Sq) (fs : List (List Int)) => [(5, .int .i64 at_), (6, .int .i64 o)]) (fun at_ o y fs => [blk p (bdL n y.ss mb) 57, allI encN y.ss, isMp KI iVe mb (fun _ => none)])
    (fun at_ o y fs => (y.mb = mb ∧ y.Ok fs) ∧ Pl fs (fun a j => Mx (allO n) a j ∧ a < at_) ∧ sumF fs 7 = at_ ∧ at_ ≤ n ∧ o ≤ 6 ∧ 2 ^ o ∣ at_ ∧ (o < 6 → n < at_ + 2 ^ o)) (fun at_ _ _ _ => n - at_) 0 6 ⟨List.replicate 7 q0, mb⟩ (List.replicate 7 []) rfl ⟨⟨rfl, ok0⟩, pl_nil, by decide, Nat.zero_le _, Nat.le_refl _, Nat.dvd_zero _, fun h => absurd h (Nat.lt_irrefl _)⟩ (by (repeat' (first | exact trivial | refine And.intro rfl ?_)); done) (fun h hs => stars_swap (stars_new (all0 7 _) hs)) ?_
  intro at_ o y fs hi
  obtain ⟨⟨rfl, hok⟩, hpl, hsum, hat, ho6, hdv, hlo⟩ := hi
  by_cases hlt : at_ < n
  · repeat' (first | (refine XL_id ?_; first | refine XL_nil ?_ | (refine XL_op tt_ok rfl rfl ?_; try (refine XL_dec_t (by omega) ?_))) | (refine X_id ?_; first | refine X_block (id := 2) (hold ?_) | refine X_seq ?_ | (refine X_regionN (by repeat' (first | exact .nil | apply NL.cons)) ?_) | refine X_skip ?_ | refine X_block ?_ | refine X_cond_t rfl ?_) | (refine Y_id ?_; refine Y_then ?_))
    intro _
    refine X_loopD [0, 4, 5] (fun (q : Nat) => [(6, .int .i64 q)]) (fun _ => [blk p (bdL n y.ss y.mb) 57, allI encN y.ss, isMp KI iVe y.mb (fun _ => none)]) (fun q => q ≤ 6 ∧ 2 ^ q ∣ at_ ∧ (q < 6 → n < at_ + 2 ^ (q + 1) ∧ (2 ^ (q + 1) ∣ at_ ∨ n < at_ + 2 ^ q))) (fun q => q) o rfl ⟨ho6, hdv, fun h => by have := hlo h; have := two_succ o; exact ⟨by omega, .inr (by omega)⟩⟩ (by (repeat' (first | exact trivial | refine And.intro rfl ?_)); done) (fun h hs => hs) ?_
    intro q hq
    obtain ⟨hq6, hqd, hqn⟩ := hq
    obtain ⟨P, hP⟩ : ∃ P, 2 ^ q = P := ⟨_, rfl⟩
    have hP0 := two_pos q
    have hP6 : P ≤ 64 := by rw [← hP]; exact Nat.pow_le_pow_right (n := 2) (by decide) hq6
    by_cases hgt : n < at_ + P
    · obtain ⟨r, rfl⟩ : ∃ r, q = r + 1 := by
        cases q with
        | zero => exfalso; rw [Nat.pow_zero] at hP; omega
        | succ r => exact ⟨r, rfl⟩
      repeat' (first | (refine XL_id ?_; first | refine XL_nil ?_ | (refine XL_op tt_ok (opV_shl rfl rfl (by omega)) rfl ?_; refine XL_int (shl_o hq6 hP) ?_) | (refine XL_op tt_ok rfl rfl ?_; refine XL_int (Eq.trans (wrap_i64 (by omega) (by omega)) (show ((r + 1 : Nat) : Int) - 1 = (r : Int) by omega)) ?_) | (refine XL_op tt_ok rfl rfl ?_; try (first | refine XL_int (wrap_i64 (by omega) (by omega)) ?_ | refine XL_dec_t (by omega) ?_))) | (refine X_id ?_; first | refine X_seq ?_ | (refine X_regionN (by repeat' (first | exact .nil | apply NL.cons)) ?_) | refine X_skip ?_ | refine X_block ?_ | refine X_cond_t rfl ?_) | (refine Y_id ?_; first | refine Y_then ?_ | refine Y_block_normal ?_))
      all_goals first
        | exact Y_again r fun _ _ hf hs => ⟨⟨by omega, Nat.dvd_trans (dvd_le (Nat.le_succ r)) hqd, fun _ => ⟨by rw [hP]; exact hgt, .inl hqd⟩⟩, Nat.lt_succ_self r, hf.sub (by (repeat' (first | exact trivial | refine And.intro rfl ?_)); done), hs⟩
        | (exfalso; omega)
        | skip
      
    · refine X_mem (fun _ hh => bd_out (p := p) (n := n) (tk := fun _ => none) hok (k := q) (by omega) (stars_swap hh)) ?_
      refine X_fact 0 rfl (fun _ o => own_len o) fun hlen => ?_
      obtain ⟨hlm, hc1, hc2⟩ := hlen
      have hfq := hok.fit q (by omega)
      have hsh := sum_has (fs := fs) (k := q) (n := 7) (by omega)
      rw [hP, hsum] at hsh
      have hmx : Mx (allO n) at_ q := allO_mx hq6 hqd (by omega) fun h => by
        have := hqn h
        refine ⟨this.1, ?_⟩
        rcases this.2 with h2 | h2
        · exact h2
        · omega
      have hpl2 := grow_step hpl hq6 hmx
      have hlast : insS (at_ : Int) (Cof.get fs (q : Int)) = Cof.get fs (q : Int) ++ [(at_ : Int)] := ins_last fun w hw => by
        obtain ⟨a, e, ha⟩ := (hpl.mem q (by omega) w).1 hw
        have := ha.2
        omega
      have hsum2 := sum_ins hpl.len (k := q) (by omega) (v := (at_ : Int))
      rw [hlast, hP, hsum] at hsum2
      rw [hP] at hpl2
      have hm2 : (Cof.get fs (q : Int)).length + 1 ≤ 4096 := by
        have h3 := len_sum (fs := fs.set q (Cof.get fs (q : Int) ++ [(at_ : Int)])) (k := q) (by omega)
        rw [get_set7 hpl.len (by omega), if_pos rfl, List.length_append, hsum2] at h3
        simp at h3
        omega
      repeat' (first | (refine XL_id ?_; first | refine XL_nil ?_ | (refine XG_call ?_; (refine XL_app1 (E := encN) tt_ok 1 0 (at_ : Int) rfl rfl rfl rfl rfl rfl rfl rfl rfl rfl rfl (by show (_ : Nat) * 8 ≤ _; omega) (by omega) (fun _ _ => rfl) (fun A3 c3 => ?_))) | (refine XG_store ?_; refine XL_storeI tt_ok 4 rfl rfl rfl rfl rfl rfl rfl (bd_len (k := q) (bd_off rfl) (by omega)) ?_) | (refine XG_lit ?_; (refine XL_lit tt_ok rfl rfl rfl rfl rfl rfl rfl rfl rfl (fun _ => rfl) (fun b => ?_); refine XL_nB (by repeat' (first | exact .nil | apply NL.cons)) ?_)) | (refine XL_op tt_ok (opV_shl rfl rfl (by omega)) rfl ?_; refine XL_int (shl_o hq6 hP) ?_) | (refine XL_op tt_ok rfl rfl ?_; try (first | refine XL_int (wrap_i64 (by omega) (by omega)) ?_ | refine XL_dec_f (by omega) ?_))) | (refine XD_id ?_; first | refine XD_nil ?_ | (refine XD_id ?_; (first | (refine XD_uL rfl ?_; refine XD_s rfl rfl rfl (XV_loadI tt_ok (blk_at 0 rfl hM) rfl rfl rfl rfl (bd_at (k := q) (bd_off rfl) (by omega))) rfl ?_) | (refine XD_uI rfl ?_; refine XD_s rfl rfl rfl (XV_idxal tt_ok rfl rfl rfl rfl rfl (by omega) (by omega)) rfl ?_) | (refine XD_u rfl rfl ?_; refine XD_s rfl rfl rfl (XV_op tt_ok rfl) rfl ?_))) | refine XD_m rfl rfl ?_ | (refine XD_thaw thaw ?_; refine XD_l rfl rfl ?_)) | (refine X_id ?_; first | (refine X_drawS (id := 9) [0, 1, 2, 3, 4, 5, 6, 7, 8, 11, 12, 9, 10, 13, 14] (fun | 9 => .m | 10 => .m | 14 => .l | _ => .s) 8 (by (repeat apply Split.blk); apply Split.keep; (repeat apply Split.blk); apply Split.keep; (repeat apply Split.blk); apply Split.keep; repeat' (exact Split.nil)) mixed (by decide +kernel) ?_; intro G hFG hM thaw; show XD _ _ _ _ _ _ [0, 1, 2, 3, 4, 5, 6, 7, 8, 11, 12, 9, 10, 13, 14] _ _ _) | refine X_seq ?_ | (refine X_regionN (by repeat' (first | exact .nil | apply NL.cons)) ?_) | refine X_exit ?_ | refine X_cond_f rfl ?_) | (refine Y_id ?_; first | refine Y_then ?_ | refine Y_then_exit ?_ | refine Y_block_hit ?_ | refine Y_block_normal ?_ | refine Y_m ?_ | refine Y_l ?_))
      all_goals first
        | refine Y_again (at_ + P, q, ⟨y.ss.set q ⟨A3, (Cof.get y.ss (q : Int)).m + 1, c3, Cof.get fs (q : Int) ++ [(at_ : Int)]⟩, y.mb⟩, fs.set q (Cof.get fs (q : Int) ++ [(at_ : Int)])) fun _ _ hf hs => ⟨⟨⟨rfl, hok.set (by omega) (by show _ + 1 = _; rw [List.length_append, hlm]; rfl) (by show _ + 1 ≤ 4096; omega)⟩, hpl2, hsum2, by show at_ + P ≤ n; omega, hq6, ?_, ?_⟩, by show n - (at_ + P) < n - at_; omega, hf.sub (by (repeat' (first | exact trivial | refine And.intro rfl ?_)); done), hs.imp fun g hg => bd_back hok (k := q) (by omega) (q := ⟨A3, (Cof.get y.ss (q : Int)).m + 1, c3, Cof.get fs (q : Int) ++ [(at_ : Int)]⟩) (bd_off (i := (q : Int)) rfl) (stars_only [1, 1, 2, 1] rfl g hg)⟩
        | (exfalso; omega)
        | skip
      · rw [← hP]; exact Nat.dvd_add hqd (Nat.dvd_refl _)
      · intro h6
        have := hqn h6
        rw [two_succ] at this
        show n < at_ + P + 2 ^ q
        omega
  · have hae : at_ = n := by omega
    subst hae
    have hb : BOk (allO at_) fs := ⟨pl_end (by rw [List.length_replicate]; exact Nat.le_refl _) hpl, by rw [hsum, cnt_all]⟩
    repeat' (first | (refine XL_id ?_; first | refine XL_nil ?_ | (refine XL_op tt_ok rfl rfl ?_; try (refine XL_dec_f (by omega) ?_))) | (refine X_id ?_; first | refine X_seq ?_ | (refine X_regionN (by repeat' (first | exact .nil | apply NL.cons)) ?_) | refine X_ret ?_ | refine X_exit ?_ | refine X_cond_f rfl ?_) | (refine Y_id ?_; first | refine Y_then ?_ | refine Y_then_exit ?_ | refine Y_block_hit ?_))
    all_goals first
      | exact Y_ret2 rfl rfl rfl (stars_fin [0, 0, 0] rfl (isBd_mk hok)) ⟨_, _, hb, rfl, rfl⟩
      | (exfalso; omega)
      | skip
    
theorem new_bad (n : Int) (h : n < 0 ∨ 4096 < n) : FnC Try.prog 7 [iV n] (fun _ => True) (.tuple #[.pointer none, iV 2]) := by
  refine Ctr.intro Try.func7 rfl rfl (by decide +kernel) fun F hpre => ?_
  repeat' (first | (refine XL_id ?_; first | refine XL_nil ?_ | refine XL_guard_yes rfl rfl rfl ?_ | refine XL_guard_no rfl rfl rfl rfl rfl ?_ | (refine XL_op tt_ok rfl rfl ?_; try (first | refine XL_dec_t (by omega) ?_ | refine XL_dec (fun _ => ?_) (fun _ => ?_)))) | (refine X_id ?_; first | refine X_seq ?_ | (refine X_regionN (by repeat' (exact .nil)) ?_) | refine X_ret ?_ | refine X_cond_t rfl ?_) | (refine Y_id ?_; first | refine Y_then ?_ | refine Y_then_ret ?_))
  all_goals first
    | exact Y_fn2 rfl rfl rfl rfl
    | (exfalso; omega)
    | skip
  
end Go.Proofs.Ytkcpjgdmfjhlkaa
