/- A cache touched, counted, flushed, told. -/
import Derived.Test.YthmllhihldbfoaaCa
set_option linter.unusedVariables false
namespace Go.Proofs.Ythmllhihldbfoaa
open Go.RowKit Go.Cof

set_option maxRecDepth 100000 in
set_option maxHeartbeats 8000000 in
theorem ctouch_spec (p n w : Nat) (s : List (List Int)) (k t : Int) (h0 : 0 ≤ k) (h1 : k < n) : Ctr Try.prog 45 [ptr p, iV k, uV t] (fun _ => True) [isCa p n w s] (fun v L => v = .tuple #[.bool (decide (t ∈ Cof.get s k)), iV 0] ∧ L = [isCa p n w (s.set k.toNat (touchF w (Cof.get s k) t))]) := by
  refine Ctr.intro Try.func45 rfl rfl (by decide +kernel) fun F hpre => ?_
  refine X_openp 0 rfl (fun _ hh => hh) fun y hok => ?_
  have hn := hok.ok.cap
  have hw1 := hok.ok.w1
  have hw2 := hok.ok.w2
  have hqm := hok.m h0 h1
  have hnd : (Cof.get s k).Nodup := by have := hok.ok.nd k.toNat (by omega); rwa [show ((k.toNat : Nat) : Int) = k by omega] at this
  have hle : (Cof.get s k).length ≤ w := by have := hok.ok.le k.toNat (by omega); rwa [show ((k.toNat : Nat) : Int) = k by omega] at this
  have hyl := hok.len
  obtain ⟨l, hl⟩ : ∃ l, Cof.get s k = l := ⟨_, rfl⟩
  rw [hl] at hqm hnd hle ⊢
  have hfin : ∀ (q2 c2 : Nat) (g : Hp), stars [own encW (some ⟨q2, 0, none⟩) (touchF w l t).length c2 (touchF w l t), allI encW (y.qs.eraseIdx k.toNat), caB p n w y, own (encIn Int) y.A n y.c (y.qs.set k.toNat ⟨some ⟨q2, 0, none⟩, (touchF w l t).length, c2, touchF w l t⟩)] g → isCa p n w (s.set k.toNat (touchF w l t)) g := fun q2 c2 g hg =>
    ca_back hok h0 h1 (q := ⟨some ⟨q2, 0, none⟩, (touchF w l t).length, c2, touchF w l t⟩) rfl (touchF_nd hnd) (touchF_len hw1) hg
  obtain ⟨A0, hA0⟩ : ∃ A0, (Cof.get y.qs k).A = A0 := ⟨_, rfl⟩
  obtain ⟨c0, hc0⟩ : ∃ c0, (Cof.get y.qs k).c = c0 := ⟨_, rfl⟩
  refine X_mem (fun g hg => by have := ca_out hok h0 h1 (stars_take [2, 0, 0] rfl hg); rw [hl, hA0, hc0] at this; exact this) ?_
  refine X_fact 0 rfl (fun _ o => own_len o) fun hlc => ?_
  have hlk := clook_spec p n w y k t l hw1 h0 h1 hn (by omega) hqm
  rw [hA0] at hlk
  have henc : (encIn Int).enc (Cof.get y.qs k) = [.slice A0 l.length c0] := by show [Value.slice _ _ _] = _; rw [hA0, hqm, hc0]
  obtain ⟨N, hN⟩ : ∃ N, l.length = N := ⟨_, rfl⟩
  by_cases hmem : t ∈ l
  · rw [decide_eq_true hmem]
    have hi := (firstQ_mem t l).2 hmem
    obtain ⟨i, hie⟩ : ∃ i, firstQ (qI t) l = i := ⟨_, rfl⟩
    have hix : idxI (qI t) l = (i : Int) := by unfold idxI; rw [if_pos hi, hie]
    have htf := touch_hit hnd hle hmem
    rw [hie] at hi htf
    rw [hix] at hlk
    have hsh := shift_set (t := t) hi
    rw [htf] at hsh
    have htl : (touchF w l t).length = N := by
      rw [← htf, List.length_cons, List.length_eraseIdx, if_pos hi]; omega
    refine X_fact 0 rfl (fun _ o => own_some o (by omega)) fun ⟨q2, hA⟩ => ?_
    subst hA
    rw [htl] at hfin
    rw [hN] at henc hlk hlc hi ⊢
    repeat' (first | (refine XL_id ?_; first | refine XL_nil ?_ | (refine XG_load ?_; first | (refine XL_elo (v := Value.slice (some ⟨q2, 0, none⟩) N c0) tt_ok 3 rfl rfl rfl (by omega) (by omega) rfl (by rw [henc]; rfl) rfl rfl ?_) | refine XL_load tt_ok 2 rfl rfl rfl rfl rfl rfl ?_ | refine XL_load tt_ok 3 rfl rfl rfl rfl rfl rfl ?_) | (refine XG_idx ?_; first | refine XL_idxo tt_ok 0 rfl rfl rfl rfl rfl rfl (by omega) (by omega) rfl ?_ | refine XL_idxo tt_ok 2 rfl rfl rfl rfl rfl rfl (by omega) (by omega) rfl ?_ | refine XL_idxo tt_ok 3 rfl rfl rfl rfl rfl rfl (by omega) (by omega) rfl ?_) | (refine XG_call ?_; first | refine XL_copyS tt_ok 0 i rfl rfl rfl rfl rfl (by omega) (by omega) (sbA_zero _ _ _) (by omega) rfl rfl rfl rfl rfl ?_ | refine XL_fn hlk rfl rfl (fun g hg hL => ⟨blk_at 2 rfl hL, rd_at 3 rfl hL, rd_at 0 rfl hL⟩) ?_) | (refine XG_store ?_; first | refine XL_putO tt_ok 0 t rfl rfl rfl rfl rfl rfl rfl (by omega) rfl ?_ | refine XL_putO tt_ok 2 (⟨some ⟨q2, 0, none⟩, N, c0, touchF w l t⟩ : In Int) rfl rfl rfl rfl rfl rfl rfl (by omega) rfl ?_) | (refine XL_op tt_ok rfl rfl ?_; try (first | refine XL_dec_t (by omega) ?_ | refine XL_dec_f (by omega) ?_))) | (refine XD_id ?_; first | (refine XD_thaw thaw ?_; refine XD_nil ?_) | (refine XD_id ?_; ((refine XD_u rfl rfl ?_; first | refine XD_s rfl rfl rfl (XV_op tt_ok rfl) rfl ?_ | refine XD_s rfl rfl rfl (XV_slice tt_ok rfl rfl rfl rfl (.lohi (by omega) (by omega) (by omega)) rfl rfl rfl) rfl ?_ | refine XD_s rfl rfl rfl (XV_slice tt_ok rfl rfl rfl rfl (.hi (by omega) (by omega)) rfl rfl rfl) rfl ?_)); try (refine XD_int (wrap_i64 (by omega) (by omega)) ?_)) | refine XD_m rfl rfl ?_) | (refine X_id ?_; first | (refine X_drawS (id := 10) [0, 1, 2, 3, 4, 5, 6, 7] (fun | 7 => .m | _ => .s) 8 (by (repeat apply Split.blk); apply Split.keep; (repeat apply Split.blk); apply Split.keep; (repeat apply Split.blk); apply Split.keep; repeat' (exact Split.nil)) mixed (by decide +kernel) ?_; intro G hFG hM thaw; show XD _ _ _ _ _ _ [0, 1, 2, 3, 4, 5, 6, 7] _ _ _) | refine X_seq ?_ | (refine X_regionN (by repeat' (first | exact .nil | apply NL.cons)) ?_) | refine X_skip ?_ | refine X_ret ?_ | refine X_cond_f rfl ?_) | (refine Y_id ?_; first | refine Y_then ?_ | refine Y_m ?_))
    all_goals first
      | exact Y_ret2 rfl rfl rfl (stars_fin [0, 0, 1, 0] rfl (fun h hs => hfin q2 c0 h (by
          have e : (l.take 1 ++ l.take i ++ l.drop (1 + i)).set (Int.toNat 0) t = touchF w l t := hsh
          rw [e] at hs; exact hs))) ⟨rfl, rfl⟩
      | (exfalso; omega)
      | skip
    
  · rw [decide_eq_false hmem]
    have hni : ¬ firstQ (qI t) l < l.length := fun h => hmem ((firstQ_mem t l).1 h)
    have hix : idxI (qI t) l = -1 := by unfold idxI; rw [if_neg hni]
    rw [hix] at hlk
    by_cases hNw : N < w
    · have htf := touch_room (w := w) (l := l) (t := t) (by omega) hmem
      have hsh := shift_set (l := l ++ [t]) (a := N) (t := t) (by rw [List.length_append, hN]; exact Nat.lt_succ_self _)
      rw [hN] at htf
      rw [htf] at hsh
      have htl : (touchF w l t).length = N + 1 := by
        rw [← htf, List.length_cons, List.length_eraseIdx, if_pos (by rw [List.length_append, hN]; exact Nat.lt_succ_self _), List.length_append, hN]; rfl
      rw [htl] at hfin
      rw [hN] at henc hlk hlc ⊢
      repeat' (first | (refine XL_id ?_; first | refine XL_nil ?_ | (refine XG_load ?_; first | (refine XL_elo (v := Value.slice A0 N c0) tt_ok 3 rfl rfl rfl (by omega) (by omega) rfl (by rw [henc]; rfl) rfl rfl ?_) | refine XL_load tt_ok 2 rfl rfl rfl rfl rfl rfl ?_ | refine XL_load tt_ok 4 rfl rfl rfl rfl rfl rfl ?_) | (refine XG_idx ?_; first | refine XL_idxo tt_ok 0 rfl rfl rfl rfl rfl rfl (by omega) (by omega) rfl ?_ | refine XL_idxo tt_ok 2 rfl rfl rfl rfl rfl rfl (by omega) (by omega) rfl ?_ | refine XL_idxo tt_ok 3 rfl rfl rfl rfl rfl rfl (by omega) (by omega) rfl ?_) | (refine XG_call ?_; first | (refine XL_op tt_ok rfl rfl ?_) | refine XL_copyS tt_ok 0 N rfl rfl rfl rfl rfl (by omega) (by omega) (sbA_zero _ _ _) (by omega) rfl rfl rfl rfl rfl ?_ | refine XL_fn hlk rfl rfl (fun g hg hL => ⟨blk_at 2 rfl hL, rd_at 3 rfl hL, rd_at 0 rfl hL⟩) ?_ | (refine XL_app1 (E := encW) tt_ok 1 0 t rfl rfl rfl rfl rfl rfl rfl rfl rfl rfl rfl (by show (_ : Nat) * 8 ≤ _; omega) (by omega) (fun _ _ => rfl) (fun A3 c3 => ?_); refine XL_fact 1 rfl (fun _ o => own_some o (by omega)) (fun hA3 => ?_); obtain ⟨q3, rfl⟩ := hA3; refine XL_fact 1 rfl (fun _ o => own_len o) (fun hlc3 => ?_))) | (refine XG_store ?_; first | refine XL_putO tt_ok 0 t rfl rfl rfl rfl rfl rfl rfl (by omega) rfl ?_ | refine XL_putO tt_ok 2 (⟨some ⟨q3, 0, none⟩, N + 1, c3, touchF w l t⟩ : In Int) rfl rfl rfl rfl rfl rfl rfl (by omega) rfl ?_) | (refine XG_lit ?_; (refine XL_lit tt_ok rfl rfl rfl rfl rfl rfl rfl rfl rfl (fun _ => rfl) (fun b => ?_); refine XL_nB (by repeat' (first | exact .nil | apply NL.cons)) ?_)) | (refine XL_op tt_ok rfl rfl ?_; try (first | refine XL_int (wrap_i64 (by omega) (by omega)) ?_ | refine XL_dec_t (by omega) ?_ | refine XL_dec_f (by omega) ?_))) | (refine XD_id ?_; first | (refine XD_thaw thaw ?_; refine XD_nil ?_) | (refine XD_id ?_; ((refine XD_u rfl rfl ?_; first | refine XD_s rfl rfl rfl (XV_op tt_ok rfl) rfl ?_ | refine XD_s rfl rfl rfl (XV_slice tt_ok rfl rfl rfl rfl (.lohi (by omega) (by omega) (by omega)) rfl rfl rfl) rfl ?_ | refine XD_s rfl rfl rfl (XV_slice tt_ok rfl rfl rfl rfl (.hi (by omega) (by omega)) rfl rfl rfl) rfl ?_)); try (refine XD_int (wrap_i64 (by omega) (by omega)) ?_)) | refine XD_m rfl rfl ?_) | (refine X_id ?_; first | (refine X_drawS (id := 10) [0, 1, 2, 3, 4, 5, 6, 7] (fun | 7 => .m | _ => .s) 8 (by (repeat apply Split.blk); apply Split.keep; (repeat apply Split.blk); apply Split.keep; (repeat apply Split.blk); apply Split.keep; repeat' (exact Split.nil)) mixed (by decide +kernel) ?_; intro G hFG hM thaw; show XD _ _ _ _ _ _ [0, 1, 2, 3, 4, 5, 6, 7] _ _ _) | refine X_seq ?_ | (refine X_regionN (by repeat' (first | exact .nil | apply NL.cons)) ?_) | refine X_skip ?_ | refine X_ret ?_ | refine X_cond_t rfl ?_ | refine X_cond_f rfl ?_) | (refine Y_id ?_; first | refine Y_then ?_ | refine Y_m ?_))
      all_goals first
        | exact Y_ret2 rfl rfl rfl (stars_fin [0, 0, 2, 0] rfl (fun h hs => hfin q3 c3 h (by
            have e : ((l ++ [t]).take 1 ++ (l ++ [t]).take N ++ (l ++ [t]).drop (1 + N)).set (Int.toNat 0) t = touchF w l t := hsh
            rw [e] at hs; exact hs))) ⟨rfl, rfl⟩
        | (exfalso; omega)
        | skip
      
    · have hNw2 : N = w := by omega
      subst hNw2
      have htf := touch_full (l := l) (t := t) hN hmem
      have hsh := shift_set (l := l) (a := N - 1) (t := t) (by omega)
      rw [htf] at hsh
      have htl : (touchF N l t).length = N := by
        rw [← htf, List.length_cons, List.length_eraseIdx, if_pos (by omega), hN]; omega
      rw [htl] at hfin
      refine X_fact 0 rfl (fun _ o => own_some o (by omega)) fun ⟨q2, hA⟩ => ?_
      subst hA
      rw [hN] at henc hlk hlc ⊢
      repeat' (first | (refine XL_id ?_; first | refine XL_nil ?_ | (refine XG_load ?_; first | (refine XL_elo (v := Value.slice (some ⟨q2, 0, none⟩) N c0) tt_ok 3 rfl rfl rfl (by omega) (by omega) rfl (by rw [henc]; rfl) rfl rfl ?_) | refine XL_load tt_ok 2 rfl rfl rfl rfl rfl rfl ?_ | refine XL_load tt_ok 3 rfl rfl rfl rfl rfl rfl ?_) | (refine XG_idx ?_; first | refine XL_idxo tt_ok 0 rfl rfl rfl rfl rfl rfl (by omega) (by omega) rfl ?_ | refine XL_idxo tt_ok 2 rfl rfl rfl rfl rfl rfl (by omega) (by omega) rfl ?_ | refine XL_idxo tt_ok 3 rfl rfl rfl rfl rfl rfl (by omega) (by omega) rfl ?_) | (refine XG_call ?_; first | (refine XL_op tt_ok rfl rfl ?_) | refine XL_copyS tt_ok 0 (N - 1) rfl rfl rfl rfl rfl (by omega) (by omega) (sbA_zero _ _ _) (by omega) rfl rfl rfl rfl rfl ?_ | refine XL_fn hlk rfl rfl (fun g hg hL => ⟨blk_at 2 rfl hL, rd_at 3 rfl hL, rd_at 0 rfl hL⟩) ?_) | (refine XG_store ?_; first | refine XL_putO tt_ok 0 t rfl rfl rfl rfl rfl rfl rfl (by omega) rfl ?_ | refine XL_putO tt_ok 2 (⟨some ⟨q2, 0, none⟩, N, c0, touchF N l t⟩ : In Int) rfl rfl rfl rfl rfl rfl rfl (by omega) rfl ?_) | (refine XL_op tt_ok rfl rfl ?_; try (first | refine XL_int (wrap_i64 (by omega) (by omega)) ?_ | refine XL_dec_f (by omega) ?_))) | (refine XD_id ?_; first | (refine XD_thaw thaw ?_; refine XD_nil ?_) | (refine XD_id ?_; ((refine XD_u rfl rfl ?_; first | refine XD_s rfl rfl rfl (XV_op tt_ok rfl) rfl ?_ | refine XD_s rfl rfl rfl (XV_slice tt_ok rfl rfl rfl rfl (.lohi (by omega) (by omega) (by omega)) rfl rfl rfl) rfl ?_ | refine XD_s rfl rfl rfl (XV_slice tt_ok rfl rfl rfl rfl (.hi (by omega) (by omega)) rfl rfl rfl) rfl ?_)); try (refine XD_int (wrap_i64 (by omega) (by omega)) ?_)) | refine XD_m rfl rfl ?_) | (refine X_id ?_; first | (refine X_drawS (id := 10) [0, 1, 2, 3, 4, 5, 6, 7] (fun | 7 => .m | _ => .s) 8 (by (repeat apply Split.blk); apply Split.keep; (repeat apply Split.blk); apply Split.keep; (repeat apply Split.blk); apply Split.keep; repeat' (exact Split.nil)) mixed (by decide +kernel) ?_; intro G hFG hM thaw; show XD _ _ _ _ _ _ [0, 1, 2, 3, 4, 5, 6, 7] _ _ _) | refine X_seq ?_ | (refine X_regionN (by repeat' (first | exact .nil | apply NL.cons)) ?_) | refine X_skip ?_ | refine X_ret ?_ | refine X_cond_t rfl ?_ | refine X_cond_f rfl ?_) | (refine Y_id ?_; first | refine Y_then ?_ | refine Y_m ?_))
      all_goals first
        | exact Y_ret2 rfl rfl rfl (stars_fin [0, 0, 1, 0] rfl (fun h hs => hfin q2 c0 h (by
            have e : (l.take 1 ++ l.take (N - 1) ++ l.drop (1 + (N - 1))).set (Int.toNat 0) t = touchF N l t := hsh
            rw [e] at hs; exact hs))) ⟨rfl, rfl⟩
        | (exfalso; omega)
        | skip
      
/-! counted -/
def cntS : List (List Int) → Nat
  | [] => 0
  | l :: s => l.length + cntS s
theorem cntS_take {s : List (List Int)} {i : Nat} (h : i < s.length) : cntS (s.take (i + 1)) = cntS (s.take i) + (Cof.get s (i : Int)).length := by
  rw [take_snoc' _ _ h]
  have : ∀ (a b : List (List Int)), cntS (a ++ b) = cntS a + cntS b := fun a b => by
    induction a with
    | nil => simp [cntS]
    | cons x a ih => rw [List.cons_append, cntS, cntS, ih]; omega
  rw [this]; simp [cntS]
theorem cntS_le {w : Nat} : ∀ {s : List (List Int)}, (∀ l ∈ s, l.length ≤ w) → cntS s ≤ s.length * w
  | [], _ => Nat.zero_le _
  | l :: s, h => by
    have h1 := h l List.mem_cons_self
    have h2 := cntS_le (s := s) fun l hl => h l (List.mem_cons_of_mem _ hl)
    rw [cntS, List.length_cons, Nat.add_mul, Nat.one_mul]; omega
theorem CaOk.all {n w : Nat} {s : List (List Int)} (h : CaOk n w s) : ∀ l ∈ s, l.length ≤ w := fun l hl => by
  obtain ⟨i, hi, e⟩ := List.getElem_of_mem hl
  have := h.le i (by rw [← h.len]; exact hi)
  rw [get_getElem hi, e] at this
  exact this
theorem CaOk.cnt {n w : Nat} {s : List (List Int)} (h : CaOk n w s) : cntS s ≤ 65536 := by
  have h1 := cntS_le h.all
  have h2 : s.length * w ≤ 4096 * 16 := Nat.mul_le_mul (by rw [h.len]; exact h.cap) h.w2
  omega
set_option maxHeartbeats 4000000 in
theorem ccount_spec (p n w : Nat) (y : Cq) (s : List (List Int)) (hok : y.Ok n w s) : FnC Try.prog 48 [ptr p] (fun h => caB p n w y h ∧ rdS (encIn Int) h y.A n y.qs) (iV (cntS s : Nat)) := by
  refine Ctr.intro Try.func48 rfl rfl (by decide +kernel) fun F hpre => ?_
  obtain ⟨hb, hr⟩ := hpre
  have hn := hok.ok.cap
  have hsl := hok.ok.len
  have hcn := hok.ok.cnt
  have hmono : ∀ i : Nat, cntS (s.take i) ≤ 65536 := fun i => by
    have h1 := cntS_le (w := w) (s := s.take i) fun l hl => hok.ok.all l (List.mem_of_mem_take hl)
    have h2 : (s.take i).length * w ≤ 4096 * 16 := Nat.mul_le_mul (by rw [List.length_take, hsl]; omega) hok.ok.w2
    omega
  repeat' (first | (refine XL_id ?_; first | refine XL_nil ?_ | (refine XG_load ?_; refine XL_loadF tt_ok rfl (by assumption) rfl rfl rfl rfl ?_) | (refine XL_op tt_ok rfl rfl ?_)) | (refine X_id ?_; first | refine X_block (id := 0) (hold ?_) | refine X_seq ?_ | (refine X_regionN (by repeat' (exact .nil)) ?_) | refine X_cond_t rfl ?_) | (refine Y_id ?_; refine Y_then ?_))
  intro _
  refine X_loopD [11, 12] (fun (i : Nat) => [(13, .int .i64 i), (3, .int .i64 (cntS (s.take i) : Nat))]) (fun _ => []) (fun i => i ≤ n) (fun i => n - i) 0 rfl (Nat.zero_le _) (by (repeat' (first | exact trivial | refine And.intro rfl ?_)); done) (fun h hs => hs) ?_
  intro i hi
  replace hi : i ≤ n := hi
  have hmi := hmono i
  by_cases hlt : i < n
  · have hm := hok.m (k := (i : Int)) (by omega) (by omega)
    have hct := cntS_take (s := s) (i := i) (by omega)
    have hmi1 := hmono (i + 1)
    repeat' (first | (refine XL_id ?_; first | refine XL_nil ?_ | (refine XG_load ?_; refine XL_el tt_ok rfl (by assumption) rfl (by omega) (by omega) rfl rfl rfl rfl ?_) | (refine XG_idx ?_; refine XL_idx tt_ok rfl rfl rfl rfl rfl (by assumption) (by omega) (by omega) rfl ?_) | (refine XL_op tt_ok rfl rfl ?_; try (first | refine XL_int (wrap_i64 (by omega) (by omega)) ?_ | refine XL_dec_t (by omega) ?_))) | (refine X_id ?_; first | refine X_seq ?_ | (refine X_regionN (by repeat' (exact .nil)) ?_) | refine X_skip ?_ | refine X_block ?_ | refine X_cond_t rfl ?_) | (refine Y_id ?_; first | refine Y_then ?_ | refine Y_block_normal ?_))
    all_goals first
      | exact Y_again (i + 1) fun _ _ hf hs => ⟨hlt, by show n - (i + 1) < n - i; omega, hf.sub (by rw [hct, ← hm, Int.natCast_add]; exact (by (repeat' (first | exact trivial | refine And.intro rfl ?_)); done)), hs⟩
      | (exfalso; omega)
      | skip
    
  · obtain rfl : i = n := by omega
    rw [show s.take i = s by rw [← hsl]; exact List.take_length]
    repeat' (first | (refine XL_id ?_; first | refine XL_nil ?_ | (refine XL_op tt_ok rfl rfl ?_; try (refine XL_dec_f (by omega) ?_))) | (refine X_id ?_; first | refine X_seq ?_ | (refine X_regionN (by repeat' (exact .nil)) ?_) | refine X_ret ?_ | refine X_exit ?_ | refine X_cond_f rfl ?_) | (refine Y_id ?_; first | refine Y_then ?_ | refine Y_then_exit ?_ | refine Y_block_hit ?_))
    all_goals first
      | exact Y_fn1 rfl rfl rfl
      | (exfalso; omega)
      | skip
    
set_option maxHeartbeats 4000000 in
theorem cflush_spec (p n w : Nat) (s : List (List Int)) : Ctr Try.prog 30 [ptr p] (fun _ => True) [isCa p n w s] (fun v L => v = .tuple #[iV (cntS s : Nat), iV 0] ∧ L = [isCa p n w (List.replicate n [])]) := by
  refine Ctr.intro Try.func30 rfl rfl (by decide +kernel) fun F hpre => ?_
  refine X_openp 0 rfl (fun _ hh => hh) fun y hok => ?_
  have hw1 := hok.ok.w1
  have hw2 := hok.ok.w2
  have hn := hok.ok.cap
  have hyl := hok.len
  have hct := ccount_spec p n w y s hok
  have hn1 := hok.ok.pos
  refine X_fact 1 rfl (fun _ o => own_some o (by omega)) fun ⟨q, hq⟩ => ?_
  obtain ⟨yA, yc, yq⟩ := y
  replace hq : yA = some ⟨q, 0, none⟩ := hq
  subst hq
  replace hyl : yq.length = n := hyl
  dsimp only [caM, caB] at hct ⊢
  repeat' (first | (refine XL_id ?_; first | refine XL_nil ?_ | refine XL_guard_yes rfl rfl rfl ?_ | (refine XG_load ?_; refine XL_load tt_ok 0 rfl rfl rfl rfl rfl rfl ?_) | (refine XG_call ?_; first | refine XL_fn hct rfl rfl (fun g hg hL => ⟨blk_at 0 rfl hL, rd_at 1 rfl hL⟩) ?_ | refine XL_clear tt_ok 1 0 emI rfl rfl (Nat.zero_mul _).symm (by omega) rfl rfl rfl rfl rfl rfl rfl ?_) | (refine XL_op tt_ok rfl rfl ?_; try (refine XL_dec_f (by omega) ?_))) | (refine X_id ?_; first | refine X_seq ?_ | (refine X_regionN (by repeat' (first | exact .nil | apply NL.cons)) ?_) | refine X_skip ?_ | refine X_ret ?_ | refine X_cond_f rfl ?_) | (refine Y_id ?_; refine Y_then ?_))
  all_goals first
    | exact Y_ret2 rfl rfl rfl (stars_fin [0, 0] rfl (fun g hs => ⟨⟨_, _, _⟩, em_ok hn1 hn hw1 hw2, stars_take [1, 1] rfl (stars_new (em_all n _) (by
        have e : yq.take 0 ++ List.replicate n emI ++ yq.drop (0 + n) = List.replicate n emI := by rw [List.take_zero, List.nil_append, List.drop_of_length_le (by omega), List.append_nil]
        rw [e] at hs; exact hs))⟩)) ⟨rfl, rfl⟩
    | (exfalso; omega)
    | skip
  
/-! told -/
abbrev lnV (x : Int × Int) : Value := .agg #[iV x.1, uV x.2]
def encLn : Enc (Int × Int) := ⟨fun x => [iV x.1, uV x.2], 2, fun _ => rfl, by decide, fun x u hu => by simp at hu; rcases hu with rfl | rfl <;> rfl⟩
def linesTo (s : List (List Int)) : Nat → List (Int × Int)
  | 0 => []
  | i + 1 => linesTo s i ++ (Cof.get s (i : Int)).map fun t => ((i : Int), t)
abbrev linesF (s : List (List Int)) : List (Int × Int) := linesTo s s.length
theorem linesTo_len {n w : Nat} {s : List (List Int)} (h : CaOk n w s) : ∀ i : Nat, i ≤ n → (linesTo s i).length ≤ i * 16
  | 0, _ => Nat.le_refl _
  | i + 1, hi => by
    have h1 := linesTo_len h i (by omega)
    have h2 := h.le i (by omega)
    have h3 := h.w2
    rw [linesTo, List.length_append, List.length_map]; omega
set_option maxHeartbeats 8000000 in
theorem clines_spec (p n w : Nat) (s : List (List Int)) : Ctr Try.prog 26 [ptr p] (fun _ => True) [isCa p n w s] (fun v L => ∃ A c, v = .slice A (linesF s).length c ∧ L = [own encLn A (linesF s).length c (linesF s), isCa p n w s]) := by
  refine Ctr.intro Try.func26 rfl rfl (by decide +kernel) fun F hpre => ?_
  refine X_openp 0 rfl (fun _ hh => hh) fun y hok => ?_
  have hn := hok.ok.cap
  have hsl := hok.ok.len
  have hw2 := hok.ok.w2
  refine X_mem (fun g hg => stars_new (own_nil encLn _) hg) ?_
  repeat' (first | (refine XL_id ?_; first | refine XL_nil ?_ | (refine XG_load ?_; refine XL_load tt_ok 1 rfl rfl rfl rfl rfl rfl ?_) | (refine XL_op tt_ok rfl rfl ?_)) | (refine X_id ?_; first | refine X_block (id := 0) (hold ?_) | refine X_seq ?_ | (refine X_regionN (by repeat' (first | exact .nil | apply NL.cons)) ?_) | refine X_cond_t rfl ?_) | (refine Y_id ?_; refine Y_then ?_))
  intro _
  refine X_loopD4 [13, 14] (fun (i : Nat) (A : Option Addr) (k c : Nat) => [(15, .int .i64 i), (3, .slice A k c)]) (fun i A k c => own encLn A k c (linesTo s i) :: caM p n w y) (fun i _ k _ => i ≤ n ∧ k = (linesTo s i).length) (fun i _ _ _ => n - i) 0 none 0 0 rfl ⟨Nat.zero_le _, rfl⟩ (by (repeat' (first | exact trivial | refine And.intro rfl ?_)); done) (fun h hs => hs) ?_
  intro i A k c hi
  obtain ⟨hi, hk⟩ := hi
  have hll := linesTo_len hok.ok i hi
  by_cases hlt : i < n
  · have hm := hok.m (k := (i : Int)) (by omega) (by omega)
    have hle := hok.ok.le i hlt
    have hgx := hok.get (k := (i : Int)) (by omega) (by omega)
    obtain ⟨l, hl⟩ : ∃ l, Cof.get s (i : Int) = l := ⟨_, rfl⟩
    have hlt2 : linesTo s (i + 1) = linesTo s i ++ l.map fun t => ((i : Int), t) := by rw [linesTo, hl]
    rw [hl] at hm hle hgx
    repeat' (first | (refine XL_id ?_; first | refine XL_nil ?_ | (refine XG_load ?_; refine XL_elo tt_ok 2 rfl rfl rfl (by omega) (by omega) rfl rfl rfl rfl ?_) | (refine XG_idx ?_; refine XL_idxo tt_ok 2 rfl rfl rfl rfl rfl rfl (by omega) (by omega) rfl ?_) | (refine XL_op tt_ok rfl rfl ?_; try (refine XL_dec_t (by omega) ?_))) | (refine X_id ?_; first | refine X_block (id := 2) (hold ?_) | refine X_seq ?_ | (refine X_regionN (by repeat' (first | exact .nil | apply NL.cons)) ?_) | refine X_skip ?_ | refine X_block ?_ | refine X_cond_t rfl ?_) | (refine Y_id ?_; refine Y_then ?_))
    all_goals first
      | (exfalso; omega)
      | skip
    intro _
    obtain ⟨A0, hA0⟩ : ∃ A0, (Cof.get y.qs (i : Int)).A = A0 := ⟨_, rfl⟩
    obtain ⟨c0, hc0⟩ : ∃ c0, (Cof.get y.qs (i : Int)).c = c0 := ⟨_, rfl⟩
    rw [hm, hA0, hc0]
    refine X_mem (M := [own encLn A k c (linesTo s i), own encW A0 l.length c0 l, allI encW (y.qs.eraseIdx i), caB p n w y, own (encIn Int) y.A n y.c y.qs]) (fun g hg => by
      have := ca_out hok (k := (i : Int)) (by omega) (by omega) (stars_take [3, 0, 0, 0] rfl hg)
      rw [hl, hA0, hc0] at this
      exact stars_take [2, 0, 0, 0, 0] rfl this) ?_
    refine X_loopD4 [4, 13, 14, 15, 20, 21] (fun (j : Nat) (A : Option Addr) (k c : Nat) => [(22, .int .i64 j), (3, .slice A k c)]) (fun j A k c => [own encLn A k c (linesTo s i ++ (l.take j).map fun t => ((i : Int), t)), own encW A0 l.length c0 l, allI encW (y.qs.eraseIdx i), caB p n w y, own (encIn Int) y.A n y.c y.qs]) (fun j _ k2 _ => j ≤ l.length ∧ k2 = k + j) (fun j _ _ _ => l.length - j) 0 A k c rfl ⟨Nat.zero_le _, rfl⟩ (by (repeat' (first | exact trivial | refine And.intro rfl ?_)); done) (fun h hs => by rw [List.take_zero, List.map_nil, List.append_nil]; exact hs) ?_
    intro j A2 k2 c2 hj
    obtain ⟨hj, hk2⟩ := hj
    by_cases hlt3 : j < l.length
    · have htk : (l.take (j + 1)).map (fun t => ((i : Int), t)) = (l.take j).map (fun t => ((i : Int), t)) ++ [((i : Int), Cof.get l (j : Int))] := by rw [take_snoc' _ _ hlt3, List.map_append]; rfl
      repeat' (first | (refine XL_id ?_; first | refine XL_nil ?_ | (refine XG_load ?_; refine XL_elo tt_ok 1 rfl rfl rfl (by omega) (by omega) rfl rfl rfl rfl ?_) | (refine XG_idx ?_; refine XL_idxo tt_ok 1 rfl rfl rfl rfl rfl rfl (by omega) (by omega) rfl ?_) | (refine XG_build ?_; (refine XL_build tt_ok rfl rfl rfl rfl rfl rfl rfl ?_; refine XL_aggN (by repeat' (first | exact .nil | apply NL.cons)) ?_)) | (refine XG_call ?_; (refine XL_app1 (E := encLn) tt_ok 1 0 ((i : Int), Cof.get l (j : Int)) rfl rfl rfl rfl rfl rfl rfl rfl rfl rfl rfl (by show (_ : Nat) * 16 ≤ _; omega) (by omega) (fun _ _ => rfl) (fun A3 c3 => ?_))) | (refine XG_lit ?_; (refine XL_lit tt_ok rfl rfl rfl rfl rfl rfl rfl rfl rfl (fun _ => rfl) (fun b => ?_); refine XL_nB (by repeat' (first | exact .nil | apply NL.cons)) ?_)) | (refine XL_op tt_ok rfl rfl ?_; try (first | refine XL_int (wrap_i64 (by omega) (by omega)) ?_ | refine XL_dec_t (by omega) ?_))) | (refine X_id ?_; first | refine X_seq ?_ | (refine X_regionN (by repeat' (first | exact .nil | apply NL.cons)) ?_) | refine X_skip ?_ | refine X_block ?_ | refine X_cond_t rfl ?_) | (refine Y_id ?_; first | refine Y_then ?_ | refine Y_block_normal ?_))
      all_goals first
        | exact Y_again (j + 1, A3, k2 + 1, c3) fun _ _ hf hs => ⟨⟨hlt3, by show k2 + 1 = k + (j + 1); omega⟩, by show l.length - (j + 1) < l.length - j; omega, hf.sub (by (repeat' (first | exact trivial | refine And.intro rfl ?_)); done), hs.imp fun g hg => by (show stars [own encLn A3 (k2 + 1) c3 (linesTo s i ++ (l.take (j + 1)).map fun t => ((i : Int), t)), own encW A0 l.length c0 l, allI encW (y.qs.eraseIdx i), caB p n w y, own (encIn Int) y.A n y.c y.qs] g; rw [htk, ← List.append_assoc]; exact stars_only [1, 1, 1, 1, 1] rfl g hg)⟩
        | (exfalso; omega)
        | skip
      
    · obtain rfl : j = l.length := by omega
      repeat' (first | (refine XL_id ?_; first | refine XL_nil ?_ | (refine XL_op tt_ok rfl rfl ?_; try (first | refine XL_int (wrap_i64 (by omega) (by omega)) ?_ | refine XL_dec_f (by omega) ?_))) | (refine X_id ?_; first | refine X_seq ?_ | (refine X_regionN (by repeat' (first | exact .nil | apply NL.cons)) ?_) | refine X_exit ?_ | refine X_cond_f rfl ?_) | (refine Y_id ?_; first | refine Y_then ?_ | refine Y_then_exit ?_ | refine Y_block_hit ?_ | refine Y_block_normal ?_))
      all_goals first
        | exact Y_again (i + 1, A2, k2, c2) fun _ _ hf hs => ⟨⟨hlt, by show k2 = (linesTo s (i + 1)).length; rw [hlt2, List.length_append, List.length_map]; omega⟩, by show n - (i + 1) < n - i; omega, hf.sub (by (repeat' (first | exact trivial | refine And.intro rfl ?_)); done), hs.imp fun g hg => by
            show stars (own encLn A2 k2 c2 (linesTo s (i + 1)) :: caM p n w y) g
            rw [hlt2]
            rw [List.take_length] at hg
            have h5 := ca_same (M := [own encLn A2 k2 c2 (linesTo s i ++ l.map fun t => ((i : Int), t)), caB p n w y, own (encIn Int) y.A n y.c y.qs]) hok (k := (i : Int)) (by omega) (by omega) (g := g) (by rw [hl, hA0, hc0]; exact stars_take [1, 1, 0, 0, 0] rfl hg)
            exact stars_take [1, 1, 1, 0] rfl h5⟩
        | (exfalso; omega)
        | skip
      
  · obtain rfl : i = n := by omega
    subst hk
    subst hsl
    repeat' (first | (refine XL_id ?_; first | refine XL_nil ?_ | (refine XL_op tt_ok rfl rfl ?_; try (refine XL_dec_f (by omega) ?_))) | (refine X_id ?_; first | refine X_seq ?_ | (refine X_regionN (by repeat' (first | exact .nil | apply NL.cons)) ?_) | refine X_ret ?_ | refine X_exit ?_ | refine X_cond_f rfl ?_) | (refine Y_id ?_; first | refine Y_then ?_ | refine Y_then_exit ?_ | refine Y_block_hit ?_))
    all_goals
      exact Y_ret1 rfl rfl (fun g hg => stars_take [1, 0] rfl (stars_shut (A := isCa p s.length w s) (fun g hs => ⟨y, hok, hs⟩) (stars_take [1, 1, 1] rfl hg))) ⟨_, _, rfl, rfl⟩
end Go.Proofs.Ythmllhihldbfoaa
